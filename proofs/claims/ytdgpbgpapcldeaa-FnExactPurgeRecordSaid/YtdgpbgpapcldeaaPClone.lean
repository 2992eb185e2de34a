/- Copies of operations, and what is purged. -/
import Derived.Test.YtdgpbgpapcldeaaALib
import Derived.Test.YtdgpbgpapcldeaaMBatch
import Derived.Test.YtdgpbgpapcldeaaCount
import Derived.Deep.RegionHeld3
import Derived.Lib.SliceRun
set_option linter.unusedVariables false
set_option linter.unusedSimpArgs false
namespace Go.Proofs.Ytdgpbgpapcldeaa
open Go.RowKit Go.Er Go.BigFrame

set_option maxRecDepth 8000 in
set_option maxHeartbeats 800000 in
theorem cloneStringS_any (l : List ByteArray) (hl : l.length ≤ 1048576) (a : Option Addr) (c : Nat) (B : Nat) (w : World) (h : RowR 1 StrR B w a l) :
    Calls Try.prog 157 #[.slice a l.length c] w (MadeSO 1 StrO w l) := by
  have HA := Lib.hid h; clear h
  cases a with
  | none =>
    obtain rfl : l = [] := by
      cases l with
      | nil => rfl
      | cons x l => obtain ⟨b, o, vs, h, _⟩ := HA.out.2 0 (by simp); cases h
    have qT : ∀ (w : World) (a : Option Addr) (n c : Nat), (binOp .eql 86 (.slice a n c) (.slice none 0 0)).run Try.prog w = .ok (.bool a.isNone) w := fun w a n c => Lib.run_eql_slice_nil w _ _ a n c 0 0 Try.underlying86
    go_enter Try.func157, Try.ntmps157
    go_wp2_with fail
    go_ret
    exact ⟨none, 0, rfl, RowO.nil, Ext.refl _⟩
  | some ad =>
    have qT : ∀ (w : World) (a : Option Addr) (n c : Nat), (binOp .eql 86 (.slice a n c) (.slice none 0 0)).run Try.prog w = .ok (.bool a.isNone) w := fun w a n c => Lib.run_eql_slice_nil w _ _ a n c 0 0 Try.underlying86
    go_enter Try.func157, Try.ntmps157
    go_wp2_with (at_builtin; refine wpList_append_all enc_str (B := w.heap.size) (B' := B) rfl _ _ 86 rfl Try.underlying86 info_StringS rfl (by decide) (by decide) (.slice (some ⟨w.heap.size, 0, none⟩) 0 0) rfl (AppO.lit0 (Nat.le_refl _) (heap_alloc_new w _)) (by simp) (some ad) l c rfl (HA.out.ext good_str (Ext.alloc _ _)) (by omega) ?_; intro v' w2 hv hC hB)
    obtain ⟨a2, c2, rfl, hr⟩ := hv.rowOf
    have hE : Ext w w2 := hC.ext (Ext.alloc _ _) (fun c hc => (hB c hc).1)
    have HE := Lib.hid hE; have HR := Lib.hid hr
    clear hv hC hB hE hr
    go_wp2_with fail
    go_ret
    exact ⟨_, _, rfl, HR.out, HE.out⟩

set_option maxHeartbeats 800000 in
theorem cloneRecord_any (x : DRecord) (hs : SmallRecord x) (vs : List Value) (B : Nat) (w : World) (h : RecordR B w vs x) :
    Calls Try.prog 145 #[.agg vs.toArray] w (MadeO RecordO w x) := by
  obtain ⟨p0, c0, rfl, r0⟩ := h
  have R0 := Lib.hid r0; clear r0
  go_enter Try.func145, Try.ntmps145
  go_wp2_with fail
  refine (cloneStringS_any x.fields hs.1 p0 c0 B _ (R0.out.ext good_str (by (repeat' (first | with_reducible assumption | with_reducible exact Below.refl _ _ | (with_reducible refine Ext.alloc' ?_ _) | (with_reducible refine Ext.drew' ?_) | (with_reducible refine Ext.drewN' ?_ _) | (with_reducible refine Ext.set_ ?_ (by first | omega | (simp; done) | (simp; omega)) _ _) | (refine Ext.trans ?_ (by with_reducible assumption))))))).mono ?_
  rintro e w1 ⟨a1, c1, rfl, hr, hE⟩
  have HB1 : Hid (Box w1 w.heap.size 88 #[.int .i64 x.source, .int .i64 x.key, .int .i64 x.version, .slice p0 x.fields.length c0]) := (Box.alloc (Box.new' _ _ _ _ rfl) _).ext hE
  have HB2 : Hid (Box w1 (w.heap.size + 1) 88 #[.int .i64 0, .int .i64 0, .int .i64 0, .slice none 0 0]) := (Box.new' _ _ _ _ (by simp)).ext hE
  have HR : Hid (RowO 1 StrO (From (w.heap.size + 2)) w1 a1 x.fields) := hr.monoB (by simp)
  have HE : Hid (Ext w w1) := (show Ext w w1 from by have h9 := hE; (repeat' (first | with_reducible assumption | with_reducible exact Below.refl _ _ | (with_reducible refine Ext.alloc' ?_ _) | (with_reducible refine Ext.drew' ?_) | (with_reducible refine Ext.drewN' ?_ _) | (with_reducible refine Ext.set_ ?_ (by first | omega | (simp; done) | (simp; omega)) _ _) | (refine Ext.trans ?_ (by with_reducible assumption)))))
  clear hr hE
  have b1 := HB1.out; have b2 := HB2.out
  have k0 := b1.cell 0
  have kf0 := b1.free 0
  have k1 := b1.cell 1
  have kf1 := b1.free 1
  have k2 := b1.cell 2
  have kf2 := b1.free 2
  have k3 := b1.cell 3
  have kf3 := b1.free 3
  have klt := b1.lt
  simp only [List.getElem?_toArray, List.getElem?_cons_zero, List.getElem?_cons_succ] at k0 k1 k2 k3
  have m0 := b2.cell 0
  have mf0 := b2.free 0
  have m1 := b2.cell 1
  have mf1 := b2.free 1
  have m2 := b2.cell 2
  have mf2 := b2.free 2
  have m3 := b2.cell 3
  have mf3 := b2.free 3
  have mlt := b2.lt
  simp only [List.getElem?_toArray, List.getElem?_cons_zero, List.getElem?_cons_succ] at m0 m1 m2 m3
  clear b1 b2
  go_wp2_with fail
  refine bodyPost_ret (v := .agg #[.int .i64 x.source, .int .i64 x.key, .int .i64 x.version, .slice a1 x.fields.length c1]) (by simp [results, Try.results145, go_sem, k0, k1, k2, k3, m0, m1, m2, m3]) rfl ?_
  refine ⟨[.int .i64 x.source, .int .i64 x.key, .int .i64 x.version, .slice a1 x.fields.length c1], rfl, ⟨a1, c1, rfl, ?_⟩, ?_⟩
  · refine (HR.out.keepB goodO_str (by (repeat' (first | with_reducible exact Keep.refl _ _ | refine Keep.set_trans ?_ (by omega) _ _)))).monoB (by omega)
  · have h8 := HE.out; (repeat' (first | with_reducible assumption | with_reducible exact Below.refl _ _ | (with_reducible refine Ext.alloc' ?_ _) | (with_reducible refine Ext.drew' ?_) | (with_reducible refine Ext.drewN' ?_ _) | (with_reducible refine Ext.set_ ?_ (by first | omega | (simp; done) | (simp; omega)) _ _) | (refine Ext.trans ?_ (by with_reducible assumption))))

set_option maxHeartbeats 800000 in
theorem cloneOp_any (x : DOp) (hs : SmallOp x) (vs : List Value) (B : Nat) (w : World) (h : OpR B w vs x) :
    Calls Try.prog 113 #[.agg vs.toArray] w (MadeO OpO w x) := by
  obtain ⟨p0, c0, rfl, r0⟩ := h
  have R0 := Lib.hid r0; clear r0
  go_enter Try.func113, Try.ntmps113
  go_wp2_with fail
  refine (cloneRecord_any x.record hs [.int .i64 x.record.source, .int .i64 x.record.key, .int .i64 x.record.version, .slice p0 x.record.fields.length c0] B _ ⟨p0, c0, rfl, R0.out.ext good_str (by (repeat' (first | with_reducible assumption | with_reducible exact Below.refl _ _ | (with_reducible refine Ext.alloc' ?_ _) | (with_reducible refine Ext.drew' ?_) | (with_reducible refine Ext.drewN' ?_ _) | (with_reducible refine Ext.set_ ?_ (by first | omega | (simp; done) | (simp; omega)) _ _) | (refine Ext.trans ?_ (by with_reducible assumption)))))⟩).mono ?_
  rintro e w1 ⟨us, rfl, ⟨a1, c1, rfl, hr⟩, hE⟩
  have HB1 : Hid (Box w1 w.heap.size 90 #[.int .i64 x.kind, .int .i64 x.record.source, .int .i64 x.record.key, .int .i64 x.record.version, .slice p0 x.record.fields.length c0, .int .i64 x.verdict.a, .int .i64 x.verdict.b, .bool x.verdict.same, .int .i64 x.verdict.time]) := (Box.alloc (Box.new' _ _ _ _ rfl) _).ext hE
  have HB2 : Hid (Box w1 (w.heap.size + 1) 90 #[.int .i64 0, .int .i64 0, .int .i64 0, .int .i64 0, .slice none 0 0, .int .i64 0, .int .i64 0, .bool false, .int .i64 0]) := (Box.new' _ _ _ _ (by simp)).ext hE
  have HR : Hid (RowO 1 StrO (From (w.heap.size + 2)) w1 a1 x.record.fields) := hr.monoB (by simp)
  have HE : Hid (Ext w w1) := (show Ext w w1 from by have h9 := hE; (repeat' (first | with_reducible assumption | with_reducible exact Below.refl _ _ | (with_reducible refine Ext.alloc' ?_ _) | (with_reducible refine Ext.drew' ?_) | (with_reducible refine Ext.drewN' ?_ _) | (with_reducible refine Ext.set_ ?_ (by first | omega | (simp; done) | (simp; omega)) _ _) | (refine Ext.trans ?_ (by with_reducible assumption)))))
  clear hr hE
  have b1 := HB1.out; have b2 := HB2.out
  have k0 := b1.cell 0
  have kf0 := b1.free 0
  have k1 := b1.cell 1
  have kf1 := b1.free 1
  have k2 := b1.cell 2
  have kf2 := b1.free 2
  have k3 := b1.cell 3
  have kf3 := b1.free 3
  have k4 := b1.cell 4
  have kf4 := b1.free 4
  have k5 := b1.cell 5
  have kf5 := b1.free 5
  have k6 := b1.cell 6
  have kf6 := b1.free 6
  have k7 := b1.cell 7
  have kf7 := b1.free 7
  have k8 := b1.cell 8
  have kf8 := b1.free 8
  have klt := b1.lt
  simp only [List.getElem?_toArray, List.getElem?_cons_zero, List.getElem?_cons_succ] at k0 k1 k2 k3 k4 k5 k6 k7 k8
  have m0 := b2.cell 0
  have mf0 := b2.free 0
  have m1 := b2.cell 1
  have mf1 := b2.free 1
  have m2 := b2.cell 2
  have mf2 := b2.free 2
  have m3 := b2.cell 3
  have mf3 := b2.free 3
  have m4 := b2.cell 4
  have mf4 := b2.free 4
  have m5 := b2.cell 5
  have mf5 := b2.free 5
  have m6 := b2.cell 6
  have mf6 := b2.free 6
  have m7 := b2.cell 7
  have mf7 := b2.free 7
  have m8 := b2.cell 8
  have mf8 := b2.free 8
  have mlt := b2.lt
  simp only [List.getElem?_toArray, List.getElem?_cons_zero, List.getElem?_cons_succ] at m0 m1 m2 m3 m4 m5 m6 m7 m8
  clear b1 b2
  go_wp2_with fail
  refine bodyPost_ret (v := .agg #[.int .i64 x.kind, .int .i64 x.record.source, .int .i64 x.record.key, .int .i64 x.record.version, .slice a1 x.record.fields.length c1, .int .i64 x.verdict.a, .int .i64 x.verdict.b, .bool x.verdict.same, .int .i64 x.verdict.time]) (by simp [results, Try.results113, go_sem, k0, k1, k2, k3, k4, k5, k6, k7, k8, m0, m1, m2, m3, m4, m5, m6, m7, m8]) rfl ?_
  refine ⟨[.int .i64 x.kind, .int .i64 x.record.source, .int .i64 x.record.key, .int .i64 x.record.version, .slice a1 x.record.fields.length c1, .int .i64 x.verdict.a, .int .i64 x.verdict.b, .bool x.verdict.same, .int .i64 x.verdict.time], rfl, ⟨a1, c1, rfl, ?_⟩, ?_⟩
  · refine (HR.out.keepB goodO_str (by (repeat' (first | with_reducible exact Keep.refl _ _ | refine Keep.set_trans ?_ (by omega) _ _)))).monoB (by omega)
  · have h8 := HE.out; (repeat' (first | with_reducible assumption | with_reducible exact Below.refl _ _ | (with_reducible refine Ext.alloc' ?_ _) | (with_reducible refine Ext.drew' ?_) | (with_reducible refine Ext.drewN' ?_ _) | (with_reducible refine Ext.set_ ?_ (by first | omega | (simp; done) | (simp; omega)) _ _) | (refine Ext.trans ?_ (by with_reducible assumption))))

set_option maxHeartbeats 1600000 in
theorem l8Copy_any (x : DRecord) (hs : SmallRecord x) (vs : List Value) (B : Nat) (w : World) (h : RecordR B w vs x) :
    Calls Try.prog 112 #[.agg vs.toArray] w (MadeO RecordO w x) := by
  obtain ⟨p0, c0, rfl, r0⟩ := h
  have R0 := Lib.hid r0; clear r0
  have hsl : x.fields.length ≤ 1073741824 := by have := hs.1; omega
  have HW0 := Lib.hid (Ext.alloc w (.cells #[.int .i64 x.source, .int .i64 x.key, .int .i64 x.version, .slice p0 x.fields.length c0] 88))
  go_enter Try.func112, Try.ntmps112
  go_wp2_with fail
  obtain ⟨w0, hw0⟩ : ∃ w0, w0 = (w.alloc (.cells #[.int .i64 x.source, .int .i64 x.key, .int .i64 x.version, .slice p0 x.fields.length c0] 88)).alloc (.cells #[.int .i64 0, .int .i64 0, .int .i64 0, .slice none 0 0] 88) := ⟨_, rfl⟩
  have HB1 : Hid (Box w0 w.heap.size 88 #[.int .i64 x.source, .int .i64 x.key, .int .i64 x.version, .slice p0 x.fields.length c0]) := by rw [hw0]; exact Box.alloc (Box.new' _ _ _ _ rfl) _
  have HB2 : Hid (Box w0 (w.heap.size + 1) 88 #[.int .i64 0, .int .i64 0, .int .i64 0, .slice none 0 0]) := by rw [hw0]; exact Box.new' _ _ _ _ (by simp)
  have HE0 : Hid (Ext w w0) := by rw [hw0]; show Ext w _; (repeat' (first | with_reducible assumption | with_reducible exact Below.refl _ _ | (with_reducible refine Ext.alloc' ?_ _) | (with_reducible refine Ext.drew' ?_) | (with_reducible refine Ext.drewN' ?_ _) | (with_reducible refine Ext.set_ ?_ (by first | omega | (simp; done) | (simp; omega)) _ _) | (refine Ext.trans ?_ (by with_reducible assumption))))
  have hsz : w0.heap.size = w.heap.size + 2 := by rw [hw0]; simp
  have HRR := Lib.hid (R0.out.ext good_str HE0.out)
  rw [← hw0]
  clear hw0 HW0
  have b1 := HB1.out; have b2 := HB2.out
  have k0 := b1.cell 0
  have kf0 := b1.free 0
  have k1 := b1.cell 1
  have kf1 := b1.free 1
  have k2 := b1.cell 2
  have kf2 := b1.free 2
  have k3 := b1.cell 3
  have kf3 := b1.free 3
  have klt := b1.lt
  simp only [List.getElem?_toArray, List.getElem?_cons_zero, List.getElem?_cons_succ] at k0 k1 k2 k3
  have m0 := b2.cell 0
  have mf0 := b2.free 0
  have m1 := b2.cell 1
  have mf1 := b2.free 1
  have m2 := b2.cell 2
  have mf2 := b2.free 2
  have m3 := b2.cell 3
  have mf3 := b2.free 3
  have mlt := b2.lt
  simp only [List.getElem?_toArray, List.getElem?_cons_zero, List.getElem?_cons_succ] at m0 m1 m2 m3
  clear b1 b2
  go_region_held3 (fun w' => w'.cell? ⟨w.heap.size, 0, none⟩ = some (.int .i64 x.source) ∧ w'.cell? ⟨w.heap.size, 1, none⟩ = some (.int .i64 x.key) ∧ w'.cell? ⟨w.heap.size, 2, none⟩ = some (.int .i64 x.version) ∧ w'.cell? ⟨w.heap.size, 3, none⟩ = some (.slice p0 x.fields.length c0)) (first | go_keep | (refine ⟨?_, ?_, ?_, ?_⟩ <;> assumption))
    ((refine step_append_all enc_str (B := w.heap.size + 2) (B' := B) rfl _ _ 86 rfl Try.underlying86 info_StringS rfl (by decide) (by decide) (.slice (some ⟨w.heap.size + 2, 0, none⟩) 0 0) (by rfl) (AppO.lit0 (by omega) (by rw [← hsz]; first | exact heap_alloc_new _ _ | exact heap_alloc_new w0 _)) (by simp; omega) p0 x.fields c0 (by rfl) (HRR.out.ext good_str (by (repeat' (first | with_reducible assumption | with_reducible exact Below.refl _ _ | (with_reducible refine Ext.alloc' ?_ _) | (with_reducible refine Ext.drew' ?_) | (with_reducible refine Ext.drewN' ?_ _) | (with_reducible refine Ext.set_ ?_ (by first | omega | (simp; done) | (simp; omega)) _ _) | (refine Ext.trans ?_ (by with_reducible assumption)))))) hsl ?_; intro v' w2 hv hC hB
      have hE2 : Ext w0 w2 := (hC.ext (show Ext w0 _ from by (repeat' (first | with_reducible assumption | with_reducible exact Below.refl _ _ | (with_reducible refine Ext.alloc' ?_ _) | (with_reducible refine Ext.drew' ?_) | (with_reducible refine Ext.drewN' ?_ _) | (with_reducible refine Ext.set_ ?_ (by first | omega | (simp; done) | (simp; omega)) _ _) | (refine Ext.trans ?_ (by with_reducible assumption))))) (fun c hc => by have := (hB c hc).1; omega))
      obtain ⟨a2, c2, rfl, hr⟩ := hv.rowOf
      have HE2 := Lib.hid hE2; have HR2 := Lib.hid hr
      have k0' := hE2.at k0; have k1' := hE2.at k1; have k2' := hE2.at k2; have k3' := hE2.at k3
      have b2 := HB2.out.ext hE2
      have n0 := b2.cell 0; have n1 := b2.cell 1; have n2 := b2.cell 2; have n3 := b2.cell 3
      have nf0 := b2.free 0; have nf1 := b2.free 1; have nf2 := b2.free 2; have nf3 := b2.free 3
      simp only [List.getElem?_toArray, List.getElem?_cons_zero, List.getElem?_cons_succ] at n0 n1 n2 n3
      clear b2 hv hC hB hE2 hr k0 k1 k2 k3 m0 m1 m2 m3 mf0 mf1 mf2 mf3))
  go_wp2_with fail
  refine bodyPost_ret (v := .agg #[.int .i64 x.source, .int .i64 x.key, .int .i64 x.version, .slice a2 x.fields.length c2]) (by simp [results, Try.results112, go_sem, n0, n1, n2, n3]) rfl ?_
  refine ⟨[.int .i64 x.source, .int .i64 x.key, .int .i64 x.version, .slice a2 x.fields.length c2], rfl, ⟨a2, c2, rfl, ?_⟩, ?_⟩
  · refine (HR2.out.keepB goodO_str (by (repeat' (first | with_reducible exact Keep.refl _ _ | refine Keep.set_trans ?_ (by omega) _ _)))).monoB (by omega)
  · have h8 : Ext w w2 := HE0.out.trans HE2.out
    (repeat' (first | with_reducible assumption | with_reducible exact Below.refl _ _ | (with_reducible refine Ext.alloc' ?_ _) | (with_reducible refine Ext.drew' ?_) | (with_reducible refine Ext.drewN' ?_ _) | (with_reducible refine Ext.set_ ?_ (by first | omega | (simp; done) | (simp; omega)) _ _) | (refine Ext.trans ?_ (by with_reducible assumption))))

set_option maxHeartbeats 1600000 in
theorem l29Copy_any (x : DOp) (hs : SmallOp x) (vs : List Value) (B : Nat) (w : World) (h : OpR B w vs x) :
    Calls Try.prog 65 #[.agg vs.toArray] w (MadeO OpO w x) := by
  obtain ⟨p0, c0, rfl, r0⟩ := h
  have R0 := Lib.hid r0; have HS := Lib.hid hs; clear r0 hs
  go_enter Try.func65, Try.ntmps65
  go_wp2_with fail
  obtain ⟨w0, hw0⟩ : ∃ w0, w0 = (w.alloc (.cells #[.int .i64 x.kind, .int .i64 x.record.source, .int .i64 x.record.key, .int .i64 x.record.version, .slice p0 x.record.fields.length c0, .int .i64 x.verdict.a, .int .i64 x.verdict.b, .bool x.verdict.same, .int .i64 x.verdict.time] 90)).alloc (.cells #[.int .i64 0, .int .i64 0, .int .i64 0, .int .i64 0, .slice none 0 0, .int .i64 0, .int .i64 0, .bool false, .int .i64 0] 90) := ⟨_, rfl⟩
  have HB1 : Hid (Box w0 w.heap.size 90 #[.int .i64 x.kind, .int .i64 x.record.source, .int .i64 x.record.key, .int .i64 x.record.version, .slice p0 x.record.fields.length c0, .int .i64 x.verdict.a, .int .i64 x.verdict.b, .bool x.verdict.same, .int .i64 x.verdict.time]) := by rw [hw0]; exact Box.alloc (Box.new' _ _ _ _ rfl) _
  have HB2 : Hid (Box w0 (w.heap.size + 1) 90 #[.int .i64 0, .int .i64 0, .int .i64 0, .int .i64 0, .slice none 0 0, .int .i64 0, .int .i64 0, .bool false, .int .i64 0]) := by rw [hw0]; exact Box.new' _ _ _ _ (by simp)
  have HE0 : Hid (Ext w w0) := by rw [hw0]; show Ext w _; (repeat' (first | with_reducible assumption | with_reducible exact Below.refl _ _ | (with_reducible refine Ext.alloc' ?_ _) | (with_reducible refine Ext.drew' ?_) | (with_reducible refine Ext.drewN' ?_ _) | (with_reducible refine Ext.set_ ?_ (by first | omega | (simp; done) | (simp; omega)) _ _) | (refine Ext.trans ?_ (by with_reducible assumption))))
  have hsz : w0.heap.size = w.heap.size + 2 := by rw [hw0]; simp
  have HRR := Lib.hid (R0.out.ext good_str HE0.out)
  rw [← hw0]
  clear hw0
  have b1 := HB1.out; have b2 := HB2.out
  have k0 := b1.cell 0
  have kf0 := b1.free 0
  have k1 := b1.cell 1
  have kf1 := b1.free 1
  have k2 := b1.cell 2
  have kf2 := b1.free 2
  have k3 := b1.cell 3
  have kf3 := b1.free 3
  have k4 := b1.cell 4
  have kf4 := b1.free 4
  have k5 := b1.cell 5
  have kf5 := b1.free 5
  have k6 := b1.cell 6
  have kf6 := b1.free 6
  have k7 := b1.cell 7
  have kf7 := b1.free 7
  have k8 := b1.cell 8
  have kf8 := b1.free 8
  have klt := b1.lt
  simp only [List.getElem?_toArray, List.getElem?_cons_zero, List.getElem?_cons_succ] at k0 k1 k2 k3 k4 k5 k6 k7 k8
  have m0 := b2.cell 0
  have mf0 := b2.free 0
  have m1 := b2.cell 1
  have mf1 := b2.free 1
  have m2 := b2.cell 2
  have mf2 := b2.free 2
  have m3 := b2.cell 3
  have mf3 := b2.free 3
  have m4 := b2.cell 4
  have mf4 := b2.free 4
  have m5 := b2.cell 5
  have mf5 := b2.free 5
  have m6 := b2.cell 6
  have mf6 := b2.free 6
  have m7 := b2.cell 7
  have mf7 := b2.free 7
  have m8 := b2.cell 8
  have mf8 := b2.free 8
  have mlt := b2.lt
  simp only [List.getElem?_toArray, List.getElem?_cons_zero, List.getElem?_cons_succ] at m0 m1 m2 m3 m4 m5 m6 m7 m8
  clear b1 b2
  go_region_held3 (fun w' => w'.cell? ⟨w.heap.size, 0, none⟩ = some (.int .i64 x.kind) ∧ w'.cell? ⟨w.heap.size, 1, none⟩ = some (.int .i64 x.record.source) ∧ w'.cell? ⟨w.heap.size, 2, none⟩ = some (.int .i64 x.record.key) ∧ w'.cell? ⟨w.heap.size, 3, none⟩ = some (.int .i64 x.record.version) ∧ w'.cell? ⟨w.heap.size, 4, none⟩ = some (.slice p0 x.record.fields.length c0) ∧ w'.cell? ⟨w.heap.size, 5, none⟩ = some (.int .i64 x.verdict.a) ∧ w'.cell? ⟨w.heap.size, 6, none⟩ = some (.int .i64 x.verdict.b) ∧ w'.cell? ⟨w.heap.size, 7, none⟩ = some (.bool x.verdict.same) ∧ w'.cell? ⟨w.heap.size, 8, none⟩ = some (.int .i64 x.verdict.time)) (first | go_keep | (refine ⟨?_, ?_, ?_, ?_, ?_, ?_, ?_, ?_, ?_⟩ <;> assumption))
    ((go_at_call 112; refine (l8Copy_any x.record HS.out [.int .i64 x.record.source, .int .i64 x.record.key, .int .i64 x.record.version, .slice p0 x.record.fields.length c0] B _ ⟨p0, c0, rfl, HRR.out.ext good_str (by (repeat' (first | with_reducible assumption | with_reducible exact Below.refl _ _ | (with_reducible refine Ext.alloc' ?_ _) | (with_reducible refine Ext.drew' ?_) | (with_reducible refine Ext.drewN' ?_ _) | (with_reducible refine Ext.set_ ?_ (by first | omega | (simp; done) | (simp; omega)) _ _) | (refine Ext.trans ?_ (by with_reducible assumption)))))⟩).mono ?_; rintro e w2 ⟨us, rfl, ⟨a2, c2, rfl, hr⟩, hE2⟩
      have hE2 : Ext w0 w2 := (show Ext w0 w2 from by have h9 := hE2; (repeat' (first | with_reducible assumption | with_reducible exact Below.refl _ _ | (with_reducible refine Ext.alloc' ?_ _) | (with_reducible refine Ext.drew' ?_) | (with_reducible refine Ext.drewN' ?_ _) | (with_reducible refine Ext.set_ ?_ (by first | omega | (simp; done) | (simp; omega)) _ _) | (refine Ext.trans ?_ (by with_reducible assumption)))))
      have HE2 := Lib.hid hE2; have HR2 : Hid (RowO 1 StrO (From (w.heap.size + 2)) w2 a2 x.record.fields) := hr.monoB (by simp; omega)
      have k0' := hE2.at k0; have k1' := hE2.at k1; have k2' := hE2.at k2; have k3' := hE2.at k3; have k4' := hE2.at k4; have k5' := hE2.at k5; have k6' := hE2.at k6; have k7' := hE2.at k7; have k8' := hE2.at k8
      have b2 := HB2.out.ext hE2
      have n0 := b2.cell 0; have nf0 := b2.free 0; have n1 := b2.cell 1; have nf1 := b2.free 1; have n2 := b2.cell 2; have nf2 := b2.free 2; have n3 := b2.cell 3; have nf3 := b2.free 3; have n4 := b2.cell 4; have nf4 := b2.free 4; have n5 := b2.cell 5; have nf5 := b2.free 5; have n6 := b2.cell 6; have nf6 := b2.free 6; have n7 := b2.cell 7; have nf7 := b2.free 7; have n8 := b2.cell 8; have nf8 := b2.free 8
      simp only [List.getElem?_toArray, List.getElem?_cons_zero, List.getElem?_cons_succ] at n0 n1 n2 n3 n4 n5 n6 n7 n8
      clear b2 hE2 hr k0 m0 mf0 k1 m1 mf1 k2 m2 mf2 k3 m3 mf3 k4 m4 mf4 k5 m5 mf5 k6 m6 mf6 k7 m7 mf7 k8 m8 mf8))
  go_wp2_with fail
  refine bodyPost_ret (v := .agg #[.int .i64 x.kind, .int .i64 x.record.source, .int .i64 x.record.key, .int .i64 x.record.version, .slice a2 x.record.fields.length c2, .int .i64 x.verdict.a, .int .i64 x.verdict.b, .bool x.verdict.same, .int .i64 x.verdict.time]) (by simp [results, Try.results65, go_sem, n0, n1, n2, n3, n4, n5, n6, n7, n8]) rfl ?_
  refine ⟨[.int .i64 x.kind, .int .i64 x.record.source, .int .i64 x.record.key, .int .i64 x.record.version, .slice a2 x.record.fields.length c2, .int .i64 x.verdict.a, .int .i64 x.verdict.b, .bool x.verdict.same, .int .i64 x.verdict.time], rfl, ⟨a2, c2, rfl, ?_⟩, ?_⟩
  · refine (HR2.out.keepB goodO_str (by (repeat' (first | with_reducible exact Keep.refl _ _ | refine Keep.set_trans ?_ (by omega) _ _)))).monoB (by omega)
  · have h8 : Ext w w2 := HE0.out.trans HE2.out
    (repeat' (first | with_reducible assumption | with_reducible exact Below.refl _ _ | (with_reducible refine Ext.alloc' ?_ _) | (with_reducible refine Ext.drew' ?_) | (with_reducible refine Ext.drewN' ?_ _) | (with_reducible refine Ext.set_ ?_ (by first | omega | (simp; done) | (simp; omega)) _ _) | (refine Ext.trans ?_ (by with_reducible assumption))))

def recId (x : DRecord) : Int := wrap64 (wrap64 (100 * x.source) + x.key)
theorem implRecordID_any (x : DRecord) (vs : List Value) (B : Nat) (w : World) (h : RecordR B w vs x) :
    Calls Try.prog 68 #[.agg vs.toArray] w fun e w' => e = .returned (.int .i64 (recId x)) ∧ Ext w w' := by
  obtain ⟨p0, c0, rfl, r0⟩ := h
  clear r0
  go_enter Try.func68, Try.ntmps68
  go_wp2_with fail
  go_ret
  exact ⟨rfl, by (repeat' (first | with_reducible assumption | with_reducible exact Below.refl _ _ | (with_reducible refine Ext.alloc' ?_ _) | (with_reducible refine Ext.drew' ?_) | (with_reducible refine Ext.drewN' ?_ _) | (with_reducible refine Ext.set_ ?_ (by first | omega | (simp; done) | (simp; omega)) _ _) | (refine Ext.trans ?_ (by with_reducible assumption))))⟩
theorem specRecordID_any (x : DRecord) (vs : List Value) (B : Nat) (w : World) (h : RecordR B w vs x) :
    Calls Try.prog 64 #[.agg vs.toArray] w fun e w' => e = .returned (.int .i64 (recId x)) ∧ Ext w w' := by
  obtain ⟨p0, c0, rfl, r0⟩ := h
  clear r0
  go_enter Try.func64, Try.ntmps64
  go_wp2_with fail
  go_ret
  exact ⟨rfl, by (repeat' (first | with_reducible assumption | with_reducible exact Below.refl _ _ | (with_reducible refine Ext.alloc' ?_ _) | (with_reducible refine Ext.drew' ?_) | (with_reducible refine Ext.drewN' ?_ _) | (with_reducible refine Ext.set_ ?_ (by first | omega | (simp; done) | (simp; omega)) _ _) | (refine Ext.trans ?_ (by with_reducible assumption))))⟩

/-- Operations with a record. -/
def ofRec (id : Int) (x : DOp) : Bool := (x.kind == 1 || x.kind == 2) && recId x.record == id
set_option maxHeartbeats 1600000 in
theorem recClosure_any (x : DOp) (id : Int) (us : List Value) (B b : Nat) (w : World) (hb : w.cell? ⟨b, 0, none⟩ = some (.int .i64 id)) (h : OpR B w us x) :
    Calls Try.prog 67 #[.agg us.toArray, .pointer (some ⟨b, 0, none⟩)] w fun e w' => e = .returned (.bool (ofRec id x)) ∧ Ext w w' := by
  obtain ⟨p0, c0, rfl, r0⟩ := h
  have R0 := Lib.hid r0; clear r0
  have hlt := lt_of_cell hb
  obtain ⟨w0, hw0⟩ : ∃ w0, w0 = w.alloc (.cells #[.int .i64 x.kind, .int .i64 x.record.source, .int .i64 x.record.key, .int .i64 x.record.version, .slice p0 x.record.fields.length c0, .int .i64 x.verdict.a, .int .i64 x.verdict.b, .bool x.verdict.same, .int .i64 x.verdict.time] 90) := ⟨_, rfl⟩
  have HB1 : Hid (Box w0 w.heap.size 90 #[.int .i64 x.kind, .int .i64 x.record.source, .int .i64 x.record.key, .int .i64 x.record.version, .slice p0 x.record.fields.length c0, .int .i64 x.verdict.a, .int .i64 x.verdict.b, .bool x.verdict.same, .int .i64 x.verdict.time]) := by rw [hw0]; exact Box.new' _ _ _ _ rfl
  have HE0 : Hid (Ext w w0) := by rw [hw0]; exact Ext.alloc _ _
  have HRR := Lib.hid (R0.out.ext good_str HE0.out)
  have hb0 := HE0.out.at hb
  have b1 := HB1.out
  have k0 := b1.cell 0
  have k1 := b1.cell 1
  have k2 := b1.cell 2
  have k3 := b1.cell 3
  have k4 := b1.cell 4
  have k5 := b1.cell 5
  have k6 := b1.cell 6
  have k7 := b1.cell 7
  have k8 := b1.cell 8
  have klt := b1.lt
  simp only [List.getElem?_toArray, List.getElem?_cons_zero, List.getElem?_cons_succ] at k0 k1 k2 k3 k4 k5 k6 k7 k8
  clear b1
  go_enter Try.func67, Try.ntmps67
  go_wp2_with fail
  rw [← hw0]
  clear hw0 hb hlt
  by_cases h1 : x.kind = 1
  · have HP : Hid (∀ c : Bool, c = (recId x.record == id) → c = ofRec id x) := fun c h => by rw [h]; simp [ofRec, h1]
    refine wp_region_ext (by kernel_rfl) (by kernel_rfl) ?_
    repeat (first
      | go_big_quiet_skip
      | (go_big_quiet_want; go_big_quiet_op; first
          | go_big_quiet_on
          | (refine ⟨.bool true, fun w' hw' => ?_, ?_⟩; (simp [go_sem, h1]; done); go_big_quiet_on)
          | (refine ⟨.bool false, fun w' hw' => ?_, ?_⟩; (simp [go_sem, h1]; done); go_big_quiet_on)
          | (refine ⟨_, fun w' hw' => rfl, ?_⟩; go_big_quiet_on)
          | (refine ⟨.int .i64 x.kind, fun w' hw' => ?_, ?_⟩
             · have u0 := hw'.at k0
               simp [go_sem, u0]; done
             go_big_quiet_on)
          | (refine ⟨.agg #[.int .i64 x.record.source, .int .i64 x.record.key, .int .i64 x.record.version, .slice p0 x.record.fields.length c0], fun w' hw' => ?_, ?_⟩
             · have u1 := hw'.at k1; have u2 := hw'.at k2; have u3 := hw'.at k3; have u4 := hw'.at k4
               simp [go_sem, u1, u2, u3, u4]; done
             go_big_quiet_on)
          | (refine ⟨.int .i64 id, fun w' hw' => ?_, ?_⟩
             · have u0 := hw'.at hb0
               simp [go_sem, u0]; done
             go_big_quiet_on)
          | (refine ⟨.int .i64 (recId x.record), fun w' hw' => ((implRecordID_any x.record [.int .i64 x.record.source, .int .i64 x.record.key, .int .i64 x.record.version, .slice p0 x.record.fields.length c0] B w' ⟨p0, c0, rfl, HRR.out.ext good_str hw'⟩).mono (fun e w'' h => ⟨h.1, hw'.trans h.2⟩)), ?_⟩; go_big_quiet_on)))
    refine wpQuiet_nil ?_
    intro w2 hE2
    go_wp2_with fail
    go_ret
    exact ⟨ret_bool (HP.out _ rfl), HE0.out.trans hE2⟩

  · by_cases h2 : x.kind = 2
    · have HP : Hid (∀ c : Bool, c = (recId x.record == id) → c = ofRec id x) := fun c h => by rw [h]; simp [ofRec, h2]
      have hb1 : (x.kind == 1) = false := by simp [h1]
      refine wp_region_ext (by kernel_rfl) (by kernel_rfl) ?_
      repeat (first
        | go_big_quiet_skip
        | (go_big_quiet_want; go_big_quiet_op; first
            | go_big_quiet_on
            | (refine ⟨.bool true, fun w' hw' => ?_, ?_⟩; (simp [go_sem, h1, h2]; done); go_big_quiet_on)
            | (refine ⟨.bool false, fun w' hw' => ?_, ?_⟩; (simp [go_sem, h1, h2]; done); go_big_quiet_on)
            | (refine ⟨_, fun w' hw' => rfl, ?_⟩; go_big_quiet_on)
            | (refine ⟨.int .i64 x.kind, fun w' hw' => ?_, ?_⟩
               · have u0 := hw'.at k0
                 simp [go_sem, u0]; done
               go_big_quiet_on)
            | (refine ⟨.agg #[.int .i64 x.record.source, .int .i64 x.record.key, .int .i64 x.record.version, .slice p0 x.record.fields.length c0], fun w' hw' => ?_, ?_⟩
               · have u1 := hw'.at k1; have u2 := hw'.at k2; have u3 := hw'.at k3; have u4 := hw'.at k4
                 simp [go_sem, u1, u2, u3, u4]; done
               go_big_quiet_on)
            | (refine ⟨.int .i64 id, fun w' hw' => ?_, ?_⟩
               · have u0 := hw'.at hb0
                 simp [go_sem, u0]; done
               go_big_quiet_on)
            | (refine ⟨.int .i64 (recId x.record), fun w' hw' => ((implRecordID_any x.record [.int .i64 x.record.source, .int .i64 x.record.key, .int .i64 x.record.version, .slice p0 x.record.fields.length c0] B w' ⟨p0, c0, rfl, HRR.out.ext good_str hw'⟩).mono (fun e w'' h => ⟨h.1, hw'.trans h.2⟩)), ?_⟩; go_big_quiet_on)))
      refine wpQuiet_nil ?_
      intro w2 hE2
      go_wp2_with fail
      go_ret
      exact ⟨ret_bool (HP.out _ rfl), HE0.out.trans hE2⟩

    · have HP : Hid (false = ofRec id x) := by show _ = _; simp [ofRec, h1, h2]
      have hb1 : (x.kind == 1) = false := by simp [h1]
      have hb2 : (x.kind == 2) = false := by simp [h2]
      refine wp_region_ext (by kernel_rfl) (by kernel_rfl) ?_
      repeat (first
        | go_big_quiet_skip
        | (go_big_quiet_want; go_big_quiet_op; first
            | go_big_quiet_on
            | (refine ⟨.bool true, fun w' hw' => ?_, ?_⟩; (simp [go_sem, h1, h2]; done); go_big_quiet_on)
            | (refine ⟨.bool false, fun w' hw' => ?_, ?_⟩; (simp [go_sem, h1, h2]; done); go_big_quiet_on)
            | (refine ⟨_, fun w' hw' => rfl, ?_⟩; go_big_quiet_on)
            | (refine ⟨.int .i64 x.kind, fun w' hw' => ?_, ?_⟩
               · have u0 := hw'.at k0
                 simp [go_sem, u0]; done
               go_big_quiet_on)
            | (refine ⟨.agg #[.int .i64 x.record.source, .int .i64 x.record.key, .int .i64 x.record.version, .slice p0 x.record.fields.length c0], fun w' hw' => ?_, ?_⟩
               · have u1 := hw'.at k1; have u2 := hw'.at k2; have u3 := hw'.at k3; have u4 := hw'.at k4
                 simp [go_sem, u1, u2, u3, u4]; done
               go_big_quiet_on)
            | (refine ⟨.int .i64 id, fun w' hw' => ?_, ?_⟩
               · have u0 := hw'.at hb0
                 simp [go_sem, u0]; done
               go_big_quiet_on)
            | (refine ⟨.int .i64 (recId x.record), fun w' hw' => ((implRecordID_any x.record [.int .i64 x.record.source, .int .i64 x.record.key, .int .i64 x.record.version, .slice p0 x.record.fields.length c0] B w' ⟨p0, c0, rfl, HRR.out.ext good_str hw'⟩).mono (fun e w'' h => ⟨h.1, hw'.trans h.2⟩)), ?_⟩; go_big_quiet_on)))
      refine wpQuiet_nil ?_
      intro w2 hE2
      go_wp2_with fail
      go_ret
      exact ⟨ret_bool (HP.out), HE0.out.trans hE2⟩

set_option maxHeartbeats 800000 in
theorem verClosure_any (x : DOp) (v : DVerdict) (us : List Value) (B b : Nat) (t : TypeId) (w : World) (hb : Box w b t #[.int .i64 v.a, .int .i64 v.b, .bool v.same, .int .i64 v.time]) (h : OpR B w us x) :
    Calls Try.prog 71 #[.agg us.toArray, .pointer (some ⟨b, 0, none⟩)] w fun e w' => e = .returned (.bool (mentionsB x v)) ∧ Ext w w' := by
  obtain ⟨p0, c0, rfl, r0⟩ := h
  have R0 := Lib.hid r0; clear r0
  have HB := Lib.hid hb
  have k0 := hb.cell 0
  have k1 := hb.cell 1
  have k2 := hb.cell 2
  have k3 := hb.cell 3
  have klt := hb.lt
  simp only [List.getElem?_toArray, List.getElem?_cons_zero, List.getElem?_cons_succ] at k0 k1 k2 k3
  clear hb
  go_enter Try.func71, Try.ntmps71
  go_wp2_with fail
  refine (mentions_any x v [.int .i64 x.kind, .int .i64 x.record.source, .int .i64 x.record.key, .int .i64 x.record.version, .slice p0 x.record.fields.length c0, .int .i64 x.verdict.a, .int .i64 x.verdict.b, .bool x.verdict.same, .int .i64 x.verdict.time] B _ ⟨p0, c0, rfl, R0.out.ext good_str (by (repeat' (first | with_reducible assumption | with_reducible exact Below.refl _ _ | (with_reducible refine Ext.alloc' ?_ _) | (with_reducible refine Ext.drew' ?_) | (with_reducible refine Ext.drewN' ?_ _) | (with_reducible refine Ext.set_ ?_ (by first | omega | (simp; done) | (simp; omega)) _ _) | (refine Ext.trans ?_ (by with_reducible assumption)))))⟩).mono ?_
  rintro e w1 ⟨rfl, hE⟩
  have HE : Hid (Ext w w1) := (show Ext w w1 from by have h9 := hE; (repeat' (first | with_reducible assumption | with_reducible exact Below.refl _ _ | (with_reducible refine Ext.alloc' ?_ _) | (with_reducible refine Ext.drew' ?_) | (with_reducible refine Ext.drewN' ?_ _) | (with_reducible refine Ext.set_ ?_ (by first | omega | (simp; done) | (simp; omega)) _ _) | (refine Ext.trans ?_ (by with_reducible assumption)))))
  clear hE k0 k1 k2 k3 klt
  go_wp2_with fail
  go_ret
  exact ⟨rfl, HE.out⟩
theorem canCallRec : ∀ (args : Array Value) (w : World), (callFunc 67 args).run Try.prog w = .ok (.enter 67 args) w :=
  callFunc_run Try.func67 (by kernel_rfl) (by kernel_rfl)
theorem canCallVer : ∀ (args : Array Value) (w : World), (callFunc 71 args).run Try.prog w = .ok (.enter 71 args) w :=
  callFunc_run Try.func71 (by kernel_rfl) (by kernel_rfl)
end Go.Proofs.Ytdgpbgpapcldeaa
