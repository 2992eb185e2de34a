/- Comparisons of records: zero just where they are equal. -/
import Derived.Test.YtdgpbgpapcldeaaCmpI
import Derived.Test.YtdgpbgpapcldeaaKRecord
import Derived.Deep.RegionHeld3
set_option linter.unusedVariables false
set_option linter.unusedSimpArgs false
namespace Go.Proofs.Ytdgpbgpapcldeaa
open Go.RowKit Go.Er Go.BigFrame

theorem row_fresh (w : World) (t : TypeId) (l : List Int) (hl : l.length ≤ maxLen) : RowR 1 IntR 0 (w.alloc (.cells (l.map (.int .i64)).toArray t)) (some ⟨w.heap.size, 0, none⟩) l := by
  refine ⟨hl, fun i hi => ⟨_, _, [.int .i64 l[i]], rfl, Nat.zero_le _, rfl, fun j hj => ?_, rfl⟩⟩
  have hj0 : j = 0 := by simp at hj; exact hj
  subst hj0
  have h := (Box.new w t (l.map (.int .i64)).toArray).cell (0 + i * 1 + 0)
  rw [h]
  simp [hi]

set_option maxHeartbeats 3200000 in
theorem compareOrigins_any (x y : DRecord) (us vs : List Value) (w : World) (h1 : RecordR 0 w us x) (h2 : RecordR 0 w vs y) :
    Calls Try.prog 161 #[.agg us.toArray, .agg vs.toArray] w (ZeroE (x.source = y.source ∧ x.key = y.key) w) := by
  obtain ⟨p0a, c0a, rfl, r0a⟩ := h1
  obtain ⟨p0b, c0b, rfl, r0b⟩ := h2
  clear r0a r0b
  have HE := Lib.hid (show Ext w ((w.alloc (.cells #[.int .i64 x.source, .int .i64 x.key, .int .i64 x.version, .slice p0a x.fields.length c0a] 88)).alloc (.cells #[.int .i64 y.source, .int .i64 y.key, .int .i64 y.version, .slice p0b y.fields.length c0b] 88)) from by (repeat' (first | with_reducible assumption | with_reducible exact Below.refl _ _ | (with_reducible refine Ext.alloc' ?_ _) | (with_reducible refine Ext.drew' ?_) | (with_reducible refine Ext.drewN' ?_ _) | (with_reducible refine Ext.set_ ?_ (by first | omega | (simp; done) | (simp; omega)) _ _) | (refine Ext.trans ?_ (by with_reducible assumption)))))
  have HX : Hid (Box ((w.alloc (.cells #[.int .i64 x.source, .int .i64 x.key, .int .i64 x.version, .slice p0a x.fields.length c0a] 88)).alloc (.cells #[.int .i64 y.source, .int .i64 y.key, .int .i64 y.version, .slice p0b y.fields.length c0b] 88)) w.heap.size 88 #[.int .i64 x.source, .int .i64 x.key, .int .i64 x.version, .slice p0a x.fields.length c0a]) := Box.alloc (Box.new' _ _ _ _ rfl) _
  have HY : Hid (Box ((w.alloc (.cells #[.int .i64 x.source, .int .i64 x.key, .int .i64 x.version, .slice p0a x.fields.length c0a] 88)).alloc (.cells #[.int .i64 y.source, .int .i64 y.key, .int .i64 y.version, .slice p0b y.fields.length c0b] 88)) (w.heap.size + 1) 88 #[.int .i64 y.source, .int .i64 y.key, .int .i64 y.version, .slice p0b y.fields.length c0b]) := Box.new' _ _ _ _ (by simp)
  go_enter Try.func161, Try.ntmps161
  go_wp2_with fail
  obtain ⟨w1, hw1⟩ : ∃ w1, w1 = ((w.alloc (.cells #[.int .i64 x.source, .int .i64 x.key, .int .i64 x.version, .slice p0a x.fields.length c0a] 88)).alloc (.cells #[.int .i64 y.source, .int .i64 y.key, .int .i64 y.version, .slice p0b y.fields.length c0b] 88)) := ⟨_, rfl⟩
  rw [← hw1] at HE HX HY ⊢
  clear hw1
  have bx := HX.out; have bY := HY.out
  have k0 := bx.cell 0
  have k1 := bx.cell 1
  have k2 := bx.cell 2
  have k3 := bx.cell 3
  have klt := bx.lt
  simp only [List.getElem?_toArray, List.getElem?_cons_zero, List.getElem?_cons_succ] at k0 k1 k2 k3
  have m0 := bY.cell 0
  have m1 := bY.cell 1
  have m2 := bY.cell 2
  have m3 := bY.cell 3
  have mlt := bY.lt
  simp only [List.getElem?_toArray, List.getElem?_cons_zero, List.getElem?_cons_succ] at m0 m1 m2 m3
  clear bx bY
  go_region_held3 (fun w' => w'.cell? ⟨w.heap.size, 0, none⟩ = some (.int .i64 x.source) ∧ w'.cell? ⟨w.heap.size, 1, none⟩ = some (.int .i64 x.key) ∧ w'.cell? ⟨w.heap.size, 2, none⟩ = some (.int .i64 x.version) ∧ w'.cell? ⟨w.heap.size, 3, none⟩ = some (.slice p0a x.fields.length c0a) ∧ w'.cell? ⟨w.heap.size + 1, 0, none⟩ = some (.int .i64 y.source) ∧ w'.cell? ⟨w.heap.size + 1, 1, none⟩ = some (.int .i64 y.key) ∧ w'.cell? ⟨w.heap.size + 1, 2, none⟩ = some (.int .i64 y.version) ∧ w'.cell? ⟨w.heap.size + 1, 3, none⟩ = some (.slice p0b y.fields.length c0b)) (go_keep)
    (first
      | (go_at_call_of 162 (Value.int IntKind.i64 x.source); refine (cmpInt_any x.source y.source _).mono ?_; rintro e w2 ⟨n1, rfl, hn1, rfl⟩
         have HN1 := Lib.hid hn1
         clear hn1)
      | (go_at_call_of 162 (Value.int IntKind.i64 x.key); refine (cmpInt_any x.key y.key _).mono ?_; rintro e w3 ⟨n2, rfl, hn2, rfl⟩
         have HN2 := Lib.hid hn2
         clear hn2)
      | (go_at_call 160; refine (cmpOr_any [n1, n2] _ _ _ ((row_fresh w1 3 [n1, n2] (by unfold maxLen; simp)).ext good_int (Ext.drew' (Ext.refl _)))).mono ?_; rintro e w4 ⟨n3, rfl, hn3, hE4⟩
         have HN3 := Lib.hid hn3
         have hF4 : Ext w1 w4 := (show Ext w1 w4 from by have h9 := hE4; (repeat' (first | with_reducible assumption | with_reducible exact Below.refl _ _ | (with_reducible refine Ext.alloc' ?_ _) | (with_reducible refine Ext.drew' ?_) | (with_reducible refine Ext.drewN' ?_ _) | (with_reducible refine Ext.set_ ?_ (by first | omega | (simp; done) | (simp; omega)) _ _) | (refine Ext.trans ?_ (by with_reducible assumption)))))
         have HE4 := Lib.hid (HE.out.trans hF4)
         have k0' := hF4.at k0; have m0' := hF4.at m0; have k1' := hF4.at k1; have m1' := hF4.at m1; have k2' := hF4.at k2; have m2' := hF4.at m2; have k3' := hF4.at k3; have m3' := hF4.at m3
         clear hn3 hE4 hF4))
  have HN : Hid (n3 = 0 ↔ x.source = y.source ∧ x.key = y.key) := HN3.out.trans (by simp [HN1.out, HN2.out])
  clear HN1 HN2 HN3 HX HY HE
  go_wp2_with fail
  go_ret
  exact (⟨n3, rfl, HN.out, HE4.out⟩ : ZeroE (x.source = y.source ∧ x.key = y.key) w _ _)
theorem record_ext (x y : DRecord) : ((x.source = y.source ∧ x.key = y.key) ∧ x.version = y.version ∧ x.fields = y.fields) ↔ x = y := by
  cases x; cases y; simp [and_assoc]

set_option maxHeartbeats 3200000 in
theorem compareRecords_any (x y : DRecord) (us vs : List Value) (w : World) (h1 : RecordR 0 w us x) (h2 : RecordR 0 w vs y) :
    Calls Try.prog 149 #[.agg us.toArray, .agg vs.toArray] w (ZeroE (x = y) w) := by
  obtain ⟨p0a, c0a, rfl, r0a⟩ := h1
  obtain ⟨p0b, c0b, rfl, r0b⟩ := h2
  have HA : Hid (RecordR 0 w [.int .i64 x.source, .int .i64 x.key, .int .i64 x.version, .slice p0a x.fields.length c0a] x) := ⟨p0a, c0a, rfl, r0a⟩
  have HB : Hid (RecordR 0 w [.int .i64 y.source, .int .i64 y.key, .int .i64 y.version, .slice p0b y.fields.length c0b] y) := ⟨p0b, c0b, rfl, r0b⟩
  have HRA := Lib.hid r0a; have HRB := Lib.hid r0b
  clear r0a r0b
  have HE := Lib.hid (show Ext w ((w.alloc (.cells #[.int .i64 x.source, .int .i64 x.key, .int .i64 x.version, .slice p0a x.fields.length c0a] 88)).alloc (.cells #[.int .i64 y.source, .int .i64 y.key, .int .i64 y.version, .slice p0b y.fields.length c0b] 88)) from by (repeat' (first | with_reducible assumption | with_reducible exact Below.refl _ _ | (with_reducible refine Ext.alloc' ?_ _) | (with_reducible refine Ext.drew' ?_) | (with_reducible refine Ext.drewN' ?_ _) | (with_reducible refine Ext.set_ ?_ (by first | omega | (simp; done) | (simp; omega)) _ _) | (refine Ext.trans ?_ (by with_reducible assumption)))))
  have HX : Hid (Box ((w.alloc (.cells #[.int .i64 x.source, .int .i64 x.key, .int .i64 x.version, .slice p0a x.fields.length c0a] 88)).alloc (.cells #[.int .i64 y.source, .int .i64 y.key, .int .i64 y.version, .slice p0b y.fields.length c0b] 88)) w.heap.size 88 #[.int .i64 x.source, .int .i64 x.key, .int .i64 x.version, .slice p0a x.fields.length c0a]) := Box.alloc (Box.new' _ _ _ _ rfl) _
  have HY : Hid (Box ((w.alloc (.cells #[.int .i64 x.source, .int .i64 x.key, .int .i64 x.version, .slice p0a x.fields.length c0a] 88)).alloc (.cells #[.int .i64 y.source, .int .i64 y.key, .int .i64 y.version, .slice p0b y.fields.length c0b] 88)) (w.heap.size + 1) 88 #[.int .i64 y.source, .int .i64 y.key, .int .i64 y.version, .slice p0b y.fields.length c0b]) := Box.new' _ _ _ _ (by simp)
  go_enter Try.func149, Try.ntmps149
  go_wp2_with fail
  obtain ⟨w1, hw1⟩ : ∃ w1, w1 = ((w.alloc (.cells #[.int .i64 x.source, .int .i64 x.key, .int .i64 x.version, .slice p0a x.fields.length c0a] 88)).alloc (.cells #[.int .i64 y.source, .int .i64 y.key, .int .i64 y.version, .slice p0b y.fields.length c0b] 88)) := ⟨_, rfl⟩
  rw [← hw1] at HE HX HY ⊢
  clear hw1
  have bx := HX.out; have bY := HY.out
  have k0 := bx.cell 0
  have k1 := bx.cell 1
  have k2 := bx.cell 2
  have k3 := bx.cell 3
  have klt := bx.lt
  simp only [List.getElem?_toArray, List.getElem?_cons_zero, List.getElem?_cons_succ] at k0 k1 k2 k3
  have m0 := bY.cell 0
  have m1 := bY.cell 1
  have m2 := bY.cell 2
  have m3 := bY.cell 3
  have mlt := bY.lt
  simp only [List.getElem?_toArray, List.getElem?_cons_zero, List.getElem?_cons_succ] at m0 m1 m2 m3
  clear bx bY
  go_region_held3 (fun w' => w'.cell? ⟨w.heap.size, 0, none⟩ = some (.int .i64 x.source) ∧ w'.cell? ⟨w.heap.size, 1, none⟩ = some (.int .i64 x.key) ∧ w'.cell? ⟨w.heap.size, 2, none⟩ = some (.int .i64 x.version) ∧ w'.cell? ⟨w.heap.size, 3, none⟩ = some (.slice p0a x.fields.length c0a) ∧ w'.cell? ⟨w.heap.size + 1, 0, none⟩ = some (.int .i64 y.source) ∧ w'.cell? ⟨w.heap.size + 1, 1, none⟩ = some (.int .i64 y.key) ∧ w'.cell? ⟨w.heap.size + 1, 2, none⟩ = some (.int .i64 y.version) ∧ w'.cell? ⟨w.heap.size + 1, 3, none⟩ = some (.slice p0b y.fields.length c0b)) (go_keep)
    (first
      | (go_at_call 161; refine (compareOrigins_any x y [.int .i64 x.source, .int .i64 x.key, .int .i64 x.version, .slice p0a x.fields.length c0a] [.int .i64 y.source, .int .i64 y.key, .int .i64 y.version, .slice p0b y.fields.length c0b] _ (good_Record.ext HA.out (by have h8 := HE.out; (repeat' (first | with_reducible assumption | with_reducible exact Below.refl _ _ | (with_reducible refine Ext.alloc' ?_ _) | (with_reducible refine Ext.drew' ?_) | (with_reducible refine Ext.drewN' ?_ _) | (with_reducible refine Ext.set_ ?_ (by first | omega | (simp; done) | (simp; omega)) _ _) | (refine Ext.trans ?_ (by with_reducible assumption)))))) (good_Record.ext HB.out (by have h8 := HE.out; (repeat' (first | with_reducible assumption | with_reducible exact Below.refl _ _ | (with_reducible refine Ext.alloc' ?_ _) | (with_reducible refine Ext.drew' ?_) | (with_reducible refine Ext.drewN' ?_ _) | (with_reducible refine Ext.set_ ?_ (by first | omega | (simp; done) | (simp; omega)) _ _) | (refine Ext.trans ?_ (by with_reducible assumption))))))).mono ?_; rintro e w2 ⟨n1, rfl, hn1, hE2⟩
         have HN1 := Lib.hid hn1
         have hF2 : Ext w1 w2 := (show Ext w1 w2 from by have h9 := hE2; (repeat' (first | with_reducible assumption | with_reducible exact Below.refl _ _ | (with_reducible refine Ext.alloc' ?_ _) | (with_reducible refine Ext.drew' ?_) | (with_reducible refine Ext.drewN' ?_ _) | (with_reducible refine Ext.set_ ?_ (by first | omega | (simp; done) | (simp; omega)) _ _) | (refine Ext.trans ?_ (by with_reducible assumption)))))
         have HE2 := Lib.hid (HE.out.trans hF2)
         have HF2 := Lib.hid hF2
         have k0' := hF2.at k0; have m0' := hF2.at m0; have k1' := hF2.at k1; have m1' := hF2.at m1; have k2' := hF2.at k2; have m2' := hF2.at m2; have k3' := hF2.at k3; have m3' := hF2.at m3
         clear hn1 hE2 hF2 k0 k1 k2 k3 klt m0 m1 m2 m3 mlt)
      | (go_at_call 162; refine (cmpInt_any x.version y.version _).mono ?_; rintro e w3 ⟨n2, rfl, hn2, hw3⟩
         obtain rfl : w2 = w3 := hw3.symm
         have HN2 := Lib.hid hn2
         clear hn2)
      | (go_at_call 163; refine (cmpStrs_any x.fields y.fields p0a p0b c0a c0b _ (HRA.out.ext good_str (by have h8 := HE2.out; (repeat' (first | with_reducible assumption | with_reducible exact Below.refl _ _ | (with_reducible refine Ext.alloc' ?_ _) | (with_reducible refine Ext.drew' ?_) | (with_reducible refine Ext.drewN' ?_ _) | (with_reducible refine Ext.set_ ?_ (by first | omega | (simp; done) | (simp; omega)) _ _) | (refine Ext.trans ?_ (by with_reducible assumption)))))) (HRB.out.ext good_str (by have h8 := HE2.out; (repeat' (first | with_reducible assumption | with_reducible exact Below.refl _ _ | (with_reducible refine Ext.alloc' ?_ _) | (with_reducible refine Ext.drew' ?_) | (with_reducible refine Ext.drewN' ?_ _) | (with_reducible refine Ext.set_ ?_ (by first | omega | (simp; done) | (simp; omega)) _ _) | (refine Ext.trans ?_ (by with_reducible assumption))))))).mono ?_; rintro e w4 ⟨n3, rfl, hn3, hE4⟩
         have HN3 := Lib.hid hn3
         have hF4 : Ext w2 w4 := (show Ext w2 w4 from by have h9 := hE4; (repeat' (first | with_reducible assumption | with_reducible exact Below.refl _ _ | (with_reducible refine Ext.alloc' ?_ _) | (with_reducible refine Ext.drew' ?_) | (with_reducible refine Ext.drewN' ?_ _) | (with_reducible refine Ext.set_ ?_ (by first | omega | (simp; done) | (simp; omega)) _ _) | (refine Ext.trans ?_ (by with_reducible assumption)))))
         have HE4 := Lib.hid (HE2.out.trans hF4)
         have k0 := hF4.at k0'; have m0 := hF4.at m0'; have k1 := hF4.at k1'; have m1 := hF4.at m1'; have k2 := hF4.at k2'; have m2 := hF4.at m2'; have k3 := hF4.at k3'; have m3 := hF4.at m3'
         clear hn3 hE4 hF4 k0' k1' k2' k3' m0' m1' m2' m3')
      | (go_at_call 160; refine (cmpOr_any [n1, n2, n3] _ _ _ (row_fresh w4 3 [n1, n2, n3] (by unfold maxLen; simp))).mono ?_; rintro e w5 ⟨n4, rfl, hn4, hE5⟩
         have HN4 := Lib.hid hn4
         have hF5 : Ext w4 w5 := (show Ext w4 w5 from by have h9 := hE5; (repeat' (first | with_reducible assumption | with_reducible exact Below.refl _ _ | (with_reducible refine Ext.alloc' ?_ _) | (with_reducible refine Ext.drew' ?_) | (with_reducible refine Ext.drewN' ?_ _) | (with_reducible refine Ext.set_ ?_ (by first | omega | (simp; done) | (simp; omega)) _ _) | (refine Ext.trans ?_ (by with_reducible assumption)))))
         have HE5 := Lib.hid (HE4.out.trans hF5)
         have k0' := hF5.at k0; have m0' := hF5.at m0; have k1' := hF5.at k1; have m1' := hF5.at m1; have k2' := hF5.at k2; have m2' := hF5.at m2; have k3' := hF5.at k3; have m3' := hF5.at m3
         clear hn4 hE5 hF5 k0 k1 k2 k3 m0 m1 m2 m3))
  have HN : Hid (n4 = 0 ↔ x = y) := (HN4.out.trans (by simp [HN1.out, HN2.out, HN3.out])).trans (record_ext x y)
  clear HN1 HN2 HN3 HN4 HX HY HE
  go_wp2_with fail
  go_ret
  exact (⟨n4, rfl, HN.out, HE5.out⟩ : ZeroE (x = y) w _ _)

/-- Two data are the same. -/
noncomputable def same {α : Type} (x y : α) : Bool := @decide (x = y) (Classical.propDecidable _)
theorem same_iff {α : Type} (x y : α) : same x y = true ↔ x = y := by simp [same]
theorem same_zero {α : Type} {x y : α} {n : Int} (h : n = 0 ↔ x = y) : (n == 0) = same x y := by
  rw [Bool.eq_iff_iff, same_iff]; simpa using h
theorem equalRecords_any (x y : DRecord) (us vs : List Value) (w : World) (h1 : RecordR 0 w us x) (h2 : RecordR 0 w vs y) :
    Calls Try.prog 122 #[.agg us.toArray, .agg vs.toArray] w fun e w' => e = .returned (.bool (same x y)) ∧ Ext w w' := by
  obtain ⟨p0a, c0a, rfl, r0a⟩ := h1
  obtain ⟨p0b, c0b, rfl, r0b⟩ := h2
  have HA : Hid (RecordR 0 w [.int .i64 x.source, .int .i64 x.key, .int .i64 x.version, .slice p0a x.fields.length c0a] x) := ⟨p0a, c0a, rfl, r0a⟩
  have HB : Hid (RecordR 0 w [.int .i64 y.source, .int .i64 y.key, .int .i64 y.version, .slice p0b y.fields.length c0b] y) := ⟨p0b, c0b, rfl, r0b⟩
  clear r0a r0b
  go_enter Try.func122, Try.ntmps122
  go_wp2_with fail
  refine (compareRecords_any x y [.int .i64 x.source, .int .i64 x.key, .int .i64 x.version, .slice p0a x.fields.length c0a] [.int .i64 y.source, .int .i64 y.key, .int .i64 y.version, .slice p0b y.fields.length c0b] _ (good_Record.ext HA.out (by (repeat' (first | with_reducible assumption | with_reducible exact Below.refl _ _ | (with_reducible refine Ext.alloc' ?_ _) | (with_reducible refine Ext.drew' ?_) | (with_reducible refine Ext.drewN' ?_ _) | (with_reducible refine Ext.set_ ?_ (by first | omega | (simp; done) | (simp; omega)) _ _) | (refine Ext.trans ?_ (by with_reducible assumption)))))) (good_Record.ext HB.out (by (repeat' (first | with_reducible assumption | with_reducible exact Below.refl _ _ | (with_reducible refine Ext.alloc' ?_ _) | (with_reducible refine Ext.drew' ?_) | (with_reducible refine Ext.drewN' ?_ _) | (with_reducible refine Ext.set_ ?_ (by first | omega | (simp; done) | (simp; omega)) _ _) | (refine Ext.trans ?_ (by with_reducible assumption))))))).mono ?_
  rintro e w1 ⟨n, rfl, hn, hE1⟩
  have HN := Lib.hid (same_zero hn)
  have HE1 := Lib.hid (show Ext w w1 from by (repeat' (first | with_reducible assumption | with_reducible exact Below.refl _ _ | (with_reducible refine Ext.alloc' ?_ _) | (with_reducible refine Ext.drew' ?_) | (with_reducible refine Ext.drewN' ?_ _) | (with_reducible refine Ext.set_ ?_ (by first | omega | (simp; done) | (simp; omega)) _ _) | (refine Ext.trans ?_ (by with_reducible assumption)))))
  clear hn hE1
  go_wp2_with fail
  go_ret
  exact ⟨ret_bool HN.out, HE1.out⟩
end Go.Proofs.Ytdgpbgpapcldeaa
