/- The type Store as owned data: several rows. -/
import Derived.Test.YtdgpbgpapcldeaaCLib
import Derived.Test.YtdgpbgpapcldeaaKStore
import Derived.Test.YtdgpbgpapcldeaaMRecord
import Derived.Test.YtdgpbgpapcldeaaMVerdict
set_option linter.unusedVariables false
set_option linter.unusedSimpArgs false
namespace Go.Proofs.Ytdgpbgpapcldeaa
open Go.RowKit Go.Er Go.BigFrame
/-- A datum of type Store in new memory, each of its rows apart. -/
def MadeD_Store (w : World) (x : DStore) (e : Ending) (w' : World) : Prop := ∃ (p0 : Option Addr) (c0 : Nat) (p1 : Option Addr) (c1 : Nat) (T : Nat → Nat → Prop), e = .returned (.agg #[.int .i64 x.version, .slice p0 x.records.length c0, .slice p1 x.verdicts.length c1]) ∧ ApartT T ∧ InT T w.heap.size w'.heap.size ∧ RowO 4 RecordO (T 0) w' p0 x.records ∧ RowO 4 VerdictO (T 1) w' p1 x.verdicts ∧ Ext w w'
/-- The rows of a datum of type Store. -/
structure RowsStore (x : DStore) (T : Nat → Nat → Prop) (p0 : Option Addr) (p1 : Option Addr) (w : World) : Prop where
  r0 : RowO 4 RecordO (T 0) w p0 x.records
  r1 : RowO 4 VerdictO (T 1) w p1 x.verdicts
theorem RowsStore.chg {x : DStore} {T : Nat → Nat → Prop} {p0 p1 : Option Addr} {w w' : World} {S : Nat → Prop} (h : RowsStore x T p0 p1 w) (hC : Chg S w w') (hd : ∀ i c, T i c → ¬ S c) : RowsStore x T p0 p1 w' :=
  ⟨h.r0.chg goodO_Record hC (hd 0), h.r1.chg goodO_Verdict hC (hd 1)⟩
theorem RowsStore.ext {x : DStore} {T : Nat → Nat → Prop} {p0 p1 : Option Addr} {w w' : World} (h : RowsStore x T p0 p1 w) (hE : Ext w w') : RowsStore x T p0 p1 w' :=
  ⟨h.r0.ext goodO_Record hE, h.r1.ext goodO_Verdict hE⟩
theorem RowsStore.read {x : DStore} {T : Nat → Nat → Prop} {p0 p1 : Option Addr} {w : World} (h : RowsStore x T p0 p1 w) (c0 c1 : Nat) : StoreR 0 w [.int .i64 x.version, .slice p0 x.records.length c0, .slice p1 x.verdicts.length c1] x :=
  ⟨p0, c0, p1, c1, rfl, h.r0.rel goodO_Record (fun _ _ => Nat.zero_le _), h.r1.rel goodO_Verdict (fun _ _ => Nat.zero_le _)⟩

set_option maxRecDepth 8000 in
set_option maxHeartbeats 3200000 in
theorem toStore_rows (x : DStore) (hs : SmallStore x) (vs : List Value) (w : World) (h : StoreR 0 w vs x) :
    Calls Try.prog 77 #[.agg vs.toArray] w (MadeD_Store w x) := by
  obtain ⟨p0, c0, p1, c1, rfl, r0, r1⟩ := h
  have HS := Lib.hid hs; clear hs
  have R0 := Lib.hid r0
  have R1 := Lib.hid r1
  clear r0 r1
  go_enter Try.func77, Try.ntmps77
  go_wp2_with fail
  refine (toRecordS_own x.records HS.out.1 p0 c0 _ (R0.out.ext good_Record (by (repeat' (first | with_reducible assumption | with_reducible exact Below.refl _ _ | (with_reducible refine Ext.alloc' ?_ _) | (with_reducible refine Ext.drew' ?_) | (with_reducible refine Ext.drewN' ?_ _) | (with_reducible refine Ext.set_ ?_ (by first | omega | (simp; done) | (simp; omega)) _ _) | (refine Ext.trans ?_ (by with_reducible assumption))))))).mono ?_
  rintro e w0 ⟨p0n, c0n, rfl, r0n, hE⟩
  obtain ⟨T0, HA0, HI0, S0⟩ : ∃ T : Nat → Nat → Prop, Hid (ApartT T) ∧ Hid (InT T (w.heap.size + 3) w0.heap.size) ∧ Hid (RowO 4 RecordO (T 0) w0 p0n x.records) := ⟨oneT (Span (w.heap.size + 3) w0.heap.size), ApartT.one _, span_in, (RowO.span goodO_Record r0n).mono (fun c h => ⟨rfl, by simpa using h⟩)⟩
  clear r0n
  have HN1' : Hid (Box w0 w.heap.size 60 #[.int .i64 x.version, .slice p0 x.records.length c0, .slice p1 x.verdicts.length c1]) := (Box.alloc (Box.alloc (Box.new' _ _ #[.int .i64 x.version, .slice p0 x.records.length c0, .slice p1 x.verdicts.length c1] _ (by simp)) _) _).ext hE
  have HN2' : Hid (Box w0 (w.heap.size + 1) 69 #[.int .i64 0, .slice none 0 0, .slice none 0 0]) := (Box.alloc (Box.new' _ _ #[.int .i64 0, .slice none 0 0, .slice none 0 0] _ (by simp)) _).ext hE
  have HN3' : Hid (Box w0 (w.heap.size + 1 + 1) 69 #[.int .i64 x.version, .slice none 0 0, .slice none 0 0]) := (Box.new' _ _ #[.int .i64 x.version, .slice none 0 0, .slice none 0 0] _ (by simp)).ext hE
  have HZ0 : Hid (w.heap.size + 3 ≤ w0.heap.size) := by show _ ≤ _; have h7 := hE.size; simp at h7; omega
  have HE' : Hid (Ext w w0) := (show Ext w w0 from by have h9 := hE; (repeat' (first | with_reducible assumption | with_reducible exact Below.refl _ _ | (with_reducible refine Ext.alloc' ?_ _) | (with_reducible refine Ext.drew' ?_) | (with_reducible refine Ext.drewN' ?_ _) | (with_reducible refine Ext.set_ ?_ (by first | omega | (simp; done) | (simp; omega)) _ _) | (refine Ext.trans ?_ (by with_reducible assumption)))))
  have HE := HE'; have HN1 := HN1'; have HN2 := HN2'; have HN3 := HN3'
  clear HE' HN1' HN2' HN3' hE
  have b1 := HN1.out; have b3 := HN3.out
  have k0 := b1.cell 0
  have k1 := b1.cell 1
  have k2 := b1.cell 2
  have klt := b1.lt
  simp only [List.getElem?_toArray, List.getElem?_cons_zero, List.getElem?_cons_succ] at k0 k1 k2
  have m0 := b3.cell 0
  have mf0 := b3.free 0
  have m1 := b3.cell 1
  have mf1 := b3.free 1
  have m2 := b3.cell 2
  have mf2 := b3.free 2
  have mlt := b3.lt
  simp only [List.getElem?_toArray, List.getElem?_cons_zero, List.getElem?_cons_succ] at m0 m1 m2
  clear b1 b3
  go_wp2_with fail
  clear k0 k1 k2 klt
  clear m0 mf0 m1 mf1 m2 mf2 mlt
  refine (toVerdictS_own x.verdicts HS.out.2 p1 c1 _ (R1.out.ext good_Verdict (by have h8 := HE.out; (repeat' (first | with_reducible assumption | with_reducible exact Below.refl _ _ | (with_reducible refine Ext.alloc' ?_ _) | (with_reducible refine Ext.drew' ?_) | (with_reducible refine Ext.drewN' ?_ _) | (with_reducible refine Ext.set_ ?_ (by first | omega | (simp; done) | (simp; omega)) _ _) | (refine Ext.trans ?_ (by with_reducible assumption))))))).mono ?_
  rintro e w1 ⟨p1n, c1n, rfl, r1n, hE⟩
  obtain ⟨T1, HA1, HI1, S1⟩ : ∃ T : Nat → Nat → Prop, Hid (ApartT T) ∧ Hid (InT T w0.heap.size w1.heap.size) ∧ Hid (RowO 4 VerdictO (T 0) w1 p1n x.verdicts) := ⟨oneT (Span w0.heap.size w1.heap.size), ApartT.one _, span_in, (RowO.span goodO_Verdict r1n).mono (fun c h => ⟨rfl, by simpa using h⟩)⟩
  clear r1n
  have HN1' : Hid (Box w1 w.heap.size 60 #[.int .i64 x.version, .slice p0 x.records.length c0, .slice p1 x.verdicts.length c1]) := (Box.setOther (HN1.out) (by omega) _).ext hE
  have HN2' : Hid (Box w1 (w.heap.size + 1) 69 #[.int .i64 0, .slice none 0 0, .slice none 0 0]) := (Box.setOther (HN2.out) (by omega) _).ext hE
  have HN3' : Hid (Box w1 (w.heap.size + 1 + 1) 69 #[.int .i64 x.version, .slice p0n x.records.length c0n, .slice none 0 0]) := (Box.set' (vs' := #[.int .i64 x.version, .slice p0n x.records.length c0n, .slice none 0 0]) (HN3.out) (i := 1) (u := .slice p0n x.records.length c0n) rfl).ext hE
  have HZ1 : Hid (w0.heap.size ≤ w1.heap.size) := by show _ ≤ _; have h7 := hE.size; simp at h7; omega
  replace S0 : Hid (RowO 4 RecordO (T0 0) w1 p0n x.records) := S0.out.keepT goodO_Record HI0.out (B := w.heap.size + 3) (Keep.trans (by (repeat' (first | with_reducible exact Keep.refl _ _ | refine Keep.set_trans ?_ (by omega) _ _))) (Keep.of_ext hE)) (by have := HZ0.out; omega)
  have HE' : Hid (Ext w w1) := (show Ext w w1 from by have h9 := hE; have h8 := HE.out; (repeat' (first | with_reducible assumption | with_reducible exact Below.refl _ _ | (with_reducible refine Ext.alloc' ?_ _) | (with_reducible refine Ext.drew' ?_) | (with_reducible refine Ext.drewN' ?_ _) | (with_reducible refine Ext.set_ ?_ (by first | omega | (simp; done) | (simp; omega)) _ _) | (refine Ext.trans ?_ (by with_reducible assumption)))))
  clear HN1 HN2 HN3 HE
  have HE := HE'; have HN1 := HN1'; have HN2 := HN2'; have HN3 := HN3'
  clear HE' HN1' HN2' HN3' hE
  have b1 := HN1.out; have b2 := HN2.out; have b3 := HN3.out
  have k0 := b1.cell 0
  have k1 := b1.cell 1
  have k2 := b1.cell 2
  have klt := b1.lt
  simp only [List.getElem?_toArray, List.getElem?_cons_zero, List.getElem?_cons_succ] at k0 k1 k2
  have m0 := b3.cell 0
  have mf0 := b3.free 0
  have m1 := b3.cell 1
  have mf1 := b3.free 1
  have m2 := b3.cell 2
  have mf2 := b3.free 2
  have mlt := b3.lt
  simp only [List.getElem?_toArray, List.getElem?_cons_zero, List.getElem?_cons_succ] at m0 m1 m2
  have l0 := b2.cell 0
  have lf0 := b2.free 0
  have l1 := b2.cell 1
  have lf1 := b2.free 1
  have l2 := b2.cell 2
  have lf2 := b2.free 2
  have llt := b2.lt
  simp only [List.getElem?_toArray, List.getElem?_cons_zero, List.getElem?_cons_succ] at l0 l1 l2
  clear b1 b2 b3
  go_wp2_with fail
  refine bodyPost_ret (v := .agg #[.int .i64 x.version, .slice p0n x.records.length c0n, .slice p1n x.verdicts.length c1n]) (by simp [results, Try.results77, go_sem, m0, m1, m2, l0, l1, l2]) rfl ?_
  refine ⟨p0n, c0n, p1n, c1n, (joinT 1 T0 T1), rfl, ?_, ?_, ?_, ?_, ?_⟩
  · have := HZ0.out; have := HZ1.out; exact (ApartT.join HA0.out HA1.out HI0.out HI1.out (by omega))
  · have := HZ0.out; have := HZ1.out; exact InT.mono (InT.join HI0.out HI1.out (by omega) (by omega) (by omega)) (by omega) (by simp)
  · refine (S0.out.keepT goodO_Record HI0.out (B := w.heap.size + 3) (by (repeat' (first | with_reducible exact Keep.refl _ _ | refine Keep.set_trans ?_ (by omega) _ _))) (by have := HZ0.out; have := HZ1.out; omega)).mono (fun c h => Or.inl ⟨by decide, h⟩)
  · refine (S1.out.keepT goodO_Verdict HI1.out (B := w.heap.size + 3) (by (repeat' (first | with_reducible exact Keep.refl _ _ | refine Keep.set_trans ?_ (by omega) _ _))) (by have := HZ0.out; have := HZ1.out; omega)).mono (fun c h => Or.inr ⟨by decide, h⟩)
  · have h8 := HE.out; (repeat' (first | with_reducible assumption | with_reducible exact Below.refl _ _ | (with_reducible refine Ext.alloc' ?_ _) | (with_reducible refine Ext.drew' ?_) | (with_reducible refine Ext.drewN' ?_ _) | (with_reducible refine Ext.set_ ?_ (by first | omega | (simp; done) | (simp; omega)) _ _) | (refine Ext.trans ?_ (by with_reducible assumption))))
def MarkedD_Store (x : DStore) (k : Int) (T : Nat → Nat → Prop) (p0 : Option Addr) (p1 : Option Addr) (w : World) (e : Ending) (w' : World) : Prop := e = .returned (.int .i64 (k + (sumC cntE_Record x.records : Nat) + (sumC cntE_Verdict x.verdicts : Nat))) ∧ RowO 4 RecordO (T 0) w' p0 (markL markE_Record cntE_Record x.records (k)) ∧ RowO 4 VerdictO (T 1) w' p1 (markL markE_Verdict cntE_Verdict x.verdicts (k + (sumC cntE_Record x.records : Nat))) ∧ Chg (someT 2 T) w w'
set_option maxRecDepth 8000 in
set_option maxHeartbeats 3200000 in
theorem markStore_rows (x : DStore) (k : Int) (hk : 1 ≤ k) (hb : k + (sumC cntE_Record x.records : Nat) + (sumC cntE_Verdict x.verdicts : Nat) ≤ 9223372036854775806) (T : Nat → Nat → Prop) (hT : ApartT T) (p0 : Option Addr) (c0 : Nat) (p1 : Option Addr) (c1 : Nat) (w : World) (hl : ∀ i c, T i c → c < w.heap.size) (r0 : RowO 4 RecordO (T 0) w p0 x.records) (r1 : RowO 4 VerdictO (T 1) w p1 x.verdicts) :
    Calls Try.prog 91 #[.agg #[.int .i64 x.version, .slice p0 x.records.length c0, .slice p1 x.verdicts.length c1], .int .i64 k] w (MarkedD_Store x k T p0 p1 w) := by
  have HB := Lib.hid (Box.new w 69 #[.int .i64 x.version, .slice p0 x.records.length c0, .slice p1 x.verdicts.length c1])
  have HC : Hid (Chg (someT 2 T) w (w.alloc (.cells #[.int .i64 x.version, .slice p0 x.records.length c0, .slice p1 x.verdicts.length c1] 69))) := Chg.of_ext (Ext.alloc _ _)
  have R0 := Lib.hid (r0.ext goodO_Record (Ext.alloc w (.cells #[.int .i64 x.version, .slice p0 x.records.length c0, .slice p1 x.verdicts.length c1] 69)))
  have R1 := Lib.hid (r1.ext goodO_Verdict (Ext.alloc w (.cells #[.int .i64 x.version, .slice p0 x.records.length c0, .slice p1 x.verdicts.length c1] 69)))
  have HT := Lib.hid hT; have HL := Lib.hid hl
  clear hT hl r0 r1
  go_enter Try.func91, Try.ntmps91
  go_wp2_with fail
  refine (markRecordS_any x.records (k) (by omega) (by omega) (T 0) p0 c0 _ R0.out).mono ?_
  rintro e w1 ⟨rfl, hr0, hC⟩
  have M0 : Hid (RowO 4 RecordO (T 0) w1 p0 (markL markE_Record cntE_Record x.records (k))) := hr0
  replace R1 := Lib.hid (R1.out.chg goodO_Verdict hC (fun c h1 h2 => HT.out 1 0 c (by decide) h1 h2))
  replace HB := Lib.hid (HB.out.chg hC (fun h => Nat.lt_irrefl _ (HL.out _ _ h)))
  replace HC := Lib.hid (HC.out.trans (hC.mono (fun c h => ⟨0, by decide, h⟩)))
  clear hC hr0 R0
  have hbx := HB.out
  have k0 := hbx.cell 0
  have k1 := hbx.cell 1
  have k2 := hbx.cell 2
  have klt := hbx.lt
  simp only [List.getElem?_toArray, List.getElem?_cons_zero, List.getElem?_cons_succ] at k0 k1 k2
  clear hbx
  go_wp2_with fail
  clear k0 k1 k2 klt
  refine (markVerdictS_any x.verdicts (k + (sumC cntE_Record x.records : Nat)) (by omega) (by omega) (T 1) p1 c1 _ R1.out).mono ?_
  rintro e w2 ⟨rfl, hr1, hC⟩
  replace M0 := Lib.hid (M0.out.chg goodO_Record hC (fun c h1 h2 => HT.out 0 1 c (by decide) h1 h2))
  have M1 : Hid (RowO 4 VerdictO (T 1) w2 p1 (markL markE_Verdict cntE_Verdict x.verdicts (k + (sumC cntE_Record x.records : Nat)))) := hr1
  replace HB := Lib.hid (HB.out.chg hC (fun h => Nat.lt_irrefl _ (HL.out _ _ h)))
  replace HC := Lib.hid (HC.out.trans (hC.mono (fun c h => ⟨1, by decide, h⟩)))
  clear hC hr1 R1
  have hbx := HB.out
  have k0 := hbx.cell 0
  have k1 := hbx.cell 1
  have k2 := hbx.cell 2
  have klt := hbx.lt
  simp only [List.getElem?_toArray, List.getElem?_cons_zero, List.getElem?_cons_succ] at k0 k1 k2
  clear hbx
  go_wp2_with fail
  go_ret
  exact ⟨rfl, M0.out, M1.out, HC.out⟩

set_option maxRecDepth 8000 in
set_option maxHeartbeats 3200000 in
theorem heldStore_rows (x : DStore) (k : Int) (hk : 1 ≤ k) (hb : k + (sumC cntE_Record x.records : Nat) + (sumC cntE_Verdict x.verdicts : Nat) ≤ 9223372036854775806) (B : Nat) (p0 : Option Addr) (c0 : Nat) (p1 : Option Addr) (c1 : Nat) (w : World) (r0 : RowR 4 RecordR B w p0 (markL markE_Record cntE_Record x.records (k))) (r1 : RowR 4 VerdictR B w p1 (markL markE_Verdict cntE_Verdict x.verdicts (k + (sumC cntE_Record x.records : Nat)))) :
    Calls Try.prog 95 #[.agg #[.int .i64 x.version, .slice p0 x.records.length c0, .slice p1 x.verdicts.length c1], .int .i64 k] w (fun e w' => e = .returned (.int .i64 (k + (sumC cntE_Record x.records : Nat) + (sumC cntE_Verdict x.verdicts : Nat))) ∧ Ext w w') := by
  have HB := Lib.hid (Box.new w 69 #[.int .i64 x.version, .slice p0 x.records.length c0, .slice p1 x.verdicts.length c1])
  have HE := Lib.hid (Ext.alloc w (.cells #[.int .i64 x.version, .slice p0 x.records.length c0, .slice p1 x.verdicts.length c1] 69))
  have R0 := Lib.hid (r0.ext good_Record HE.out)
  have R1 := Lib.hid (r1.ext good_Verdict HE.out)
  clear r0 r1
  go_enter Try.func95, Try.ntmps95
  go_wp2_with fail
  refine (heldRecordS_any x.records (k) (by omega) (by omega) B p0 c0 _ R0.out).mono ?_
  rintro e w1 ⟨rfl, hE⟩
  replace R1 := Lib.hid (R1.out.ext good_Verdict hE)
  replace HB := Lib.hid (HB.out.ext hE); replace HE := Lib.hid (HE.out.trans hE)
  clear hE R0
  have hge0 : ¬ k + (sumC cntE_Record x.records : Nat) < 0 := by omega
  have hbx := HB.out
  have k0 := hbx.cell 0
  have k1 := hbx.cell 1
  have k2 := hbx.cell 2
  have klt := hbx.lt
  simp only [List.getElem?_toArray, List.getElem?_cons_zero, List.getElem?_cons_succ] at k0 k1 k2
  clear hbx
  go_wp2_with fail
  clear k0 k1 k2 klt
  refine (heldVerdictS_any x.verdicts (k + (sumC cntE_Record x.records : Nat)) (by omega) (by omega) B p1 c1 _ R1.out).mono ?_
  rintro e w2 ⟨rfl, hE⟩
  replace HB := Lib.hid (HB.out.ext hE); replace HE := Lib.hid (HE.out.trans hE)
  clear hE R1
  have hge1 : ¬ k + (sumC cntE_Record x.records : Nat) + (sumC cntE_Verdict x.verdicts : Nat) < 0 := by omega
  go_wp2_with fail
  go_ret
  exact ⟨rfl, HE.out⟩
end Go.Proofs.Ytdgpbgpapcldeaa
