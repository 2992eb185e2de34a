/- The type System as owned data: several rows. -/
import Derived.Test.YtdgpbgpapcldeaaCLib
import Derived.Test.YtdgpbgpapcldeaaKSystem
import Derived.Test.YtdgpbgpapcldeaaMEntity
import Derived.Test.YtdgpbgpapcldeaaMVerdict
import Derived.Test.YtdgpbgpapcldeaaNConfig
import Derived.Test.YtdgpbgpapcldeaaNStore
set_option linter.unusedVariables false
set_option linter.unusedSimpArgs false
namespace Go.Proofs.Ytdgpbgpapcldeaa
open Go.RowKit Go.Er Go.BigFrame
/-- A datum of type System in new memory, each of its rows apart. -/
def MadeD_System (w : World) (x : DSystem) (e : Ending) (w' : World) : Prop := ∃ (p0 : Option Addr) (c0 : Nat) (p1 : Option Addr) (c1 : Nat) (p2 : Option Addr) (c2 : Nat) (p3 : Option Addr) (c3 : Nat) (p4 : Option Addr) (c4 : Nat) (p5 : Option Addr) (c5 : Nat) (p6 : Option Addr) (c6 : Nat) (T : Nat → Nat → Prop), e = .returned (.agg #[.slice p0 x.config.rules.rules.length c0, .slice p1 x.config.scoring.weights.length c1, .int .i64 x.config.scoring.bias, .slice p2 x.config.survivors.length c2, .int .i64 x.store.version, .slice p3 x.store.records.length c3, .slice p4 x.store.verdicts.length c4, .slice p5 x.entities.length c5, .int .i64 x.next, .slice p6 x.refused.length c6]) ∧ ApartT T ∧ InT T w.heap.size w'.heap.size ∧ RowO 1 RuleO (T 0) w' p0 x.config.rules.rules ∧ RowO 1 IntO (T 1) w' p1 x.config.scoring.weights ∧ RowO 1 IntO (T 2) w' p2 x.config.survivors ∧ RowO 4 RecordO (T 3) w' p3 x.store.records ∧ RowO 4 VerdictO (T 4) w' p4 x.store.verdicts ∧ RowO 2 EntityO (T 5) w' p5 x.entities ∧ RowO 4 VerdictO (T 6) w' p6 x.refused ∧ Ext w w'
/-- The rows of a datum of type System. -/
structure RowsSystem (x : DSystem) (T : Nat → Nat → Prop) (p0 : Option Addr) (p1 : Option Addr) (p2 : Option Addr) (p3 : Option Addr) (p4 : Option Addr) (p5 : Option Addr) (p6 : Option Addr) (w : World) : Prop where
  r0 : RowO 1 RuleO (T 0) w p0 x.config.rules.rules
  r1 : RowO 1 IntO (T 1) w p1 x.config.scoring.weights
  r2 : RowO 1 IntO (T 2) w p2 x.config.survivors
  r3 : RowO 4 RecordO (T 3) w p3 x.store.records
  r4 : RowO 4 VerdictO (T 4) w p4 x.store.verdicts
  r5 : RowO 2 EntityO (T 5) w p5 x.entities
  r6 : RowO 4 VerdictO (T 6) w p6 x.refused
theorem RowsSystem.chg {x : DSystem} {T : Nat → Nat → Prop} {p0 p1 p2 p3 p4 p5 p6 : Option Addr} {w w' : World} {S : Nat → Prop} (h : RowsSystem x T p0 p1 p2 p3 p4 p5 p6 w) (hC : Chg S w w') (hd : ∀ i c, T i c → ¬ S c) : RowsSystem x T p0 p1 p2 p3 p4 p5 p6 w' :=
  ⟨h.r0.chg goodO_Rule hC (hd 0), h.r1.chg goodO_int hC (hd 1), h.r2.chg goodO_int hC (hd 2), h.r3.chg goodO_Record hC (hd 3), h.r4.chg goodO_Verdict hC (hd 4), h.r5.chg goodO_Entity hC (hd 5), h.r6.chg goodO_Verdict hC (hd 6)⟩
theorem RowsSystem.ext {x : DSystem} {T : Nat → Nat → Prop} {p0 p1 p2 p3 p4 p5 p6 : Option Addr} {w w' : World} (h : RowsSystem x T p0 p1 p2 p3 p4 p5 p6 w) (hE : Ext w w') : RowsSystem x T p0 p1 p2 p3 p4 p5 p6 w' :=
  ⟨h.r0.ext goodO_Rule hE, h.r1.ext goodO_int hE, h.r2.ext goodO_int hE, h.r3.ext goodO_Record hE, h.r4.ext goodO_Verdict hE, h.r5.ext goodO_Entity hE, h.r6.ext goodO_Verdict hE⟩
theorem RowsSystem.read {x : DSystem} {T : Nat → Nat → Prop} {p0 p1 p2 p3 p4 p5 p6 : Option Addr} {w : World} (h : RowsSystem x T p0 p1 p2 p3 p4 p5 p6 w) (c0 c1 c2 c3 c4 c5 c6 : Nat) : SystemR 0 w [.slice p0 x.config.rules.rules.length c0, .slice p1 x.config.scoring.weights.length c1, .int .i64 x.config.scoring.bias, .slice p2 x.config.survivors.length c2, .int .i64 x.store.version, .slice p3 x.store.records.length c3, .slice p4 x.store.verdicts.length c4, .slice p5 x.entities.length c5, .int .i64 x.next, .slice p6 x.refused.length c6] x :=
  ⟨p0, c0, p1, c1, p2, c2, p3, c3, p4, c4, p5, c5, p6, c6, rfl, h.r0.rel goodO_Rule (fun _ _ => Nat.zero_le _), h.r1.rel goodO_int (fun _ _ => Nat.zero_le _), h.r2.rel goodO_int (fun _ _ => Nat.zero_le _), h.r3.rel goodO_Record (fun _ _ => Nat.zero_le _), h.r4.rel goodO_Verdict (fun _ _ => Nat.zero_le _), h.r5.rel goodO_Entity (fun _ _ => Nat.zero_le _), h.r6.rel goodO_Verdict (fun _ _ => Nat.zero_le _)⟩

set_option maxRecDepth 8000 in
set_option maxHeartbeats 3200000 in
theorem toSystem_rows (x : DSystem) (hs : SmallSystem x) (vs : List Value) (w : World) (h : SystemR 0 w vs x) :
    Calls Try.prog 31 #[.agg vs.toArray] w (MadeD_System w x) := by
  obtain ⟨p0, c0, p1, c1, p2, c2, p3, c3, p4, c4, p5, c5, p6, c6, rfl, r0, r1, r2, r3, r4, r5, r6⟩ := h
  have HS := Lib.hid hs; clear hs
  have R0 := Lib.hid r0
  have R1 := Lib.hid r1
  have R2 := Lib.hid r2
  have R3 := Lib.hid r3
  have R4 := Lib.hid r4
  have R5 := Lib.hid r5
  have R6 := Lib.hid r6
  clear r0 r1 r2 r3 r4 r5 r6
  go_enter Try.func31, Try.ntmps31
  go_wp2_with fail
  refine (toConfig_rows x.config HS.out.1 [.slice p0 x.config.rules.rules.length c0, .slice p1 x.config.scoring.weights.length c1, .int .i64 x.config.scoring.bias, .slice p2 x.config.survivors.length c2] _ ⟨p0, c0, p1, c1, p2, c2, rfl, (R0.out.ext good_Rule (by (repeat' (first | with_reducible assumption | with_reducible exact Below.refl _ _ | (with_reducible refine Ext.alloc' ?_ _) | (with_reducible refine Ext.drew' ?_) | (with_reducible refine Ext.drewN' ?_ _) | (with_reducible refine Ext.set_ ?_ (by first | omega | (simp; done) | (simp; omega)) _ _) | (refine Ext.trans ?_ (by with_reducible assumption)))))), (R1.out.ext good_int (by (repeat' (first | with_reducible assumption | with_reducible exact Below.refl _ _ | (with_reducible refine Ext.alloc' ?_ _) | (with_reducible refine Ext.drew' ?_) | (with_reducible refine Ext.drewN' ?_ _) | (with_reducible refine Ext.set_ ?_ (by first | omega | (simp; done) | (simp; omega)) _ _) | (refine Ext.trans ?_ (by with_reducible assumption)))))), (R2.out.ext good_int (by (repeat' (first | with_reducible assumption | with_reducible exact Below.refl _ _ | (with_reducible refine Ext.alloc' ?_ _) | (with_reducible refine Ext.drew' ?_) | (with_reducible refine Ext.drewN' ?_ _) | (with_reducible refine Ext.set_ ?_ (by first | omega | (simp; done) | (simp; omega)) _ _) | (refine Ext.trans ?_ (by with_reducible assumption))))))⟩).mono ?_
  rintro e w0 ⟨p0n, c0n, p1n, c1n, p2n, c2n, T0, rfl, hA, hI, r0n, r1n, r2n, hE⟩
  have HA0 := Lib.hid hA; have HI0 : Hid (InT T0 (w.heap.size + 3) w0.heap.size) := by (have h7 := hI; simp at h7; exact h7)
  have S0 := Lib.hid r0n
  have S1 := Lib.hid r1n
  have S2 := Lib.hid r2n
  clear hA hI r0n r1n r2n
  have HN1' : Hid (Box w0 w.heap.size 63 #[.slice p0 x.config.rules.rules.length c0, .slice p1 x.config.scoring.weights.length c1, .int .i64 x.config.scoring.bias, .slice p2 x.config.survivors.length c2, .int .i64 x.store.version, .slice p3 x.store.records.length c3, .slice p4 x.store.verdicts.length c4, .slice p5 x.entities.length c5, .int .i64 x.next, .slice p6 x.refused.length c6]) := (Box.alloc (Box.alloc (Box.new' _ _ #[.slice p0 x.config.rules.rules.length c0, .slice p1 x.config.scoring.weights.length c1, .int .i64 x.config.scoring.bias, .slice p2 x.config.survivors.length c2, .int .i64 x.store.version, .slice p3 x.store.records.length c3, .slice p4 x.store.verdicts.length c4, .slice p5 x.entities.length c5, .int .i64 x.next, .slice p6 x.refused.length c6] _ (by simp)) _) _).ext hE
  have HN2' : Hid (Box w0 (w.heap.size + 1) 72 #[.slice none 0 0, .slice none 0 0, .int .i64 0, .slice none 0 0, .int .i64 0, .slice none 0 0, .slice none 0 0, .slice none 0 0, .int .i64 0, .slice none 0 0]) := (Box.alloc (Box.new' _ _ #[.slice none 0 0, .slice none 0 0, .int .i64 0, .slice none 0 0, .int .i64 0, .slice none 0 0, .slice none 0 0, .slice none 0 0, .int .i64 0, .slice none 0 0] _ (by simp)) _).ext hE
  have HN3' : Hid (Box w0 (w.heap.size + 1 + 1) 72 #[.slice none 0 0, .slice none 0 0, .int .i64 0, .slice none 0 0, .int .i64 0, .slice none 0 0, .slice none 0 0, .slice none 0 0, .int .i64 0, .slice none 0 0]) := (Box.new' _ _ #[.slice none 0 0, .slice none 0 0, .int .i64 0, .slice none 0 0, .int .i64 0, .slice none 0 0, .slice none 0 0, .slice none 0 0, .int .i64 0, .slice none 0 0] _ (by simp)).ext hE
  have HZ0 : Hid (w.heap.size + 3 ≤ w0.heap.size) := by show _ ≤ _; have h7 := hE.size; simp at h7; omega
  have HE' : Hid (Ext w w0) := (show Ext w w0 from by have h9 := hE; (repeat' (first | with_reducible assumption | with_reducible exact Below.refl _ _ | (with_reducible refine Ext.alloc' ?_ _) | (with_reducible refine Ext.drew' ?_) | (with_reducible refine Ext.drewN' ?_ _) | (with_reducible refine Ext.set_ ?_ (by first | omega | (simp; done) | (simp; omega)) _ _) | (refine Ext.trans ?_ (by with_reducible assumption)))))
  have HE := HE'; have HN1 := HN1'; have HN2 := HN2'; have HN3 := HN3'
  clear HE' HN1' HN2' HN3' hE
  have b1 := HN1.out; have b3 := HN3.out
  have k0 := b1.cell 0
  have k1 := b1.cell 1
  have k2 := b1.cell 2
  have k3 := b1.cell 3
  have k4 := b1.cell 4
  have k5 := b1.cell 5
  have k6 := b1.cell 6
  have k7 := b1.cell 7
  have k8 := b1.cell 8
  have k9 := b1.cell 9
  have klt := b1.lt
  simp only [List.getElem?_toArray, List.getElem?_cons_zero, List.getElem?_cons_succ] at k0 k1 k2 k3 k4 k5 k6 k7 k8 k9
  have m0 := b3.cell 0
  have mf0 := b3.free 0
  have m1 := b3.cell 1
  have mf1 := b3.free 1
  have m2 := b3.cell 2
  have mf2 := b3.free 2
  have m3 := b3.cell 3
  have mf3 := b3.free 3
  have m4 := b3.cell 4
  have mf4 := b3.free 4
  have m5 := b3.cell 5
  have mf5 := b3.free 5
  have m6 := b3.cell 6
  have mf6 := b3.free 6
  have m7 := b3.cell 7
  have mf7 := b3.free 7
  have m8 := b3.cell 8
  have mf8 := b3.free 8
  have m9 := b3.cell 9
  have mf9 := b3.free 9
  have mlt := b3.lt
  simp only [List.getElem?_toArray, List.getElem?_cons_zero, List.getElem?_cons_succ] at m0 m1 m2 m3 m4 m5 m6 m7 m8 m9
  clear b1 b3
  go_wp2_with fail
  clear k0 k1 k2 k3 k4 k5 k6 k7 k8 k9 klt
  clear m0 mf0 m1 mf1 m2 mf2 m3 mf3 m4 mf4 m5 mf5 m6 mf6 m7 mf7 m8 mf8 m9 mf9 mlt
  refine (toStore_rows x.store HS.out.2.1 [.int .i64 x.store.version, .slice p3 x.store.records.length c3, .slice p4 x.store.verdicts.length c4] _ ⟨p3, c3, p4, c4, rfl, (R3.out.ext good_Record (by have h8 := HE.out; (repeat' (first | with_reducible assumption | with_reducible exact Below.refl _ _ | (with_reducible refine Ext.alloc' ?_ _) | (with_reducible refine Ext.drew' ?_) | (with_reducible refine Ext.drewN' ?_ _) | (with_reducible refine Ext.set_ ?_ (by first | omega | (simp; done) | (simp; omega)) _ _) | (refine Ext.trans ?_ (by with_reducible assumption)))))), (R4.out.ext good_Verdict (by have h8 := HE.out; (repeat' (first | with_reducible assumption | with_reducible exact Below.refl _ _ | (with_reducible refine Ext.alloc' ?_ _) | (with_reducible refine Ext.drew' ?_) | (with_reducible refine Ext.drewN' ?_ _) | (with_reducible refine Ext.set_ ?_ (by first | omega | (simp; done) | (simp; omega)) _ _) | (refine Ext.trans ?_ (by with_reducible assumption))))))⟩).mono ?_
  rintro e w1 ⟨p3n, c3n, p4n, c4n, T1, rfl, hA, hI, r3n, r4n, hE⟩
  have HA1 := Lib.hid hA; have HI1 : Hid (InT T1 w0.heap.size w1.heap.size) := by (have h7 := hI; simp at h7; exact h7)
  have S3 := Lib.hid r3n
  have S4 := Lib.hid r4n
  clear hA hI r3n r4n
  have HN1' : Hid (Box w1 w.heap.size 63 #[.slice p0 x.config.rules.rules.length c0, .slice p1 x.config.scoring.weights.length c1, .int .i64 x.config.scoring.bias, .slice p2 x.config.survivors.length c2, .int .i64 x.store.version, .slice p3 x.store.records.length c3, .slice p4 x.store.verdicts.length c4, .slice p5 x.entities.length c5, .int .i64 x.next, .slice p6 x.refused.length c6]) := (Box.setOther (Box.setOther (Box.setOther (Box.setOther (HN1.out) (by omega) _) (by omega) _) (by omega) _) (by omega) _).ext hE
  have HN2' : Hid (Box w1 (w.heap.size + 1) 72 #[.slice none 0 0, .slice none 0 0, .int .i64 0, .slice none 0 0, .int .i64 0, .slice none 0 0, .slice none 0 0, .slice none 0 0, .int .i64 0, .slice none 0 0]) := (Box.setOther (Box.setOther (Box.setOther (Box.setOther (HN2.out) (by omega) _) (by omega) _) (by omega) _) (by omega) _).ext hE
  have HN3' : Hid (Box w1 (w.heap.size + 1 + 1) 72 #[.slice p0n x.config.rules.rules.length c0n, .slice p1n x.config.scoring.weights.length c1n, .int .i64 x.config.scoring.bias, .slice p2n x.config.survivors.length c2n, .int .i64 0, .slice none 0 0, .slice none 0 0, .slice none 0 0, .int .i64 0, .slice none 0 0]) := (Box.set' (vs' := #[.slice p0n x.config.rules.rules.length c0n, .slice p1n x.config.scoring.weights.length c1n, .int .i64 x.config.scoring.bias, .slice p2n x.config.survivors.length c2n, .int .i64 0, .slice none 0 0, .slice none 0 0, .slice none 0 0, .int .i64 0, .slice none 0 0]) (Box.set' (vs' := #[.slice p0n x.config.rules.rules.length c0n, .slice p1n x.config.scoring.weights.length c1n, .int .i64 x.config.scoring.bias, .slice none 0 0, .int .i64 0, .slice none 0 0, .slice none 0 0, .slice none 0 0, .int .i64 0, .slice none 0 0]) (Box.set' (vs' := #[.slice p0n x.config.rules.rules.length c0n, .slice p1n x.config.scoring.weights.length c1n, .int .i64 0, .slice none 0 0, .int .i64 0, .slice none 0 0, .slice none 0 0, .slice none 0 0, .int .i64 0, .slice none 0 0]) (Box.set' (vs' := #[.slice p0n x.config.rules.rules.length c0n, .slice none 0 0, .int .i64 0, .slice none 0 0, .int .i64 0, .slice none 0 0, .slice none 0 0, .slice none 0 0, .int .i64 0, .slice none 0 0]) (HN3.out) (i := 0) (u := .slice p0n x.config.rules.rules.length c0n) rfl) (i := 1) (u := .slice p1n x.config.scoring.weights.length c1n) rfl) (i := 2) (u := .int .i64 x.config.scoring.bias) rfl) (i := 3) (u := .slice p2n x.config.survivors.length c2n) rfl).ext hE
  have HZ1 : Hid (w0.heap.size ≤ w1.heap.size) := by show _ ≤ _; have h7 := hE.size; simp at h7; omega
  replace S0 : Hid (RowO 1 RuleO (T0 0) w1 p0n x.config.rules.rules) := S0.out.keepT goodO_Rule HI0.out (B := w.heap.size + 3) (Keep.trans (by (repeat' (first | with_reducible exact Keep.refl _ _ | refine Keep.set_trans ?_ (by omega) _ _))) (Keep.of_ext hE)) (by have := HZ0.out; omega)
  replace S1 : Hid (RowO 1 IntO (T0 1) w1 p1n x.config.scoring.weights) := S1.out.keepT goodO_int HI0.out (B := w.heap.size + 3) (Keep.trans (by (repeat' (first | with_reducible exact Keep.refl _ _ | refine Keep.set_trans ?_ (by omega) _ _))) (Keep.of_ext hE)) (by have := HZ0.out; omega)
  replace S2 : Hid (RowO 1 IntO (T0 2) w1 p2n x.config.survivors) := S2.out.keepT goodO_int HI0.out (B := w.heap.size + 3) (Keep.trans (by (repeat' (first | with_reducible exact Keep.refl _ _ | refine Keep.set_trans ?_ (by omega) _ _))) (Keep.of_ext hE)) (by have := HZ0.out; omega)
  have HE' : Hid (Ext w w1) := (show Ext w w1 from by have h9 := hE; have h8 := HE.out; (repeat' (first | with_reducible assumption | with_reducible exact Below.refl _ _ | (with_reducible refine Ext.alloc' ?_ _) | (with_reducible refine Ext.drew' ?_) | (with_reducible refine Ext.drewN' ?_ _) | (with_reducible refine Ext.set_ ?_ (by first | omega | (simp; done) | (simp; omega)) _ _) | (refine Ext.trans ?_ (by with_reducible assumption)))))
  clear HN1 HN2 HN3 HE
  have HE := HE'; have HN1 := HN1'; have HN2 := HN2'; have HN3 := HN3'
  clear HE' HN1' HN2' HN3' hE
  have b1 := HN1.out; have b3 := HN3.out
  have k0 := b1.cell 0
  have k1 := b1.cell 1
  have k2 := b1.cell 2
  have k3 := b1.cell 3
  have k4 := b1.cell 4
  have k5 := b1.cell 5
  have k6 := b1.cell 6
  have k7 := b1.cell 7
  have k8 := b1.cell 8
  have k9 := b1.cell 9
  have klt := b1.lt
  simp only [List.getElem?_toArray, List.getElem?_cons_zero, List.getElem?_cons_succ] at k0 k1 k2 k3 k4 k5 k6 k7 k8 k9
  have m0 := b3.cell 0
  have mf0 := b3.free 0
  have m1 := b3.cell 1
  have mf1 := b3.free 1
  have m2 := b3.cell 2
  have mf2 := b3.free 2
  have m3 := b3.cell 3
  have mf3 := b3.free 3
  have m4 := b3.cell 4
  have mf4 := b3.free 4
  have m5 := b3.cell 5
  have mf5 := b3.free 5
  have m6 := b3.cell 6
  have mf6 := b3.free 6
  have m7 := b3.cell 7
  have mf7 := b3.free 7
  have m8 := b3.cell 8
  have mf8 := b3.free 8
  have m9 := b3.cell 9
  have mf9 := b3.free 9
  have mlt := b3.lt
  simp only [List.getElem?_toArray, List.getElem?_cons_zero, List.getElem?_cons_succ] at m0 m1 m2 m3 m4 m5 m6 m7 m8 m9
  clear b1 b3
  go_wp2_with fail
  clear k0 k1 k2 k3 k4 k5 k6 k7 k8 k9 klt
  clear m0 mf0 m1 mf1 m2 mf2 m3 mf3 m4 mf4 m5 mf5 m6 mf6 m7 mf7 m8 mf8 m9 mf9 mlt
  refine (toEntityS_own x.entities HS.out.2.2.1 p5 c5 _ (R5.out.ext good_Entity (by have h8 := HE.out; (repeat' (first | with_reducible assumption | with_reducible exact Below.refl _ _ | (with_reducible refine Ext.alloc' ?_ _) | (with_reducible refine Ext.drew' ?_) | (with_reducible refine Ext.drewN' ?_ _) | (with_reducible refine Ext.set_ ?_ (by first | omega | (simp; done) | (simp; omega)) _ _) | (refine Ext.trans ?_ (by with_reducible assumption))))))).mono ?_
  rintro e w2 ⟨p5n, c5n, rfl, r5n, hE⟩
  obtain ⟨T2, HA2, HI2, S5⟩ : ∃ T : Nat → Nat → Prop, Hid (ApartT T) ∧ Hid (InT T w1.heap.size w2.heap.size) ∧ Hid (RowO 2 EntityO (T 0) w2 p5n x.entities) := ⟨oneT (Span w1.heap.size w2.heap.size), ApartT.one _, span_in, (RowO.span goodO_Entity r5n).mono (fun c h => ⟨rfl, by simpa using h⟩)⟩
  clear r5n
  have HN1' : Hid (Box w2 w.heap.size 63 #[.slice p0 x.config.rules.rules.length c0, .slice p1 x.config.scoring.weights.length c1, .int .i64 x.config.scoring.bias, .slice p2 x.config.survivors.length c2, .int .i64 x.store.version, .slice p3 x.store.records.length c3, .slice p4 x.store.verdicts.length c4, .slice p5 x.entities.length c5, .int .i64 x.next, .slice p6 x.refused.length c6]) := (Box.setOther (Box.setOther (Box.setOther (HN1.out) (by omega) _) (by omega) _) (by omega) _).ext hE
  have HN2' : Hid (Box w2 (w.heap.size + 1) 72 #[.slice none 0 0, .slice none 0 0, .int .i64 0, .slice none 0 0, .int .i64 0, .slice none 0 0, .slice none 0 0, .slice none 0 0, .int .i64 0, .slice none 0 0]) := (Box.setOther (Box.setOther (Box.setOther (HN2.out) (by omega) _) (by omega) _) (by omega) _).ext hE
  have HN3' : Hid (Box w2 (w.heap.size + 1 + 1) 72 #[.slice p0n x.config.rules.rules.length c0n, .slice p1n x.config.scoring.weights.length c1n, .int .i64 x.config.scoring.bias, .slice p2n x.config.survivors.length c2n, .int .i64 x.store.version, .slice p3n x.store.records.length c3n, .slice p4n x.store.verdicts.length c4n, .slice none 0 0, .int .i64 0, .slice none 0 0]) := (Box.set' (vs' := #[.slice p0n x.config.rules.rules.length c0n, .slice p1n x.config.scoring.weights.length c1n, .int .i64 x.config.scoring.bias, .slice p2n x.config.survivors.length c2n, .int .i64 x.store.version, .slice p3n x.store.records.length c3n, .slice p4n x.store.verdicts.length c4n, .slice none 0 0, .int .i64 0, .slice none 0 0]) (Box.set' (vs' := #[.slice p0n x.config.rules.rules.length c0n, .slice p1n x.config.scoring.weights.length c1n, .int .i64 x.config.scoring.bias, .slice p2n x.config.survivors.length c2n, .int .i64 x.store.version, .slice p3n x.store.records.length c3n, .slice none 0 0, .slice none 0 0, .int .i64 0, .slice none 0 0]) (Box.set' (vs' := #[.slice p0n x.config.rules.rules.length c0n, .slice p1n x.config.scoring.weights.length c1n, .int .i64 x.config.scoring.bias, .slice p2n x.config.survivors.length c2n, .int .i64 x.store.version, .slice none 0 0, .slice none 0 0, .slice none 0 0, .int .i64 0, .slice none 0 0]) (HN3.out) (i := 4) (u := .int .i64 x.store.version) rfl) (i := 5) (u := .slice p3n x.store.records.length c3n) rfl) (i := 6) (u := .slice p4n x.store.verdicts.length c4n) rfl).ext hE
  have HZ2 : Hid (w1.heap.size ≤ w2.heap.size) := by show _ ≤ _; have h7 := hE.size; simp at h7; omega
  replace S0 : Hid (RowO 1 RuleO (T0 0) w2 p0n x.config.rules.rules) := S0.out.keepT goodO_Rule HI0.out (B := w.heap.size + 3) (Keep.trans (by (repeat' (first | with_reducible exact Keep.refl _ _ | refine Keep.set_trans ?_ (by omega) _ _))) (Keep.of_ext hE)) (by have := HZ0.out; have := HZ1.out; omega)
  replace S1 : Hid (RowO 1 IntO (T0 1) w2 p1n x.config.scoring.weights) := S1.out.keepT goodO_int HI0.out (B := w.heap.size + 3) (Keep.trans (by (repeat' (first | with_reducible exact Keep.refl _ _ | refine Keep.set_trans ?_ (by omega) _ _))) (Keep.of_ext hE)) (by have := HZ0.out; have := HZ1.out; omega)
  replace S2 : Hid (RowO 1 IntO (T0 2) w2 p2n x.config.survivors) := S2.out.keepT goodO_int HI0.out (B := w.heap.size + 3) (Keep.trans (by (repeat' (first | with_reducible exact Keep.refl _ _ | refine Keep.set_trans ?_ (by omega) _ _))) (Keep.of_ext hE)) (by have := HZ0.out; have := HZ1.out; omega)
  replace S3 : Hid (RowO 4 RecordO (T1 0) w2 p3n x.store.records) := S3.out.keepT goodO_Record HI1.out (B := w.heap.size + 3) (Keep.trans (by (repeat' (first | with_reducible exact Keep.refl _ _ | refine Keep.set_trans ?_ (by omega) _ _))) (Keep.of_ext hE)) (by have := HZ0.out; have := HZ1.out; omega)
  replace S4 : Hid (RowO 4 VerdictO (T1 1) w2 p4n x.store.verdicts) := S4.out.keepT goodO_Verdict HI1.out (B := w.heap.size + 3) (Keep.trans (by (repeat' (first | with_reducible exact Keep.refl _ _ | refine Keep.set_trans ?_ (by omega) _ _))) (Keep.of_ext hE)) (by have := HZ0.out; have := HZ1.out; omega)
  have HE' : Hid (Ext w w2) := (show Ext w w2 from by have h9 := hE; have h8 := HE.out; (repeat' (first | with_reducible assumption | with_reducible exact Below.refl _ _ | (with_reducible refine Ext.alloc' ?_ _) | (with_reducible refine Ext.drew' ?_) | (with_reducible refine Ext.drewN' ?_ _) | (with_reducible refine Ext.set_ ?_ (by first | omega | (simp; done) | (simp; omega)) _ _) | (refine Ext.trans ?_ (by with_reducible assumption)))))
  clear HN1 HN2 HN3 HE
  have HE := HE'; have HN1 := HN1'; have HN2 := HN2'; have HN3 := HN3'
  clear HE' HN1' HN2' HN3' hE
  have b1 := HN1.out; have b3 := HN3.out
  have k0 := b1.cell 0
  have k1 := b1.cell 1
  have k2 := b1.cell 2
  have k3 := b1.cell 3
  have k4 := b1.cell 4
  have k5 := b1.cell 5
  have k6 := b1.cell 6
  have k7 := b1.cell 7
  have k8 := b1.cell 8
  have k9 := b1.cell 9
  have klt := b1.lt
  simp only [List.getElem?_toArray, List.getElem?_cons_zero, List.getElem?_cons_succ] at k0 k1 k2 k3 k4 k5 k6 k7 k8 k9
  have m0 := b3.cell 0
  have mf0 := b3.free 0
  have m1 := b3.cell 1
  have mf1 := b3.free 1
  have m2 := b3.cell 2
  have mf2 := b3.free 2
  have m3 := b3.cell 3
  have mf3 := b3.free 3
  have m4 := b3.cell 4
  have mf4 := b3.free 4
  have m5 := b3.cell 5
  have mf5 := b3.free 5
  have m6 := b3.cell 6
  have mf6 := b3.free 6
  have m7 := b3.cell 7
  have mf7 := b3.free 7
  have m8 := b3.cell 8
  have mf8 := b3.free 8
  have m9 := b3.cell 9
  have mf9 := b3.free 9
  have mlt := b3.lt
  simp only [List.getElem?_toArray, List.getElem?_cons_zero, List.getElem?_cons_succ] at m0 m1 m2 m3 m4 m5 m6 m7 m8 m9
  clear b1 b3
  go_wp2_with fail
  clear k0 k1 k2 k3 k4 k5 k6 k7 k8 k9 klt
  clear m0 mf0 m1 mf1 m2 mf2 m3 mf3 m4 mf4 m5 mf5 m6 mf6 m7 mf7 m8 mf8 m9 mf9 mlt
  refine (toVerdictS_own x.refused HS.out.2.2.2 p6 c6 _ (R6.out.ext good_Verdict (by have h8 := HE.out; (repeat' (first | with_reducible assumption | with_reducible exact Below.refl _ _ | (with_reducible refine Ext.alloc' ?_ _) | (with_reducible refine Ext.drew' ?_) | (with_reducible refine Ext.drewN' ?_ _) | (with_reducible refine Ext.set_ ?_ (by first | omega | (simp; done) | (simp; omega)) _ _) | (refine Ext.trans ?_ (by with_reducible assumption))))))).mono ?_
  rintro e w3 ⟨p6n, c6n, rfl, r6n, hE⟩
  obtain ⟨T3, HA3, HI3, S6⟩ : ∃ T : Nat → Nat → Prop, Hid (ApartT T) ∧ Hid (InT T w2.heap.size w3.heap.size) ∧ Hid (RowO 4 VerdictO (T 0) w3 p6n x.refused) := ⟨oneT (Span w2.heap.size w3.heap.size), ApartT.one _, span_in, (RowO.span goodO_Verdict r6n).mono (fun c h => ⟨rfl, by simpa using h⟩)⟩
  clear r6n
  have HN1' : Hid (Box w3 w.heap.size 63 #[.slice p0 x.config.rules.rules.length c0, .slice p1 x.config.scoring.weights.length c1, .int .i64 x.config.scoring.bias, .slice p2 x.config.survivors.length c2, .int .i64 x.store.version, .slice p3 x.store.records.length c3, .slice p4 x.store.verdicts.length c4, .slice p5 x.entities.length c5, .int .i64 x.next, .slice p6 x.refused.length c6]) := (Box.setOther (Box.setOther (HN1.out) (by omega) _) (by omega) _).ext hE
  have HN2' : Hid (Box w3 (w.heap.size + 1) 72 #[.slice none 0 0, .slice none 0 0, .int .i64 0, .slice none 0 0, .int .i64 0, .slice none 0 0, .slice none 0 0, .slice none 0 0, .int .i64 0, .slice none 0 0]) := (Box.setOther (Box.setOther (HN2.out) (by omega) _) (by omega) _).ext hE
  have HN3' : Hid (Box w3 (w.heap.size + 1 + 1) 72 #[.slice p0n x.config.rules.rules.length c0n, .slice p1n x.config.scoring.weights.length c1n, .int .i64 x.config.scoring.bias, .slice p2n x.config.survivors.length c2n, .int .i64 x.store.version, .slice p3n x.store.records.length c3n, .slice p4n x.store.verdicts.length c4n, .slice p5n x.entities.length c5n, .int .i64 x.next, .slice none 0 0]) := (Box.set' (vs' := #[.slice p0n x.config.rules.rules.length c0n, .slice p1n x.config.scoring.weights.length c1n, .int .i64 x.config.scoring.bias, .slice p2n x.config.survivors.length c2n, .int .i64 x.store.version, .slice p3n x.store.records.length c3n, .slice p4n x.store.verdicts.length c4n, .slice p5n x.entities.length c5n, .int .i64 x.next, .slice none 0 0]) (Box.set' (vs' := #[.slice p0n x.config.rules.rules.length c0n, .slice p1n x.config.scoring.weights.length c1n, .int .i64 x.config.scoring.bias, .slice p2n x.config.survivors.length c2n, .int .i64 x.store.version, .slice p3n x.store.records.length c3n, .slice p4n x.store.verdicts.length c4n, .slice p5n x.entities.length c5n, .int .i64 0, .slice none 0 0]) (HN3.out) (i := 7) (u := .slice p5n x.entities.length c5n) rfl) (i := 8) (u := .int .i64 x.next) rfl).ext hE
  have HZ3 : Hid (w2.heap.size ≤ w3.heap.size) := by show _ ≤ _; have h7 := hE.size; simp at h7; omega
  replace S0 : Hid (RowO 1 RuleO (T0 0) w3 p0n x.config.rules.rules) := S0.out.keepT goodO_Rule HI0.out (B := w.heap.size + 3) (Keep.trans (by (repeat' (first | with_reducible exact Keep.refl _ _ | refine Keep.set_trans ?_ (by omega) _ _))) (Keep.of_ext hE)) (by have := HZ0.out; have := HZ1.out; have := HZ2.out; omega)
  replace S1 : Hid (RowO 1 IntO (T0 1) w3 p1n x.config.scoring.weights) := S1.out.keepT goodO_int HI0.out (B := w.heap.size + 3) (Keep.trans (by (repeat' (first | with_reducible exact Keep.refl _ _ | refine Keep.set_trans ?_ (by omega) _ _))) (Keep.of_ext hE)) (by have := HZ0.out; have := HZ1.out; have := HZ2.out; omega)
  replace S2 : Hid (RowO 1 IntO (T0 2) w3 p2n x.config.survivors) := S2.out.keepT goodO_int HI0.out (B := w.heap.size + 3) (Keep.trans (by (repeat' (first | with_reducible exact Keep.refl _ _ | refine Keep.set_trans ?_ (by omega) _ _))) (Keep.of_ext hE)) (by have := HZ0.out; have := HZ1.out; have := HZ2.out; omega)
  replace S3 : Hid (RowO 4 RecordO (T1 0) w3 p3n x.store.records) := S3.out.keepT goodO_Record HI1.out (B := w.heap.size + 3) (Keep.trans (by (repeat' (first | with_reducible exact Keep.refl _ _ | refine Keep.set_trans ?_ (by omega) _ _))) (Keep.of_ext hE)) (by have := HZ0.out; have := HZ1.out; have := HZ2.out; omega)
  replace S4 : Hid (RowO 4 VerdictO (T1 1) w3 p4n x.store.verdicts) := S4.out.keepT goodO_Verdict HI1.out (B := w.heap.size + 3) (Keep.trans (by (repeat' (first | with_reducible exact Keep.refl _ _ | refine Keep.set_trans ?_ (by omega) _ _))) (Keep.of_ext hE)) (by have := HZ0.out; have := HZ1.out; have := HZ2.out; omega)
  replace S5 : Hid (RowO 2 EntityO (T2 0) w3 p5n x.entities) := S5.out.keepT goodO_Entity HI2.out (B := w.heap.size + 3) (Keep.trans (by (repeat' (first | with_reducible exact Keep.refl _ _ | refine Keep.set_trans ?_ (by omega) _ _))) (Keep.of_ext hE)) (by have := HZ0.out; have := HZ1.out; have := HZ2.out; omega)
  have HE' : Hid (Ext w w3) := (show Ext w w3 from by have h9 := hE; have h8 := HE.out; (repeat' (first | with_reducible assumption | with_reducible exact Below.refl _ _ | (with_reducible refine Ext.alloc' ?_ _) | (with_reducible refine Ext.drew' ?_) | (with_reducible refine Ext.drewN' ?_ _) | (with_reducible refine Ext.set_ ?_ (by first | omega | (simp; done) | (simp; omega)) _ _) | (refine Ext.trans ?_ (by with_reducible assumption)))))
  clear HN1 HN2 HN3 HE
  have HE := HE'; have HN1 := HN1'; have HN2 := HN2'; have HN3 := HN3'
  clear HE' HN1' HN2' HN3' hE
  have b1 := HN1.out; have b2 := HN2.out; have b3 := HN3.out
  have k0 := b1.cell 0
  have k1 := b1.cell 1
  have k2 := b1.cell 2
  have k3 := b1.cell 3
  have k4 := b1.cell 4
  have k5 := b1.cell 5
  have k6 := b1.cell 6
  have k7 := b1.cell 7
  have k8 := b1.cell 8
  have k9 := b1.cell 9
  have klt := b1.lt
  simp only [List.getElem?_toArray, List.getElem?_cons_zero, List.getElem?_cons_succ] at k0 k1 k2 k3 k4 k5 k6 k7 k8 k9
  have m0 := b3.cell 0
  have mf0 := b3.free 0
  have m1 := b3.cell 1
  have mf1 := b3.free 1
  have m2 := b3.cell 2
  have mf2 := b3.free 2
  have m3 := b3.cell 3
  have mf3 := b3.free 3
  have m4 := b3.cell 4
  have mf4 := b3.free 4
  have m5 := b3.cell 5
  have mf5 := b3.free 5
  have m6 := b3.cell 6
  have mf6 := b3.free 6
  have m7 := b3.cell 7
  have mf7 := b3.free 7
  have m8 := b3.cell 8
  have mf8 := b3.free 8
  have m9 := b3.cell 9
  have mf9 := b3.free 9
  have mlt := b3.lt
  simp only [List.getElem?_toArray, List.getElem?_cons_zero, List.getElem?_cons_succ] at m0 m1 m2 m3 m4 m5 m6 m7 m8 m9
  have l0 := b2.cell 0
  have lf0 := b2.free 0
  have l1 := b2.cell 1
  have lf1 := b2.free 1
  have l2 := b2.cell 2
  have lf2 := b2.free 2
  have l3 := b2.cell 3
  have lf3 := b2.free 3
  have l4 := b2.cell 4
  have lf4 := b2.free 4
  have l5 := b2.cell 5
  have lf5 := b2.free 5
  have l6 := b2.cell 6
  have lf6 := b2.free 6
  have l7 := b2.cell 7
  have lf7 := b2.free 7
  have l8 := b2.cell 8
  have lf8 := b2.free 8
  have l9 := b2.cell 9
  have lf9 := b2.free 9
  have llt := b2.lt
  simp only [List.getElem?_toArray, List.getElem?_cons_zero, List.getElem?_cons_succ] at l0 l1 l2 l3 l4 l5 l6 l7 l8 l9
  clear b1 b2 b3
  go_wp2_with fail
  refine bodyPost_ret (v := .agg #[.slice p0n x.config.rules.rules.length c0n, .slice p1n x.config.scoring.weights.length c1n, .int .i64 x.config.scoring.bias, .slice p2n x.config.survivors.length c2n, .int .i64 x.store.version, .slice p3n x.store.records.length c3n, .slice p4n x.store.verdicts.length c4n, .slice p5n x.entities.length c5n, .int .i64 x.next, .slice p6n x.refused.length c6n]) (by simp [results, Try.results31, go_sem, m0, m1, m2, m3, m4, m5, m6, m7, m8, m9, l0, l1, l2, l3, l4, l5, l6, l7, l8, l9]) rfl ?_
  refine ⟨p0n, c0n, p1n, c1n, p2n, c2n, p3n, c3n, p4n, c4n, p5n, c5n, p6n, c6n, (joinT 3 T0 (joinT 2 T1 (joinT 1 T2 T3))), rfl, ?_, ?_, ?_, ?_, ?_, ?_, ?_, ?_, ?_, ?_⟩
  · have := HZ0.out; have := HZ1.out; have := HZ2.out; have := HZ3.out; exact (ApartT.join HA0.out (ApartT.join HA1.out (ApartT.join HA2.out HA3.out HI2.out HI3.out (by omega)) HI1.out (InT.join HI2.out HI3.out (by omega) (by omega) (by omega)) (by omega)) HI0.out (InT.join HI1.out (InT.join HI2.out HI3.out (by omega) (by omega) (by omega)) (by omega) (by omega) (by omega)) (by omega))
  · have := HZ0.out; have := HZ1.out; have := HZ2.out; have := HZ3.out; exact InT.mono (InT.join HI0.out (InT.join HI1.out (InT.join HI2.out HI3.out (by omega) (by omega) (by omega)) (by omega) (by omega) (by omega)) (by omega) (by omega) (by omega)) (by omega) (by simp)
  · refine (S0.out.keepT goodO_Rule HI0.out (B := w.heap.size + 3) (by (repeat' (first | with_reducible exact Keep.refl _ _ | refine Keep.set_trans ?_ (by omega) _ _))) (by have := HZ0.out; have := HZ1.out; have := HZ2.out; have := HZ3.out; omega)).mono (fun c h => Or.inl ⟨by decide, h⟩)
  · refine (S1.out.keepT goodO_int HI0.out (B := w.heap.size + 3) (by (repeat' (first | with_reducible exact Keep.refl _ _ | refine Keep.set_trans ?_ (by omega) _ _))) (by have := HZ0.out; have := HZ1.out; have := HZ2.out; have := HZ3.out; omega)).mono (fun c h => Or.inl ⟨by decide, h⟩)
  · refine (S2.out.keepT goodO_int HI0.out (B := w.heap.size + 3) (by (repeat' (first | with_reducible exact Keep.refl _ _ | refine Keep.set_trans ?_ (by omega) _ _))) (by have := HZ0.out; have := HZ1.out; have := HZ2.out; have := HZ3.out; omega)).mono (fun c h => Or.inl ⟨by decide, h⟩)
  · refine (S3.out.keepT goodO_Record HI1.out (B := w.heap.size + 3) (by (repeat' (first | with_reducible exact Keep.refl _ _ | refine Keep.set_trans ?_ (by omega) _ _))) (by have := HZ0.out; have := HZ1.out; have := HZ2.out; have := HZ3.out; omega)).mono (fun c h => Or.inr ⟨by decide, Or.inl ⟨by decide, h⟩⟩)
  · refine (S4.out.keepT goodO_Verdict HI1.out (B := w.heap.size + 3) (by (repeat' (first | with_reducible exact Keep.refl _ _ | refine Keep.set_trans ?_ (by omega) _ _))) (by have := HZ0.out; have := HZ1.out; have := HZ2.out; have := HZ3.out; omega)).mono (fun c h => Or.inr ⟨by decide, Or.inl ⟨by decide, h⟩⟩)
  · refine (S5.out.keepT goodO_Entity HI2.out (B := w.heap.size + 3) (by (repeat' (first | with_reducible exact Keep.refl _ _ | refine Keep.set_trans ?_ (by omega) _ _))) (by have := HZ0.out; have := HZ1.out; have := HZ2.out; have := HZ3.out; omega)).mono (fun c h => Or.inr ⟨by decide, Or.inr ⟨by decide, Or.inl ⟨by decide, h⟩⟩⟩)
  · refine (S6.out.keepT goodO_Verdict HI3.out (B := w.heap.size + 3) (by (repeat' (first | with_reducible exact Keep.refl _ _ | refine Keep.set_trans ?_ (by omega) _ _))) (by have := HZ0.out; have := HZ1.out; have := HZ2.out; have := HZ3.out; omega)).mono (fun c h => Or.inr ⟨by decide, Or.inr ⟨by decide, Or.inr ⟨by decide, h⟩⟩⟩)
  · have h8 := HE.out; (repeat' (first | with_reducible assumption | with_reducible exact Below.refl _ _ | (with_reducible refine Ext.alloc' ?_ _) | (with_reducible refine Ext.drew' ?_) | (with_reducible refine Ext.drewN' ?_ _) | (with_reducible refine Ext.set_ ?_ (by first | omega | (simp; done) | (simp; omega)) _ _) | (refine Ext.trans ?_ (by with_reducible assumption))))
def MarkedD_System (x : DSystem) (k : Int) (T : Nat → Nat → Prop) (p0 : Option Addr) (p1 : Option Addr) (p2 : Option Addr) (p3 : Option Addr) (p4 : Option Addr) (p5 : Option Addr) (p6 : Option Addr) (w : World) (e : Ending) (w' : World) : Prop := e = .returned (.int .i64 (k + (sumC cntE_Rule x.config.rules.rules : Nat) + (sumC cntOne x.config.scoring.weights : Nat) + (sumC cntOne x.config.survivors : Nat) + (sumC cntE_Record x.store.records : Nat) + (sumC cntE_Verdict x.store.verdicts : Nat) + (sumC cntE_Entity x.entities : Nat) + (sumC cntE_Verdict x.refused : Nat))) ∧ RowO 1 RuleO (T 0) w' p0 (markL markE_Rule cntE_Rule x.config.rules.rules (k)) ∧ RowO 1 IntO (T 1) w' p1 (markL markInt cntOne x.config.scoring.weights (k + (sumC cntE_Rule x.config.rules.rules : Nat))) ∧ RowO 1 IntO (T 2) w' p2 (markL markInt cntOne x.config.survivors (k + (sumC cntE_Rule x.config.rules.rules : Nat) + (sumC cntOne x.config.scoring.weights : Nat))) ∧ RowO 4 RecordO (T 3) w' p3 (markL markE_Record cntE_Record x.store.records (k + (sumC cntE_Rule x.config.rules.rules : Nat) + (sumC cntOne x.config.scoring.weights : Nat) + (sumC cntOne x.config.survivors : Nat))) ∧ RowO 4 VerdictO (T 4) w' p4 (markL markE_Verdict cntE_Verdict x.store.verdicts (k + (sumC cntE_Rule x.config.rules.rules : Nat) + (sumC cntOne x.config.scoring.weights : Nat) + (sumC cntOne x.config.survivors : Nat) + (sumC cntE_Record x.store.records : Nat))) ∧ RowO 2 EntityO (T 5) w' p5 (markL markE_Entity cntE_Entity x.entities (k + (sumC cntE_Rule x.config.rules.rules : Nat) + (sumC cntOne x.config.scoring.weights : Nat) + (sumC cntOne x.config.survivors : Nat) + (sumC cntE_Record x.store.records : Nat) + (sumC cntE_Verdict x.store.verdicts : Nat))) ∧ RowO 4 VerdictO (T 6) w' p6 (markL markE_Verdict cntE_Verdict x.refused (k + (sumC cntE_Rule x.config.rules.rules : Nat) + (sumC cntOne x.config.scoring.weights : Nat) + (sumC cntOne x.config.survivors : Nat) + (sumC cntE_Record x.store.records : Nat) + (sumC cntE_Verdict x.store.verdicts : Nat) + (sumC cntE_Entity x.entities : Nat))) ∧ Chg (someT 7 T) w w'
set_option maxRecDepth 8000 in
set_option maxHeartbeats 3200000 in
theorem markSystem_rows (x : DSystem) (k : Int) (hk : 1 ≤ k) (hb : k + (sumC cntE_Rule x.config.rules.rules : Nat) + (sumC cntOne x.config.scoring.weights : Nat) + (sumC cntOne x.config.survivors : Nat) + (sumC cntE_Record x.store.records : Nat) + (sumC cntE_Verdict x.store.verdicts : Nat) + (sumC cntE_Entity x.entities : Nat) + (sumC cntE_Verdict x.refused : Nat) ≤ 9223372036854775806) (T : Nat → Nat → Prop) (hT : ApartT T) (p0 : Option Addr) (c0 : Nat) (p1 : Option Addr) (c1 : Nat) (p2 : Option Addr) (c2 : Nat) (p3 : Option Addr) (c3 : Nat) (p4 : Option Addr) (c4 : Nat) (p5 : Option Addr) (c5 : Nat) (p6 : Option Addr) (c6 : Nat) (w : World) (hl : ∀ i c, T i c → c < w.heap.size) (r0 : RowO 1 RuleO (T 0) w p0 x.config.rules.rules) (r1 : RowO 1 IntO (T 1) w p1 x.config.scoring.weights) (r2 : RowO 1 IntO (T 2) w p2 x.config.survivors) (r3 : RowO 4 RecordO (T 3) w p3 x.store.records) (r4 : RowO 4 VerdictO (T 4) w p4 x.store.verdicts) (r5 : RowO 2 EntityO (T 5) w p5 x.entities) (r6 : RowO 4 VerdictO (T 6) w p6 x.refused) :
    Calls Try.prog 37 #[.agg #[.slice p0 x.config.rules.rules.length c0, .slice p1 x.config.scoring.weights.length c1, .int .i64 x.config.scoring.bias, .slice p2 x.config.survivors.length c2, .int .i64 x.store.version, .slice p3 x.store.records.length c3, .slice p4 x.store.verdicts.length c4, .slice p5 x.entities.length c5, .int .i64 x.next, .slice p6 x.refused.length c6], .int .i64 k] w (MarkedD_System x k T p0 p1 p2 p3 p4 p5 p6 w) := by
  have HB := Lib.hid (Box.new w 72 #[.slice p0 x.config.rules.rules.length c0, .slice p1 x.config.scoring.weights.length c1, .int .i64 x.config.scoring.bias, .slice p2 x.config.survivors.length c2, .int .i64 x.store.version, .slice p3 x.store.records.length c3, .slice p4 x.store.verdicts.length c4, .slice p5 x.entities.length c5, .int .i64 x.next, .slice p6 x.refused.length c6])
  have HC : Hid (Chg (someT 7 T) w (w.alloc (.cells #[.slice p0 x.config.rules.rules.length c0, .slice p1 x.config.scoring.weights.length c1, .int .i64 x.config.scoring.bias, .slice p2 x.config.survivors.length c2, .int .i64 x.store.version, .slice p3 x.store.records.length c3, .slice p4 x.store.verdicts.length c4, .slice p5 x.entities.length c5, .int .i64 x.next, .slice p6 x.refused.length c6] 72))) := Chg.of_ext (Ext.alloc _ _)
  have R0 := Lib.hid (r0.ext goodO_Rule (Ext.alloc w (.cells #[.slice p0 x.config.rules.rules.length c0, .slice p1 x.config.scoring.weights.length c1, .int .i64 x.config.scoring.bias, .slice p2 x.config.survivors.length c2, .int .i64 x.store.version, .slice p3 x.store.records.length c3, .slice p4 x.store.verdicts.length c4, .slice p5 x.entities.length c5, .int .i64 x.next, .slice p6 x.refused.length c6] 72)))
  have R1 := Lib.hid (r1.ext goodO_int (Ext.alloc w (.cells #[.slice p0 x.config.rules.rules.length c0, .slice p1 x.config.scoring.weights.length c1, .int .i64 x.config.scoring.bias, .slice p2 x.config.survivors.length c2, .int .i64 x.store.version, .slice p3 x.store.records.length c3, .slice p4 x.store.verdicts.length c4, .slice p5 x.entities.length c5, .int .i64 x.next, .slice p6 x.refused.length c6] 72)))
  have R2 := Lib.hid (r2.ext goodO_int (Ext.alloc w (.cells #[.slice p0 x.config.rules.rules.length c0, .slice p1 x.config.scoring.weights.length c1, .int .i64 x.config.scoring.bias, .slice p2 x.config.survivors.length c2, .int .i64 x.store.version, .slice p3 x.store.records.length c3, .slice p4 x.store.verdicts.length c4, .slice p5 x.entities.length c5, .int .i64 x.next, .slice p6 x.refused.length c6] 72)))
  have R3 := Lib.hid (r3.ext goodO_Record (Ext.alloc w (.cells #[.slice p0 x.config.rules.rules.length c0, .slice p1 x.config.scoring.weights.length c1, .int .i64 x.config.scoring.bias, .slice p2 x.config.survivors.length c2, .int .i64 x.store.version, .slice p3 x.store.records.length c3, .slice p4 x.store.verdicts.length c4, .slice p5 x.entities.length c5, .int .i64 x.next, .slice p6 x.refused.length c6] 72)))
  have R4 := Lib.hid (r4.ext goodO_Verdict (Ext.alloc w (.cells #[.slice p0 x.config.rules.rules.length c0, .slice p1 x.config.scoring.weights.length c1, .int .i64 x.config.scoring.bias, .slice p2 x.config.survivors.length c2, .int .i64 x.store.version, .slice p3 x.store.records.length c3, .slice p4 x.store.verdicts.length c4, .slice p5 x.entities.length c5, .int .i64 x.next, .slice p6 x.refused.length c6] 72)))
  have R5 := Lib.hid (r5.ext goodO_Entity (Ext.alloc w (.cells #[.slice p0 x.config.rules.rules.length c0, .slice p1 x.config.scoring.weights.length c1, .int .i64 x.config.scoring.bias, .slice p2 x.config.survivors.length c2, .int .i64 x.store.version, .slice p3 x.store.records.length c3, .slice p4 x.store.verdicts.length c4, .slice p5 x.entities.length c5, .int .i64 x.next, .slice p6 x.refused.length c6] 72)))
  have R6 := Lib.hid (r6.ext goodO_Verdict (Ext.alloc w (.cells #[.slice p0 x.config.rules.rules.length c0, .slice p1 x.config.scoring.weights.length c1, .int .i64 x.config.scoring.bias, .slice p2 x.config.survivors.length c2, .int .i64 x.store.version, .slice p3 x.store.records.length c3, .slice p4 x.store.verdicts.length c4, .slice p5 x.entities.length c5, .int .i64 x.next, .slice p6 x.refused.length c6] 72)))
  have HT := Lib.hid hT; have HL := Lib.hid hl
  clear hT hl r0 r1 r2 r3 r4 r5 r6
  go_enter Try.func37, Try.ntmps37
  go_wp2_with fail
  refine (markConfig_rows x.config (k) (by omega) (by omega) (shiftT 0 T) (HT.out.shift 0) p0 c0 p1 c1 p2 c2 _ (fun i c h => Nat.lt_of_lt_of_le (HL.out _ c h) HC.out.size) R0.out R1.out R2.out).mono ?_
  rintro e w1 ⟨rfl, hr0, hr1, hr2, hC⟩
  have M0 : Hid (RowO 1 RuleO (T 0) w1 p0 (markL markE_Rule cntE_Rule x.config.rules.rules (k))) := hr0
  have M1 : Hid (RowO 1 IntO (T 1) w1 p1 (markL markInt cntOne x.config.scoring.weights (k + (sumC cntE_Rule x.config.rules.rules : Nat)))) := hr1
  have M2 : Hid (RowO 1 IntO (T 2) w1 p2 (markL markInt cntOne x.config.survivors (k + (sumC cntE_Rule x.config.rules.rules : Nat) + (sumC cntOne x.config.scoring.weights : Nat)))) := hr2
  replace R3 := Lib.hid (R3.out.chg goodO_Record hC (fun c h1 ⟨i, hi, h2⟩ => HT.out 3 (0 + i) c (by omega) h1 h2))
  replace R4 := Lib.hid (R4.out.chg goodO_Verdict hC (fun c h1 ⟨i, hi, h2⟩ => HT.out 4 (0 + i) c (by omega) h1 h2))
  replace R5 := Lib.hid (R5.out.chg goodO_Entity hC (fun c h1 ⟨i, hi, h2⟩ => HT.out 5 (0 + i) c (by omega) h1 h2))
  replace R6 := Lib.hid (R6.out.chg goodO_Verdict hC (fun c h1 ⟨i, hi, h2⟩ => HT.out 6 (0 + i) c (by omega) h1 h2))
  replace HB := Lib.hid (HB.out.chg hC (fun ⟨i, hi, h⟩ => Nat.lt_irrefl _ (HL.out _ _ h)))
  replace HC := Lib.hid (HC.out.trans (hC.mono (fun c ⟨i, hi, h⟩ => ⟨0 + i, by omega, h⟩)))
  clear hC hr0 R0 hr1 R1 hr2 R2
  have hbx := HB.out
  have k0 := hbx.cell 0
  have k1 := hbx.cell 1
  have k2 := hbx.cell 2
  have k3 := hbx.cell 3
  have k4 := hbx.cell 4
  have k5 := hbx.cell 5
  have k6 := hbx.cell 6
  have k7 := hbx.cell 7
  have k8 := hbx.cell 8
  have k9 := hbx.cell 9
  have klt := hbx.lt
  simp only [List.getElem?_toArray, List.getElem?_cons_zero, List.getElem?_cons_succ] at k0 k1 k2 k3 k4 k5 k6 k7 k8 k9
  clear hbx
  go_wp2_with fail
  clear k0 k1 k2 k3 k4 k5 k6 k7 k8 k9 klt
  refine (markStore_rows x.store (k + (sumC cntE_Rule x.config.rules.rules : Nat) + (sumC cntOne x.config.scoring.weights : Nat) + (sumC cntOne x.config.survivors : Nat)) (by omega) (by omega) (shiftT 3 T) (HT.out.shift 3) p3 c3 p4 c4 _ (fun i c h => Nat.lt_of_lt_of_le (HL.out _ c h) HC.out.size) R3.out R4.out).mono ?_
  rintro e w2 ⟨rfl, hr3, hr4, hC⟩
  replace M0 := Lib.hid (M0.out.chg goodO_Rule hC (fun c h1 ⟨i, hi, h2⟩ => HT.out 0 (3 + i) c (by omega) h1 h2))
  replace M1 := Lib.hid (M1.out.chg goodO_int hC (fun c h1 ⟨i, hi, h2⟩ => HT.out 1 (3 + i) c (by omega) h1 h2))
  replace M2 := Lib.hid (M2.out.chg goodO_int hC (fun c h1 ⟨i, hi, h2⟩ => HT.out 2 (3 + i) c (by omega) h1 h2))
  have M3 : Hid (RowO 4 RecordO (T 3) w2 p3 (markL markE_Record cntE_Record x.store.records (k + (sumC cntE_Rule x.config.rules.rules : Nat) + (sumC cntOne x.config.scoring.weights : Nat) + (sumC cntOne x.config.survivors : Nat)))) := hr3
  have M4 : Hid (RowO 4 VerdictO (T 4) w2 p4 (markL markE_Verdict cntE_Verdict x.store.verdicts (k + (sumC cntE_Rule x.config.rules.rules : Nat) + (sumC cntOne x.config.scoring.weights : Nat) + (sumC cntOne x.config.survivors : Nat) + (sumC cntE_Record x.store.records : Nat)))) := hr4
  replace R5 := Lib.hid (R5.out.chg goodO_Entity hC (fun c h1 ⟨i, hi, h2⟩ => HT.out 5 (3 + i) c (by omega) h1 h2))
  replace R6 := Lib.hid (R6.out.chg goodO_Verdict hC (fun c h1 ⟨i, hi, h2⟩ => HT.out 6 (3 + i) c (by omega) h1 h2))
  replace HB := Lib.hid (HB.out.chg hC (fun ⟨i, hi, h⟩ => Nat.lt_irrefl _ (HL.out _ _ h)))
  replace HC := Lib.hid (HC.out.trans (hC.mono (fun c ⟨i, hi, h⟩ => ⟨3 + i, by omega, h⟩)))
  clear hC hr3 R3 hr4 R4
  have hbx := HB.out
  have k0 := hbx.cell 0
  have k1 := hbx.cell 1
  have k2 := hbx.cell 2
  have k3 := hbx.cell 3
  have k4 := hbx.cell 4
  have k5 := hbx.cell 5
  have k6 := hbx.cell 6
  have k7 := hbx.cell 7
  have k8 := hbx.cell 8
  have k9 := hbx.cell 9
  have klt := hbx.lt
  simp only [List.getElem?_toArray, List.getElem?_cons_zero, List.getElem?_cons_succ] at k0 k1 k2 k3 k4 k5 k6 k7 k8 k9
  clear hbx
  go_wp2_with fail
  clear k0 k1 k2 k3 k4 k5 k6 k7 k8 k9 klt
  refine (markEntityS_any x.entities (k + (sumC cntE_Rule x.config.rules.rules : Nat) + (sumC cntOne x.config.scoring.weights : Nat) + (sumC cntOne x.config.survivors : Nat) + (sumC cntE_Record x.store.records : Nat) + (sumC cntE_Verdict x.store.verdicts : Nat)) (by omega) (by omega) (T 5) p5 c5 _ R5.out).mono ?_
  rintro e w3 ⟨rfl, hr5, hC⟩
  replace M0 := Lib.hid (M0.out.chg goodO_Rule hC (fun c h1 h2 => HT.out 0 5 c (by decide) h1 h2))
  replace M1 := Lib.hid (M1.out.chg goodO_int hC (fun c h1 h2 => HT.out 1 5 c (by decide) h1 h2))
  replace M2 := Lib.hid (M2.out.chg goodO_int hC (fun c h1 h2 => HT.out 2 5 c (by decide) h1 h2))
  replace M3 := Lib.hid (M3.out.chg goodO_Record hC (fun c h1 h2 => HT.out 3 5 c (by decide) h1 h2))
  replace M4 := Lib.hid (M4.out.chg goodO_Verdict hC (fun c h1 h2 => HT.out 4 5 c (by decide) h1 h2))
  have M5 : Hid (RowO 2 EntityO (T 5) w3 p5 (markL markE_Entity cntE_Entity x.entities (k + (sumC cntE_Rule x.config.rules.rules : Nat) + (sumC cntOne x.config.scoring.weights : Nat) + (sumC cntOne x.config.survivors : Nat) + (sumC cntE_Record x.store.records : Nat) + (sumC cntE_Verdict x.store.verdicts : Nat)))) := hr5
  replace R6 := Lib.hid (R6.out.chg goodO_Verdict hC (fun c h1 h2 => HT.out 6 5 c (by decide) h1 h2))
  replace HB := Lib.hid (HB.out.chg hC (fun h => Nat.lt_irrefl _ (HL.out _ _ h)))
  replace HC := Lib.hid (HC.out.trans (hC.mono (fun c h => ⟨5, by decide, h⟩)))
  clear hC hr5 R5
  have hbx := HB.out
  have k0 := hbx.cell 0
  have k1 := hbx.cell 1
  have k2 := hbx.cell 2
  have k3 := hbx.cell 3
  have k4 := hbx.cell 4
  have k5 := hbx.cell 5
  have k6 := hbx.cell 6
  have k7 := hbx.cell 7
  have k8 := hbx.cell 8
  have k9 := hbx.cell 9
  have klt := hbx.lt
  simp only [List.getElem?_toArray, List.getElem?_cons_zero, List.getElem?_cons_succ] at k0 k1 k2 k3 k4 k5 k6 k7 k8 k9
  clear hbx
  go_wp2_with fail
  clear k0 k1 k2 k3 k4 k5 k6 k7 k8 k9 klt
  refine (markVerdictS_any x.refused (k + (sumC cntE_Rule x.config.rules.rules : Nat) + (sumC cntOne x.config.scoring.weights : Nat) + (sumC cntOne x.config.survivors : Nat) + (sumC cntE_Record x.store.records : Nat) + (sumC cntE_Verdict x.store.verdicts : Nat) + (sumC cntE_Entity x.entities : Nat)) (by omega) (by omega) (T 6) p6 c6 _ R6.out).mono ?_
  rintro e w4 ⟨rfl, hr6, hC⟩
  replace M0 := Lib.hid (M0.out.chg goodO_Rule hC (fun c h1 h2 => HT.out 0 6 c (by decide) h1 h2))
  replace M1 := Lib.hid (M1.out.chg goodO_int hC (fun c h1 h2 => HT.out 1 6 c (by decide) h1 h2))
  replace M2 := Lib.hid (M2.out.chg goodO_int hC (fun c h1 h2 => HT.out 2 6 c (by decide) h1 h2))
  replace M3 := Lib.hid (M3.out.chg goodO_Record hC (fun c h1 h2 => HT.out 3 6 c (by decide) h1 h2))
  replace M4 := Lib.hid (M4.out.chg goodO_Verdict hC (fun c h1 h2 => HT.out 4 6 c (by decide) h1 h2))
  replace M5 := Lib.hid (M5.out.chg goodO_Entity hC (fun c h1 h2 => HT.out 5 6 c (by decide) h1 h2))
  have M6 : Hid (RowO 4 VerdictO (T 6) w4 p6 (markL markE_Verdict cntE_Verdict x.refused (k + (sumC cntE_Rule x.config.rules.rules : Nat) + (sumC cntOne x.config.scoring.weights : Nat) + (sumC cntOne x.config.survivors : Nat) + (sumC cntE_Record x.store.records : Nat) + (sumC cntE_Verdict x.store.verdicts : Nat) + (sumC cntE_Entity x.entities : Nat)))) := hr6
  replace HB := Lib.hid (HB.out.chg hC (fun h => Nat.lt_irrefl _ (HL.out _ _ h)))
  replace HC := Lib.hid (HC.out.trans (hC.mono (fun c h => ⟨6, by decide, h⟩)))
  clear hC hr6 R6
  have hbx := HB.out
  have k0 := hbx.cell 0
  have k1 := hbx.cell 1
  have k2 := hbx.cell 2
  have k3 := hbx.cell 3
  have k4 := hbx.cell 4
  have k5 := hbx.cell 5
  have k6 := hbx.cell 6
  have k7 := hbx.cell 7
  have k8 := hbx.cell 8
  have k9 := hbx.cell 9
  have klt := hbx.lt
  simp only [List.getElem?_toArray, List.getElem?_cons_zero, List.getElem?_cons_succ] at k0 k1 k2 k3 k4 k5 k6 k7 k8 k9
  clear hbx
  go_wp2_with fail
  go_ret
  exact ⟨rfl, M0.out, M1.out, M2.out, M3.out, M4.out, M5.out, M6.out, HC.out⟩

set_option maxRecDepth 8000 in
set_option maxHeartbeats 3200000 in
theorem heldSystem_rows (x : DSystem) (k : Int) (hk : 1 ≤ k) (hb : k + (sumC cntE_Rule x.config.rules.rules : Nat) + (sumC cntOne x.config.scoring.weights : Nat) + (sumC cntOne x.config.survivors : Nat) + (sumC cntE_Record x.store.records : Nat) + (sumC cntE_Verdict x.store.verdicts : Nat) + (sumC cntE_Entity x.entities : Nat) + (sumC cntE_Verdict x.refused : Nat) ≤ 9223372036854775806) (B : Nat) (p0 : Option Addr) (c0 : Nat) (p1 : Option Addr) (c1 : Nat) (p2 : Option Addr) (c2 : Nat) (p3 : Option Addr) (c3 : Nat) (p4 : Option Addr) (c4 : Nat) (p5 : Option Addr) (c5 : Nat) (p6 : Option Addr) (c6 : Nat) (w : World) (r0 : RowR 1 RuleR B w p0 (markL markE_Rule cntE_Rule x.config.rules.rules (k))) (r1 : RowR 1 IntR B w p1 (markL markInt cntOne x.config.scoring.weights (k + (sumC cntE_Rule x.config.rules.rules : Nat)))) (r2 : RowR 1 IntR B w p2 (markL markInt cntOne x.config.survivors (k + (sumC cntE_Rule x.config.rules.rules : Nat) + (sumC cntOne x.config.scoring.weights : Nat)))) (r3 : RowR 4 RecordR B w p3 (markL markE_Record cntE_Record x.store.records (k + (sumC cntE_Rule x.config.rules.rules : Nat) + (sumC cntOne x.config.scoring.weights : Nat) + (sumC cntOne x.config.survivors : Nat)))) (r4 : RowR 4 VerdictR B w p4 (markL markE_Verdict cntE_Verdict x.store.verdicts (k + (sumC cntE_Rule x.config.rules.rules : Nat) + (sumC cntOne x.config.scoring.weights : Nat) + (sumC cntOne x.config.survivors : Nat) + (sumC cntE_Record x.store.records : Nat)))) (r5 : RowR 2 EntityR B w p5 (markL markE_Entity cntE_Entity x.entities (k + (sumC cntE_Rule x.config.rules.rules : Nat) + (sumC cntOne x.config.scoring.weights : Nat) + (sumC cntOne x.config.survivors : Nat) + (sumC cntE_Record x.store.records : Nat) + (sumC cntE_Verdict x.store.verdicts : Nat)))) (r6 : RowR 4 VerdictR B w p6 (markL markE_Verdict cntE_Verdict x.refused (k + (sumC cntE_Rule x.config.rules.rules : Nat) + (sumC cntOne x.config.scoring.weights : Nat) + (sumC cntOne x.config.survivors : Nat) + (sumC cntE_Record x.store.records : Nat) + (sumC cntE_Verdict x.store.verdicts : Nat) + (sumC cntE_Entity x.entities : Nat)))) :
    Calls Try.prog 38 #[.agg #[.slice p0 x.config.rules.rules.length c0, .slice p1 x.config.scoring.weights.length c1, .int .i64 x.config.scoring.bias, .slice p2 x.config.survivors.length c2, .int .i64 x.store.version, .slice p3 x.store.records.length c3, .slice p4 x.store.verdicts.length c4, .slice p5 x.entities.length c5, .int .i64 x.next, .slice p6 x.refused.length c6], .int .i64 k] w (fun e w' => e = .returned (.int .i64 (k + (sumC cntE_Rule x.config.rules.rules : Nat) + (sumC cntOne x.config.scoring.weights : Nat) + (sumC cntOne x.config.survivors : Nat) + (sumC cntE_Record x.store.records : Nat) + (sumC cntE_Verdict x.store.verdicts : Nat) + (sumC cntE_Entity x.entities : Nat) + (sumC cntE_Verdict x.refused : Nat))) ∧ Ext w w') := by
  have HB := Lib.hid (Box.new w 72 #[.slice p0 x.config.rules.rules.length c0, .slice p1 x.config.scoring.weights.length c1, .int .i64 x.config.scoring.bias, .slice p2 x.config.survivors.length c2, .int .i64 x.store.version, .slice p3 x.store.records.length c3, .slice p4 x.store.verdicts.length c4, .slice p5 x.entities.length c5, .int .i64 x.next, .slice p6 x.refused.length c6])
  have HE := Lib.hid (Ext.alloc w (.cells #[.slice p0 x.config.rules.rules.length c0, .slice p1 x.config.scoring.weights.length c1, .int .i64 x.config.scoring.bias, .slice p2 x.config.survivors.length c2, .int .i64 x.store.version, .slice p3 x.store.records.length c3, .slice p4 x.store.verdicts.length c4, .slice p5 x.entities.length c5, .int .i64 x.next, .slice p6 x.refused.length c6] 72))
  have R0 := Lib.hid (r0.ext good_Rule HE.out)
  have R1 := Lib.hid (r1.ext good_int HE.out)
  have R2 := Lib.hid (r2.ext good_int HE.out)
  have R3 := Lib.hid (r3.ext good_Record HE.out)
  have R4 := Lib.hid (r4.ext good_Verdict HE.out)
  have R5 := Lib.hid (r5.ext good_Entity HE.out)
  have R6 := Lib.hid (r6.ext good_Verdict HE.out)
  clear r0 r1 r2 r3 r4 r5 r6
  go_enter Try.func38, Try.ntmps38
  go_wp2_with fail
  refine (heldConfig_rows x.config (k) (by omega) (by omega) B p0 c0 p1 c1 p2 c2 _ R0.out R1.out R2.out).mono ?_
  rintro e w1 ⟨rfl, hE⟩
  replace R3 := Lib.hid (R3.out.ext good_Record hE)
  replace R4 := Lib.hid (R4.out.ext good_Verdict hE)
  replace R5 := Lib.hid (R5.out.ext good_Entity hE)
  replace R6 := Lib.hid (R6.out.ext good_Verdict hE)
  replace HB := Lib.hid (HB.out.ext hE); replace HE := Lib.hid (HE.out.trans hE)
  clear hE R0 R1 R2
  have hge0 : ¬ k + (sumC cntE_Rule x.config.rules.rules : Nat) + (sumC cntOne x.config.scoring.weights : Nat) + (sumC cntOne x.config.survivors : Nat) < 0 := by omega
  have hbx := HB.out
  have k0 := hbx.cell 0
  have k1 := hbx.cell 1
  have k2 := hbx.cell 2
  have k3 := hbx.cell 3
  have k4 := hbx.cell 4
  have k5 := hbx.cell 5
  have k6 := hbx.cell 6
  have k7 := hbx.cell 7
  have k8 := hbx.cell 8
  have k9 := hbx.cell 9
  have klt := hbx.lt
  simp only [List.getElem?_toArray, List.getElem?_cons_zero, List.getElem?_cons_succ] at k0 k1 k2 k3 k4 k5 k6 k7 k8 k9
  clear hbx
  go_wp2_with fail
  clear k0 k1 k2 k3 k4 k5 k6 k7 k8 k9 klt
  refine (heldStore_rows x.store (k + (sumC cntE_Rule x.config.rules.rules : Nat) + (sumC cntOne x.config.scoring.weights : Nat) + (sumC cntOne x.config.survivors : Nat)) (by omega) (by omega) B p3 c3 p4 c4 _ R3.out R4.out).mono ?_
  rintro e w2 ⟨rfl, hE⟩
  replace R5 := Lib.hid (R5.out.ext good_Entity hE)
  replace R6 := Lib.hid (R6.out.ext good_Verdict hE)
  replace HB := Lib.hid (HB.out.ext hE); replace HE := Lib.hid (HE.out.trans hE)
  clear hE R3 R4
  have hge1 : ¬ k + (sumC cntE_Rule x.config.rules.rules : Nat) + (sumC cntOne x.config.scoring.weights : Nat) + (sumC cntOne x.config.survivors : Nat) + (sumC cntE_Record x.store.records : Nat) + (sumC cntE_Verdict x.store.verdicts : Nat) < 0 := by omega
  have hbx := HB.out
  have k0 := hbx.cell 0
  have k1 := hbx.cell 1
  have k2 := hbx.cell 2
  have k3 := hbx.cell 3
  have k4 := hbx.cell 4
  have k5 := hbx.cell 5
  have k6 := hbx.cell 6
  have k7 := hbx.cell 7
  have k8 := hbx.cell 8
  have k9 := hbx.cell 9
  have klt := hbx.lt
  simp only [List.getElem?_toArray, List.getElem?_cons_zero, List.getElem?_cons_succ] at k0 k1 k2 k3 k4 k5 k6 k7 k8 k9
  clear hbx
  go_wp2_with fail
  clear k0 k1 k2 k3 k4 k5 k6 k7 k8 k9 klt
  refine (heldEntityS_any x.entities (k + (sumC cntE_Rule x.config.rules.rules : Nat) + (sumC cntOne x.config.scoring.weights : Nat) + (sumC cntOne x.config.survivors : Nat) + (sumC cntE_Record x.store.records : Nat) + (sumC cntE_Verdict x.store.verdicts : Nat)) (by omega) (by omega) B p5 c5 _ R5.out).mono ?_
  rintro e w3 ⟨rfl, hE⟩
  replace R6 := Lib.hid (R6.out.ext good_Verdict hE)
  replace HB := Lib.hid (HB.out.ext hE); replace HE := Lib.hid (HE.out.trans hE)
  clear hE R5
  have hge2 : ¬ k + (sumC cntE_Rule x.config.rules.rules : Nat) + (sumC cntOne x.config.scoring.weights : Nat) + (sumC cntOne x.config.survivors : Nat) + (sumC cntE_Record x.store.records : Nat) + (sumC cntE_Verdict x.store.verdicts : Nat) + (sumC cntE_Entity x.entities : Nat) < 0 := by omega
  have hbx := HB.out
  have k0 := hbx.cell 0
  have k1 := hbx.cell 1
  have k2 := hbx.cell 2
  have k3 := hbx.cell 3
  have k4 := hbx.cell 4
  have k5 := hbx.cell 5
  have k6 := hbx.cell 6
  have k7 := hbx.cell 7
  have k8 := hbx.cell 8
  have k9 := hbx.cell 9
  have klt := hbx.lt
  simp only [List.getElem?_toArray, List.getElem?_cons_zero, List.getElem?_cons_succ] at k0 k1 k2 k3 k4 k5 k6 k7 k8 k9
  clear hbx
  go_wp2_with fail
  clear k0 k1 k2 k3 k4 k5 k6 k7 k8 k9 klt
  refine (heldVerdictS_any x.refused (k + (sumC cntE_Rule x.config.rules.rules : Nat) + (sumC cntOne x.config.scoring.weights : Nat) + (sumC cntOne x.config.survivors : Nat) + (sumC cntE_Record x.store.records : Nat) + (sumC cntE_Verdict x.store.verdicts : Nat) + (sumC cntE_Entity x.entities : Nat)) (by omega) (by omega) B p6 c6 _ R6.out).mono ?_
  rintro e w4 ⟨rfl, hE⟩
  replace HB := Lib.hid (HB.out.ext hE); replace HE := Lib.hid (HE.out.trans hE)
  clear hE R6
  have hge3 : ¬ k + (sumC cntE_Rule x.config.rules.rules : Nat) + (sumC cntOne x.config.scoring.weights : Nat) + (sumC cntOne x.config.survivors : Nat) + (sumC cntE_Record x.store.records : Nat) + (sumC cntE_Verdict x.store.verdicts : Nat) + (sumC cntE_Entity x.entities : Nat) + (sumC cntE_Verdict x.refused : Nat) < 0 := by omega
  go_wp2_with fail
  go_ret
  exact ⟨rfl, HE.out⟩
end Go.Proofs.Ytdgpbgpapcldeaa
