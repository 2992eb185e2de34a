/- The type Config as owned data: several rows. -/
import Derived.Test.YtdgpbgpapcldeaaCLib
import Derived.Test.YtdgpbgpapcldeaaKConfig
import Derived.Test.YtdgpbgpapcldeaaMIntS
import Derived.Test.YtdgpbgpapcldeaaNRuleSet
import Derived.Test.YtdgpbgpapcldeaaNScoring
set_option linter.unusedVariables false
set_option linter.unusedSimpArgs false
namespace Go.Proofs.Ytdgpbgpapcldeaa
open Go.RowKit Go.Er Go.BigFrame
/-- A datum of type Config in new memory, each of its rows apart. -/
def MadeD_Config (w : World) (x : DConfig) (e : Ending) (w' : World) : Prop := ∃ (p0 : Option Addr) (c0 : Nat) (p1 : Option Addr) (c1 : Nat) (p2 : Option Addr) (c2 : Nat) (T : Nat → Nat → Prop), e = .returned (.agg #[.slice p0 x.rules.rules.length c0, .slice p1 x.scoring.weights.length c1, .int .i64 x.scoring.bias, .slice p2 x.survivors.length c2]) ∧ ApartT T ∧ InT T w.heap.size w'.heap.size ∧ RowO 1 RuleO (T 0) w' p0 x.rules.rules ∧ RowO 1 IntO (T 1) w' p1 x.scoring.weights ∧ RowO 1 IntO (T 2) w' p2 x.survivors ∧ Ext w w'
/-- The rows of a datum of type Config. -/
structure RowsConfig (x : DConfig) (T : Nat → Nat → Prop) (p0 : Option Addr) (p1 : Option Addr) (p2 : Option Addr) (w : World) : Prop where
  r0 : RowO 1 RuleO (T 0) w p0 x.rules.rules
  r1 : RowO 1 IntO (T 1) w p1 x.scoring.weights
  r2 : RowO 1 IntO (T 2) w p2 x.survivors
theorem RowsConfig.chg {x : DConfig} {T : Nat → Nat → Prop} {p0 p1 p2 : Option Addr} {w w' : World} {S : Nat → Prop} (h : RowsConfig x T p0 p1 p2 w) (hC : Chg S w w') (hd : ∀ i c, T i c → ¬ S c) : RowsConfig x T p0 p1 p2 w' :=
  ⟨h.r0.chg goodO_Rule hC (hd 0), h.r1.chg goodO_int hC (hd 1), h.r2.chg goodO_int hC (hd 2)⟩
theorem RowsConfig.ext {x : DConfig} {T : Nat → Nat → Prop} {p0 p1 p2 : Option Addr} {w w' : World} (h : RowsConfig x T p0 p1 p2 w) (hE : Ext w w') : RowsConfig x T p0 p1 p2 w' :=
  ⟨h.r0.ext goodO_Rule hE, h.r1.ext goodO_int hE, h.r2.ext goodO_int hE⟩
theorem RowsConfig.read {x : DConfig} {T : Nat → Nat → Prop} {p0 p1 p2 : Option Addr} {w : World} (h : RowsConfig x T p0 p1 p2 w) (c0 c1 c2 : Nat) : ConfigR 0 w [.slice p0 x.rules.rules.length c0, .slice p1 x.scoring.weights.length c1, .int .i64 x.scoring.bias, .slice p2 x.survivors.length c2] x :=
  ⟨p0, c0, p1, c1, p2, c2, rfl, h.r0.rel goodO_Rule (fun _ _ => Nat.zero_le _), h.r1.rel goodO_int (fun _ _ => Nat.zero_le _), h.r2.rel goodO_int (fun _ _ => Nat.zero_le _)⟩

set_option maxRecDepth 8000 in
set_option maxHeartbeats 3200000 in
theorem toConfig_rows (x : DConfig) (hs : SmallConfig x) (vs : List Value) (w : World) (h : ConfigR 0 w vs x) :
    Calls Try.prog 18 #[.agg vs.toArray] w (MadeD_Config w x) := by
  obtain ⟨p0, c0, p1, c1, p2, c2, rfl, r0, r1, r2⟩ := h
  have HS := Lib.hid hs; clear hs
  have R0 := Lib.hid r0
  have R1 := Lib.hid r1
  have R2 := Lib.hid r2
  clear r0 r1 r2
  go_enter Try.func18, Try.ntmps18
  go_wp2_with fail
  refine (toRuleSet_rows x.rules HS.out.1 [.slice p0 x.rules.rules.length c0] _ ⟨p0, c0, rfl, (R0.out.ext good_Rule (by (repeat' (first | with_reducible assumption | with_reducible exact Below.refl _ _ | (with_reducible refine Ext.alloc' ?_ _) | (with_reducible refine Ext.drew' ?_) | (with_reducible refine Ext.drewN' ?_ _) | (with_reducible refine Ext.set_ ?_ (by first | omega | (simp; done) | (simp; omega)) _ _) | (refine Ext.trans ?_ (by with_reducible assumption))))))⟩).mono ?_
  rintro e w0 ⟨p0n, c0n, T0, rfl, hA, hI, r0n, hE⟩
  have HA0 := Lib.hid hA; have HI0 : Hid (InT T0 (w.heap.size + 3) w0.heap.size) := by (have h7 := hI; simp at h7; exact h7)
  have S0 := Lib.hid r0n
  clear hA hI r0n
  have HN1' : Hid (Box w0 w.heap.size 40 #[.slice p0 x.rules.rules.length c0, .slice p1 x.scoring.weights.length c1, .int .i64 x.scoring.bias, .slice p2 x.survivors.length c2]) := (Box.alloc (Box.alloc (Box.new' _ _ #[.slice p0 x.rules.rules.length c0, .slice p1 x.scoring.weights.length c1, .int .i64 x.scoring.bias, .slice p2 x.survivors.length c2] _ (by simp)) _) _).ext hE
  have HN2' : Hid (Box w0 (w.heap.size + 1) 48 #[.slice none 0 0, .slice none 0 0, .int .i64 0, .slice none 0 0]) := (Box.alloc (Box.new' _ _ #[.slice none 0 0, .slice none 0 0, .int .i64 0, .slice none 0 0] _ (by simp)) _).ext hE
  have HN3' : Hid (Box w0 (w.heap.size + 1 + 1) 48 #[.slice none 0 0, .slice none 0 0, .int .i64 0, .slice none 0 0]) := (Box.new' _ _ #[.slice none 0 0, .slice none 0 0, .int .i64 0, .slice none 0 0] _ (by simp)).ext hE
  have HZ0 : Hid (w.heap.size + 3 ≤ w0.heap.size) := by show _ ≤ _; have h7 := hE.size; simp at h7; omega
  have HE' : Hid (Ext w w0) := (show Ext w w0 from by have h9 := hE; (repeat' (first | with_reducible assumption | with_reducible exact Below.refl _ _ | (with_reducible refine Ext.alloc' ?_ _) | (with_reducible refine Ext.drew' ?_) | (with_reducible refine Ext.drewN' ?_ _) | (with_reducible refine Ext.set_ ?_ (by first | omega | (simp; done) | (simp; omega)) _ _) | (refine Ext.trans ?_ (by with_reducible assumption)))))
  have HE := HE'; have HN1 := HN1'; have HN2 := HN2'; have HN3 := HN3'
  clear HE' HN1' HN2' HN3' hE
  have b1 := HN1.out; have b3 := HN3.out
  have k0 := b1.cell 0
  have k1 := b1.cell 1
  have k2 := b1.cell 2
  have k3 := b1.cell 3
  have klt := b1.lt
  simp only [List.getElem?_toArray, List.getElem?_cons_zero, List.getElem?_cons_succ] at k0 k1 k2 k3
  have m0 := b3.cell 0
  have mf0 := b3.free 0
  have m1 := b3.cell 1
  have mf1 := b3.free 1
  have m2 := b3.cell 2
  have mf2 := b3.free 2
  have m3 := b3.cell 3
  have mf3 := b3.free 3
  have mlt := b3.lt
  simp only [List.getElem?_toArray, List.getElem?_cons_zero, List.getElem?_cons_succ] at m0 m1 m2 m3
  clear b1 b3
  go_wp2_with fail
  clear k0 k1 k2 k3 klt
  clear m0 mf0 m1 mf1 m2 mf2 m3 mf3 mlt
  refine (toScoring_rows x.scoring HS.out.2.1 [.slice p1 x.scoring.weights.length c1, .int .i64 x.scoring.bias] _ ⟨p1, c1, rfl, (R1.out.ext good_int (by have h8 := HE.out; (repeat' (first | with_reducible assumption | with_reducible exact Below.refl _ _ | (with_reducible refine Ext.alloc' ?_ _) | (with_reducible refine Ext.drew' ?_) | (with_reducible refine Ext.drewN' ?_ _) | (with_reducible refine Ext.set_ ?_ (by first | omega | (simp; done) | (simp; omega)) _ _) | (refine Ext.trans ?_ (by with_reducible assumption))))))⟩).mono ?_
  rintro e w1 ⟨p1n, c1n, T1, rfl, hA, hI, r1n, hE⟩
  have HA1 := Lib.hid hA; have HI1 : Hid (InT T1 w0.heap.size w1.heap.size) := by (have h7 := hI; simp at h7; exact h7)
  have S1 := Lib.hid r1n
  clear hA hI r1n
  have HN1' : Hid (Box w1 w.heap.size 40 #[.slice p0 x.rules.rules.length c0, .slice p1 x.scoring.weights.length c1, .int .i64 x.scoring.bias, .slice p2 x.survivors.length c2]) := (Box.setOther (HN1.out) (by omega) _).ext hE
  have HN2' : Hid (Box w1 (w.heap.size + 1) 48 #[.slice none 0 0, .slice none 0 0, .int .i64 0, .slice none 0 0]) := (Box.setOther (HN2.out) (by omega) _).ext hE
  have HN3' : Hid (Box w1 (w.heap.size + 1 + 1) 48 #[.slice p0n x.rules.rules.length c0n, .slice none 0 0, .int .i64 0, .slice none 0 0]) := (Box.set' (vs' := #[.slice p0n x.rules.rules.length c0n, .slice none 0 0, .int .i64 0, .slice none 0 0]) (HN3.out) (i := 0) (u := .slice p0n x.rules.rules.length c0n) rfl).ext hE
  have HZ1 : Hid (w0.heap.size ≤ w1.heap.size) := by show _ ≤ _; have h7 := hE.size; simp at h7; omega
  replace S0 : Hid (RowO 1 RuleO (T0 0) w1 p0n x.rules.rules) := S0.out.keepT goodO_Rule HI0.out (B := w.heap.size + 3) (Keep.trans (by (repeat' (first | with_reducible exact Keep.refl _ _ | refine Keep.set_trans ?_ (by omega) _ _))) (Keep.of_ext hE)) (by have := HZ0.out; omega)
  have HE' : Hid (Ext w w1) := (show Ext w w1 from by have h9 := hE; have h8 := HE.out; (repeat' (first | with_reducible assumption | with_reducible exact Below.refl _ _ | (with_reducible refine Ext.alloc' ?_ _) | (with_reducible refine Ext.drew' ?_) | (with_reducible refine Ext.drewN' ?_ _) | (with_reducible refine Ext.set_ ?_ (by first | omega | (simp; done) | (simp; omega)) _ _) | (refine Ext.trans ?_ (by with_reducible assumption)))))
  clear HN1 HN2 HN3 HE
  have HE := HE'; have HN1 := HN1'; have HN2 := HN2'; have HN3 := HN3'
  clear HE' HN1' HN2' HN3' hE
  have b1 := HN1.out; have b3 := HN3.out
  have k0 := b1.cell 0
  have k1 := b1.cell 1
  have k2 := b1.cell 2
  have k3 := b1.cell 3
  have klt := b1.lt
  simp only [List.getElem?_toArray, List.getElem?_cons_zero, List.getElem?_cons_succ] at k0 k1 k2 k3
  have m0 := b3.cell 0
  have mf0 := b3.free 0
  have m1 := b3.cell 1
  have mf1 := b3.free 1
  have m2 := b3.cell 2
  have mf2 := b3.free 2
  have m3 := b3.cell 3
  have mf3 := b3.free 3
  have mlt := b3.lt
  simp only [List.getElem?_toArray, List.getElem?_cons_zero, List.getElem?_cons_succ] at m0 m1 m2 m3
  clear b1 b3
  go_wp2_with fail
  clear k0 k1 k2 k3 klt
  clear m0 mf0 m1 mf1 m2 mf2 m3 mf3 mlt
  refine (toIntS_own x.survivors HS.out.2.2 p2 c2 _ (R2.out.ext good_int (by have h8 := HE.out; (repeat' (first | with_reducible assumption | with_reducible exact Below.refl _ _ | (with_reducible refine Ext.alloc' ?_ _) | (with_reducible refine Ext.drew' ?_) | (with_reducible refine Ext.drewN' ?_ _) | (with_reducible refine Ext.set_ ?_ (by first | omega | (simp; done) | (simp; omega)) _ _) | (refine Ext.trans ?_ (by with_reducible assumption))))))).mono ?_
  rintro e w2 ⟨p2n, c2n, rfl, r2n, hE⟩
  obtain ⟨T2, HA2, HI2, S2⟩ : ∃ T : Nat → Nat → Prop, Hid (ApartT T) ∧ Hid (InT T w1.heap.size w2.heap.size) ∧ Hid (RowO 1 IntO (T 0) w2 p2n x.survivors) := ⟨oneT (Span w1.heap.size w2.heap.size), ApartT.one _, span_in, (RowO.span goodO_int r2n).mono (fun c h => ⟨rfl, by simpa using h⟩)⟩
  clear r2n
  have HN1' : Hid (Box w2 w.heap.size 40 #[.slice p0 x.rules.rules.length c0, .slice p1 x.scoring.weights.length c1, .int .i64 x.scoring.bias, .slice p2 x.survivors.length c2]) := (Box.setOther (Box.setOther (HN1.out) (by omega) _) (by omega) _).ext hE
  have HN2' : Hid (Box w2 (w.heap.size + 1) 48 #[.slice none 0 0, .slice none 0 0, .int .i64 0, .slice none 0 0]) := (Box.setOther (Box.setOther (HN2.out) (by omega) _) (by omega) _).ext hE
  have HN3' : Hid (Box w2 (w.heap.size + 1 + 1) 48 #[.slice p0n x.rules.rules.length c0n, .slice p1n x.scoring.weights.length c1n, .int .i64 x.scoring.bias, .slice none 0 0]) := (Box.set' (vs' := #[.slice p0n x.rules.rules.length c0n, .slice p1n x.scoring.weights.length c1n, .int .i64 x.scoring.bias, .slice none 0 0]) (Box.set' (vs' := #[.slice p0n x.rules.rules.length c0n, .slice p1n x.scoring.weights.length c1n, .int .i64 0, .slice none 0 0]) (HN3.out) (i := 1) (u := .slice p1n x.scoring.weights.length c1n) rfl) (i := 2) (u := .int .i64 x.scoring.bias) rfl).ext hE
  have HZ2 : Hid (w1.heap.size ≤ w2.heap.size) := by show _ ≤ _; have h7 := hE.size; simp at h7; omega
  replace S0 : Hid (RowO 1 RuleO (T0 0) w2 p0n x.rules.rules) := S0.out.keepT goodO_Rule HI0.out (B := w.heap.size + 3) (Keep.trans (by (repeat' (first | with_reducible exact Keep.refl _ _ | refine Keep.set_trans ?_ (by omega) _ _))) (Keep.of_ext hE)) (by have := HZ0.out; have := HZ1.out; omega)
  replace S1 : Hid (RowO 1 IntO (T1 0) w2 p1n x.scoring.weights) := S1.out.keepT goodO_int HI1.out (B := w.heap.size + 3) (Keep.trans (by (repeat' (first | with_reducible exact Keep.refl _ _ | refine Keep.set_trans ?_ (by omega) _ _))) (Keep.of_ext hE)) (by have := HZ0.out; have := HZ1.out; omega)
  have HE' : Hid (Ext w w2) := (show Ext w w2 from by have h9 := hE; have h8 := HE.out; (repeat' (first | with_reducible assumption | with_reducible exact Below.refl _ _ | (with_reducible refine Ext.alloc' ?_ _) | (with_reducible refine Ext.drew' ?_) | (with_reducible refine Ext.drewN' ?_ _) | (with_reducible refine Ext.set_ ?_ (by first | omega | (simp; done) | (simp; omega)) _ _) | (refine Ext.trans ?_ (by with_reducible assumption)))))
  clear HN1 HN2 HN3 HE
  have HE := HE'; have HN1 := HN1'; have HN2 := HN2'; have HN3 := HN3'
  clear HE' HN1' HN2' HN3' hE
  have b1 := HN1.out; have b2 := HN2.out; have b3 := HN3.out
  have k0 := b1.cell 0
  have k1 := b1.cell 1
  have k2 := b1.cell 2
  have k3 := b1.cell 3
  have klt := b1.lt
  simp only [List.getElem?_toArray, List.getElem?_cons_zero, List.getElem?_cons_succ] at k0 k1 k2 k3
  have m0 := b3.cell 0
  have mf0 := b3.free 0
  have m1 := b3.cell 1
  have mf1 := b3.free 1
  have m2 := b3.cell 2
  have mf2 := b3.free 2
  have m3 := b3.cell 3
  have mf3 := b3.free 3
  have mlt := b3.lt
  simp only [List.getElem?_toArray, List.getElem?_cons_zero, List.getElem?_cons_succ] at m0 m1 m2 m3
  have l0 := b2.cell 0
  have lf0 := b2.free 0
  have l1 := b2.cell 1
  have lf1 := b2.free 1
  have l2 := b2.cell 2
  have lf2 := b2.free 2
  have l3 := b2.cell 3
  have lf3 := b2.free 3
  have llt := b2.lt
  simp only [List.getElem?_toArray, List.getElem?_cons_zero, List.getElem?_cons_succ] at l0 l1 l2 l3
  clear b1 b2 b3
  go_wp2_with fail
  refine bodyPost_ret (v := .agg #[.slice p0n x.rules.rules.length c0n, .slice p1n x.scoring.weights.length c1n, .int .i64 x.scoring.bias, .slice p2n x.survivors.length c2n]) (by simp [results, Try.results18, go_sem, m0, m1, m2, m3, l0, l1, l2, l3]) rfl ?_
  refine ⟨p0n, c0n, p1n, c1n, p2n, c2n, (joinT 1 T0 (joinT 1 T1 T2)), rfl, ?_, ?_, ?_, ?_, ?_, ?_⟩
  · have := HZ0.out; have := HZ1.out; have := HZ2.out; exact (ApartT.join HA0.out (ApartT.join HA1.out HA2.out HI1.out HI2.out (by omega)) HI0.out (InT.join HI1.out HI2.out (by omega) (by omega) (by omega)) (by omega))
  · have := HZ0.out; have := HZ1.out; have := HZ2.out; exact InT.mono (InT.join HI0.out (InT.join HI1.out HI2.out (by omega) (by omega) (by omega)) (by omega) (by omega) (by omega)) (by omega) (by simp)
  · refine (S0.out.keepT goodO_Rule HI0.out (B := w.heap.size + 3) (by (repeat' (first | with_reducible exact Keep.refl _ _ | refine Keep.set_trans ?_ (by omega) _ _))) (by have := HZ0.out; have := HZ1.out; have := HZ2.out; omega)).mono (fun c h => Or.inl ⟨by decide, h⟩)
  · refine (S1.out.keepT goodO_int HI1.out (B := w.heap.size + 3) (by (repeat' (first | with_reducible exact Keep.refl _ _ | refine Keep.set_trans ?_ (by omega) _ _))) (by have := HZ0.out; have := HZ1.out; have := HZ2.out; omega)).mono (fun c h => Or.inr ⟨by decide, Or.inl ⟨by decide, h⟩⟩)
  · refine (S2.out.keepT goodO_int HI2.out (B := w.heap.size + 3) (by (repeat' (first | with_reducible exact Keep.refl _ _ | refine Keep.set_trans ?_ (by omega) _ _))) (by have := HZ0.out; have := HZ1.out; have := HZ2.out; omega)).mono (fun c h => Or.inr ⟨by decide, Or.inr ⟨by decide, h⟩⟩)
  · have h8 := HE.out; (repeat' (first | with_reducible assumption | with_reducible exact Below.refl _ _ | (with_reducible refine Ext.alloc' ?_ _) | (with_reducible refine Ext.drew' ?_) | (with_reducible refine Ext.drewN' ?_ _) | (with_reducible refine Ext.set_ ?_ (by first | omega | (simp; done) | (simp; omega)) _ _) | (refine Ext.trans ?_ (by with_reducible assumption))))
def MarkedD_Config (x : DConfig) (k : Int) (T : Nat → Nat → Prop) (p0 : Option Addr) (p1 : Option Addr) (p2 : Option Addr) (w : World) (e : Ending) (w' : World) : Prop := e = .returned (.int .i64 (k + (sumC cntE_Rule x.rules.rules : Nat) + (sumC cntOne x.scoring.weights : Nat) + (sumC cntOne x.survivors : Nat))) ∧ RowO 1 RuleO (T 0) w' p0 (markL markE_Rule cntE_Rule x.rules.rules (k)) ∧ RowO 1 IntO (T 1) w' p1 (markL markInt cntOne x.scoring.weights (k + (sumC cntE_Rule x.rules.rules : Nat))) ∧ RowO 1 IntO (T 2) w' p2 (markL markInt cntOne x.survivors (k + (sumC cntE_Rule x.rules.rules : Nat) + (sumC cntOne x.scoring.weights : Nat))) ∧ Chg (someT 3 T) w w'
set_option maxRecDepth 8000 in
set_option maxHeartbeats 3200000 in
theorem markConfig_rows (x : DConfig) (k : Int) (hk : 1 ≤ k) (hb : k + (sumC cntE_Rule x.rules.rules : Nat) + (sumC cntOne x.scoring.weights : Nat) + (sumC cntOne x.survivors : Nat) ≤ 9223372036854775806) (T : Nat → Nat → Prop) (hT : ApartT T) (p0 : Option Addr) (c0 : Nat) (p1 : Option Addr) (c1 : Nat) (p2 : Option Addr) (c2 : Nat) (w : World) (hl : ∀ i c, T i c → c < w.heap.size) (r0 : RowO 1 RuleO (T 0) w p0 x.rules.rules) (r1 : RowO 1 IntO (T 1) w p1 x.scoring.weights) (r2 : RowO 1 IntO (T 2) w p2 x.survivors) :
    Calls Try.prog 36 #[.agg #[.slice p0 x.rules.rules.length c0, .slice p1 x.scoring.weights.length c1, .int .i64 x.scoring.bias, .slice p2 x.survivors.length c2], .int .i64 k] w (MarkedD_Config x k T p0 p1 p2 w) := by
  have HB := Lib.hid (Box.new w 48 #[.slice p0 x.rules.rules.length c0, .slice p1 x.scoring.weights.length c1, .int .i64 x.scoring.bias, .slice p2 x.survivors.length c2])
  have HC : Hid (Chg (someT 3 T) w (w.alloc (.cells #[.slice p0 x.rules.rules.length c0, .slice p1 x.scoring.weights.length c1, .int .i64 x.scoring.bias, .slice p2 x.survivors.length c2] 48))) := Chg.of_ext (Ext.alloc _ _)
  have R0 := Lib.hid (r0.ext goodO_Rule (Ext.alloc w (.cells #[.slice p0 x.rules.rules.length c0, .slice p1 x.scoring.weights.length c1, .int .i64 x.scoring.bias, .slice p2 x.survivors.length c2] 48)))
  have R1 := Lib.hid (r1.ext goodO_int (Ext.alloc w (.cells #[.slice p0 x.rules.rules.length c0, .slice p1 x.scoring.weights.length c1, .int .i64 x.scoring.bias, .slice p2 x.survivors.length c2] 48)))
  have R2 := Lib.hid (r2.ext goodO_int (Ext.alloc w (.cells #[.slice p0 x.rules.rules.length c0, .slice p1 x.scoring.weights.length c1, .int .i64 x.scoring.bias, .slice p2 x.survivors.length c2] 48)))
  have HT := Lib.hid hT; have HL := Lib.hid hl
  clear hT hl r0 r1 r2
  go_enter Try.func36, Try.ntmps36
  go_wp2_with fail
  refine (markRuleSet_rows x.rules (k) (by omega) (by omega) (shiftT 0 T) (HT.out.shift 0) p0 c0 _ (fun i c h => Nat.lt_of_lt_of_le (HL.out _ c h) HC.out.size) R0.out).mono ?_
  rintro e w1 ⟨rfl, hr0, hC⟩
  have M0 : Hid (RowO 1 RuleO (T 0) w1 p0 (markL markE_Rule cntE_Rule x.rules.rules (k))) := hr0
  replace R1 := Lib.hid (R1.out.chg goodO_int hC (fun c h1 ⟨i, hi, h2⟩ => HT.out 1 (0 + i) c (by omega) h1 h2))
  replace R2 := Lib.hid (R2.out.chg goodO_int hC (fun c h1 ⟨i, hi, h2⟩ => HT.out 2 (0 + i) c (by omega) h1 h2))
  replace HB := Lib.hid (HB.out.chg hC (fun ⟨i, hi, h⟩ => Nat.lt_irrefl _ (HL.out _ _ h)))
  replace HC := Lib.hid (HC.out.trans (hC.mono (fun c ⟨i, hi, h⟩ => ⟨0 + i, by omega, h⟩)))
  clear hC hr0 R0
  have hbx := HB.out
  have k0 := hbx.cell 0
  have k1 := hbx.cell 1
  have k2 := hbx.cell 2
  have k3 := hbx.cell 3
  have klt := hbx.lt
  simp only [List.getElem?_toArray, List.getElem?_cons_zero, List.getElem?_cons_succ] at k0 k1 k2 k3
  clear hbx
  go_wp2_with fail
  clear k0 k1 k2 k3 klt
  refine (markScoring_rows x.scoring (k + (sumC cntE_Rule x.rules.rules : Nat)) (by omega) (by omega) (shiftT 1 T) (HT.out.shift 1) p1 c1 _ (fun i c h => Nat.lt_of_lt_of_le (HL.out _ c h) HC.out.size) R1.out).mono ?_
  rintro e w2 ⟨rfl, hr1, hC⟩
  replace M0 := Lib.hid (M0.out.chg goodO_Rule hC (fun c h1 ⟨i, hi, h2⟩ => HT.out 0 (1 + i) c (by omega) h1 h2))
  have M1 : Hid (RowO 1 IntO (T 1) w2 p1 (markL markInt cntOne x.scoring.weights (k + (sumC cntE_Rule x.rules.rules : Nat)))) := hr1
  replace R2 := Lib.hid (R2.out.chg goodO_int hC (fun c h1 ⟨i, hi, h2⟩ => HT.out 2 (1 + i) c (by omega) h1 h2))
  replace HB := Lib.hid (HB.out.chg hC (fun ⟨i, hi, h⟩ => Nat.lt_irrefl _ (HL.out _ _ h)))
  replace HC := Lib.hid (HC.out.trans (hC.mono (fun c ⟨i, hi, h⟩ => ⟨1 + i, by omega, h⟩)))
  clear hC hr1 R1
  have hbx := HB.out
  have k0 := hbx.cell 0
  have k1 := hbx.cell 1
  have k2 := hbx.cell 2
  have k3 := hbx.cell 3
  have klt := hbx.lt
  simp only [List.getElem?_toArray, List.getElem?_cons_zero, List.getElem?_cons_succ] at k0 k1 k2 k3
  clear hbx
  go_wp2_with fail
  clear k0 k1 k2 k3 klt
  refine (markIntS_any x.survivors (k + (sumC cntE_Rule x.rules.rules : Nat) + (sumC cntOne x.scoring.weights : Nat)) (by omega) (by omega) (T 2) p2 c2 _ R2.out).mono ?_
  rintro e w3 ⟨rfl, hr2, hC⟩
  replace M0 := Lib.hid (M0.out.chg goodO_Rule hC (fun c h1 h2 => HT.out 0 2 c (by decide) h1 h2))
  replace M1 := Lib.hid (M1.out.chg goodO_int hC (fun c h1 h2 => HT.out 1 2 c (by decide) h1 h2))
  have M2 : Hid (RowO 1 IntO (T 2) w3 p2 (markL markInt cntOne x.survivors (k + (sumC cntE_Rule x.rules.rules : Nat) + (sumC cntOne x.scoring.weights : Nat)))) := hr2
  replace HB := Lib.hid (HB.out.chg hC (fun h => Nat.lt_irrefl _ (HL.out _ _ h)))
  replace HC := Lib.hid (HC.out.trans (hC.mono (fun c h => ⟨2, by decide, h⟩)))
  clear hC hr2 R2
  have hbx := HB.out
  have k0 := hbx.cell 0
  have k1 := hbx.cell 1
  have k2 := hbx.cell 2
  have k3 := hbx.cell 3
  have klt := hbx.lt
  simp only [List.getElem?_toArray, List.getElem?_cons_zero, List.getElem?_cons_succ] at k0 k1 k2 k3
  clear hbx
  go_wp2_with fail
  go_ret
  exact ⟨rfl, M0.out, M1.out, M2.out, HC.out⟩

set_option maxRecDepth 8000 in
set_option maxHeartbeats 3200000 in
theorem heldConfig_rows (x : DConfig) (k : Int) (hk : 1 ≤ k) (hb : k + (sumC cntE_Rule x.rules.rules : Nat) + (sumC cntOne x.scoring.weights : Nat) + (sumC cntOne x.survivors : Nat) ≤ 9223372036854775806) (B : Nat) (p0 : Option Addr) (c0 : Nat) (p1 : Option Addr) (c1 : Nat) (p2 : Option Addr) (c2 : Nat) (w : World) (r0 : RowR 1 RuleR B w p0 (markL markE_Rule cntE_Rule x.rules.rules (k))) (r1 : RowR 1 IntR B w p1 (markL markInt cntOne x.scoring.weights (k + (sumC cntE_Rule x.rules.rules : Nat)))) (r2 : RowR 1 IntR B w p2 (markL markInt cntOne x.survivors (k + (sumC cntE_Rule x.rules.rules : Nat) + (sumC cntOne x.scoring.weights : Nat)))) :
    Calls Try.prog 94 #[.agg #[.slice p0 x.rules.rules.length c0, .slice p1 x.scoring.weights.length c1, .int .i64 x.scoring.bias, .slice p2 x.survivors.length c2], .int .i64 k] w (fun e w' => e = .returned (.int .i64 (k + (sumC cntE_Rule x.rules.rules : Nat) + (sumC cntOne x.scoring.weights : Nat) + (sumC cntOne x.survivors : Nat))) ∧ Ext w w') := by
  have HB := Lib.hid (Box.new w 48 #[.slice p0 x.rules.rules.length c0, .slice p1 x.scoring.weights.length c1, .int .i64 x.scoring.bias, .slice p2 x.survivors.length c2])
  have HE := Lib.hid (Ext.alloc w (.cells #[.slice p0 x.rules.rules.length c0, .slice p1 x.scoring.weights.length c1, .int .i64 x.scoring.bias, .slice p2 x.survivors.length c2] 48))
  have R0 := Lib.hid (r0.ext good_Rule HE.out)
  have R1 := Lib.hid (r1.ext good_int HE.out)
  have R2 := Lib.hid (r2.ext good_int HE.out)
  clear r0 r1 r2
  go_enter Try.func94, Try.ntmps94
  go_wp2_with fail
  refine (heldRuleSet_rows x.rules (k) (by omega) (by omega) B p0 c0 _ R0.out).mono ?_
  rintro e w1 ⟨rfl, hE⟩
  replace R1 := Lib.hid (R1.out.ext good_int hE)
  replace R2 := Lib.hid (R2.out.ext good_int hE)
  replace HB := Lib.hid (HB.out.ext hE); replace HE := Lib.hid (HE.out.trans hE)
  clear hE R0
  have hge0 : ¬ k + (sumC cntE_Rule x.rules.rules : Nat) < 0 := by omega
  have hbx := HB.out
  have k0 := hbx.cell 0
  have k1 := hbx.cell 1
  have k2 := hbx.cell 2
  have k3 := hbx.cell 3
  have klt := hbx.lt
  simp only [List.getElem?_toArray, List.getElem?_cons_zero, List.getElem?_cons_succ] at k0 k1 k2 k3
  clear hbx
  go_wp2_with fail
  clear k0 k1 k2 k3 klt
  refine (heldScoring_rows x.scoring (k + (sumC cntE_Rule x.rules.rules : Nat)) (by omega) (by omega) B p1 c1 _ R1.out).mono ?_
  rintro e w2 ⟨rfl, hE⟩
  replace R2 := Lib.hid (R2.out.ext good_int hE)
  replace HB := Lib.hid (HB.out.ext hE); replace HE := Lib.hid (HE.out.trans hE)
  clear hE R1
  have hge1 : ¬ k + (sumC cntE_Rule x.rules.rules : Nat) + (sumC cntOne x.scoring.weights : Nat) < 0 := by omega
  have hbx := HB.out
  have k0 := hbx.cell 0
  have k1 := hbx.cell 1
  have k2 := hbx.cell 2
  have k3 := hbx.cell 3
  have klt := hbx.lt
  simp only [List.getElem?_toArray, List.getElem?_cons_zero, List.getElem?_cons_succ] at k0 k1 k2 k3
  clear hbx
  go_wp2_with fail
  clear k0 k1 k2 k3 klt
  refine (heldIntS_any x.survivors (k + (sumC cntE_Rule x.rules.rules : Nat) + (sumC cntOne x.scoring.weights : Nat)) (by omega) (by omega) B p2 c2 _ R2.out).mono ?_
  rintro e w3 ⟨rfl, hE⟩
  replace HB := Lib.hid (HB.out.ext hE); replace HE := Lib.hid (HE.out.trans hE)
  clear hE R2
  have hge2 : ¬ k + (sumC cntE_Rule x.rules.rules : Nat) + (sumC cntOne x.scoring.weights : Nat) + (sumC cntOne x.survivors : Nat) < 0 := by omega
  go_wp2_with fail
  go_ret
  exact ⟨rfl, HE.out⟩
end Go.Proofs.Ytdgpbgpapcldeaa
