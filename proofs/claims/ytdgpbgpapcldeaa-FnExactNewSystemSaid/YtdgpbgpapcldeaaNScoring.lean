/- The type Scoring as owned data: several rows. -/
import Derived.Test.YtdgpbgpapcldeaaCLib
import Derived.Test.YtdgpbgpapcldeaaKScoring
import Derived.Test.YtdgpbgpapcldeaaMIntS
set_option linter.unusedVariables false
set_option linter.unusedSimpArgs false
namespace Go.Proofs.Ytdgpbgpapcldeaa
open Go.RowKit Go.Er Go.BigFrame
/-- A datum of type Scoring in new memory, each of its rows apart. -/
def MadeD_Scoring (w : World) (x : DScoring) (e : Ending) (w' : World) : Prop := ∃ (p0 : Option Addr) (c0 : Nat) (T : Nat → Nat → Prop), e = .returned (.agg #[.slice p0 x.weights.length c0, .int .i64 x.bias]) ∧ ApartT T ∧ InT T w.heap.size w'.heap.size ∧ RowO 1 IntO (T 0) w' p0 x.weights ∧ Ext w w'
/-- The rows of a datum of type Scoring. -/
structure RowsScoring (x : DScoring) (T : Nat → Nat → Prop) (p0 : Option Addr) (w : World) : Prop where
  r0 : RowO 1 IntO (T 0) w p0 x.weights
theorem RowsScoring.chg {x : DScoring} {T : Nat → Nat → Prop} {p0 : Option Addr} {w w' : World} {S : Nat → Prop} (h : RowsScoring x T p0 w) (hC : Chg S w w') (hd : ∀ i c, T i c → ¬ S c) : RowsScoring x T p0 w' :=
  ⟨h.r0.chg goodO_int hC (hd 0)⟩
theorem RowsScoring.ext {x : DScoring} {T : Nat → Nat → Prop} {p0 : Option Addr} {w w' : World} (h : RowsScoring x T p0 w) (hE : Ext w w') : RowsScoring x T p0 w' :=
  ⟨h.r0.ext goodO_int hE⟩
theorem RowsScoring.read {x : DScoring} {T : Nat → Nat → Prop} {p0 : Option Addr} {w : World} (h : RowsScoring x T p0 w) (c0 : Nat) : ScoringR 0 w [.slice p0 x.weights.length c0, .int .i64 x.bias] x :=
  ⟨p0, c0, rfl, h.r0.rel goodO_int (fun _ _ => Nat.zero_le _)⟩

set_option maxRecDepth 8000 in
set_option maxHeartbeats 3200000 in
theorem toScoring_rows (x : DScoring) (hs : SmallScoring x) (vs : List Value) (w : World) (h : ScoringR 0 w vs x) :
    Calls Try.prog 49 #[.agg vs.toArray] w (MadeD_Scoring w x) := by
  obtain ⟨p0, c0, rfl, r0⟩ := h
  have HS := Lib.hid hs; clear hs
  have R0 := Lib.hid r0
  clear r0
  go_enter Try.func49, Try.ntmps49
  go_wp2_with fail
  refine (toIntS_own x.weights HS.out p0 c0 _ (R0.out.ext good_int (by (repeat' (first | with_reducible assumption | with_reducible exact Below.refl _ _ | (with_reducible refine Ext.alloc' ?_ _) | (with_reducible refine Ext.drew' ?_) | (with_reducible refine Ext.drewN' ?_ _) | (with_reducible refine Ext.set_ ?_ (by first | omega | (simp; done) | (simp; omega)) _ _) | (refine Ext.trans ?_ (by with_reducible assumption))))))).mono ?_
  rintro e w0 ⟨p0n, c0n, rfl, r0n, hE⟩
  obtain ⟨T0, HA0, HI0, S0⟩ : ∃ T : Nat → Nat → Prop, Hid (ApartT T) ∧ Hid (InT T (w.heap.size + 3) w0.heap.size) ∧ Hid (RowO 1 IntO (T 0) w0 p0n x.weights) := ⟨oneT (Span (w.heap.size + 3) w0.heap.size), ApartT.one _, span_in, (RowO.span goodO_int r0n).mono (fun c h => ⟨rfl, by simpa using h⟩)⟩
  clear r0n
  have HN1' : Hid (Box w0 w.heap.size 38 #[.slice p0 x.weights.length c0, .int .i64 x.bias]) := (Box.alloc (Box.alloc (Box.new' _ _ #[.slice p0 x.weights.length c0, .int .i64 x.bias] _ (by simp)) _) _).ext hE
  have HN2' : Hid (Box w0 (w.heap.size + 1) 46 #[.slice none 0 0, .int .i64 0]) := (Box.alloc (Box.new' _ _ #[.slice none 0 0, .int .i64 0] _ (by simp)) _).ext hE
  have HN3' : Hid (Box w0 (w.heap.size + 1 + 1) 46 #[.slice none 0 0, .int .i64 0]) := (Box.new' _ _ #[.slice none 0 0, .int .i64 0] _ (by simp)).ext hE
  have HZ0 : Hid (w.heap.size + 3 ≤ w0.heap.size) := by show _ ≤ _; have h7 := hE.size; simp at h7; omega
  have HE' : Hid (Ext w w0) := (show Ext w w0 from by have h9 := hE; (repeat' (first | with_reducible assumption | with_reducible exact Below.refl _ _ | (with_reducible refine Ext.alloc' ?_ _) | (with_reducible refine Ext.drew' ?_) | (with_reducible refine Ext.drewN' ?_ _) | (with_reducible refine Ext.set_ ?_ (by first | omega | (simp; done) | (simp; omega)) _ _) | (refine Ext.trans ?_ (by with_reducible assumption)))))
  have HE := HE'; have HN1 := HN1'; have HN2 := HN2'; have HN3 := HN3'
  clear HE' HN1' HN2' HN3' hE
  have b1 := HN1.out; have b2 := HN2.out; have b3 := HN3.out
  have k0 := b1.cell 0
  have k1 := b1.cell 1
  have klt := b1.lt
  simp only [List.getElem?_toArray, List.getElem?_cons_zero, List.getElem?_cons_succ] at k0 k1
  have m0 := b3.cell 0
  have mf0 := b3.free 0
  have m1 := b3.cell 1
  have mf1 := b3.free 1
  have mlt := b3.lt
  simp only [List.getElem?_toArray, List.getElem?_cons_zero, List.getElem?_cons_succ] at m0 m1
  have l0 := b2.cell 0
  have lf0 := b2.free 0
  have l1 := b2.cell 1
  have lf1 := b2.free 1
  have llt := b2.lt
  simp only [List.getElem?_toArray, List.getElem?_cons_zero, List.getElem?_cons_succ] at l0 l1
  clear b1 b2 b3
  go_wp2_with fail
  refine bodyPost_ret (v := .agg #[.slice p0n x.weights.length c0n, .int .i64 x.bias]) (by simp [results, Try.results49, go_sem, m0, m1, l0, l1]) rfl ?_
  refine ⟨p0n, c0n, T0, rfl, ?_, ?_, ?_, ?_⟩
  · have := HZ0.out; exact HA0.out
  · have := HZ0.out; exact InT.mono HI0.out (by omega) (by simp)
  · refine (S0.out.keepT goodO_int HI0.out (B := w.heap.size + 3) (by (repeat' (first | with_reducible exact Keep.refl _ _ | refine Keep.set_trans ?_ (by omega) _ _))) (by have := HZ0.out; omega)).mono (fun c h => h)
  · have h8 := HE.out; (repeat' (first | with_reducible assumption | with_reducible exact Below.refl _ _ | (with_reducible refine Ext.alloc' ?_ _) | (with_reducible refine Ext.drew' ?_) | (with_reducible refine Ext.drewN' ?_ _) | (with_reducible refine Ext.set_ ?_ (by first | omega | (simp; done) | (simp; omega)) _ _) | (refine Ext.trans ?_ (by with_reducible assumption))))
def MarkedD_Scoring (x : DScoring) (k : Int) (T : Nat → Nat → Prop) (p0 : Option Addr) (w : World) (e : Ending) (w' : World) : Prop := e = .returned (.int .i64 (k + (sumC cntOne x.weights : Nat))) ∧ RowO 1 IntO (T 0) w' p0 (markL markInt cntOne x.weights (k)) ∧ Chg (someT 1 T) w w'
set_option maxRecDepth 8000 in
set_option maxHeartbeats 3200000 in
theorem markScoring_rows (x : DScoring) (k : Int) (hk : 1 ≤ k) (hb : k + (sumC cntOne x.weights : Nat) ≤ 9223372036854775806) (T : Nat → Nat → Prop) (hT : ApartT T) (p0 : Option Addr) (c0 : Nat) (w : World) (hl : ∀ i c, T i c → c < w.heap.size) (r0 : RowO 1 IntO (T 0) w p0 x.weights) :
    Calls Try.prog 89 #[.agg #[.slice p0 x.weights.length c0, .int .i64 x.bias], .int .i64 k] w (MarkedD_Scoring x k T p0 w) := by
  have HB := Lib.hid (Box.new w 46 #[.slice p0 x.weights.length c0, .int .i64 x.bias])
  have HC : Hid (Chg (someT 1 T) w (w.alloc (.cells #[.slice p0 x.weights.length c0, .int .i64 x.bias] 46))) := Chg.of_ext (Ext.alloc _ _)
  have R0 := Lib.hid (r0.ext goodO_int (Ext.alloc w (.cells #[.slice p0 x.weights.length c0, .int .i64 x.bias] 46)))
  have HT := Lib.hid hT; have HL := Lib.hid hl
  clear hT hl r0
  go_enter Try.func89, Try.ntmps89
  go_wp2_with fail
  refine (markIntS_any x.weights (k) (by omega) (by omega) (T 0) p0 c0 _ R0.out).mono ?_
  rintro e w1 ⟨rfl, hr0, hC⟩
  have M0 : Hid (RowO 1 IntO (T 0) w1 p0 (markL markInt cntOne x.weights (k))) := hr0
  replace HB := Lib.hid (HB.out.chg hC (fun h => Nat.lt_irrefl _ (HL.out _ _ h)))
  replace HC := Lib.hid (HC.out.trans (hC.mono (fun c h => ⟨0, by decide, h⟩)))
  clear hC hr0 R0
  have hbx := HB.out
  have k0 := hbx.cell 0
  have k1 := hbx.cell 1
  have klt := hbx.lt
  simp only [List.getElem?_toArray, List.getElem?_cons_zero, List.getElem?_cons_succ] at k0 k1
  clear hbx
  go_wp2_with fail
  go_ret
  exact ⟨rfl, M0.out, HC.out⟩

set_option maxRecDepth 8000 in
set_option maxHeartbeats 3200000 in
theorem heldScoring_rows (x : DScoring) (k : Int) (hk : 1 ≤ k) (hb : k + (sumC cntOne x.weights : Nat) ≤ 9223372036854775806) (B : Nat) (p0 : Option Addr) (c0 : Nat) (w : World) (r0 : RowR 1 IntR B w p0 (markL markInt cntOne x.weights (k))) :
    Calls Try.prog 135 #[.agg #[.slice p0 x.weights.length c0, .int .i64 x.bias], .int .i64 k] w (fun e w' => e = .returned (.int .i64 (k + (sumC cntOne x.weights : Nat))) ∧ Ext w w') := by
  have HB := Lib.hid (Box.new w 46 #[.slice p0 x.weights.length c0, .int .i64 x.bias])
  have HE := Lib.hid (Ext.alloc w (.cells #[.slice p0 x.weights.length c0, .int .i64 x.bias] 46))
  have R0 := Lib.hid (r0.ext good_int HE.out)
  clear r0
  go_enter Try.func135, Try.ntmps135
  go_wp2_with fail
  refine (heldIntS_any x.weights (k) (by omega) (by omega) B p0 c0 _ R0.out).mono ?_
  rintro e w1 ⟨rfl, hE⟩
  replace HB := Lib.hid (HB.out.ext hE); replace HE := Lib.hid (HE.out.trans hE)
  clear hE R0
  have hge0 : ¬ k + (sumC cntOne x.weights : Nat) < 0 := by omega
  go_wp2_with fail
  go_ret
  exact ⟨rfl, HE.out⟩
end Go.Proofs.Ytdgpbgpapcldeaa
