/- The type RuleSet as owned data: several rows. -/
import Derived.Test.YtdgpbgpapcldeaaCLib
import Derived.Test.YtdgpbgpapcldeaaKRuleSet
import Derived.Test.YtdgpbgpapcldeaaMRule
set_option linter.unusedVariables false
set_option linter.unusedSimpArgs false
namespace Go.Proofs.Ytdgpbgpapcldeaa
open Go.RowKit Go.Er Go.BigFrame
/-- A datum of type RuleSet in new memory, each of its rows apart. -/
def MadeD_RuleSet (w : World) (x : DRuleSet) (e : Ending) (w' : World) : Prop := ∃ (p0 : Option Addr) (c0 : Nat) (T : Nat → Nat → Prop), e = .returned (.agg #[.slice p0 x.rules.length c0]) ∧ ApartT T ∧ InT T w.heap.size w'.heap.size ∧ RowO 1 RuleO (T 0) w' p0 x.rules ∧ Ext w w'
/-- The rows of a datum of type RuleSet. -/
structure RowsRuleSet (x : DRuleSet) (T : Nat → Nat → Prop) (p0 : Option Addr) (w : World) : Prop where
  r0 : RowO 1 RuleO (T 0) w p0 x.rules
theorem RowsRuleSet.chg {x : DRuleSet} {T : Nat → Nat → Prop} {p0 : Option Addr} {w w' : World} {S : Nat → Prop} (h : RowsRuleSet x T p0 w) (hC : Chg S w w') (hd : ∀ i c, T i c → ¬ S c) : RowsRuleSet x T p0 w' :=
  ⟨h.r0.chg goodO_Rule hC (hd 0)⟩
theorem RowsRuleSet.ext {x : DRuleSet} {T : Nat → Nat → Prop} {p0 : Option Addr} {w w' : World} (h : RowsRuleSet x T p0 w) (hE : Ext w w') : RowsRuleSet x T p0 w' :=
  ⟨h.r0.ext goodO_Rule hE⟩
theorem RowsRuleSet.read {x : DRuleSet} {T : Nat → Nat → Prop} {p0 : Option Addr} {w : World} (h : RowsRuleSet x T p0 w) (c0 : Nat) : RuleSetR 0 w [.slice p0 x.rules.length c0] x :=
  ⟨p0, c0, rfl, h.r0.rel goodO_Rule (fun _ _ => Nat.zero_le _)⟩

set_option maxRecDepth 8000 in
set_option maxHeartbeats 3200000 in
theorem toRuleSet_rows (x : DRuleSet) (hs : SmallRuleSet x) (vs : List Value) (w : World) (h : RuleSetR 0 w vs x) :
    Calls Try.prog 48 #[.agg vs.toArray] w (MadeD_RuleSet w x) := by
  obtain ⟨p0, c0, rfl, r0⟩ := h
  have HS := Lib.hid hs; clear hs
  have R0 := Lib.hid r0
  clear r0
  go_enter Try.func48, Try.ntmps48
  go_wp2_with fail
  refine (toRuleS_own x.rules HS.out p0 c0 _ (R0.out.ext good_Rule (by (repeat' (first | with_reducible assumption | with_reducible exact Below.refl _ _ | (with_reducible refine Ext.alloc' ?_ _) | (with_reducible refine Ext.drew' ?_) | (with_reducible refine Ext.drewN' ?_ _) | (with_reducible refine Ext.set_ ?_ (by first | omega | (simp; done) | (simp; omega)) _ _) | (refine Ext.trans ?_ (by with_reducible assumption))))))).mono ?_
  rintro e w0 ⟨p0n, c0n, rfl, r0n, hE⟩
  obtain ⟨T0, HA0, HI0, S0⟩ : ∃ T : Nat → Nat → Prop, Hid (ApartT T) ∧ Hid (InT T (w.heap.size + 3) w0.heap.size) ∧ Hid (RowO 1 RuleO (T 0) w0 p0n x.rules) := ⟨oneT (Span (w.heap.size + 3) w0.heap.size), ApartT.one _, span_in, (RowO.span goodO_Rule r0n).mono (fun c h => ⟨rfl, by simpa using h⟩)⟩
  clear r0n
  have HN1' : Hid (Box w0 w.heap.size 35 #[.slice p0 x.rules.length c0]) := (Box.alloc (Box.alloc (Box.new' _ _ #[.slice p0 x.rules.length c0] _ (by simp)) _) _).ext hE
  have HN2' : Hid (Box w0 (w.heap.size + 1) 45 #[.slice none 0 0]) := (Box.alloc (Box.new' _ _ #[.slice none 0 0] _ (by simp)) _).ext hE
  have HN3' : Hid (Box w0 (w.heap.size + 1 + 1) 45 #[.slice none 0 0]) := (Box.new' _ _ #[.slice none 0 0] _ (by simp)).ext hE
  have HZ0 : Hid (w.heap.size + 3 ≤ w0.heap.size) := by show _ ≤ _; have h7 := hE.size; simp at h7; omega
  have HE' : Hid (Ext w w0) := (show Ext w w0 from by have h9 := hE; (repeat' (first | with_reducible assumption | with_reducible exact Below.refl _ _ | (with_reducible refine Ext.alloc' ?_ _) | (with_reducible refine Ext.drew' ?_) | (with_reducible refine Ext.drewN' ?_ _) | (with_reducible refine Ext.set_ ?_ (by first | omega | (simp; done) | (simp; omega)) _ _) | (refine Ext.trans ?_ (by with_reducible assumption)))))
  have HE := HE'; have HN1 := HN1'; have HN2 := HN2'; have HN3 := HN3'
  clear HE' HN1' HN2' HN3' hE
  have b1 := HN1.out; have b2 := HN2.out; have b3 := HN3.out
  have k0 := b1.cell 0
  have klt := b1.lt
  simp only [List.getElem?_toArray, List.getElem?_cons_zero, List.getElem?_cons_succ] at k0
  have m0 := b3.cell 0
  have mf0 := b3.free 0
  have mlt := b3.lt
  simp only [List.getElem?_toArray, List.getElem?_cons_zero, List.getElem?_cons_succ] at m0
  have l0 := b2.cell 0
  have lf0 := b2.free 0
  have llt := b2.lt
  simp only [List.getElem?_toArray, List.getElem?_cons_zero, List.getElem?_cons_succ] at l0
  clear b1 b2 b3
  go_wp2_with fail
  refine bodyPost_ret (v := .agg #[.slice p0n x.rules.length c0n]) (by simp [results, Try.results48, go_sem, m0, l0]) rfl ?_
  refine ⟨p0n, c0n, T0, rfl, ?_, ?_, ?_, ?_⟩
  · have := HZ0.out; exact HA0.out
  · have := HZ0.out; exact InT.mono HI0.out (by omega) (by simp)
  · refine (S0.out.keepT goodO_Rule HI0.out (B := w.heap.size + 3) (by (repeat' (first | with_reducible exact Keep.refl _ _ | refine Keep.set_trans ?_ (by omega) _ _))) (by have := HZ0.out; omega)).mono (fun c h => h)
  · have h8 := HE.out; (repeat' (first | with_reducible assumption | with_reducible exact Below.refl _ _ | (with_reducible refine Ext.alloc' ?_ _) | (with_reducible refine Ext.drew' ?_) | (with_reducible refine Ext.drewN' ?_ _) | (with_reducible refine Ext.set_ ?_ (by first | omega | (simp; done) | (simp; omega)) _ _) | (refine Ext.trans ?_ (by with_reducible assumption))))
def MarkedD_RuleSet (x : DRuleSet) (k : Int) (T : Nat → Nat → Prop) (p0 : Option Addr) (w : World) (e : Ending) (w' : World) : Prop := e = .returned (.int .i64 (k + (sumC cntE_Rule x.rules : Nat))) ∧ RowO 1 RuleO (T 0) w' p0 (markL markE_Rule cntE_Rule x.rules (k)) ∧ Chg (someT 1 T) w w'
set_option maxRecDepth 8000 in
set_option maxHeartbeats 3200000 in
theorem markRuleSet_rows (x : DRuleSet) (k : Int) (hk : 1 ≤ k) (hb : k + (sumC cntE_Rule x.rules : Nat) ≤ 9223372036854775806) (T : Nat → Nat → Prop) (hT : ApartT T) (p0 : Option Addr) (c0 : Nat) (w : World) (hl : ∀ i c, T i c → c < w.heap.size) (r0 : RowO 1 RuleO (T 0) w p0 x.rules) :
    Calls Try.prog 88 #[.agg #[.slice p0 x.rules.length c0], .int .i64 k] w (MarkedD_RuleSet x k T p0 w) := by
  have HB := Lib.hid (Box.new w 45 #[.slice p0 x.rules.length c0])
  have HC : Hid (Chg (someT 1 T) w (w.alloc (.cells #[.slice p0 x.rules.length c0] 45))) := Chg.of_ext (Ext.alloc _ _)
  have R0 := Lib.hid (r0.ext goodO_Rule (Ext.alloc w (.cells #[.slice p0 x.rules.length c0] 45)))
  have HT := Lib.hid hT; have HL := Lib.hid hl
  clear hT hl r0
  go_enter Try.func88, Try.ntmps88
  go_wp2_with fail
  refine (markRuleS_any x.rules (k) (by omega) (by omega) (T 0) p0 c0 _ R0.out).mono ?_
  rintro e w1 ⟨rfl, hr0, hC⟩
  have M0 : Hid (RowO 1 RuleO (T 0) w1 p0 (markL markE_Rule cntE_Rule x.rules (k))) := hr0
  replace HB := Lib.hid (HB.out.chg hC (fun h => Nat.lt_irrefl _ (HL.out _ _ h)))
  replace HC := Lib.hid (HC.out.trans (hC.mono (fun c h => ⟨0, by decide, h⟩)))
  clear hC hr0 R0
  have hbx := HB.out
  have k0 := hbx.cell 0
  have klt := hbx.lt
  simp only [List.getElem?_toArray, List.getElem?_cons_zero, List.getElem?_cons_succ] at k0
  clear hbx
  go_wp2_with fail
  go_ret
  exact ⟨rfl, M0.out, HC.out⟩

set_option maxRecDepth 8000 in
set_option maxHeartbeats 3200000 in
theorem heldRuleSet_rows (x : DRuleSet) (k : Int) (hk : 1 ≤ k) (hb : k + (sumC cntE_Rule x.rules : Nat) ≤ 9223372036854775806) (B : Nat) (p0 : Option Addr) (c0 : Nat) (w : World) (r0 : RowR 1 RuleR B w p0 (markL markE_Rule cntE_Rule x.rules (k))) :
    Calls Try.prog 134 #[.agg #[.slice p0 x.rules.length c0], .int .i64 k] w (fun e w' => e = .returned (.int .i64 (k + (sumC cntE_Rule x.rules : Nat))) ∧ Ext w w') := by
  have HB := Lib.hid (Box.new w 45 #[.slice p0 x.rules.length c0])
  have HE := Lib.hid (Ext.alloc w (.cells #[.slice p0 x.rules.length c0] 45))
  have R0 := Lib.hid (r0.ext good_Rule HE.out)
  clear r0
  go_enter Try.func134, Try.ntmps134
  go_wp2_with fail
  refine (heldRuleS_any x.rules (k) (by omega) (by omega) B p0 c0 _ R0.out).mono ?_
  rintro e w1 ⟨rfl, hE⟩
  replace HB := Lib.hid (HB.out.ext hE); replace HE := Lib.hid (HE.out.trans hE)
  clear hE R0
  have hge0 : ¬ k + (sumC cntE_Rule x.rules : Nat) < 0 := by omega
  go_wp2_with fail
  go_ret
  exact ⟨rfl, HE.out⟩
end Go.Proofs.Ytdgpbgpapcldeaa
