/- The type Op as owned data: copies, marks. -/
import Derived.Test.YtdgpbgpapcldeaaMLib
import Derived.Test.YtdgpbgpapcldeaaKOp
import Derived.Test.YtdgpbgpapcldeaaMText
import Derived.Test.YtdgpbgpapcldeaaMRecord
import Derived.Test.YtdgpbgpapcldeaaMVerdict
set_option linter.unusedVariables false
set_option linter.unusedSimpArgs false
namespace Go.Proofs.Ytdgpbgpapcldeaa
open Go.RowKit Go.Er Go.BigFrame
def OpO : ORel DOp := fun S w vs x => ∃ (p0 : Option Addr) (c0 : Nat), vs = [.int .i64 x.kind, .int .i64 x.record.source, .int .i64 x.record.key, .int .i64 x.record.version, .slice p0 x.record.fields.length c0, .int .i64 x.verdict.a, .int .i64 x.verdict.b, .bool x.verdict.same, .int .i64 x.verdict.time] ∧ RowO 1 StrO S w p0 x.record.fields
theorem goodO_Op : GoodO OpO OpR := ⟨fun hk ⟨p0, c0, h0, r0⟩ => ⟨p0, c0, h0, r0.keep goodO_str hk⟩, fun hs ⟨p0, c0, h0, r0⟩ => ⟨p0, c0, h0, r0.mono hs⟩, fun ⟨p0, c0, h0, r0⟩ => ⟨p0, c0, h0, r0.trim goodO_str⟩, fun hs ⟨p0, c0, h0, r0⟩ => ⟨p0, c0, h0, r0.rel goodO_str hs⟩⟩

set_option maxHeartbeats 1600000 in
theorem toOp_own (x : DOp) (hs : SmallOp x) (vs : List Value) (w : World) (h : OpR 0 w vs x) :
    Calls Try.prog 139 #[.agg vs.toArray] w (MadeO OpO w x) := by
  obtain ⟨p0, c0, rfl, r0⟩ := h
  have HS := Lib.hid hs; clear hs
  have R0 := Lib.hid r0
  clear r0
  go_enter Try.func139, Try.ntmps139
  go_wp2_with fail
  refine (toRecord_own x.record HS.out [.int .i64 x.record.source, .int .i64 x.record.key, .int .i64 x.record.version, .slice p0 x.record.fields.length c0] _ ⟨p0, c0, rfl, (R0.out.ext good_str (by (repeat' (first | with_reducible assumption | with_reducible exact Below.refl _ _ | (with_reducible refine Ext.alloc' ?_ _) | (with_reducible refine Ext.drew' ?_) | (with_reducible refine Ext.drewN' ?_ _) | (with_reducible refine Ext.set_ ?_ (by first | omega | (simp; done) | (simp; omega)) _ _) | (refine Ext.trans ?_ (by with_reducible assumption))))))⟩).mono ?_
  rintro e w0 ⟨us, rfl, ⟨s0, d0, rfl, hr0⟩, hE0⟩
  have HN1' : Hid (Box w0 w.heap.size 168 #[.int .i64 x.kind, .int .i64 x.record.source, .int .i64 x.record.key, .int .i64 x.record.version, .slice p0 x.record.fields.length c0, .int .i64 x.verdict.a, .int .i64 x.verdict.b, .bool x.verdict.same, .int .i64 x.verdict.time]) := (Box.alloc (Box.alloc (Box.new' _ _ #[.int .i64 x.kind, .int .i64 x.record.source, .int .i64 x.record.key, .int .i64 x.record.version, .slice p0 x.record.fields.length c0, .int .i64 x.verdict.a, .int .i64 x.verdict.b, .bool x.verdict.same, .int .i64 x.verdict.time] _ (by simp)) _) _).ext hE0
  have HN2' : Hid (Box w0 (w.heap.size + 1) 90 #[.int .i64 0, .int .i64 0, .int .i64 0, .int .i64 0, .slice none 0 0, .int .i64 0, .int .i64 0, .bool false, .int .i64 0]) := (Box.alloc (Box.new' _ _ #[.int .i64 0, .int .i64 0, .int .i64 0, .int .i64 0, .slice none 0 0, .int .i64 0, .int .i64 0, .bool false, .int .i64 0] _ (by simp)) _).ext hE0
  have HN3' : Hid (Box w0 (w.heap.size + 1 + 1) 90 #[.int .i64 x.kind, .int .i64 0, .int .i64 0, .int .i64 0, .slice none 0 0, .int .i64 0, .int .i64 0, .bool false, .int .i64 0]) := (Box.new' _ _ #[.int .i64 x.kind, .int .i64 0, .int .i64 0, .int .i64 0, .slice none 0 0, .int .i64 0, .int .i64 0, .bool false, .int .i64 0] _ (by simp)).ext hE0
  have S0 := Lib.hid (hr0.monoB (B' := w.heap.size + 3) (by simp))
  clear hr0
  have HE' : Hid (Ext w w0) := (show Ext w w0 from by have h9 := hE0; (repeat' (first | with_reducible assumption | with_reducible exact Below.refl _ _ | (with_reducible refine Ext.alloc' ?_ _) | (with_reducible refine Ext.drew' ?_) | (with_reducible refine Ext.drewN' ?_ _) | (with_reducible refine Ext.set_ ?_ (by first | omega | (simp; done) | (simp; omega)) _ _) | (refine Ext.trans ?_ (by with_reducible assumption)))))
  have HE := HE'; have HN1 := HN1'; have HN2 := HN2'; have HN3 := HN3'
  clear HE' HN1' HN2' HN3' hE0
  have k0 := HN1.out.cell 0
  have k1 := HN1.out.cell 1
  have k2 := HN1.out.cell 2
  have k3 := HN1.out.cell 3
  have k4 := HN1.out.cell 4
  have k5 := HN1.out.cell 5
  have k6 := HN1.out.cell 6
  have k7 := HN1.out.cell 7
  have k8 := HN1.out.cell 8
  have klt := HN1.out.lt
  simp only [List.getElem?_toArray, List.getElem?_cons_zero, List.getElem?_cons_succ] at k0 k1 k2 k3 k4 k5 k6 k7 k8
  have m0 := HN3.out.cell 0
  have mf0 := HN3.out.free 0
  have m1 := HN3.out.cell 1
  have mf1 := HN3.out.free 1
  have m2 := HN3.out.cell 2
  have mf2 := HN3.out.free 2
  have m3 := HN3.out.cell 3
  have mf3 := HN3.out.free 3
  have m4 := HN3.out.cell 4
  have mf4 := HN3.out.free 4
  have m5 := HN3.out.cell 5
  have mf5 := HN3.out.free 5
  have m6 := HN3.out.cell 6
  have mf6 := HN3.out.free 6
  have m7 := HN3.out.cell 7
  have mf7 := HN3.out.free 7
  have m8 := HN3.out.cell 8
  have mf8 := HN3.out.free 8
  have mlt := HN3.out.lt
  simp only [List.getElem?_toArray, List.getElem?_cons_zero, List.getElem?_cons_succ] at m0 m1 m2 m3 m4 m5 m6 m7 m8
  go_wp2_with fail
  clear k0 k1 k2 k3 k4 k5 k6 k7 k8 klt
  clear m0 mf0 m1 mf1 m2 mf2 m3 mf3 m4 mf4 m5 mf5 m6 mf6 m7 mf7 m8 mf8 mlt
  refine (toVerdict_any x.verdict trivial [.int .i64 x.verdict.a, .int .i64 x.verdict.b, .bool x.verdict.same, .int .i64 x.verdict.time] _ rfl).mono ?_
  rintro e w1 ⟨us, rfl, rfl, hE1⟩
  have HN1' : Hid (Box w1 w.heap.size 168 #[.int .i64 x.kind, .int .i64 x.record.source, .int .i64 x.record.key, .int .i64 x.record.version, .slice p0 x.record.fields.length c0, .int .i64 x.verdict.a, .int .i64 x.verdict.b, .bool x.verdict.same, .int .i64 x.verdict.time]) := (Box.setOther (Box.setOther (Box.setOther (Box.setOther (HN1.out) (by omega) _) (by omega) _) (by omega) _) (by omega) _).ext hE1
  have HN2' : Hid (Box w1 (w.heap.size + 1) 90 #[.int .i64 0, .int .i64 0, .int .i64 0, .int .i64 0, .slice none 0 0, .int .i64 0, .int .i64 0, .bool false, .int .i64 0]) := (Box.setOther (Box.setOther (Box.setOther (Box.setOther (HN2.out) (by omega) _) (by omega) _) (by omega) _) (by omega) _).ext hE1
  have HN3' : Hid (Box w1 (w.heap.size + 1 + 1) 90 #[.int .i64 x.kind, .int .i64 x.record.source, .int .i64 x.record.key, .int .i64 x.record.version, .slice s0 x.record.fields.length d0, .int .i64 0, .int .i64 0, .bool false, .int .i64 0]) := (Box.set' (vs' := #[.int .i64 x.kind, .int .i64 x.record.source, .int .i64 x.record.key, .int .i64 x.record.version, .slice s0 x.record.fields.length d0, .int .i64 0, .int .i64 0, .bool false, .int .i64 0]) (Box.set' (vs' := #[.int .i64 x.kind, .int .i64 x.record.source, .int .i64 x.record.key, .int .i64 x.record.version, .slice none 0 0, .int .i64 0, .int .i64 0, .bool false, .int .i64 0]) (Box.set' (vs' := #[.int .i64 x.kind, .int .i64 x.record.source, .int .i64 x.record.key, .int .i64 0, .slice none 0 0, .int .i64 0, .int .i64 0, .bool false, .int .i64 0]) (Box.set' (vs' := #[.int .i64 x.kind, .int .i64 x.record.source, .int .i64 0, .int .i64 0, .slice none 0 0, .int .i64 0, .int .i64 0, .bool false, .int .i64 0]) (HN3.out) (i := 1) (u := .int .i64 x.record.source) rfl) (i := 2) (u := .int .i64 x.record.key) rfl) (i := 3) (u := .int .i64 x.record.version) rfl) (i := 4) (u := .slice s0 x.record.fields.length d0) rfl).ext hE1
  replace S0 : Hid (RowO 1 StrO (From (w.heap.size + 3)) w1 s0 x.record.fields) := (S0.out.keepB goodO_str (Keep.trans (by (repeat' (first | with_reducible exact Keep.refl _ _ | refine Keep.set_trans ?_ (by omega) _ _))) (Keep.of_ext hE1)))
  have HE' : Hid (Ext w w1) := (show Ext w w1 from by have h9 := hE1; have h8 := HE.out; (repeat' (first | with_reducible assumption | with_reducible exact Below.refl _ _ | (with_reducible refine Ext.alloc' ?_ _) | (with_reducible refine Ext.drew' ?_) | (with_reducible refine Ext.drewN' ?_ _) | (with_reducible refine Ext.set_ ?_ (by first | omega | (simp; done) | (simp; omega)) _ _) | (refine Ext.trans ?_ (by with_reducible assumption)))))
  clear HN1 HN2 HN3 HE
  have HE := HE'; have HN1 := HN1'; have HN2 := HN2'; have HN3 := HN3'
  clear HE' HN1' HN2' HN3' hE1
  have k0 := HN1.out.cell 0
  have k1 := HN1.out.cell 1
  have k2 := HN1.out.cell 2
  have k3 := HN1.out.cell 3
  have k4 := HN1.out.cell 4
  have k5 := HN1.out.cell 5
  have k6 := HN1.out.cell 6
  have k7 := HN1.out.cell 7
  have k8 := HN1.out.cell 8
  have klt := HN1.out.lt
  simp only [List.getElem?_toArray, List.getElem?_cons_zero, List.getElem?_cons_succ] at k0 k1 k2 k3 k4 k5 k6 k7 k8
  have m0 := HN3.out.cell 0
  have mf0 := HN3.out.free 0
  have m1 := HN3.out.cell 1
  have mf1 := HN3.out.free 1
  have m2 := HN3.out.cell 2
  have mf2 := HN3.out.free 2
  have m3 := HN3.out.cell 3
  have mf3 := HN3.out.free 3
  have m4 := HN3.out.cell 4
  have mf4 := HN3.out.free 4
  have m5 := HN3.out.cell 5
  have mf5 := HN3.out.free 5
  have m6 := HN3.out.cell 6
  have mf6 := HN3.out.free 6
  have m7 := HN3.out.cell 7
  have mf7 := HN3.out.free 7
  have m8 := HN3.out.cell 8
  have mf8 := HN3.out.free 8
  have mlt := HN3.out.lt
  simp only [List.getElem?_toArray, List.getElem?_cons_zero, List.getElem?_cons_succ] at m0 m1 m2 m3 m4 m5 m6 m7 m8
  have l0 := HN2.out.cell 0
  have lf0 := HN2.out.free 0
  have l1 := HN2.out.cell 1
  have lf1 := HN2.out.free 1
  have l2 := HN2.out.cell 2
  have lf2 := HN2.out.free 2
  have l3 := HN2.out.cell 3
  have lf3 := HN2.out.free 3
  have l4 := HN2.out.cell 4
  have lf4 := HN2.out.free 4
  have l5 := HN2.out.cell 5
  have lf5 := HN2.out.free 5
  have l6 := HN2.out.cell 6
  have lf6 := HN2.out.free 6
  have l7 := HN2.out.cell 7
  have lf7 := HN2.out.free 7
  have l8 := HN2.out.cell 8
  have lf8 := HN2.out.free 8
  have llt := HN2.out.lt
  simp only [List.getElem?_toArray, List.getElem?_cons_zero, List.getElem?_cons_succ] at l0 l1 l2 l3 l4 l5 l6 l7 l8
  go_wp2_with fail
  refine bodyPost_ret (v := .agg #[.int .i64 x.kind, .int .i64 x.record.source, .int .i64 x.record.key, .int .i64 x.record.version, .slice s0 x.record.fields.length d0, .int .i64 x.verdict.a, .int .i64 x.verdict.b, .bool x.verdict.same, .int .i64 x.verdict.time]) (by simp [results, Try.results139, go_sem, m0, m1, m2, m3, m4, m5, m6, m7, m8, l0, l1, l2, l3, l4, l5, l6, l7, l8]) rfl ?_
  refine ⟨[.int .i64 x.kind, .int .i64 x.record.source, .int .i64 x.record.key, .int .i64 x.record.version, .slice s0 x.record.fields.length d0, .int .i64 x.verdict.a, .int .i64 x.verdict.b, .bool x.verdict.same, .int .i64 x.verdict.time], rfl, ?_, ?_⟩
  rotate_left
  · have h8 := HE.out; (repeat' (first | with_reducible assumption | with_reducible exact Below.refl _ _ | (with_reducible refine Ext.alloc' ?_ _) | (with_reducible refine Ext.drew' ?_) | (with_reducible refine Ext.drewN' ?_ _) | (with_reducible refine Ext.set_ ?_ (by first | omega | (simp; done) | (simp; omega)) _ _) | (refine Ext.trans ?_ (by with_reducible assumption))))
  exact ⟨s0, d0, rfl, (S0.out.keepB goodO_str (by (repeat' (first | with_reducible exact Keep.refl _ _ | refine Keep.set_trans ?_ (by omega) _ _)))).monoB (by omega)⟩

set_option maxHeartbeats 1600000 in
theorem toOpS_own (l : List DOp) (hs : SmallL (fun y => SmallOp y) l) (a : Option Addr) (cap : Nat) (w : World) (ha : RowR 9 OpR 0 w a l) :
    Calls Try.prog 99 #[.slice a l.length cap] w (MadeSO 9 OpO w l) := by
  have hlen := hs.1
  have HA := Lib.hid ha; have HS := Lib.hid hs.2; clear ha hs
  go_enter Try.func99, Try.ntmps99
  go_wp2_with (at_make; refine wpList_make_rowO OpO l rfl _ _ 83 rfl Try.underlying83 info_OpS (by decide) .i64 .i64 rfl rfl hlen (Ext.refl _) ?_; intro w1 hF hE)
  have HF := Lib.hid hF; have HE := Lib.hid hE; clear hF hE
  go_loopw [4] (fun s4 wr => ∃ i : Nat, i ≤ l.length ∧ s4 = .int .i64 i ∧ Ext w wr ∧ FilledO 9 OpO w.heap.size 90 l.length wr l i) (fun i _ => l.length - (intOf i).toNat)
  case atStart => exact ⟨0, Nat.zero_le _, rfl, HE.out, HF.out⟩
  case round =>
    obtain ⟨i, hi, rfl, hE1, hF1⟩ := hrel
    have HE1 := Lib.hid hE1; have HF1 := Lib.hid hF1; clear hE1 hF1
    by_cases hlt : i < l.length
    · obtain ⟨b, o, vs, rfl, _, _, hc, hR⟩ := (HA.out.ext good_Op HE1.out).2 i hlt
      have hsm := HS.out l[i] (List.getElem_mem hlt)
      obtain ⟨x, hx⟩ : ∃ x, x = l[i] := ⟨_, rfl⟩
      have HX := Lib.hid hx
      rw [← hx] at hR
      try rw [← hx] at hsm
      have HSM := Lib.hid hsm
      clear hx hsm
      obtain ⟨p0, c0, rfl, r0⟩ := hR
      have q0 := hc 0 (by simp)
      have q1 := hc 1 (by simp)
      have q2 := hc 2 (by simp)
      have q3 := hc 3 (by simp)
      have q4 := hc 4 (by simp)
      have q5 := hc 5 (by simp)
      have q6 := hc 6 (by simp)
      have q7 := hc 7 (by simp)
      have q8 := hc 8 (by simp)
      simp only [List.getElem_cons_zero, List.getElem_cons_succ, Nat.mul_one, Nat.add_zero] at q0 q1 q2 q3 q4 q5 q6 q7 q8
      clear hc
      have hR : OpR 0 wr [.int .i64 x.kind, .int .i64 x.record.source, .int .i64 x.record.key, .int .i64 x.record.version, .slice p0 x.record.fields.length c0, .int .i64 x.verdict.a, .int .i64 x.verdict.b, .bool x.verdict.same, .int .i64 x.verdict.time] x := ⟨p0, c0, rfl, r0⟩
      have HR := Lib.hid hR
      clear hR r0
      go_wp2_with fail
      refine (toOp_own x HSM.out _ _ HR.out).mono ?_
      rintro e w2 ⟨us, rfl, hR2, hE2⟩
      have HF2 := Lib.hid (HF1.out.ext goodO_Op hE2)
      have HE2 := Lib.hid (HE1.out.trans hE2)
      have hR3 : OpO (From wr.heap.size) w2 us x := hR2
      obtain ⟨p0', c0', rfl, r0'⟩ := hR2
      have hst := HF1.out.step goodO_Op hE2 hlt (Nat.le_refl _) (us := [.int .i64 x.kind, .int .i64 x.record.source, .int .i64 x.record.key, .int .i64 x.record.version, .slice p0' x.record.fields.length c0', .int .i64 x.verdict.a, .int .i64 x.verdict.b, .bool x.verdict.same, .int .i64 x.verdict.time]) rfl (HX.out ▸ hR3)
      have HST := Lib.hid hst
      clear hst hR3 hE2 r0' q0 q1 q2 q3 q4 q5 q6 q7 q8
      obtain ⟨y0, hy0⟩ := HF2.out.cell (m := i * 9) (by omega); have hf0 := HF2.out.free (i * 9)
      obtain ⟨y1, hy1⟩ := HF2.out.cell (m := i * 9 + 1) (by omega); have hf1 := HF2.out.free (i * 9 + 1)
      obtain ⟨y2, hy2⟩ := HF2.out.cell (m := i * 9 + 2) (by omega); have hf2 := HF2.out.free (i * 9 + 2)
      obtain ⟨y3, hy3⟩ := HF2.out.cell (m := i * 9 + 3) (by omega); have hf3 := HF2.out.free (i * 9 + 3)
      obtain ⟨y4, hy4⟩ := HF2.out.cell (m := i * 9 + 4) (by omega); have hf4 := HF2.out.free (i * 9 + 4)
      obtain ⟨y5, hy5⟩ := HF2.out.cell (m := i * 9 + 5) (by omega); have hf5 := HF2.out.free (i * 9 + 5)
      obtain ⟨y6, hy6⟩ := HF2.out.cell (m := i * 9 + 6) (by omega); have hf6 := HF2.out.free (i * 9 + 6)
      obtain ⟨y7, hy7⟩ := HF2.out.cell (m := i * 9 + 7) (by omega); have hf7 := HF2.out.free (i * 9 + 7)
      obtain ⟨y8, hy8⟩ := HF2.out.cell (m := i * 9 + 8) (by omega); have hf8 := HF2.out.free (i * 9 + 8)
      go_wp2_with fail
      go_roundw
      case rel =>
        refine ⟨i + 1, by omega, by go_num, ?_, ?_⟩
        · have h := ext_setCells (N := w.heap.size) (Nat.le_refl _) [.int .i64 x.kind, .int .i64 x.record.source, .int .i64 x.record.key, .int .i64 x.record.version, .slice p0' x.record.fields.length c0', .int .i64 x.verdict.a, .int .i64 x.verdict.b, .bool x.verdict.same, .int .i64 x.verdict.time] (i * 9) HE2.out
          simpa [setCells] using h
        · have h := HST.out
          simpa [setCells] using h
      case measure => (simp [intOf] <;> omega)
    · obtain rfl : i = l.length := by omega
      have hm : l.length ≤ maxLen := by unfold maxLen; omega
      have HD := Lib.hid (HF1.out.done hm (Nat.le_refl _))
      clear hm
      go_wp2_with fail
      go_ret
      exact ⟨_, _, rfl, HD.out, HE1.out⟩
def markE_Op (x : DOp) (k : Int) : DOp := ⟨k, ⟨(k + 1), ((k + 1) + 1), (((k + 1) + 1) + 1), (markL markStr cntOne x.record.fields ((((k + 1) + 1) + 1) + 1))⟩, ⟨(((((k + 1) + 1) + 1) + 1) + (sumC cntOne x.record.fields : Nat)), ((((((k + 1) + 1) + 1) + 1) + (sumC cntOne x.record.fields : Nat)) + 1), ((((((((k + 1) + 1) + 1) + 1) + (sumC cntOne x.record.fields : Nat)) + 1) + 1) % 3 == 0), ((((((((k + 1) + 1) + 1) + 1) + (sumC cntOne x.record.fields : Nat)) + 1) + 1) + 1)⟩⟩
def cntE_Op (x : DOp) : Nat := 1 + 1 + 1 + 1 + sumC cntOne x.record.fields + 1 + 1 + 1 + 1

set_option maxRecDepth 4000 in
set_option maxHeartbeats 3200000 in
theorem markOpS_any (l : List DOp) (k : Int) (hk : 1 ≤ k) (hb : k + (sumC cntE_Op l : Nat) ≤ 9223372036854775806) (S : Nat → Prop) (a : Option Addr) (cap : Nat) (w : World) (h : RowO 9 OpO S w a l) :
    Calls Try.prog 69 #[.slice a l.length cap, .int .i64 k] w (MarkedS 9 OpO markE_Op cntE_Op S w a l k) := by
  obtain ⟨hm, b, ee, T, h⟩ := h
  have hlen : (l.length : Int) ≤ 9223372036854775807 := by unfold maxLen at hm; omega
  have HA := Lib.hid h; have HM := Lib.hid hm
  clear h hm
  go_enter Try.func69, Try.ntmps69
  go_wp2_with fail
  go_loopw [1, 5] (fun s1 s5 wr => ∃ i : Nat, i ≤ l.length ∧ s5 = .int .i64 i ∧ s1 = .int .i64 (pos cntE_Op l k i) ∧ Hid (l ≠ [] → RowX 9 OpO b ee T wr (mix markE_Op cntE_Op l k i)) ∧ Chg S w wr) (fun _ i _ => l.length - (intOf i).toNat)
  case atStart => exact ⟨0, Nat.zero_le _, rfl, by rw [pos_zero], fun hne => by rw [mix_zero]; exact (HA.out hne).2.2.2, Chg.refl _ _⟩
  case round =>
    obtain ⟨i, hi, rfl, rfl, HX, hC⟩ := hrel
    have HC := Lib.hid hC; clear hC
    by_cases hlt : i < l.length
    · have hne : l ≠ [] := fun e => by subst e; simp at hlt
      obtain ⟨rfl, hSb, hST, -⟩ := HA.out hne
      have hsT : ∀ c, T i c → S c := fun c hc => hST i c hlt hc
      have hlen2 := HX.out hne
      obtain ⟨vs, hC0, hR⟩ := hlen2.openM hlt
      clear hlen2
      have hps := pos_succ cntE_Op l k hlt
      have hpl := pos_le cntE_Op l k (i + 1)
      have hpl2 := pos_le cntE_Op l k i
      have HCM : Hid (∀ vs w, RowC 9 OpO b ee T w (mix markE_Op cntE_Op l k i) i vs → OpO (T i) w vs (markE_Op l[i] (pos cntE_Op l k i)) → RowX 9 OpO b ee T w (mix markE_Op cntE_Op l k (i + 1))) := fun vs w h1 h2 => h1.closeM hlt h2
      obtain ⟨x, hx⟩ : ∃ x, x = l[i] := ⟨_, rfl⟩
      rw [← hx] at hR hps HCM
      clear hx
      obtain ⟨q, hq⟩ : ∃ q, q = pos cntE_Op l k i := ⟨_, rfl⟩
      rw [← hq] at hps hpl2 HCM ⊢
      clear hq
      obtain ⟨qq, hqq⟩ : ∃ qq, qq = pos cntE_Op l k (i + 1) := ⟨_, rfl⟩
      have HQQ := Lib.hid hqq
      rw [← hqq] at hps hpl
      clear hqq HX
      simp only [cntE_Op] at hps
      obtain ⟨p0, c0, rfl, r0⟩ := hR
      have R0 := Lib.hid r0; clear r0
      have HC0 := Lib.hid hC0; clear hC0
      have hap := HC0.out.apart
      have q0 := HC0.out.cell 0 (by simp); have qf0 := HC0.out.free (i * 9 + 0)
      have q1 := HC0.out.cell 1 (by simp); have qf1 := HC0.out.free (i * 9 + 1)
      have q2 := HC0.out.cell 2 (by simp); have qf2 := HC0.out.free (i * 9 + 2)
      have q3 := HC0.out.cell 3 (by simp); have qf3 := HC0.out.free (i * 9 + 3)
      have q4 := HC0.out.cell 4 (by simp); have qf4 := HC0.out.free (i * 9 + 4)
      have q5 := HC0.out.cell 5 (by simp); have qf5 := HC0.out.free (i * 9 + 5)
      have q6 := HC0.out.cell 6 (by simp); have qf6 := HC0.out.free (i * 9 + 6)
      have q7 := HC0.out.cell 7 (by simp); have qf7 := HC0.out.free (i * 9 + 7)
      have q8 := HC0.out.cell 8 (by simp); have qf8 := HC0.out.free (i * 9 + 8)
      have qlt := HC0.out.lt
      simp only [List.getElem_cons_zero, List.getElem_cons_succ, Nat.add_zero] at q0 qf0 q1 qf1 q2 qf2 q3 qf3 q4 qf4 q5 qf5 q6 qf6 q7 qf7 q8 qf8
      go_wp2_with fail
      refine (markStringS_any x.record.fields ((((q + 1) + 1) + 1) + 1) (by omega) (by omega) (T i) p0 c0 _ (RowO.setO goodO_str (RowO.setO goodO_str (RowO.setO goodO_str (RowO.setO goodO_str R0.out hap _ _) hap _ _) hap _ _) hap _ _)).mono ?_
      rintro e w2 ⟨rfl, hRO, hCh⟩
      have HC1' : Hid (RowC 9 OpO b ee T w2 (mix markE_Op cntE_Op l k i) i [.int .i64 q, .int .i64 (q + 1), .int .i64 ((q + 1) + 1), .int .i64 (((q + 1) + 1) + 1), .slice p0 x.record.fields.length c0, .int .i64 x.verdict.a, .int .i64 x.verdict.b, .bool x.verdict.same, .int .i64 x.verdict.time]) := RowC.chg goodO_Op (RowC.set_ goodO_Op (RowC.set_ goodO_Op (RowC.set_ goodO_Op (RowC.set_ goodO_Op HC0.out (j := 0) (vs' := [.int .i64 q, .int .i64 x.record.source, .int .i64 x.record.key, .int .i64 x.record.version, .slice p0 x.record.fields.length c0, .int .i64 x.verdict.a, .int .i64 x.verdict.b, .bool x.verdict.same, .int .i64 x.verdict.time]) (by simp) (by omega) rfl) (j := 1) (vs' := [.int .i64 q, .int .i64 (q + 1), .int .i64 x.record.key, .int .i64 x.record.version, .slice p0 x.record.fields.length c0, .int .i64 x.verdict.a, .int .i64 x.verdict.b, .bool x.verdict.same, .int .i64 x.verdict.time]) (by simp) (by omega) rfl) (j := 2) (vs' := [.int .i64 q, .int .i64 (q + 1), .int .i64 ((q + 1) + 1), .int .i64 x.record.version, .slice p0 x.record.fields.length c0, .int .i64 x.verdict.a, .int .i64 x.verdict.b, .bool x.verdict.same, .int .i64 x.verdict.time]) (by simp) (by omega) rfl) (j := 3) (vs' := [.int .i64 q, .int .i64 (q + 1), .int .i64 ((q + 1) + 1), .int .i64 (((q + 1) + 1) + 1), .slice p0 x.record.fields.length c0, .int .i64 x.verdict.a, .int .i64 x.verdict.b, .bool x.verdict.same, .int .i64 x.verdict.time]) (by simp) (by omega) rfl) hCh
      have HCW' : Hid (Chg S w w2) := by
        refine Chg.trans ?_ (hCh.mono hsT)
        have h := HC.out
        (repeat' (first | with_reducible assumption | with_reducible exact Chg.refl _ _ | (with_reducible refine Chg.alloc_ ?_ _) | (with_reducible refine Chg.drew_ ?_) | (with_reducible refine Chg.drewN_ ?_ _) | (with_reducible refine Chg.set_ ?_ (by assumption) _ _)))
      have RO0 := Lib.hid hRO
      clear hRO hCh HC0 HC qlt R0 q0 qf0 q1 qf1 q2 qf2 q3 qf3 q4 qf4 q5 qf5 q6 qf6 q7 qf7 q8 qf8
      have HC1 := HC1'; have HCW := HCW'; clear HC1' HCW'
      have q0 := HC1.out.cell 0 (by simp); have qf0 := HC1.out.free (i * 9 + 0)
      have q1 := HC1.out.cell 1 (by simp); have qf1 := HC1.out.free (i * 9 + 1)
      have q2 := HC1.out.cell 2 (by simp); have qf2 := HC1.out.free (i * 9 + 2)
      have q3 := HC1.out.cell 3 (by simp); have qf3 := HC1.out.free (i * 9 + 3)
      have q4 := HC1.out.cell 4 (by simp); have qf4 := HC1.out.free (i * 9 + 4)
      have q5 := HC1.out.cell 5 (by simp); have qf5 := HC1.out.free (i * 9 + 5)
      have q6 := HC1.out.cell 6 (by simp); have qf6 := HC1.out.free (i * 9 + 6)
      have q7 := HC1.out.cell 7 (by simp); have qf7 := HC1.out.free (i * 9 + 7)
      have q8 := HC1.out.cell 8 (by simp); have qf8 := HC1.out.free (i * 9 + 8)
      have qlt := HC1.out.lt
      simp only [List.getElem_cons_zero, List.getElem_cons_succ, Nat.add_zero] at q0 qf0 q1 qf1 q2 qf2 q3 qf3 q4 qf4 q5 qf5 q6 qf6 q7 qf7 q8 qf8
      go_wp2_with fail
      go_roundw
      case rel =>
        refine ⟨i + 1, by omega, by go_num, ?_, fun _ => HCM.out [.int .i64 q, .int .i64 (q + 1), .int .i64 ((q + 1) + 1), .int .i64 (((q + 1) + 1) + 1), .slice p0 x.record.fields.length c0, .int .i64 (((((q + 1) + 1) + 1) + 1) + (sumC cntOne x.record.fields : Nat)), .int .i64 ((((((q + 1) + 1) + 1) + 1) + (sumC cntOne x.record.fields : Nat)) + 1), .bool ((((((((q + 1) + 1) + 1) + 1) + (sumC cntOne x.record.fields : Nat)) + 1) + 1) % 3 == 0), .int .i64 ((((((((q + 1) + 1) + 1) + 1) + (sumC cntOne x.record.fields : Nat)) + 1) + 1) + 1)] _ (RowC.set_ goodO_Op (RowC.set_ goodO_Op (RowC.set_ goodO_Op (RowC.set_ goodO_Op HC1.out (j := 5) (vs' := [.int .i64 q, .int .i64 (q + 1), .int .i64 ((q + 1) + 1), .int .i64 (((q + 1) + 1) + 1), .slice p0 x.record.fields.length c0, .int .i64 (((((q + 1) + 1) + 1) + 1) + (sumC cntOne x.record.fields : Nat)), .int .i64 x.verdict.b, .bool x.verdict.same, .int .i64 x.verdict.time]) (by simp) (by omega) rfl) (j := 6) (vs' := [.int .i64 q, .int .i64 (q + 1), .int .i64 ((q + 1) + 1), .int .i64 (((q + 1) + 1) + 1), .slice p0 x.record.fields.length c0, .int .i64 (((((q + 1) + 1) + 1) + 1) + (sumC cntOne x.record.fields : Nat)), .int .i64 ((((((q + 1) + 1) + 1) + 1) + (sumC cntOne x.record.fields : Nat)) + 1), .bool x.verdict.same, .int .i64 x.verdict.time]) (by simp) (by omega) rfl) (j := 7) (vs' := [.int .i64 q, .int .i64 (q + 1), .int .i64 ((q + 1) + 1), .int .i64 (((q + 1) + 1) + 1), .slice p0 x.record.fields.length c0, .int .i64 (((((q + 1) + 1) + 1) + 1) + (sumC cntOne x.record.fields : Nat)), .int .i64 ((((((q + 1) + 1) + 1) + 1) + (sumC cntOne x.record.fields : Nat)) + 1), .bool ((((((((q + 1) + 1) + 1) + 1) + (sumC cntOne x.record.fields : Nat)) + 1) + 1) % 3 == 0), .int .i64 x.verdict.time]) (by simp) (by omega) rfl) (j := 8) (vs' := [.int .i64 q, .int .i64 (q + 1), .int .i64 ((q + 1) + 1), .int .i64 (((q + 1) + 1) + 1), .slice p0 x.record.fields.length c0, .int .i64 (((((q + 1) + 1) + 1) + 1) + (sumC cntOne x.record.fields : Nat)), .int .i64 ((((((q + 1) + 1) + 1) + 1) + (sumC cntOne x.record.fields : Nat)) + 1), .bool ((((((((q + 1) + 1) + 1) + 1) + (sumC cntOne x.record.fields : Nat)) + 1) + 1) % 3 == 0), .int .i64 ((((((((q + 1) + 1) + 1) + 1) + (sumC cntOne x.record.fields : Nat)) + 1) + 1) + 1)]) (by simp) (by omega) rfl) ⟨p0, c0, (by simp only [markE_Op, markL_length]), (RowO.setO goodO_str (RowO.setO goodO_str (RowO.setO goodO_str (RowO.setO goodO_str RO0.out hap _ _) hap _ _) hap _ _) hap _ _)⟩, ?_⟩
        · rw [← HQQ.out]; congr 1; rw [hps]; first | done | (push_cast; omega)
        · have h := HCW.out
          (repeat' (first | with_reducible assumption | with_reducible exact Chg.refl _ _ | (with_reducible refine Chg.alloc_ ?_ _) | (with_reducible refine Chg.drew_ ?_) | (with_reducible refine Chg.drewN_ ?_ _) | (with_reducible refine Chg.set_ ?_ (by assumption) _ _)))
      case measure => (simp [intOf] <;> omega)
    · obtain rfl : i = l.length := by omega
      have hpf := pos_full cntE_Op l k
      rw [hpf]
      clear hpf
      go_wp2_with fail
      go_ret
      refine ⟨rfl, ⟨marked_len HM.out, b, ee, T, fun hne => ?_⟩, HC.out⟩
      have hne2 := markL_nil hne
      obtain ⟨g1, g2, g3, _⟩ := HA.out hne2
      refine ⟨g1, g2, fun i c hi hc => g3 i c (by rw [markL_length] at hi; exact hi) hc, ?_⟩
      have h := HX.out hne2
      rw [mix_full] at h
      exact h

set_option maxRecDepth 4000 in
set_option maxHeartbeats 3200000 in
theorem heldOpS_any (l : List DOp) (k : Int) (hk : 1 ≤ k) (hb : k + (sumC cntE_Op l : Nat) ≤ 9223372036854775806) (B : Nat) (a : Option Addr) (cap : Nat) (w : World) (h : RowR 9 OpR B w a (markL markE_Op cntE_Op l k)) :
    Calls Try.prog 70 #[.slice a l.length cap, .int .i64 k] w (fun e w' => e = .returned (.int .i64 (k + (sumC cntE_Op l : Nat))) ∧ Ext w w') := by
  have hlen : (l.length : Int) ≤ 9223372036854775807 := by have := h.1; rw [markL_length] at this; unfold maxLen at this; omega
  have HA := Lib.hid h
  clear h
  go_enter Try.func70, Try.ntmps70
  go_wp2_with fail
  go_loopw [1, 5] (fun s1 s5 wr => ∃ i : Nat, i ≤ l.length ∧ s5 = .int .i64 i ∧ s1 = .int .i64 (pos cntE_Op l k i) ∧ Ext w wr) (fun _ i _ => l.length - (intOf i).toNat)
  case atStart => exact ⟨0, Nat.zero_le _, rfl, by rw [pos_zero], Ext.refl _⟩
  case round =>
    obtain ⟨i, hi, rfl, rfl, hE⟩ := hrel
    have HE := Lib.hid hE; clear hE
    by_cases hlt : i < l.length
    · have hlt2 : i < (markL markE_Op cntE_Op l k).length := by rw [markL_length]; exact hlt
      obtain ⟨b, o, vs, rfl, -, hvl, hc, hR⟩ := (HA.out.ext good_Op HE.out).2 i hlt2
      rw [markL_get markE_Op cntE_Op l k i hlt2] at hR
      have hps := pos_succ cntE_Op l k hlt
      have hpl := pos_le cntE_Op l k (i + 1)
      have hpl2 := pos_le cntE_Op l k i
      obtain ⟨x, hx⟩ : ∃ x, x = l[i] := ⟨_, rfl⟩
      rw [← hx] at hR hps
      clear hx hlt2
      obtain ⟨q, hq⟩ : ∃ q, q = pos cntE_Op l k i := ⟨_, rfl⟩
      rw [← hq] at hR hps hpl2 ⊢
      clear hq
      obtain ⟨qq, hqq⟩ : ∃ qq, qq = pos cntE_Op l k (i + 1) := ⟨_, rfl⟩
      have HQQ := Lib.hid hqq
      rw [← hqq] at hps hpl
      clear hqq
      simp only [cntE_Op] at hps
      simp only [markE_Op] at hR
      obtain ⟨p0, c0, rfl, r0⟩ := hR
      have R0 := Lib.hid r0; clear r0
      have q0 := hc 0 (by simp)
      have q1 := hc 1 (by simp)
      have q2 := hc 2 (by simp)
      have q3 := hc 3 (by simp)
      have q4 := hc 4 (by simp)
      have q5 := hc 5 (by simp)
      have q6 := hc 6 (by simp)
      have q7 := hc 7 (by simp)
      have q8 := hc 8 (by simp)
      simp only [List.getElem_cons_zero, List.getElem_cons_succ, Nat.add_zero, markL_length] at q0 q1 q2 q3 q4 q5 q6 q7 q8
      clear hc hvl
      go_wp2_with fail
      refine (heldStringS_any x.record.fields ((((q + 1) + 1) + 1) + 1) (by omega) (by omega) B p0 c0 _ R0.out).mono ?_
      rintro e w2 ⟨rfl, hE2⟩
      replace q0 := hE2.at q0
      replace q1 := hE2.at q1
      replace q2 := hE2.at q2
      replace q3 := hE2.at q3
      replace q4 := hE2.at q4
      replace q5 := hE2.at q5
      replace q6 := hE2.at q6
      replace q7 := hE2.at q7
      replace q8 := hE2.at q8
      replace R0 := Lib.hid (R0.out.ext good_str hE2)
      have HE2 := Lib.hid (HE.out.trans hE2)
      clear hE2
      have hge2 : ¬ ((((q + 1) + 1) + 1) + 1) + (sumC cntOne x.record.fields : Nat) < 0 := by omega
      go_wp2_with fail
      go_roundw
      case rel =>
        refine ⟨i + 1, by omega, by go_num, ?_, HE2.out⟩
        rw [← HQQ.out]; congr 1; rw [hps]; first | done | (push_cast; omega)
      case measure => (simp [intOf] <;> omega)
    · obtain rfl : i = l.length := by omega
      have hpf := pos_full cntE_Op l k
      rw [hpf]
      clear hpf
      go_wp2_with fail
      go_ret
      exact ⟨rfl, HE.out⟩
end Go.Proofs.Ytdgpbgpapcldeaa
