/- The type Record: its datum, how it lies in memory, its copies, sizes and equality. -/
import Derived.Test.YtdgpbgpapcldeaaRows
import Derived.Test.YtdgpbgpapcldeaaDLib
import Derived.Test.YtdgpbgpapcldeaaKStringS
set_option linter.unusedVariables false
set_option linter.unusedSimpArgs false
namespace Go.Proofs.Ytdgpbgpapcldeaa
open Go.RowKit Go.Er Go.BigFrame
structure DRecord where
  source : Int
  key : Int
  version : Int
  fields : (List ByteArray)
def RecordR : Rel DRecord := fun B w vs x => ∃ (p0 : Option Addr) (c0 : Nat), vs = [.int .i64 x.source, .int .i64 x.key, .int .i64 x.version, .slice p0 x.fields.length c0] ∧ RowR 1 StrR B w p0 x.fields
theorem good_Record : GoodR RecordR := ⟨fun hk ⟨p0, c0, h0, r0⟩ => ⟨p0, c0, h0, r0.keep good_str hk⟩, fun hB ⟨p0, c0, h0, r0⟩ => ⟨p0, c0, h0, r0.mono good_str hB⟩⟩
def SmallRecord (x : DRecord) : Prop := SmallL (fun y => True) x.fields

set_option maxHeartbeats 800000 in
theorem szRecord_any (x : DRecord) (left : Int) (h0 : 0 ≤ left) (h9 : left ≤ 1048576) (vs : List Value) (B : Nat) (w : World) (h : RecordR B w vs x) :
    Calls Try.prog 147 #[.agg vs.toArray, .int .i64 left] w (Sized left (SmallRecord x) w) := by
  obtain ⟨p0, c0, rfl, r0⟩ := h
  have HB := Lib.hid (Box.new w 166 #[.int .i64 x.source, .int .i64 x.key, .int .i64 x.version, .slice p0 x.fields.length c0])
  have HE := Lib.hid (Ext.alloc w (.cells #[.int .i64 x.source, .int .i64 x.key, .int .i64 x.version, .slice p0 x.fields.length c0] 166))
  have R0 := Lib.hid (r0.ext good_str HE.out)
  clear r0
  go_enter Try.func147, Try.ntmps147
  go_wp2_with fail
  refine (szStringS_any x.fields left (by omega) (by omega) p0 c0 B _ R0.out).mono ?_
  rintro e w0 ⟨v0, rfl, hv0, hm0, hp0, hE0⟩
  have HP0 := Lib.hid hp0; have HE0 := Lib.hid (HE.out.trans hE0)
  replace HB := Lib.hid (HB.out.ext hE0)
  replace R0 := Lib.hid (R0.out.ext good_str hE0)
  clear hp0 hE0
  by_cases hn0 : v0 < 0
  · go_wp2_with fail
    go_ret
    exact ⟨-1, rfl, by omega, by omega, fun h => absurd h (by omega), HE0.out⟩
  go_wp2_with fail
  go_ret
  exact ⟨v0, rfl, by omega, by omega, fun _ => HP0.out (by omega), HE0.out⟩

set_option maxHeartbeats 1600000 in
theorem toRecord_any (x : DRecord) (hs : SmallRecord x) (vs : List Value) (w : World) (h : RecordR 0 w vs x) :
    Calls Try.prog 148 #[.agg vs.toArray] w (Made RecordR w x) := by
  obtain ⟨p0, c0, rfl, r0⟩ := h
  have HS := Lib.hid hs; clear hs
  have R0 := Lib.hid r0
  clear r0
  go_enter Try.func148, Try.ntmps148
  go_wp2_with fail
  refine (toStringS_any x.fields HS.out p0 c0 _ (R0.out.ext good_str (by (repeat' (first | with_reducible assumption | with_reducible exact Below.refl _ _ | (with_reducible refine Ext.alloc' ?_ _) | (with_reducible refine Ext.drew' ?_) | (with_reducible refine Ext.drewN' ?_ _) | (with_reducible refine Ext.set_ ?_ (by first | omega | (simp; done) | (simp; omega)) _ _) | (refine Ext.trans ?_ (by with_reducible assumption))))))).mono ?_
  rintro e w0 ⟨s0, d0, rfl, hr0, hE0⟩
  have HN1' : Hid (Box w0 w.heap.size 166 #[.int .i64 x.source, .int .i64 x.key, .int .i64 x.version, .slice p0 x.fields.length c0]) := (Box.alloc (Box.alloc (Box.new' _ _ #[.int .i64 x.source, .int .i64 x.key, .int .i64 x.version, .slice p0 x.fields.length c0] _ (by simp)) _) _).ext hE0
  have HN2' : Hid (Box w0 (w.heap.size + 1) 88 #[.int .i64 0, .int .i64 0, .int .i64 0, .slice none 0 0]) := (Box.alloc (Box.new' _ _ #[.int .i64 0, .int .i64 0, .int .i64 0, .slice none 0 0] _ (by simp)) _).ext hE0
  have HN3' : Hid (Box w0 (w.heap.size + 1 + 1) 88 #[.int .i64 x.source, .int .i64 x.key, .int .i64 x.version, .slice none 0 0]) := (Box.new' _ _ #[.int .i64 x.source, .int .i64 x.key, .int .i64 x.version, .slice none 0 0] _ (by simp)).ext hE0
  have S0 := Lib.hid (hr0.mono good_str (B' := w.heap.size + 3) (by simp))
  clear hr0
  have HE' : Hid (Ext w w0) := (show Ext w w0 from by have h9 := hE0; (repeat' (first | with_reducible assumption | with_reducible exact Below.refl _ _ | (with_reducible refine Ext.alloc' ?_ _) | (with_reducible refine Ext.drew' ?_) | (with_reducible refine Ext.drewN' ?_ _) | (with_reducible refine Ext.set_ ?_ (by first | omega | (simp; done) | (simp; omega)) _ _) | (refine Ext.trans ?_ (by with_reducible assumption)))))
  have HE := HE'; have HN1 := HN1'; have HN2 := HN2'; have HN3 := HN3'
  clear HE' HN1' HN2' HN3' hE0
  have k0 := HN1.out.cell 0
  have k1 := HN1.out.cell 1
  have k2 := HN1.out.cell 2
  have k3 := HN1.out.cell 3
  have klt := HN1.out.lt
  simp only [List.getElem?_toArray, List.getElem?_cons_zero, List.getElem?_cons_succ] at k0 k1 k2 k3
  have m0 := HN3.out.cell 0
  have mf0 := HN3.out.free 0
  have m1 := HN3.out.cell 1
  have mf1 := HN3.out.free 1
  have m2 := HN3.out.cell 2
  have mf2 := HN3.out.free 2
  have m3 := HN3.out.cell 3
  have mf3 := HN3.out.free 3
  have mlt := HN3.out.lt
  simp only [List.getElem?_toArray, List.getElem?_cons_zero, List.getElem?_cons_succ] at m0 m1 m2 m3
  have l0 := HN2.out.cell 0
  have lf0 := HN2.out.free 0
  have l1 := HN2.out.cell 1
  have lf1 := HN2.out.free 1
  have l2 := HN2.out.cell 2
  have lf2 := HN2.out.free 2
  have l3 := HN2.out.cell 3
  have lf3 := HN2.out.free 3
  have llt := HN2.out.lt
  simp only [List.getElem?_toArray, List.getElem?_cons_zero, List.getElem?_cons_succ] at l0 l1 l2 l3
  go_wp2_with fail
  refine bodyPost_ret (v := .agg #[.int .i64 x.source, .int .i64 x.key, .int .i64 x.version, .slice s0 x.fields.length d0]) (by simp [results, Try.results148, go_sem, m0, m1, m2, m3, l0, l1, l2, l3]) rfl ?_
  refine ⟨[.int .i64 x.source, .int .i64 x.key, .int .i64 x.version, .slice s0 x.fields.length d0], rfl, ?_, ?_⟩
  rotate_left
  · have h8 := HE.out; (repeat' (first | with_reducible assumption | with_reducible exact Below.refl _ _ | (with_reducible refine Ext.alloc' ?_ _) | (with_reducible refine Ext.drew' ?_) | (with_reducible refine Ext.drewN' ?_ _) | (with_reducible refine Ext.set_ ?_ (by first | omega | (simp; done) | (simp; omega)) _ _) | (refine Ext.trans ?_ (by with_reducible assumption))))
  exact ⟨s0, d0, rfl, (S0.out.keep good_str (by (repeat' (first | with_reducible exact Keep.refl _ _ | refine Keep.set_trans ?_ (by omega) _ _)))).mono good_str (by omega)⟩

set_option maxHeartbeats 800000 in
theorem eqRecord_any (x : DRecord) (us vs : List Value) (w : World) (ha : RecordR 0 w us x) (hb : RecordR 0 w vs x) :
    Calls Try.prog 150 #[.agg us.toArray, .agg vs.toArray] w (Yes w) := by
  obtain ⟨p0a, c0a, rfl, r0a⟩ := ha
  obtain ⟨p0b, c0b, rfl, r0b⟩ := hb
  have R0a := Lib.hid r0a; have R0b := Lib.hid r0b; clear r0a r0b
  go_enter Try.func150, Try.ntmps150
  go_wp2_with fail
  refine (eqStringS_any x.fields p0a p0b c0a c0b _ (R0a.out.ext good_str (by (repeat' (first | with_reducible assumption | with_reducible exact Below.refl _ _ | (with_reducible refine Ext.alloc' ?_ _) | (with_reducible refine Ext.drew' ?_) | (with_reducible refine Ext.drewN' ?_ _) | (with_reducible refine Ext.set_ ?_ (by first | omega | (simp; done) | (simp; omega)) _ _) | (refine Ext.trans ?_ (by with_reducible assumption)))))) (R0b.out.ext good_str (by (repeat' (first | with_reducible assumption | with_reducible exact Below.refl _ _ | (with_reducible refine Ext.alloc' ?_ _) | (with_reducible refine Ext.drew' ?_) | (with_reducible refine Ext.drewN' ?_ _) | (with_reducible refine Ext.set_ ?_ (by first | omega | (simp; done) | (simp; omega)) _ _) | (refine Ext.trans ?_ (by with_reducible assumption))))))).mono ?_
  rintro e w0 ⟨rfl, hE0⟩
  have HA : Hid (Box w0 w.heap.size 88 #[.int .i64 x.source, .int .i64 x.key, .int .i64 x.version, .slice p0a x.fields.length c0a]) := (Box.alloc (Box.new' _ _ _ _ rfl) _).ext hE0
  have HB : Hid (Box w0 (w.heap.size + 1) 88 #[.int .i64 x.source, .int .i64 x.key, .int .i64 x.version, .slice p0b x.fields.length c0b]) := (Box.new' _ _ _ _ (by simp)).ext hE0
  have HE : Hid (Ext w w0) := (show Ext w w0 from by have h9 := hE0; (repeat' (first | with_reducible assumption | with_reducible exact Below.refl _ _ | (with_reducible refine Ext.alloc' ?_ _) | (with_reducible refine Ext.drew' ?_) | (with_reducible refine Ext.drewN' ?_ _) | (with_reducible refine Ext.set_ ?_ (by first | omega | (simp; done) | (simp; omega)) _ _) | (refine Ext.trans ?_ (by with_reducible assumption)))))
  clear hE0
  have k0 := HA.out.cell 0
  have k1 := HA.out.cell 1
  have k2 := HA.out.cell 2
  have k3 := HA.out.cell 3
  have klt := HA.out.lt
  simp only [List.getElem?_toArray, List.getElem?_cons_zero, List.getElem?_cons_succ] at k0 k1 k2 k3
  have m0 := HB.out.cell 0
  have m1 := HB.out.cell 1
  have m2 := HB.out.cell 2
  have m3 := HB.out.cell 3
  have mlt := HB.out.lt
  simp only [List.getElem?_toArray, List.getElem?_cons_zero, List.getElem?_cons_succ] at m0 m1 m2 m3
  go_wp2_with fail
  go_ret
  exact ⟨rfl, by have h8 := HE.out; (repeat' (first | with_reducible assumption | with_reducible exact Below.refl _ _ | (with_reducible refine Ext.alloc' ?_ _) | (with_reducible refine Ext.drew' ?_) | (with_reducible refine Ext.drewN' ?_ _) | (with_reducible refine Ext.set_ ?_ (by first | omega | (simp; done) | (simp; omega)) _ _) | (refine Ext.trans ?_ (by with_reducible assumption))))⟩

theorem info_RecordS : (Try.prog.info? 88).map (fun i => (i.zero, i.size, i.bytes)) = some (some (.agg #[.int .i64 0, .int .i64 0, .int .i64 0, .slice none 0 0]), 4, 48) := by kernel_rfl

set_option maxHeartbeats 800000 in
theorem szRecordS_any (l : List DRecord) (left : Int) (h0 : 0 ≤ left) (h9 : left ≤ 1048576) (a : Option Addr) (cap B : Nat) (w : World) (h : RowR 4 RecordR B w a l) :
    Calls Try.prog 116 #[.slice a l.length cap, .int .i64 left] w (Sized left (SmallL (fun y => SmallRecord y) l) w) := by
  have hlen : (l.length : Int) ≤ 9223372036854775807 := by have := h.1; unfold maxLen at this; omega
  have HA := Lib.hid h
  clear h
  by_cases hlt : (l.length : Int) ≤ left
  · go_enter Try.func116, Try.ntmps116
    go_wp2_with fail
    go_loopw [1, 5] (fun s1 s5 wr => ∃ (i : Nat) (v : Int), i ≤ l.length ∧ s5 = .int .i64 i ∧ s1 = .int .i64 v ∧ 0 ≤ v ∧ v ≤ left ∧ (∀ x ∈ l.take i, (fun y => SmallRecord y) x) ∧ Ext w wr) (fun _ i _ => l.length - (intOf i).toNat)
    case atStart => exact ⟨0, left - l.length, Nat.zero_le _, rfl, by go_num, by omega, by omega, fun x hx => by simp at hx, Ext.refl _⟩
    case round =>
    obtain ⟨i, v, hi, rfl, rfl, hv0, hv9, hs1, hE1⟩ := hrel
    have HS1 := Lib.hid hs1; have HE1 := Lib.hid hE1; clear hs1 hE1
    by_cases hlt : i < l.length
    · skip
      obtain ⟨b, o, vs, rfl, _, _, hc, hR⟩ := (HA.out.ext good_Record HE1.out).2 i hlt
      obtain ⟨x, hx⟩ : ∃ x, x = l[i] := ⟨_, rfl⟩
      have HX := Lib.hid hx
      rw [← hx] at hR
      clear hx
      obtain ⟨p0, c0, rfl, r0⟩ := hR
      have q0 := hc 0 (by simp)
      have q1 := hc 1 (by simp)
      have q2 := hc 2 (by simp)
      have q3 := hc 3 (by simp)
      simp only [List.getElem_cons_zero, List.getElem_cons_succ, Nat.mul_one, Nat.add_zero] at q0 q1 q2 q3
      clear hc
      have hR : RecordR B wr [.int .i64 x.source, .int .i64 x.key, .int .i64 x.version, .slice p0 x.fields.length c0] x := ⟨p0, c0, rfl, r0⟩
      have HR := Lib.hid hR
      clear hR r0
      go_wp2_with fail
      refine (szRecord_any x v (by omega) (by omega) _ B _ HR.out).mono ?_
      rintro e w2 ⟨v2, rfl, h2, h3, hp2, hE2⟩
      have HP2 := Lib.hid hp2; have HE2 := Lib.hid (HE1.out.trans hE2)
      clear hp2 hE2 q0 q1 q2 q3
      by_cases hn : v2 < 0
      · go_wp2_with fail
        go_ret
        exact ⟨-1, rfl, by omega, by omega, fun h => absurd h (by omega), HE2.out⟩
      · go_wp2_with fail
        go_roundw
        case rel => exact ⟨i + 1, v2, by omega, by go_num, rfl, by omega, by omega, small_step hlt HS1.out (HX.out ▸ HP2.out (by omega)), HE2.out⟩
        case measure => (simp [intOf] <;> omega)
    · obtain rfl : i = l.length := by omega
      go_wp2_with fail
      go_ret
      exact ⟨v, rfl, by omega, by omega, fun _ => ⟨by omega, by have h := HS1.out; rw [List.take_length] at h; exact h⟩, HE1.out⟩
  · go_enter Try.func116, Try.ntmps116
    go_wp2_with fail
    go_ret
    exact ⟨-1, rfl, by omega, by omega, fun h => absurd h (by omega), Ext.refl _⟩

set_option maxHeartbeats 1600000 in
theorem toRecordS_any (l : List DRecord) (hs : SmallL (fun y => SmallRecord y) l) (a : Option Addr) (cap : Nat) (w : World) (ha : RowR 4 RecordR 0 w a l) :
    Calls Try.prog 119 #[.slice a l.length cap] w (MadeS 4 RecordR w l) := by
  have hlen := hs.1
  have HA := Lib.hid ha; have HS := Lib.hid hs.2; clear ha hs
  go_enter Try.func119, Try.ntmps119
  go_wp2_with (at_make; refine wpList_make_row RecordR l rfl _ _ 66 rfl Try.underlying66 info_RecordS (by decide) .i64 .i64 rfl rfl hlen (Ext.refl _) ?_; intro w1 hF hE)
  have HF := Lib.hid hF; have HE := Lib.hid hE; clear hF hE
  go_loopw [4] (fun s4 wr => ∃ i : Nat, i ≤ l.length ∧ s4 = .int .i64 i ∧ Ext w wr ∧ Filled 4 RecordR w.heap.size 88 l.length wr l i) (fun i _ => l.length - (intOf i).toNat)
  case atStart => exact ⟨0, Nat.zero_le _, rfl, HE.out, HF.out⟩
  case round =>
    obtain ⟨i, hi, rfl, hE1, hF1⟩ := hrel
    have HE1 := Lib.hid hE1; have HF1 := Lib.hid hF1; clear hE1 hF1
    by_cases hlt : i < l.length
    · obtain ⟨b, o, vs, rfl, _, _, hc, hR⟩ := (HA.out.ext good_Record HE1.out).2 i hlt
      have hsm := HS.out l[i] (List.getElem_mem hlt)
      obtain ⟨x, hx⟩ : ∃ x, x = l[i] := ⟨_, rfl⟩
      have HX := Lib.hid hx
      rw [← hx] at hR
      try rw [← hx] at hsm
      have HSM := Lib.hid hsm
      clear hx hsm
      obtain ⟨p0, c0, rfl, r0⟩ := hR
      have q0 := hc 0 (by simp)
      have q1 := hc 1 (by simp)
      have q2 := hc 2 (by simp)
      have q3 := hc 3 (by simp)
      simp only [List.getElem_cons_zero, List.getElem_cons_succ, Nat.mul_one, Nat.add_zero] at q0 q1 q2 q3
      clear hc
      have hR : RecordR 0 wr [.int .i64 x.source, .int .i64 x.key, .int .i64 x.version, .slice p0 x.fields.length c0] x := ⟨p0, c0, rfl, r0⟩
      have HR := Lib.hid hR
      clear hR r0
      go_wp2_with fail
      refine (toRecord_any x HSM.out _ _ HR.out).mono ?_
      rintro e w2 ⟨us, rfl, hR2, hE2⟩
      have HF2 := Lib.hid (HF1.out.ext good_Record hE2)
      have HE2 := Lib.hid (HE1.out.trans hE2)
      have hR3 := good_Record.mono (B' := w.heap.size + 1) HF1.out.lt hR2
      obtain ⟨p0', c0', rfl, r0'⟩ := hR2
      have hst := HF2.out.step good_Record hlt (Nat.le_refl _) (us := [.int .i64 x.source, .int .i64 x.key, .int .i64 x.version, .slice p0' x.fields.length c0']) rfl (HX.out ▸ hR3)
      have HST := Lib.hid hst
      clear hst hR3 hE2 r0' q0 q1 q2 q3
      obtain ⟨y0, hy0⟩ := HF2.out.cell (m := i * 4) (by omega); have hf0 := HF2.out.free (i * 4)
      obtain ⟨y1, hy1⟩ := HF2.out.cell (m := i * 4 + 1) (by omega); have hf1 := HF2.out.free (i * 4 + 1)
      obtain ⟨y2, hy2⟩ := HF2.out.cell (m := i * 4 + 2) (by omega); have hf2 := HF2.out.free (i * 4 + 2)
      obtain ⟨y3, hy3⟩ := HF2.out.cell (m := i * 4 + 3) (by omega); have hf3 := HF2.out.free (i * 4 + 3)
      go_wp2_with fail
      go_roundw
      case rel =>
        refine ⟨i + 1, by omega, by go_num, ?_, ?_⟩
        · have h := ext_setCells (N := w.heap.size) (Nat.le_refl _) [.int .i64 x.source, .int .i64 x.key, .int .i64 x.version, .slice p0' x.fields.length c0'] (i * 4) HE2.out
          simpa [setCells] using h
        · have h := HST.out
          simpa [setCells] using h
      case measure => (simp [intOf] <;> omega)
    · obtain rfl : i = l.length := by omega
      have hm : l.length ≤ maxLen := by unfold maxLen; omega
      have HD := Lib.hid (HF1.out.done good_Record hm)
      clear hm
      go_wp2_with fail
      go_ret
      exact ⟨_, _, rfl, HD.out, HE1.out⟩

set_option maxHeartbeats 1600000 in
theorem eqRecordS_any (l : List DRecord) (a1 a2 : Option Addr) (c1 c2 : Nat) (w : World) (h1 : RowR 4 RecordR 0 w a1 l) (h2 : RowR 4 RecordR 0 w a2 l) :
    Calls Try.prog 125 #[.slice a1 l.length c1, .slice a2 l.length c2] w (Yes w) := by
  have hlen : (l.length : Int) ≤ 9223372036854775807 := by have := h1.1; unfold maxLen at this; omega
  have HA := Lib.hid h1; have HB := Lib.hid h2
  clear h1 h2
  go_enter Try.func125, Try.ntmps125
  go_wp2_with fail
  go_loopw [5] (fun s5 wr => ∃ i : Nat, i ≤ l.length ∧ s5 = .int .i64 i ∧ Ext w wr) (fun i _ => l.length - (intOf i).toNat)
  case atStart => exact ⟨0, Nat.zero_le _, rfl, by (repeat' (first | with_reducible assumption | with_reducible exact Below.refl _ _ | (with_reducible refine Ext.alloc' ?_ _) | (with_reducible refine Ext.drew' ?_) | (with_reducible refine Ext.drewN' ?_ _) | (with_reducible refine Ext.set_ ?_ (by first | omega | (simp; done) | (simp; omega)) _ _) | (refine Ext.trans ?_ (by with_reducible assumption))))⟩
  case round =>
    obtain ⟨i, hi, rfl, hE1⟩ := hrel
    have HE1 := Lib.hid hE1; clear hE1
    by_cases hlt : i < l.length
    · obtain ⟨b1, o1, vs1, rfl, _, _, hc1, hR1⟩ := (HA.out.ext good_Record HE1.out).2 i hlt
      obtain ⟨b2, o2, vs2, rfl, _, _, hc2, hR2⟩ := (HB.out.ext good_Record HE1.out).2 i hlt
      obtain ⟨x, hx⟩ : ∃ x, x = l[i] := ⟨_, rfl⟩
      rw [← hx] at hR1 hR2
      clear hx
      obtain ⟨p0a, c0a, rfl, r0a⟩ := hR1
      obtain ⟨p0b, c0b, rfl, r0b⟩ := hR2
      have q0 := hc1 0 (by simp)
      have q1 := hc1 1 (by simp)
      have q2 := hc1 2 (by simp)
      have q3 := hc1 3 (by simp)
      simp only [List.getElem_cons_zero, List.getElem_cons_succ, Nat.mul_one, Nat.add_zero] at q0 q1 q2 q3
      have t0 := hc2 0 (by simp)
      have t1 := hc2 1 (by simp)
      have t2 := hc2 2 (by simp)
      have t3 := hc2 3 (by simp)
      simp only [List.getElem_cons_zero, List.getElem_cons_succ, Nat.mul_one, Nat.add_zero] at t0 t1 t2 t3
      clear hc1 hc2
      have HR1 : Hid (RecordR 0 wr [.int .i64 x.source, .int .i64 x.key, .int .i64 x.version, .slice p0a x.fields.length c0a] x) := ⟨p0a, c0a, rfl, r0a⟩
      have HR2 : Hid (RecordR 0 wr [.int .i64 x.source, .int .i64 x.key, .int .i64 x.version, .slice p0b x.fields.length c0b] x) := ⟨p0b, c0b, rfl, r0b⟩
      clear r0a r0b
      have hll : (i : Int) < l.length := by omega
      go_wp2_with fail
      refine wp_region_ext (by kernel_rfl) (by kernel_rfl) ?_
      repeat (first
        | go_big_quiet_skip
        | (go_big_quiet_want; go_big_quiet_op; first
            | go_big_quiet_on
            | (refine ⟨_, fun w' hw' => rfl, ?_⟩; go_big_quiet_on)
            | (refine ⟨.agg #[.int .i64 x.source, .int .i64 x.key, .int .i64 x.version, .slice p0a x.fields.length c0a], fun w' hw' => ?_, ?_⟩
               · have u0 := hw'.at q0; have u1 := hw'.at q1; have u2 := hw'.at q2; have u3 := hw'.at q3
                 simp [go_sem, u0, u1, u2, u3]; done
               go_big_quiet_on)
            | (refine ⟨.agg #[.int .i64 x.source, .int .i64 x.key, .int .i64 x.version, .slice p0b x.fields.length c0b], fun w' hw' => ?_, ?_⟩
               · have u0 := hw'.at t0; have u1 := hw'.at t1; have u2 := hw'.at t2; have u3 := hw'.at t3
                 simp [go_sem, u0, u1, u2, u3]; done
               go_big_quiet_on)
            | (refine ⟨.bool true, fun w' hw' => ((eqRecord_any x [.int .i64 x.source, .int .i64 x.key, .int .i64 x.version, .slice p0a x.fields.length c0a] [.int .i64 x.source, .int .i64 x.key, .int .i64 x.version, .slice p0b x.fields.length c0b] w' (good_Record.ext HR1.out hw') (good_Record.ext HR2.out hw')).mono (fun e w'' h => ⟨h.1, hw'.trans h.2⟩)), ?_⟩; go_big_quiet_on)))
      refine wpQuiet_nil ?_
      intro w2 hE2
      have HE2 := Lib.hid (HE1.out.trans hE2)
      clear hE2 q0 t0 q1 t1 q2 t2 q3 t3
      go_wp2_with fail
      go_roundw
      case rel => exact ⟨i + 1, by omega, by go_num, HE2.out⟩
      case measure => (simp [intOf] <;> omega)
    · obtain rfl : i = l.length := by omega
      go_wp2_with fail
      go_ret
      exact ⟨rfl, HE1.out⟩
end Go.Proofs.Ytdgpbgpapcldeaa
