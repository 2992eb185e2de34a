/- The program's copies of configurations. -/
import Derived.Test.YtdgpbgpapcldeaaClone
import Derived.Test.YtdgpbgpapcldeaaNConfig
import Derived.Deep.RegionHeld3
set_option linter.unusedVariables false
set_option linter.unusedSimpArgs false
namespace Go.Proofs.Ytdgpbgpapcldeaa
open Go.RowKit Go.Er Go.BigFrame

set_option maxHeartbeats 800000 in
theorem cloneScoring_any (x : DScoring) (hs : SmallScoring x) (vs : List Value) (B : Nat) (w : World) (h : ScoringR B w vs x) :
    Calls Try.prog 130 #[.agg vs.toArray] w (MadeD_Scoring w x) := by
  obtain ⟨p0, c0, rfl, r0⟩ := h
  have R0 := Lib.hid r0; clear r0
  go_enter Try.func130, Try.ntmps130
  go_wp2_with fail
  obtain ⟨w0, hw0⟩ : ∃ w0, w0 = (w.alloc (.cells #[.slice p0 x.weights.length c0, .int .i64 x.bias] 46)).alloc (.cells #[.slice none 0 0, .int .i64 0] 46) := ⟨_, rfl⟩
  have HB1 : Hid (Box w0 w.heap.size 46 #[.slice p0 x.weights.length c0, .int .i64 x.bias]) := by rw [hw0]; exact Box.alloc (Box.new' _ _ _ _ rfl) _
  have HB2 : Hid (Box w0 (w.heap.size + 1) 46 #[.slice none 0 0, .int .i64 0]) := by rw [hw0]; exact Box.new' _ _ _ _ (by simp)
  have HE0 : Hid (Ext w w0) := by rw [hw0]; show Ext w _; (repeat' (first | with_reducible assumption | with_reducible exact Below.refl _ _ | (with_reducible refine Ext.alloc' ?_ _) | (with_reducible refine Ext.drew' ?_) | (with_reducible refine Ext.drewN' ?_ _) | (with_reducible refine Ext.set_ ?_ (by first | omega | (simp; done) | (simp; omega)) _ _) | (refine Ext.trans ?_ (by with_reducible assumption))))
  have hsz : Hid (w0.heap.size = w.heap.size + 2) := by show _ = _; rw [hw0]; simp
  have HRR := Lib.hid (R0.out.ext good_int HE0.out)
  rw [← hw0]
  clear hw0
  have b1 := HB1.out; have b2 := HB2.out
  have k0 := b1.cell 0
  have kf0 := b1.free 0
  have k1 := b1.cell 1
  have kf1 := b1.free 1
  have klt := b1.lt
  simp only [List.getElem?_toArray, List.getElem?_cons_zero, List.getElem?_cons_succ] at k0 k1
  have m0 := b2.cell 0
  have mf0 := b2.free 0
  have m1 := b2.cell 1
  have mf1 := b2.free 1
  have mlt := b2.lt
  simp only [List.getElem?_toArray, List.getElem?_cons_zero, List.getElem?_cons_succ] at m0 m1
  clear b1 b2
  go_region_held3 (fun w' => w'.cell? ⟨w.heap.size, 0, none⟩ = some (.slice p0 x.weights.length c0) ∧ w'.cell? ⟨w.heap.size, 1, none⟩ = some (.int .i64 x.bias)) (go_keep)
    ((go_at_call 131; refine (cloneIntS_any x.weights hs.1 p0 c0 B _ (HRR.out.ext good_int (by (repeat' (first | with_reducible assumption | with_reducible exact Below.refl _ _ | (with_reducible refine Ext.alloc' ?_ _) | (with_reducible refine Ext.drew' ?_) | (with_reducible refine Ext.drewN' ?_ _) | (with_reducible refine Ext.set_ ?_ (by first | omega | (simp; done) | (simp; omega)) _ _) | (refine Ext.trans ?_ (by with_reducible assumption))))))).mono ?_; rintro e w2 ⟨a2, c2, rfl, hr, hE2⟩
      have hE2 : Ext w0 w2 := (show Ext w0 w2 from by have h9 := hE2; (repeat' (first | with_reducible assumption | with_reducible exact Below.refl _ _ | (with_reducible refine Ext.alloc' ?_ _) | (with_reducible refine Ext.drew' ?_) | (with_reducible refine Ext.drewN' ?_ _) | (with_reducible refine Ext.set_ ?_ (by first | omega | (simp; done) | (simp; omega)) _ _) | (refine Ext.trans ?_ (by with_reducible assumption)))))
      have HE2 := Lib.hid hE2; have HR2 : Hid (RowO 1 IntO (Span (w.heap.size + 2) w2.heap.size) w2 a2 x.weights) := (hr.monoB (B' := w.heap.size + 2) (by have := hsz.out; simp; omega)).span goodO_int
      have k0' := hE2.at k0; have k1' := hE2.at k1
      have b2 := HB2.out.ext hE2
      have n0 := b2.cell 0; have n1 := b2.cell 1; have nf0 := b2.free 0; have nf1 := b2.free 1
      simp only [List.getElem?_toArray, List.getElem?_cons_zero, List.getElem?_cons_succ] at n0 n1
      clear b2 hE2 hr k0 m0 mf0 k1 m1 mf1))
  go_wp2_with fail
  refine bodyPost_ret (v := .agg #[.slice a2 x.weights.length c2, .int .i64 x.bias]) (by simp [results, Try.results130, go_sem, n0, n1]) rfl ?_
  have hle := HE2.out.size; have hz := hsz.out
  refine ⟨a2, c2, oneT (Span (w.heap.size + 2) w2.heap.size), rfl, ApartT.one _, span_in.mono (by omega) (by simp), ?_, ?_⟩
  · refine (HR2.out.keepS goodO_int (B := w.heap.size + 2) (by (repeat' (first | with_reducible exact Keep.refl _ _ | refine Keep.set_trans ?_ (by omega) _ _))) (Nat.le_refl _)).mono (fun c h => ⟨rfl, h⟩)
  · have h8 : Ext w w2 := HE0.out.trans HE2.out
    (repeat' (first | with_reducible assumption | with_reducible exact Below.refl _ _ | (with_reducible refine Ext.alloc' ?_ _) | (with_reducible refine Ext.drew' ?_) | (with_reducible refine Ext.drewN' ?_ _) | (with_reducible refine Ext.set_ ?_ (by first | omega | (simp; done) | (simp; omega)) _ _) | (refine Ext.trans ?_ (by with_reducible assumption))))

set_option maxRecDepth 8000 in
set_option maxHeartbeats 3200000 in
theorem cloneRules_any (x : DRuleSet) (hs : SmallRuleSet x) (vs : List Value) (w : World) (h : RuleSetR 0 w vs x) :
    Calls Try.prog 129 #[.agg vs.toArray] w (MadeD_RuleSet w x) := by
  obtain ⟨p0, c0, rfl, r0⟩ := h
  have hlen : x.rules.length ≤ 1048576 := hs.1
  have HS := Lib.hid hs.2
  have R0 := Lib.hid r0; clear r0 hs
  obtain ⟨w0, hw0⟩ : ∃ w0, w0 = (w.alloc (.cells #[.slice p0 x.rules.length c0] 45)).alloc (.cells #[.slice none 0 0] 45) := ⟨_, rfl⟩
  have HB1 : Hid (Box w0 w.heap.size 45 #[.slice p0 x.rules.length c0]) := by rw [hw0]; exact Box.alloc (Box.new' _ _ _ _ rfl) _
  have HB2 : Hid (Box w0 (w.heap.size + 1) 45 #[.slice none 0 0]) := by rw [hw0]; exact Box.new' _ _ _ _ (by simp)
  have HE0 : Hid (Ext w w0) := by rw [hw0]; show Ext w _; (repeat' (first | with_reducible assumption | with_reducible exact Below.refl _ _ | (with_reducible refine Ext.alloc' ?_ _) | (with_reducible refine Ext.drew' ?_) | (with_reducible refine Ext.drewN' ?_ _) | (with_reducible refine Ext.set_ ?_ (by first | omega | (simp; done) | (simp; omega)) _ _) | (refine Ext.trans ?_ (by with_reducible assumption))))
  have hsz : Hid (w0.heap.size = w.heap.size + 2) := by show _ = _; rw [hw0]; simp
  go_enter Try.func129, Try.ntmps129
  go_wp2_with (at_make; rw [← hw0]; refine wpList_make_rowZ (w0 := w0) RuleO x.rules x.rules.length rfl _ _ 43 rfl Try.underlying43 info_RuleS rfl (by decide) .i64 .i64 rfl rfl hlen (Ext.refl _) ?_; intro w1 hF hz0 hE; have HF1 := Lib.hid hF; have HE1 := Lib.hid hE; have b1 := HB1.out.ext hE; have k0 := b1.cell 0; have hk0 := b1.lt; simp only [List.getElem?_toArray, List.getElem?_cons_zero] at k0; clear hF hz0 hE hw0 b1)
  obtain ⟨w2, hw2⟩ : ∃ w2, w2 = w1.alloc (.cells #[.slice (some ⟨w0.heap.size, 0, none⟩) x.rules.length x.rules.length] 45) := ⟨_, rfl⟩
  have HF2 : Hid (FilledO 1 RuleO w0.heap.size 104 x.rules.length w2 x.rules 0) := by rw [hw2]; exact HF1.out.ext goodO_Rule (Ext.alloc _ _)
  have HB4 : Hid (Box w2 w1.heap.size 45 #[.slice (some ⟨w0.heap.size, 0, none⟩) x.rules.length x.rules.length]) := by rw [hw2]; exact Box.new' _ _ _ _ rfl
  have HE2 : Hid (Ext w0 w2) := by rw [hw2]; exact HE1.out.alloc' _
  have hN1 := Lib.hid HF1.out.lt
  rw [← hw2]
  clear hw2 k0 hk0
  go_loopw [14] (fun s14 wr => ∃ i : Nat, i ≤ x.rules.length ∧ s14 = .int .i64 i ∧ FilledO 1 RuleO w0.heap.size 104 x.rules.length wr x.rules i ∧ Box wr w1.heap.size 45 #[.slice (some ⟨w0.heap.size, 0, none⟩) x.rules.length x.rules.length] ∧ Ext w0 wr) (fun i _ => x.rules.length - (intOf i).toNat)
  case atStart => exact ⟨0, Nat.zero_le _, rfl, HF2.out, HB4.out, HE2.out⟩
  case round =>
    obtain ⟨i, hi, rfl, hf, hb4, hE3⟩ := hrel
    have HF3 := Lib.hid hf; have HB3 := Lib.hid hb4; have HE3 := Lib.hid hE3
    clear hf hb4 hE3
    by_cases hlt : i < x.rules.length
    · obtain ⟨b, o, vs, rfl, _, _, hc, hR⟩ := R0.out.2 i hlt
      have hsm := HS.out x.rules[i] (List.getElem_mem hlt)
      have HST : Hid (∀ (w5 : World) (u : Value), Ext wr w5 → RuleO (From wr.heap.size) w5 [u] x.rules[i] → FilledO 1 RuleO w0.heap.size 104 x.rules.length (w5.setCell ⟨w0.heap.size, i, none⟩ u) x.rules (i + 1)) := fun w5 u h1 h2 => by
        have h := HF3.out.step goodO_Rule h1 hlt (Nat.le_refl _) (us := [u]) rfl h2
        simpa [setCells] using h
      obtain ⟨y, hy⟩ : ∃ y, y = x.rules[i] := ⟨_, rfl⟩
      rw [← hy] at hR hsm HST
      have HSM := Lib.hid hsm
      obtain ⟨p0k, c0k, rfl, r0k⟩ := hR
      have RK := Lib.hid r0k
      clear hy hsm r0k
      have q0 := hc 0 (by simp)
      simp only [List.getElem_cons_zero, List.getElem_cons_succ, Nat.mul_one, Nat.add_zero] at q0
      clear hc
      have hEE := HE0.out.trans HE3.out
      replace q0 := hEE.at q0
      obtain ⟨yy, hyy⟩ := HF3.out.cell (m := i) (by omega)
      have hN := HF3.out.lt
      have b4 := HB3.out.cell 0
      simp only [List.getElem?_toArray, List.getElem?_cons_zero] at b4
      have hb4l := HB3.out.lt
      have hi2 : (i : Int) < x.rules.length := by omega
      clear hEE
      go_wp2_with fail
      obtain ⟨w4, hw4⟩ : ∃ w4, w4 = wr.alloc (.cells #[.slice p0k y.tests.length c0k] 104) := ⟨_, rfl⟩
      have HE4 : Hid (Ext wr w4) := by rw [hw4]; exact Ext.alloc _ _
      have HB5 : Hid (Box w4 wr.heap.size 104 #[.slice p0k y.tests.length c0k]) := by rw [hw4]; exact Box.new' _ _ _ _ rfl
      rw [← hw4]
      have t0 := HB5.out.cell 0
      simp only [List.getElem?_toArray, List.getElem?_cons_zero] at t0
      have b4w := HE4.out.at b4
      have tl := HB5.out.lt
      clear hw4 q0 b4
      go_region_held3 (fun w' => w'.cell? ⟨w1.heap.size, 0, none⟩ = some (.slice (some ⟨w0.heap.size, 0, none⟩) x.rules.length x.rules.length) ∧ w'.cell? ⟨wr.heap.size, 0, none⟩ = some (.slice p0k y.tests.length c0k)) (go_keep)
        ((go_at_call 151; refine (cloneTestS_any y.tests HSM.out.1 p0k c0k 0 _ (RK.out.ext good_Test (by have h7 := HE0.out; have h8 := HE3.out; have h9 := HE4.out; (repeat' (first | with_reducible assumption | with_reducible exact Below.refl _ _ | (with_reducible refine Ext.alloc' ?_ _) | (with_reducible refine Ext.drew' ?_) | (with_reducible refine Ext.drewN' ?_ _) | (with_reducible refine Ext.set_ ?_ (by first | omega | (simp; done) | (simp; omega)) _ _) | (refine Ext.trans ?_ (by with_reducible assumption))))))).mono ?_; rintro e w5 ⟨a5, c5, rfl, hr, hE5⟩
          have HF5 : Hid (Ext w4 w5) := (show Ext w4 w5 from by have h9 := hE5; (repeat' (first | with_reducible assumption | with_reducible exact Below.refl _ _ | (with_reducible refine Ext.alloc' ?_ _) | (with_reducible refine Ext.drew' ?_) | (with_reducible refine Ext.drewN' ?_ _) | (with_reducible refine Ext.set_ ?_ (by first | omega | (simp; done) | (simp; omega)) _ _) | (refine Ext.trans ?_ (by with_reducible assumption)))))
          have HE5 : Hid (Ext wr w5) := HE4.out.trans HF5.out
          have HR5 : Hid (RowO 3 TestO (From wr.heap.size) w5 a5 y.tests) := hr.monoB (by have := HE4.out.size; simpa using this)
          have b4' := HF5.out.at b4w
          have t0' := HF5.out.at t0
          have hyy5 := HE5.out.at hyy
          have hff5 := (HF3.out.ext goodO_Rule HE5.out).free i
          have hne1 : w0.heap.size ≠ w1.heap.size := by have := hN1.out; omega
          have hne2 : w0.heap.size ≠ wr.heap.size := by omega
          have hne3 := hne1.symm; have hne4 := hne2.symm
          clear hE5 hr b4w t0 hyy tl))
      go_wp2_with fail
      go_roundw
      case rel =>
        refine ⟨i + 1, by omega, by go_num, HST.out w5 _ HE5.out ⟨a5, c5, rfl, HR5.out⟩, (HB3.out.ext HE5.out).setOther (by have := hN1.out; omega) _, ?_⟩
        · have h8 := HE3.out.trans HE5.out; exact h8.set_ (Nat.le_refl _) _ _
      case measure => (simp [intOf] <;> omega)
    · obtain rfl : i = x.rules.length := by omega
      have hm : x.rules.length ≤ maxLen := by unfold maxLen; omega
      have HD := Lib.hid ((HF3.out.done hm (Nat.le_refl _)).span goodO_Rule)
      clear hm
      have b4 := HB3.out.cell 0
      simp only [List.getElem?_toArray, List.getElem?_cons_zero] at b4
      have b2 := HB2.out.ext HE3.out
      have n0 := b2.cell 0; have nf0 := b2.free 0; have nl := b2.lt
      simp only [List.getElem?_toArray, List.getElem?_cons_zero] at n0
      clear b2
      go_wp2_with fail
      refine bodyPost_ret (v := .agg #[.slice (some ⟨w0.heap.size, 0, none⟩) x.rules.length x.rules.length]) (by simp [results, Try.results129, go_sem, n0]) rfl ?_
      have hz := hsz.out; have hle := HE3.out.size
      refine ⟨some ⟨w0.heap.size, 0, none⟩, x.rules.length, oneT (Span w0.heap.size wr.heap.size), rfl, ApartT.one _, span_in.mono (by omega) (by simp), ?_, ?_⟩
      · refine (HD.out.keepS goodO_Rule (B := w.heap.size + 2) (by (repeat' (first | with_reducible exact Keep.refl _ _ | refine Keep.set_trans ?_ (by omega) _ _))) (by omega)).mono (fun c h => ⟨rfl, h⟩)
      · have h8 := HE0.out.trans HE3.out
        (repeat' (first | with_reducible assumption | with_reducible exact Below.refl _ _ | (with_reducible refine Ext.alloc' ?_ _) | (with_reducible refine Ext.drew' ?_) | (with_reducible refine Ext.drewN' ?_ _) | (with_reducible refine Ext.set_ ?_ (by first | omega | (simp; done) | (simp; omega)) _ _) | (refine Ext.trans ?_ (by with_reducible assumption))))

set_option maxRecDepth 8000 in
set_option maxHeartbeats 3200000 in
theorem cloneConfig_any (x : DConfig) (hs : SmallConfig x) (vs : List Value) (w : World) (h : ConfigR 0 w vs x) :
    Calls Try.prog 87 #[.agg vs.toArray] w (MadeD_Config w x) := by
  obtain ⟨p0, c0, p1, c1, p2, c2, rfl, r0, r1, r2⟩ := h
  have HS := Lib.hid hs
  have R0 := Lib.hid r0; have R1 := Lib.hid r1; have R2 := Lib.hid r2; clear r0 r1 r2 hs
  obtain ⟨w0, hw0⟩ : ∃ w0, w0 = (w.alloc (.cells #[.slice p0 x.rules.rules.length c0, .slice p1 x.scoring.weights.length c1, .int .i64 x.scoring.bias, .slice p2 x.survivors.length c2] 48)).alloc (.cells #[.slice none 0 0, .slice none 0 0, .int .i64 0, .slice none 0 0] 48) := ⟨_, rfl⟩
  have HB1 : Hid (Box w0 w.heap.size 48 #[.slice p0 x.rules.rules.length c0, .slice p1 x.scoring.weights.length c1, .int .i64 x.scoring.bias, .slice p2 x.survivors.length c2]) := by rw [hw0]; exact Box.alloc (Box.new' _ _ _ _ rfl) _
  have HB2 : Hid (Box w0 (w.heap.size + 1) 48 #[.slice none 0 0, .slice none 0 0, .int .i64 0, .slice none 0 0]) := by rw [hw0]; exact Box.new' _ _ _ _ (by simp)
  have HE0 : Hid (Ext w w0) := by rw [hw0]; show Ext w _; (repeat' (first | with_reducible assumption | with_reducible exact Below.refl _ _ | (with_reducible refine Ext.alloc' ?_ _) | (with_reducible refine Ext.drew' ?_) | (with_reducible refine Ext.drewN' ?_ _) | (with_reducible refine Ext.set_ ?_ (by first | omega | (simp; done) | (simp; omega)) _ _) | (refine Ext.trans ?_ (by with_reducible assumption))))
  have hsz : Hid (w0.heap.size = w.heap.size + 2) := by show _ = _; rw [hw0]; simp
  go_enter Try.func87, Try.ntmps87
  go_wp2_with fail
  rw [← hw0]
  clear hw0
  have b1 := HB1.out; have b2 := HB2.out
  have k0 := b1.cell 0
  have kf0 := b1.free 0
  have k1 := b1.cell 1
  have kf1 := b1.free 1
  have k2 := b1.cell 2
  have kf2 := b1.free 2
  have k3 := b1.cell 3
  have kf3 := b1.free 3
  have klt := b1.lt
  simp only [List.getElem?_toArray, List.getElem?_cons_zero, List.getElem?_cons_succ] at k0 k1 k2 k3
  have m0 := b2.cell 0
  have mf0 := b2.free 0
  have m1 := b2.cell 1
  have mf1 := b2.free 1
  have m2 := b2.cell 2
  have mf2 := b2.free 2
  have m3 := b2.cell 3
  have mf3 := b2.free 3
  have mlt := b2.lt
  simp only [List.getElem?_toArray, List.getElem?_cons_zero, List.getElem?_cons_succ] at m0 m1 m2 m3
  clear b1 b2
  go_region_held3 (fun w' => w'.cell? ⟨w.heap.size, 0, none⟩ = some (.slice p0 x.rules.rules.length c0) ∧ w'.cell? ⟨w.heap.size, 1, none⟩ = some (.slice p1 x.scoring.weights.length c1) ∧ w'.cell? ⟨w.heap.size, 2, none⟩ = some (.int .i64 x.scoring.bias) ∧ w'.cell? ⟨w.heap.size, 3, none⟩ = some (.slice p2 x.survivors.length c2)) (go_keep)
    (first
      | (go_at_call 129; refine (cloneRules_any x.rules HS.out.1 [.slice p0 x.rules.rules.length c0] _ ⟨p0, c0, rfl, R0.out.ext good_Rule (by have h8 := HE0.out; (repeat' (first | with_reducible assumption | with_reducible exact Below.refl _ _ | (with_reducible refine Ext.alloc' ?_ _) | (with_reducible refine Ext.drew' ?_) | (with_reducible refine Ext.drewN' ?_ _) | (with_reducible refine Ext.set_ ?_ (by first | omega | (simp; done) | (simp; omega)) _ _) | (refine Ext.trans ?_ (by with_reducible assumption)))))⟩).mono ?_; rintro e w1 ⟨p0n, c0n, T0, rfl, hA0, hI0, r0n, hE1⟩
         have HF1 : Hid (Ext w0 w1) := (show Ext w0 w1 from by have h9 := hE1; (repeat' (first | with_reducible assumption | with_reducible exact Below.refl _ _ | (with_reducible refine Ext.alloc' ?_ _) | (with_reducible refine Ext.drew' ?_) | (with_reducible refine Ext.drewN' ?_ _) | (with_reducible refine Ext.set_ ?_ (by first | omega | (simp; done) | (simp; omega)) _ _) | (refine Ext.trans ?_ (by with_reducible assumption)))))
         have HA0 := Lib.hid hA0; have HI0 : Hid (InT T0 w0.heap.size w1.heap.size) := (by first | exact hI0 | (have h7 := hI0; simp at h7; exact h7))
         have S0 := Lib.hid r0n
         have k0' := HF1.out.at k0; have k1' := HF1.out.at k1; have k2' := HF1.out.at k2; have k3' := HF1.out.at k3
         clear hA0 hI0 r0n hE1 k0 k1 k2 k3 m0 m1 m2 m3 mf0 mf1 mf2 mf3)
      | (go_at_call 130; refine (cloneScoring_any x.scoring HS.out.2.1 [.slice p1 x.scoring.weights.length c1, .int .i64 x.scoring.bias] 0 _ ⟨p1, c1, rfl, R1.out.ext good_int (by have h7 := HE0.out; have h8 := HF1.out; (repeat' (first | with_reducible assumption | with_reducible exact Below.refl _ _ | (with_reducible refine Ext.alloc' ?_ _) | (with_reducible refine Ext.drew' ?_) | (with_reducible refine Ext.drewN' ?_ _) | (with_reducible refine Ext.set_ ?_ (by first | omega | (simp; done) | (simp; omega)) _ _) | (refine Ext.trans ?_ (by with_reducible assumption)))))⟩).mono ?_; rintro e w2 ⟨p1n, c1n, T1, rfl, hA1, hI1, r1n, hE2⟩
         have HF2 : Hid (Ext w1 w2) := (show Ext w1 w2 from by have h9 := hE2; (repeat' (first | with_reducible assumption | with_reducible exact Below.refl _ _ | (with_reducible refine Ext.alloc' ?_ _) | (with_reducible refine Ext.drew' ?_) | (with_reducible refine Ext.drewN' ?_ _) | (with_reducible refine Ext.set_ ?_ (by first | omega | (simp; done) | (simp; omega)) _ _) | (refine Ext.trans ?_ (by with_reducible assumption)))))
         have HA1 := Lib.hid hA1; have HI1 : Hid (InT T1 w1.heap.size w2.heap.size) := (by first | exact hI1 | (have h7 := hI1; simp at h7; exact h7))
         have S1 := Lib.hid r1n
         have k0 := HF2.out.at k0'; have k1 := HF2.out.at k1'; have k2 := HF2.out.at k2'; have k3 := HF2.out.at k3'
         clear hA1 hI1 r1n hE2 k0' k1' k2' k3')
      | (go_at_call 131; refine (cloneIntS_any x.survivors HS.out.2.2.1 p2 c2 0 _ (R2.out.ext good_int (by have h7 := HE0.out; have h8 := HF1.out; have h9 := HF2.out; (repeat' (first | with_reducible assumption | with_reducible exact Below.refl _ _ | (with_reducible refine Ext.alloc' ?_ _) | (with_reducible refine Ext.drew' ?_) | (with_reducible refine Ext.drewN' ?_ _) | (with_reducible refine Ext.set_ ?_ (by first | omega | (simp; done) | (simp; omega)) _ _) | (refine Ext.trans ?_ (by with_reducible assumption))))))).mono ?_; rintro e w3 ⟨p2n, c2n, rfl, r2n, hE3⟩
         have HF3 : Hid (Ext w2 w3) := (show Ext w2 w3 from by have h9 := hE3; (repeat' (first | with_reducible assumption | with_reducible exact Below.refl _ _ | (with_reducible refine Ext.alloc' ?_ _) | (with_reducible refine Ext.drew' ?_) | (with_reducible refine Ext.drewN' ?_ _) | (with_reducible refine Ext.set_ ?_ (by first | omega | (simp; done) | (simp; omega)) _ _) | (refine Ext.trans ?_ (by with_reducible assumption)))))
         have S2 : Hid (RowO 1 IntO (Span w2.heap.size w3.heap.size) w3 p2n x.survivors) := (r2n.monoB (by simp)).span goodO_int
         have b2 := HB2.out.ext (HF1.out.trans (HF2.out.trans HF3.out))
         have n0 := b2.cell 0; have nf0 := b2.free 0; have n1 := b2.cell 1; have nf1 := b2.free 1; have n2 := b2.cell 2; have nf2 := b2.free 2; have n3 := b2.cell 3; have nf3 := b2.free 3
         simp only [List.getElem?_toArray, List.getElem?_cons_zero, List.getElem?_cons_succ] at n0 n1 n2 n3
         have k0' := HF3.out.at k0; have k1' := HF3.out.at k1; have k2' := HF3.out.at k2; have k3' := HF3.out.at k3
         clear b2 r2n hE3 k0 k1 k2 k3))
  go_wp2_with fail
  refine bodyPost_ret (v := .agg #[.slice p0n x.rules.rules.length c0n, .slice p1n x.scoring.weights.length c1n, .int .i64 x.scoring.bias, .slice p2n x.survivors.length c2n]) (by simp [results, Try.results87, go_sem, n0, n1, n2, n3]) rfl ?_
  have hz := hsz.out; have h1 := HF1.out.size; have h2 := HF2.out.size; have h3 := HF3.out.size
  have hF23 := HF2.out.trans HF3.out
  refine ⟨p0n, c0n, p1n, c1n, p2n, c2n, joinT 1 T0 (joinT 1 T1 (oneT (Span w2.heap.size w3.heap.size))), rfl, ?_, ?_, ?_, ?_, ?_, ?_⟩
  · exact HA0.out.join (HA1.out.join (ApartT.one _) HI1.out span_in (by omega)) HI0.out (HI1.out.join span_in (by omega) (by omega) (by omega)) (by omega)
  · exact InT.mono (HI0.out.join (HI1.out.join span_in (by omega) (by omega) (by omega)) (by omega) (by omega) (by omega)) (by omega) (by simp)
  · refine (RowO.keepT goodO_Rule (S0.out.ext goodO_Rule hF23) HI0.out (B := w.heap.size + 2) (by (repeat' (first | with_reducible exact Keep.refl _ _ | refine Keep.set_trans ?_ (by omega) _ _))) (by omega)).mono (fun c h => Or.inl ⟨by decide, h⟩)
  · refine (RowO.keepT goodO_int (S1.out.ext goodO_int HF3.out) HI1.out (B := w.heap.size + 2) (by (repeat' (first | with_reducible exact Keep.refl _ _ | refine Keep.set_trans ?_ (by omega) _ _))) (by omega)).mono (fun c h => Or.inr ⟨by decide, Or.inl ⟨by decide, h⟩⟩)
  · refine (RowO.keepS goodO_int S2.out (B := w.heap.size + 2) (by (repeat' (first | with_reducible exact Keep.refl _ _ | refine Keep.set_trans ?_ (by omega) _ _))) (by omega)).mono (fun c h => Or.inr ⟨by decide, Or.inr ⟨by decide, rfl, h⟩⟩)
  · have h8 := HE0.out.trans (HF1.out.trans hF23)
    (repeat' (first | with_reducible assumption | with_reducible exact Below.refl _ _ | (with_reducible refine Ext.alloc' ?_ _) | (with_reducible refine Ext.drew' ?_) | (with_reducible refine Ext.drewN' ?_ _) | (with_reducible refine Ext.set_ ?_ (by first | omega | (simp; done) | (simp; omega)) _ _) | (refine Ext.trans ?_ (by with_reducible assumption))))
end Go.Proofs.Ytdgpbgpapcldeaa
