/- The reference's copies of configurations, whole. -/
import Derived.Test.YtdgpbgpapcldeaaCloneL
import Derived.Deep.DeepCutAuto
set_option linter.unusedVariables false
set_option linter.unusedSimpArgs false
namespace Go.Proofs.Ytdgpbgpapcldeaa
open Go.RowKit Go.Er Go.BigFrame

set_option maxRecDepth 8000 in
set_option maxHeartbeats 12800000 in
theorem l32Config_any (x : DConfig) (hs : SmallConfig x) (vs : List Value) (w : World) (h : ConfigR 0 w vs x) :
    Calls Try.prog 86 #[.agg vs.toArray] w (MadeD_Config w x) := by
  obtain ⟨p0, c0, p1, c1, p2, c2, rfl, r0, r1, r2⟩ := h
  have HS := Lib.hid hs
  have R0 := Lib.hid r0; have R1 := Lib.hid r1; have R2 := Lib.hid r2; clear r0 r1 r2 hs
  obtain ⟨w0, hw0⟩ : ∃ w0, w0 = (w.alloc (.cells #[.slice p0 x.rules.rules.length c0, .slice p1 x.scoring.weights.length c1, .int .i64 x.scoring.bias, .slice p2 x.survivors.length c2] 48)).alloc (.cells #[.slice none 0 0, .slice none 0 0, .int .i64 0, .slice none 0 0] 48) := ⟨_, rfl⟩
  have HB1 : Hid (Box w0 w.heap.size 48 #[.slice p0 x.rules.rules.length c0, .slice p1 x.scoring.weights.length c1, .int .i64 x.scoring.bias, .slice p2 x.survivors.length c2]) := by rw [hw0]; exact Box.alloc (Box.new' _ _ _ _ rfl) _
  have HB2 : Hid (Box w0 (w.heap.size + 1) 48 #[.slice none 0 0, .slice none 0 0, .int .i64 0, .slice none 0 0]) := by rw [hw0]; exact Box.new' _ _ _ _ (by simp)
  have HE0 : Hid (Ext w w0) := by rw [hw0]; show Ext w _; (repeat' (first | with_reducible assumption | with_reducible exact Below.refl _ _ | (with_reducible refine Ext.alloc' ?_ _) | (with_reducible refine Ext.drew' ?_) | (with_reducible refine Ext.drewN' ?_ _) | (with_reducible refine Ext.set_ ?_ (by first | omega | (simp; done) | (simp; omega)) _ _) | (refine Ext.trans ?_ (by with_reducible assumption))))
  have hsz : Hid (w0.heap.size = w.heap.size + 2) := by show _ = _; rw [hw0]; simp
  have b1 := HB1.out
  have k0 := b1.cell 0
  have k1 := b1.cell 1
  have k2 := b1.cell 2
  have k3 := b1.cell 3
  have klt := b1.lt
  simp only [List.getElem?_toArray, List.getElem?_cons_zero, List.getElem?_cons_succ] at k0 k1 k2 k3
  clear b1
  go_enter Try.func86, Try.ntmps86
  go_upto_region 1 with fail
  rw [← hw0]
  clear hw0
  go_cut [3] (fun s3 wx => ∃ (X : Nat) (p : Option Addr) (c : Nat), s3 = .pointer (some ⟨X, 0, none⟩) ∧ Box wx X 46 #[.slice p x.scoring.weights.length c, .int .i64 x.scoring.bias] ∧ RowO 1 IntO (Span w0.heap.size wx.heap.size) wx p x.scoring.weights ∧ Ext w0 wx ∧ w0.heap.size ≤ X)
  case first =>
    have hnA : w0.heap.size ≠ w.heap.size := by have := hsz.out; omega
    have hnB : w0.heap.size + 1 ≠ w.heap.size := by have := hsz.out; omega
    have hnC := hnA.symm; have hnD := hnB.symm
    go_region_held3 (fun w' => w'.cell? ⟨w.heap.size, 0, none⟩ = some (.slice p0 x.rules.rules.length c0) ∧ w'.cell? ⟨w.heap.size, 1, none⟩ = some (.slice p1 x.scoring.weights.length c1) ∧ w'.cell? ⟨w.heap.size, 2, none⟩ = some (.int .i64 x.scoring.bias) ∧ w'.cell? ⟨w.heap.size, 3, none⟩ = some (.slice p2 x.survivors.length c2)) (go_keep)
      ((refine isApp (.tmp 4) (.tmp 7) 36 rfl ?_; refine step_append_lit enc_int (B' := 0) rfl (.tmp 4) (.tmp 7) 36 rfl Try.underlying36 info_IntS (by decide) (by decide) _ (by rfl) p1 x.scoring.weights c1 (by rfl) (R1.out.ext good_int (by have h8 := HE0.out; (repeat' (first | with_reducible assumption | with_reducible exact Below.refl _ _ | (with_reducible refine Ext.alloc' ?_ _) | (with_reducible refine Ext.drew' ?_) | (with_reducible refine Ext.drewN' ?_ _) | (with_reducible refine Ext.set_ ?_ (by first | omega | (simp; done) | (simp; omega)) _ _) | (refine Ext.trans ?_ (by with_reducible assumption)))))) (by have := HS.out.2.1.1; omega) ?_; intro p1n c1n w1 hr1 hE1
        have HF1 : Hid (Ext w0 w1) := (show Ext w0 w1 from by have h9 := hE1; (repeat' (first | with_reducible assumption | with_reducible exact Below.refl _ _ | (with_reducible refine Ext.alloc' ?_ _) | (with_reducible refine Ext.drew' ?_) | (with_reducible refine Ext.drewN' ?_ _) | (with_reducible refine Ext.set_ ?_ (by first | omega | (simp; done) | (simp; omega)) _ _) | (refine Ext.trans ?_ (by with_reducible assumption)))))
        have S1 := Lib.hid (hr1.span goodO_int)
        have k0' := HF1.out.at k0; have k1' := HF1.out.at k1; have k2' := HF1.out.at k2; have k3' := HF1.out.at k3
        have HZ : Hid ((Box w1 w0.heap.size 46 #[.slice none 0 0, .int .i64 0] ∨ Box w1 (w0.heap.size + 1) 46 #[.slice none 0 0, .int .i64 0]) ∨ True) := Or.inr trivial
        first
          | (have hq : Ext ((w0.alloc (.cells #[.slice none 0 0, .int .i64 0] 46)).alloc (.cells #[] 3)) w1 := Ext.trans (Ext.drew' (Ext.refl _)) hE1
             have bz : Box w1 w0.heap.size 46 #[.slice none 0 0, .int .i64 0] := Box.ext (Box.alloc (Box.new' _ _ _ _ rfl) _) hq
             have z0 := bz.cell 0; have z1 := bz.cell 1; have zf0 := bz.free 0; have zf1 := bz.free 1; have zl := bz.lt
             simp only [List.getElem?_toArray, List.getElem?_cons_zero, List.getElem?_cons_succ] at z0 z1
             have HBZ := Lib.hid bz
             clear hq bz)
          | (have hq : Ext ((w0.alloc (.cells #[] 3)).alloc (.cells #[.slice none 0 0, .int .i64 0] 46)) w1 := Ext.trans (Ext.drew' (Ext.refl _)) hE1
             have bz : Box w1 (w0.heap.size + 1) 46 #[.slice none 0 0, .int .i64 0] := Box.ext (Box.new' _ _ _ _ (by simp)) hq
             have z0 := bz.cell 0; have z1 := bz.cell 1; have zf0 := bz.free 0; have zf1 := bz.free 1; have zl := bz.lt
             simp only [List.getElem?_toArray, List.getElem?_cons_zero, List.getElem?_cons_succ] at z0 z1
             have HBZ := Lib.hid bz
             clear hq bz)
          | skip
        clear hr1 hE1 k0 k1 k2 k3))
    all_goals
      go_wp2_with fail
      go_meet
      refine ⟨_, p1n, c1n, rfl, ?_, ?_, ?_, ?_⟩
      · first
          | exact Box.new' _ _ _ _ rfl
          | exact Box.set' (vs' := #[.slice p1n x.scoring.weights.length c1n, .int .i64 x.scoring.bias]) (Box.set' (vs' := #[.slice p1n x.scoring.weights.length c1n, .int .i64 0]) HBZ.out (i := 0) rfl) (i := 1) rfl
      · have hs1 := S1.out
        have hle := HF1.out.size
        first
          | exact (hs1.ext goodO_int (Ext.alloc _ _)).mono (span_grow (by simp) (by simp))
          | exact (hs1.keepS goodO_int (B := w0.heap.size + 2) (by (repeat' (first | with_reducible exact Keep.refl _ _ | refine Keep.set_trans ?_ (by omega) _ _))) (by simp)).mono (span_grow (by simp <;> omega) (by simp))
      · have h8 := HF1.out; (repeat' (first | with_reducible assumption | with_reducible exact Below.refl _ _ | (with_reducible refine Ext.alloc' ?_ _) | (with_reducible refine Ext.drew' ?_) | (with_reducible refine Ext.drewN' ?_ _) | (with_reducible refine Ext.set_ ?_ (by first | omega | (simp; done) | (simp; omega)) _ _) | (refine Ext.trans ?_ (by with_reducible assumption))))
      · have := HF1.out.size; first | (simp; done) | (simp; omega) | omega
  case rest =>
    obtain ⟨X, p1n, c1n, rfl, hbx, hr1, hE1, hX⟩ := hcut
    have hn1 : X ≠ w.heap.size + 1 := by have := hsz.out; omega
    have hn2 := hn1.symm
    clear hX
    obtain ⟨wx, hwx⟩ : ∃ wx, wx = wc := ⟨_, rfl⟩
    have HBX := Lib.hid hbx; have S1 := Lib.hid hr1; have HE1 := Lib.hid hE1
    clear hbx hr1 hE1
    have HB1' := Lib.hid (HB1.out.ext HE1.out); have HB2' := Lib.hid (HB2.out.ext HE1.out)
    rw [← hwx] at HBX S1 HE1 HB1' HB2' ⊢
    clear hwx k0 k1 k2 k3 klt
    have b1 := HB1'.out; have bx := HBX.out; have b2 := HB2'.out
    have k0 := b1.cell 0
    have k1 := b1.cell 1
    have k2 := b1.cell 2
    have k3 := b1.cell 3
    have klt := b1.lt
    simp only [List.getElem?_toArray, List.getElem?_cons_zero, List.getElem?_cons_succ] at k0 k1 k2 k3
    have m0 := b2.cell 0
    have mf0 := b2.free 0
    have m1 := b2.cell 1
    have mf1 := b2.free 1
    have m2 := b2.cell 2
    have mf2 := b2.free 2
    have m3 := b2.cell 3
    have mf3 := b2.free 3
    have mlt := b2.lt
    simp only [List.getElem?_toArray, List.getElem?_cons_zero, List.getElem?_cons_succ] at m0 m1 m2 m3
    have x0 := bx.cell 0
    have x1 := bx.cell 1
    have xlt := bx.lt
    simp only [List.getElem?_toArray, List.getElem?_cons_zero, List.getElem?_cons_succ] at x0 x1
    clear b1 bx b2
    go_wp2_with fail
    have K0 := Lib.hid k0; have K3 := Lib.hid k3; have X0 := Lib.hid x0; have X1 := Lib.hid x1
    have HG := Lib.hid (Ext.refl wx)
    go_region_held3 (fun w' => w'.cell? ⟨w.heap.size, 0, none⟩ = some (.slice p0 x.rules.rules.length c0) ∧ w'.cell? ⟨w.heap.size, 3, none⟩ = some (.slice p2 x.survivors.length c2) ∧ w'.cell? ⟨X, 0, none⟩ = some (.slice p1n x.scoring.weights.length c1n) ∧ w'.cell? ⟨X, 1, none⟩ = some (.int .i64 x.scoring.bias)) (go_keep)
      (first
        | (go_at_call 128; refine (l32Rules_any x.rules HS.out.1 [.slice p0 x.rules.rules.length c0] _ ⟨p0, c0, rfl, R0.out.ext good_Rule (HE0.out.trans (HE1.out.trans (by have h9 := HG.out; (repeat' (first | with_reducible assumption | (with_reducible refine Ext.alloc' ?_ _) | (with_reducible refine Ext.drew' ?_) | (with_reducible refine Ext.drewN' ?_ _))))))⟩).mono ?_; rintro e w1 ⟨p0n, c0n, T0, rfl, hA0, hI0, r0n, hE1⟩
           have HG1 : Hid (Ext wx w1) := Ext.trans (by have h9 := HG.out; (repeat' (first | with_reducible assumption | (with_reducible refine Ext.alloc' ?_ _) | (with_reducible refine Ext.drew' ?_) | (with_reducible refine Ext.drewN' ?_ _)))) hE1
           have HA0 := Lib.hid hA0; have HI0 := Lib.hid hI0; have HR0 := Lib.hid r0n; have HQ1 := Lib.hid hE1; have HZ1 := Lib.hid hE1.size
           have ka0 := HG1.out.at K0.out; have ka3 := HG1.out.at K3.out; have xa0 := HG1.out.at X0.out; have xa1 := HG1.out.at X1.out
           have b2 := HB2'.out.ext HG1.out
           have na0 := b2.cell 0; have na1 := b2.cell 1; have na2 := b2.cell 2; have na3 := b2.cell 3; have nal := b2.lt
           have nf0 := b2.free 0; have nf1 := b2.free 1; have nf2 := b2.free 2; have nf3 := b2.free 3
           simp only [List.getElem?_toArray, List.getElem?_cons_zero, List.getElem?_cons_succ] at na0 na1 na2 na3
           first | (have HTB := Lib.hid (show w2.heap.size = w2.heap.size from rfl)) | skip
           clear HG hA0 hI0 r0n hE1 b2
           have HG := HG1)
        | (refine isApp (.tmp 17) (.tmp 19) 36 rfl ?_; refine step_append_lit enc_int (B' := 0) rfl (.tmp 17) (.tmp 19) 36 rfl Try.underlying36 info_IntS (by decide) (by decide) _ (by rfl) p2 x.survivors c2 (by rfl) (R2.out.ext good_int (HE0.out.trans (HE1.out.trans (by have h9 := HG.out; (repeat' (first | with_reducible assumption | (with_reducible refine Ext.alloc' ?_ _) | (with_reducible refine Ext.drew' ?_) | (with_reducible refine Ext.drewN' ?_ _))))))) (by have := HS.out.2.2.1; omega) ?_; intro p2n c2n w2 hr2 hE2
           have HG2 : Hid (Ext wx w2) := Ext.trans (by have h9 := HG.out; (repeat' (first | with_reducible assumption | (with_reducible refine Ext.alloc' ?_ _) | (with_reducible refine Ext.drew' ?_) | (with_reducible refine Ext.drewN' ?_ _)))) hE2
           have HR2 := Lib.hid (hr2.span goodO_int); have HQ2 := Lib.hid hE2; have HZ2 := Lib.hid hE2.size
           have kb0 := HG2.out.at K0.out; have kb3 := HG2.out.at K3.out; have xb0 := HG2.out.at X0.out; have xb1 := HG2.out.at X1.out
           have b2 := HB2'.out.ext HG2.out
           have nb0 := b2.cell 0; have nb1 := b2.cell 1; have nb2 := b2.cell 2; have nb3 := b2.cell 3; have nbl := b2.lt
           have mf0 := b2.free 0; have mf1 := b2.free 1; have mf2 := b2.free 2; have mf3 := b2.free 3
           simp only [List.getElem?_toArray, List.getElem?_cons_zero, List.getElem?_cons_succ] at nb0 nb1 nb2 nb3
           first | (have HTA := Lib.hid (show w1.heap.size = w1.heap.size from rfl)) | skip
           clear HG hr2 hE2 b2
           have HG := HG2))
    · go_wp2_with fail
      refine bodyPost_ret (v := .agg #[.slice p0n x.rules.rules.length c0n, .slice p1n x.scoring.weights.length c1n, .int .i64 x.scoring.bias, .slice p2n x.survivors.length c2n]) (by first | (simp [results, Try.results86, go_sem, na0, na1, na2, na3]; done) | (simp [results, Try.results86, go_sem, nb0, nb1, nb2, nb3]; done)) rfl ?_
      have hw0 := hsz.out; have hwx := HE1.out.size; have hg1 := HG1.out.size; have hg2 := HG2.out.size
      have hz1 := HZ1.out; have hz2 := HZ2.out; have hi0 := HI0.out; have hr0 := HR0.out; have hr2 := HR2.out; have hq1 := HQ1.out; have hq2 := HQ2.out
      clear k0 k1 k2 k3 klt m0 m1 m2 m3 mf0 mf1 mf2 mf3 mlt x0 x1
      simp at hz1 hz2
      have h12 : Ext w1 w2 := Ext.trans (by (repeat' (first | with_reducible assumption | with_reducible exact Below.refl _ _ | (with_reducible refine Ext.alloc' ?_ _) | (with_reducible refine Ext.drew' ?_) | (with_reducible refine Ext.drewN' ?_ _)))) hq2
      have h12s := h12.size
      obtain ⟨A, B, hi, hs, f1, f2, f3, f4, f5⟩ : ∃ A B, InT T0 A w1.heap.size ∧ RowO 1 IntO (Span B w2.heap.size) w2 p2n x.survivors ∧ wx.heap.size ≤ A ∧ wx.heap.size ≤ B ∧ A ≤ w1.heap.size ∧ B ≤ w2.heap.size ∧ (w1.heap.size ≤ B) := ⟨_, _, hi0, hr2, by first | (simp; done) | (simp; omega) | omega, by first | (simp; done) | (simp; omega) | omega, by first | (simp; done) | (simp; omega), by first | (simp; done) | (simp; omega) | omega, by first | (simp; done) | (simp; omega) | omega⟩
      have hlast : w2.heap.size = w2.heap.size := rfl
      refine ⟨p0n, c0n, p1n, c1n, p2n, c2n, joinT 1 T0 (joinT 1 (oneT (Span w0.heap.size wx.heap.size)) (oneT (Span B w2.heap.size))), rfl, ?_, ?_, ?_, ?_, ?_, ?_⟩
      · exact HA0.out.joinD ((ApartT.one _).joinD (ApartT.one _) (span_in.disj span_in (Or.inl f2))) (joinT_disj (hi.disj span_in (Or.inr f1)) (hi.disj span_in (Or.inl f5)))
      · have hle : w2.heap.size = w2.heap.size := rfl
        exact InT.joinD (hi.mono (by omega) (by simp; try omega)) (InT.joinD (span_in.mono (by omega) (by simp; try omega)) (span_in.mono (by omega) (by simp; try omega)))
      · exact (RowO.keepT goodO_Rule (hr0.ext goodO_Rule h12) hi (B := w.heap.size + 2) (by (repeat' (first | with_reducible exact Keep.refl _ _ | refine Keep.set_trans ?_ (by omega) _ _))) (by omega)).mono (fun c h => Or.inl ⟨by decide, h⟩)
      · exact (RowO.keepS goodO_int (S1.out.ext goodO_int HG2.out) (B := w.heap.size + 2) (by (repeat' (first | with_reducible exact Keep.refl _ _ | refine Keep.set_trans ?_ (by omega) _ _))) (by omega)).mono (fun c h => Or.inr ⟨by decide, Or.inl ⟨by decide, rfl, h⟩⟩)
      · exact (RowO.keepS goodO_int (hs) (B := w.heap.size + 2) (by (repeat' (first | with_reducible exact Keep.refl _ _ | refine Keep.set_trans ?_ (by omega) _ _))) (by omega)).mono (fun c h => Or.inr ⟨by decide, Or.inr ⟨by decide, rfl, h⟩⟩)
      · have h8 := HE0.out.trans (HE1.out.trans HG2.out)
        (repeat' (first | with_reducible assumption | with_reducible exact Below.refl _ _ | (with_reducible refine Ext.alloc' ?_ _) | (with_reducible refine Ext.drew' ?_) | (with_reducible refine Ext.drewN' ?_ _) | (with_reducible refine Ext.set_ ?_ (by first | omega | (simp; done) | (simp; omega)) _ _) | (refine Ext.trans ?_ (by with_reducible assumption))))
    · go_wp2_with fail
      refine bodyPost_ret (v := .agg #[.slice p0n x.rules.rules.length c0n, .slice p1n x.scoring.weights.length c1n, .int .i64 x.scoring.bias, .slice p2n x.survivors.length c2n]) (by first | (simp [results, Try.results86, go_sem, na0, na1, na2, na3]; done) | (simp [results, Try.results86, go_sem, nb0, nb1, nb2, nb3]; done)) rfl ?_
      have hw0 := hsz.out; have hwx := HE1.out.size; have hg1 := HG1.out.size; have hg2 := HG2.out.size
      have hz1 := HZ1.out; have hz2 := HZ2.out; have hi0 := HI0.out; have hr0 := HR0.out; have hr2 := HR2.out; have hq1 := HQ1.out; have hq2 := HQ2.out
      clear k0 k1 k2 k3 klt m0 m1 m2 m3 mf0 mf1 mf2 mf3 mlt x0 x1
      simp at hz1 hz2
      have h12 : Ext w1 w2 := Ext.trans (by (repeat' (first | with_reducible assumption | with_reducible exact Below.refl _ _ | (with_reducible refine Ext.alloc' ?_ _) | (with_reducible refine Ext.drew' ?_) | (with_reducible refine Ext.drewN' ?_ _)))) hq2
      have h12s := h12.size
      obtain ⟨A, B, hi, hs, f1, f2, f3, f4, f5⟩ : ∃ A B, InT T0 A w1.heap.size ∧ RowO 1 IntO (Span B w2.heap.size) w2 p2n x.survivors ∧ wx.heap.size ≤ A ∧ wx.heap.size ≤ B ∧ A ≤ w1.heap.size ∧ B ≤ w2.heap.size ∧ (w1.heap.size ≤ B) := ⟨_, _, hi0, hr2, by first | (simp; done) | (simp; omega) | omega, by first | (simp; done) | (simp; omega) | omega, by first | (simp; done) | (simp; omega), by first | (simp; done) | (simp; omega) | omega, by first | (simp; done) | (simp; omega) | omega⟩
      have hlast : w2.heap.size = w2.heap.size := rfl
      refine ⟨p0n, c0n, p1n, c1n, p2n, c2n, joinT 1 T0 (joinT 1 (oneT (Span w0.heap.size wx.heap.size)) (oneT (Span B w2.heap.size))), rfl, ?_, ?_, ?_, ?_, ?_, ?_⟩
      · exact HA0.out.joinD ((ApartT.one _).joinD (ApartT.one _) (span_in.disj span_in (Or.inl f2))) (joinT_disj (hi.disj span_in (Or.inr f1)) (hi.disj span_in (Or.inl f5)))
      · have hle : w2.heap.size = w2.heap.size := rfl
        exact InT.joinD (hi.mono (by omega) (by simp; try omega)) (InT.joinD (span_in.mono (by omega) (by simp; try omega)) (span_in.mono (by omega) (by simp; try omega)))
      · exact (RowO.keepT goodO_Rule (hr0.ext goodO_Rule h12) hi (B := w.heap.size + 2) (by (repeat' (first | with_reducible exact Keep.refl _ _ | refine Keep.set_trans ?_ (by omega) _ _))) (by omega)).mono (fun c h => Or.inl ⟨by decide, h⟩)
      · exact (RowO.keepS goodO_int (S1.out.ext goodO_int HG2.out) (B := w.heap.size + 2) (by (repeat' (first | with_reducible exact Keep.refl _ _ | refine Keep.set_trans ?_ (by omega) _ _))) (by omega)).mono (fun c h => Or.inr ⟨by decide, Or.inl ⟨by decide, rfl, h⟩⟩)
      · exact (RowO.keepS goodO_int (hs) (B := w.heap.size + 2) (by (repeat' (first | with_reducible exact Keep.refl _ _ | refine Keep.set_trans ?_ (by omega) _ _))) (by omega)).mono (fun c h => Or.inr ⟨by decide, Or.inr ⟨by decide, rfl, h⟩⟩)
      · have h8 := HE0.out.trans (HE1.out.trans HG2.out)
        (repeat' (first | with_reducible assumption | with_reducible exact Below.refl _ _ | (with_reducible refine Ext.alloc' ?_ _) | (with_reducible refine Ext.drew' ?_) | (with_reducible refine Ext.drewN' ?_ _) | (with_reducible refine Ext.set_ ?_ (by first | omega | (simp; done) | (simp; omega)) _ _) | (refine Ext.trans ?_ (by with_reducible assumption))))
end Go.Proofs.Ytdgpbgpapcldeaa
