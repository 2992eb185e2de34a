/- The walk of the law FnExactPurgeVerdict. -/
import Derived.Test.YtdgpbgpapcldeaaPurgeI
import Derived.Test.YtdgpbgpapcldeaaPurgeV
import Derived.Test.YtdgpbgpapcldeaaPBound
import Derived.Deep.RegionHeld3
set_option linter.unusedVariables false
set_option linter.unusedSimpArgs false
namespace Go.Proofs.Ytdgpbgpapcldeaa
open Go.RowKit Go.Er Go.BigFrame

set_option maxRecDepth 100000 in
set_option maxHeartbeats 12800000 in
theorem lawPurgeVerdict_any (l : List DBatch) (v : DVerdict) (vs : List Value) (a : Option Addr) (c : Nat) (w : World) (h : RowR 1 BatchR 0 w a l) (hv : VerdictR 0 w vs v) :
    Calls Try.prog 7 #[.slice a l.length c, .agg vs.toArray] w (Yes w) := by
  obtain rfl := hv
  have HVB0 := Lib.hid (Box.new w 24 #[.int .i64 v.a, .int .i64 v.b, .bool v.same, .int .i64 v.time])
  have HA := Lib.hid h; clear h
  go_enter Try.func7, Try.ntmps7
  go_wp2_with fail
  refine (szBatchS_any l 1048576 (by omega) (by omega) a c 0 _ (HA.out.ext good_Batch (by (repeat' (first | with_reducible assumption | with_reducible exact Below.refl _ _ | (with_reducible refine Ext.alloc' ?_ _) | (with_reducible refine Ext.drew' ?_) | (with_reducible refine Ext.drewN' ?_ _) | (with_reducible refine Ext.set_ ?_ (by first | omega | (simp; done) | (simp; omega)) _ _) | (refine Ext.trans ?_ (by with_reducible assumption))))))).mono ?_
  rintro e w1 ⟨v1, rfl, h1, h2, hp1, hE1⟩
  have HVB1 := Lib.hid (HVB0.out.ext hE1)
  have HE1 : Hid (Ext w w1) := (show Ext w w1 from by have h9 := hE1; (repeat' (first | with_reducible assumption | with_reducible exact Below.refl _ _ | (with_reducible refine Ext.alloc' ?_ _) | (with_reducible refine Ext.drew' ?_) | (with_reducible refine Ext.drewN' ?_ _) | (with_reducible refine Ext.set_ ?_ (by first | omega | (simp; done) | (simp; omega)) _ _) | (refine Ext.trans ?_ (by with_reducible assumption)))))
  have HP := Lib.hid hp1
  clear hE1 hp1
  by_cases hn : v1 < 0
  · go_wp2_with fail
    go_ret
    exact ⟨rfl, HE1.out⟩
  have HS := Lib.hid (HP.out (by omega))
  have HSK := Lib.hid (small_keep (fun o => mentionsB o v) HS.out)
  have hcl := cnt_batches l HS.out
  have hck := cnt_batches (keepBs (fun o => mentionsB o v) l) HSK.out
  have HKL := Lib.hid (keepBs_length (fun o => mentionsB o v) l)
  have HCL := Lib.hid hcl; have HCK := Lib.hid hck
  obtain ⟨L, hL⟩ : ∃ L, L = keepBs (fun o => mentionsB o v) l := ⟨_, rfl⟩
  have HSL := Lib.hid hL
  have HSI := Lib.hid (fun a c w h => implPurgeVerdict_any l HS.out v a c w h); have HSS := Lib.hid (fun a c w h => specPurgeVerdict_any l HS.out v a c w h)
  rw [← hL] at HSK HCK hck HSI HSS
  clear HP hcl hck hL HKL
  have vb := HVB1.out
  have k0 := vb.cell 0
  have k1 := vb.cell 1
  have k2 := vb.cell 2
  have k3 := vb.cell 3
  have klt := vb.lt
  simp only [List.getElem?_toArray, List.getElem?_cons_zero, List.getElem?_cons_succ] at k0 k1 k2 k3
  clear vb
  go_wp2_with fail
  go_region_held3 (fun w' => w'.cell? ⟨w.heap.size, 0, none⟩ = some (.int .i64 v.a) ∧ w'.cell? ⟨w.heap.size, 1, none⟩ = some (.int .i64 v.b) ∧ w'.cell? ⟨w.heap.size, 2, none⟩ = some (.bool v.same) ∧ w'.cell? ⟨w.heap.size, 3, none⟩ = some (.int .i64 v.time)) (go_keep)
    (first
      | (go_at_call 12; refine (toBatchS_own l HS.out a c _ (HA.out.ext good_Batch (by have h9 := HE1.out; (repeat' (first | with_reducible assumption | with_reducible exact Below.refl _ _ | (with_reducible refine Ext.alloc' ?_ _) | (with_reducible refine Ext.drew' ?_) | (with_reducible refine Ext.drewN' ?_ _) | (with_reducible refine Ext.set_ ?_ (by first | omega | (simp; done) | (simp; omega)) _ _) | (refine Ext.trans ?_ (by with_reducible assumption))))))).mono ?_; rintro e w2 ⟨a2, c2, rfl, hr2, hE2⟩
         have HR2 := Lib.hid hr2; have HF2 : Hid (Ext w1 w2) := (show Ext w1 w2 from by have h9 := hE2; (repeat' (first | with_reducible assumption | with_reducible exact Below.refl _ _ | (with_reducible refine Ext.alloc' ?_ _) | (with_reducible refine Ext.drew' ?_) | (with_reducible refine Ext.drewN' ?_ _) | (with_reducible refine Ext.set_ ?_ (by first | omega | (simp; done) | (simp; omega)) _ _) | (refine Ext.trans ?_ (by with_reducible assumption))))); have HE2 := Lib.hid (HE1.out.trans HF2.out); have g0 := hE2.at k0; have g1 := hE2.at k1; have g2 := hE2.at k2; have g3 := hE2.at k3
         clear hr2 hE2 k0 k1 k2 k3 klt)
      | (go_at_call 13; refine (toVerdict_any v trivial [.int .i64 v.a, .int .i64 v.b, .bool v.same, .int .i64 v.time] _ rfl).mono ?_; rintro e w22 ⟨us, rfl, rfl, hE3⟩
         have HR22 := Lib.hid (HR2.out.ext goodO_Batch hE3); have HF22 := Lib.hid (HF2.out.trans hE3); have HE22 := Lib.hid (HE2.out.trans hE3); have i0 := hE3.at g0; have i1 := hE3.at g1; have i2 := hE3.at g2; have i3 := hE3.at g3
         clear hE3 g0 g1 g2 g3 HR2 HE2 HF2)
      | (go_at_call 27; refine (HSS.out a2 c2 _ (HR22.out.rel goodO_Batch (fun _ _ => Nat.zero_le _))).mono ?_; rintro e w3 ⟨a3, c3, rfl, hr3, hE3⟩
         have HR3 := Lib.hid (hr3.trim goodO_Batch); have HE3 := Lib.hid (HE22.out.trans hE3); have HL2 := Lib.hid HE22.out.size; have HF3 := Lib.hid (HF22.out.trans hE3); have k0 := hE3.at i0; have k1 := hE3.at i1; have k2 := hE3.at i2; have k3 := hE3.at i3
         clear hr3 hE3 i0 i1 i2 i3 HR22 HE22 HF22))
  have HVB3 := Lib.hid (HVB1.out.ext HF3.out)
  clear HF3 k0 k1 k2 k3 HVB1
  go_wp2_with fail
  refine (toBatchS_own l HS.out a c _ (HA.out.ext good_Batch HE3.out)).mono ?_
  rintro e w4 ⟨a4, c4, rfl, hr4, hE4⟩
  have HR4 := Lib.hid (hr4.trim goodO_Batch); have HF4 := Lib.hid hE4; have HE4 := Lib.hid (HE3.out.trans hE4); have HR3' := Lib.hid (HR3.out.ext goodO_Batch hE4)
  have HVB4 := Lib.hid (HVB3.out.ext hE4)
  clear hr4 hE4
  have vb := HVB4.out
  have k0 := vb.cell 0
  have k1 := vb.cell 1
  have k2 := vb.cell 2
  have k3 := vb.cell 3
  have klt := vb.lt
  simp only [List.getElem?_toArray, List.getElem?_cons_zero, List.getElem?_cons_succ] at k0 k1 k2 k3
  clear vb
  go_wp2_with fail
  refine (toVerdict_any v trivial [.int .i64 v.a, .int .i64 v.b, .bool v.same, .int .i64 v.time] _ rfl).mono ?_
  rintro e w44 ⟨us, rfl, rfl, hE44⟩
  have HF44 := Lib.hid hE44
  have HVB44 := Lib.hid (HVB4.out.ext hE44)
  clear hE44 k0 k1 k2 k3 klt
  go_wp2_with fail
  refine (HSI.out a4 c4 _ ((HR4.out.ext goodO_Batch HF44.out).rel goodO_Batch (fun _ _ => Nat.zero_le _))).mono ?_
  rintro e w5 ⟨a5, c5, rfl, hr5, hE5⟩
  have HF5 := Lib.hid (HF44.out.trans hE5); have HL4 := Lib.hid HF44.out.size
  have HVB5 := Lib.hid (HVB44.out.ext hE5)
  have HR5 := Lib.hid ((hr5.monoB HL4.out).trim goodO_Batch)
  have HE5 := Lib.hid (HE4.out.trans HF5.out); have HW5 := Lib.hid (HR3'.out.ext goodO_Batch HF5.out); have HX5 := Lib.hid (HR4.out.ext goodO_Batch HF5.out)
  clear hr5 hE5 HR3'
  go_wp2_with fail
  refine (eqBatchS_any L a5 a3 c5 c3 _ (HR5.out.rel goodO_Batch (fun _ _ => Nat.zero_le _)) (HW5.out.rel goodO_Batch (fun _ _ => Nat.zero_le _))).mono ?_
  rintro e w6 ⟨rfl, hE6⟩
  have HF6 := Lib.hid hE6
  have HVB6 := Lib.hid (HVB5.out.ext hE6)
  clear hE6
  go_wp2_with fail
  refine (toBatchS_own l HS.out a c _ (HA.out.ext good_Batch (HE5.out.trans HF6.out))).mono ?_
  rintro e w7 ⟨a7, c7, rfl, hr7, hE7⟩
  have HR7 := Lib.hid hr7; have HF7 := Lib.hid (HF6.out.trans hE7)
  have HVB7 := Lib.hid (HVB6.out.ext hE7)
  clear hr7 hE7
  go_wp2_with fail
  refine (eqBatchS_any l a4 a7 c4 c7 _ ((HX5.out.ext goodO_Batch HF7.out).rel goodO_Batch (fun _ _ => Nat.zero_le _)) (HR7.out.rel goodO_Batch (fun _ _ => Nat.zero_le _))).mono ?_
  rintro e w8 ⟨rfl, hE8⟩
  have HF8 := Lib.hid (HF7.out.trans hE8)
  have HVB8 := Lib.hid (HVB7.out.ext hE8)
  have HG8 := Lib.hid (HR5.out.ext goodO_Batch HF8.out); have HW8 := Lib.hid (HW5.out.ext goodO_Batch HF8.out); have HX8 := Lib.hid (HX5.out.ext goodO_Batch HF8.out); have HE8 := Lib.hid (HE5.out.trans HF8.out)
  clear hE8 HR7 HF6 HF7 HR5 HW5 HX5
  go_wp2_with fail
  refine (markBatchS_any l 1 (by omega) HCL.out _ a4 c4 _ HX8.out).mono ?_
  rintro e w9 ⟨rfl, hr9, hC9⟩
  have hle34 := HF4.out.size; have hle45 := HF5.out.size
  have hle03 := HE3.out.size
  have HG9 := Lib.hid (HG8.out.chg goodO_Batch hC9 (fun c h1 h2 => by have := h1.1; have := h2.2; simp only [From] at *; omega))
  have HW9 := Lib.hid (HW8.out.chg goodO_Batch hC9 (fun c h1 h2 => by have := h1.2; have := h2.1; simp only [From] at *; omega))
  have HE9 := Lib.hid (Chg.ext HE8.out hC9 (fun c h => by have := h.1; simp only [From] at this; omega))
  have HVB9 := Lib.hid (HVB8.out.chg hC9 (fun h => by have := h.1; have := HVB3.out.lt; simp only [From] at *; omega))
  clear hr9 hC9 HG8 HW8 HX8 HE8
  have hq1 : ¬ (1 : Int) + (sumC cntE_Batch l : Nat) < 0 := by omega
  go_wp2_with fail
  refine (eqBatchS_any L a5 a3 c5 c3 _ (HG9.out.rel goodO_Batch (fun _ _ => Nat.zero_le _)) (HW9.out.rel goodO_Batch (fun _ _ => Nat.zero_le _))).mono ?_
  rintro e w10 ⟨rfl, hE10⟩
  have HG10 := Lib.hid (HG9.out.ext goodO_Batch hE10); have HW10 := Lib.hid (HW9.out.ext goodO_Batch hE10); have HE10 := Lib.hid (HE9.out.trans hE10)
  have HVB10 := Lib.hid (HVB9.out.ext hE10)
  clear hE10 HG9 HW9 HE9 hq1
  go_wp2_with fail
  refine (markBatchS_any L 1 (by omega) HCK.out _ a5 c5 _ HG10.out).mono ?_
  rintro e w11 ⟨rfl, hr11, hC11⟩
  have HG11 := Lib.hid hr11
  have HW11 := Lib.hid (HW10.out.chg goodO_Batch hC11 (fun c h1 h2 => by have := h1.2; have := h2.1; simp only [From] at *; omega))
  have HE11 := Lib.hid (Chg.ext HE10.out hC11 (fun c h => by have := h.1; simp only [From] at this; omega))
  have HVB11 := Lib.hid (HVB10.out.chg hC11 (fun h => by have := h.1; have := HVB4.out.lt; simp only [From] at *; omega))
  clear hr11 hC11 HG10 HW10 HE10 hle34 hle45 hle03
  have HM := Lib.hid HCK.out
  obtain ⟨q, hq⟩ : ∃ q : Int, q = 1 + (sumC cntE_Batch L : Nat) := ⟨_, rfl⟩
  have HQ := Lib.hid hq
  have hq0 : ¬ q < 0 := by omega
  have hqq : (q != q) = false := by simp
  rw [← hq]
  clear hq
  go_wp2_with fail
  refine (heldBatchS_any L 1 (by omega) HCK.out 0 a5 c5 _ (HG11.out.rel goodO_Batch (fun _ _ => Nat.zero_le _))).mono ?_
  rintro e w12 ⟨rfl, hE12⟩
  have HG12 := Lib.hid (HG11.out.ext goodO_Batch hE12); have HW12 := Lib.hid (HW11.out.ext goodO_Batch hE12); have HE12 := Lib.hid (HE11.out.trans hE12)
  have HVB12 := Lib.hid (HVB11.out.ext hE12)
  clear hE12 HG11 HW11 HE11
  rw [← HQ.out]
  have vb := HVB12.out
  have k0 := vb.cell 0
  have k1 := vb.cell 1
  have k2 := vb.cell 2
  have k3 := vb.cell 3
  have klt := vb.lt
  simp only [List.getElem?_toArray, List.getElem?_cons_zero, List.getElem?_cons_succ] at k0 k1 k2 k3
  clear vb
  go_wp2_with fail
  go_region_held3 (fun w' => w'.cell? ⟨w.heap.size, 0, none⟩ = some (.int .i64 v.a) ∧ w'.cell? ⟨w.heap.size, 1, none⟩ = some (.int .i64 v.b) ∧ w'.cell? ⟨w.heap.size, 2, none⟩ = some (.bool v.same) ∧ w'.cell? ⟨w.heap.size, 3, none⟩ = some (.int .i64 v.time)) (go_keep)
    (first
      | (go_at_call 12; refine (toBatchS_own l HS.out a c _ (HA.out.ext good_Batch (by have h9 := HE12.out; (repeat' (first | with_reducible assumption | with_reducible exact Below.refl _ _ | (with_reducible refine Ext.alloc' ?_ _) | (with_reducible refine Ext.drew' ?_) | (with_reducible refine Ext.drewN' ?_ _) | (with_reducible refine Ext.set_ ?_ (by first | omega | (simp; done) | (simp; omega)) _ _) | (refine Ext.trans ?_ (by with_reducible assumption))))))).mono ?_; rintro e w13 ⟨a13, c13, rfl, hr13, hE13⟩
         have HR13 := Lib.hid hr13; have HF13 : Hid (Ext w12 w13) := (show Ext w12 w13 from by have h9 := hE13; (repeat' (first | with_reducible assumption | with_reducible exact Below.refl _ _ | (with_reducible refine Ext.alloc' ?_ _) | (with_reducible refine Ext.drew' ?_) | (with_reducible refine Ext.drewN' ?_ _) | (with_reducible refine Ext.set_ ?_ (by first | omega | (simp; done) | (simp; omega)) _ _) | (refine Ext.trans ?_ (by with_reducible assumption))))); have g0 := hE13.at k0; have g1 := hE13.at k1; have g2 := hE13.at k2; have g3 := hE13.at k3
         clear hr13 hE13 k0 k1 k2 k3 klt)
      | (go_at_call 13; refine (toVerdict_any v trivial [.int .i64 v.a, .int .i64 v.b, .bool v.same, .int .i64 v.time] _ rfl).mono ?_; rintro e w33 ⟨us, rfl, rfl, hE3⟩
         have HR33 := Lib.hid (HR13.out.ext goodO_Batch hE3); have HF33 := Lib.hid (HF13.out.trans hE3); have i0 := hE3.at g0; have i1 := hE3.at g1; have i2 := hE3.at g2; have i3 := hE3.at g3
         clear hE3 g0 g1 g2 g3 HR13 HF13)
      | (go_at_call 28; refine (HSI.out a13 c13 _ (HR33.out.rel goodO_Batch (fun _ _ => Nat.zero_le _))).mono ?_; rintro e w14 ⟨a14, c14, rfl, hr14, hE14⟩
         have HR14 := Lib.hid hr14; have HF14 := Lib.hid (HF33.out.trans hE14); have k0 := hE14.at i0; have k1 := hE14.at i1; have k2 := hE14.at i2; have k3 := hE14.at i3
         clear hr14 hE14 i0 i1 i2 i3 HR33 HF33))
  clear k0 k1 k2 k3
  go_wp2_with fail
  refine (eqBatchS_any L a14 a3 c14 c3 _ (HR14.out.rel goodO_Batch (fun _ _ => Nat.zero_le _)) ((HW12.out.ext goodO_Batch HF14.out).rel goodO_Batch (fun _ _ => Nat.zero_le _))).mono ?_
  rintro e w15 ⟨rfl, hE15⟩
  have HF15 := Lib.hid (HF14.out.trans hE15)
  clear hE15 HR14 HF14 HW12
  go_wp2_with fail
  refine (heldBatchS_any L 1 (by omega) HCK.out 0 a5 c5 _ ((HG12.out.ext goodO_Batch HF15.out).rel goodO_Batch (fun _ _ => Nat.zero_le _))).mono ?_
  rintro e w16 ⟨rfl, hE16⟩
  have HE16 := Lib.hid ((HE12.out.trans HF15.out).trans hE16)
  clear hE16 HG12 HF15 HE12
  rw [← HQ.out]
  go_wp2_with fail
  go_ret
  exact ⟨rfl, HE16.out⟩
end Go.Proofs.Ytdgpbgpapcldeaa
