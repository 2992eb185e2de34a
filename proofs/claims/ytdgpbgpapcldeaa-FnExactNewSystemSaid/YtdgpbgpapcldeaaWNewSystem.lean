/- The walk of the law FnExactNewSystem. -/
import Derived.Test.YtdgpbgpapcldeaaNewS
import Derived.Deep.RegionHeld3
set_option linter.unusedVariables false
set_option linter.unusedSimpArgs false
namespace Go.Proofs.Ytdgpbgpapcldeaa
open Go.RowKit Go.Er Go.BigFrame

theorem cnt_rule (x : DRule) (h : SmallRule x) : cntE_Rule x ≤ 3145728 := by
  have h1 := sumC_le cntE_Test 3 x.tests (fun _ _ => Nat.le_refl _)
  have h2 := h.1
  unfold cntE_Rule
  omega
theorem cnt_config (x : DConfig) (h : SmallConfig x) : (1 : Int) + (sumC cntE_Rule x.rules.rules : Nat) + (sumC cntOne x.scoring.weights : Nat) + (sumC cntOne x.survivors : Nat) ≤ 9223372036854775806 := by
  have h1 := sumC_le cntE_Rule 3145728 x.rules.rules (fun o ho => cnt_rule o (h.1.2 o ho))
  have h2 := h.1.1
  have h3 := sumC_le (cntOne (α := Int)) 1 x.scoring.weights (fun _ _ => Nat.le_refl _)
  have h4 := sumC_le (cntOne (α := Int)) 1 x.survivors (fun _ _ => Nat.le_refl _)
  have h5 := h.2.1.1; have h6 := h.2.2.1
  omega
theorem cnt_newSys (x : DConfig) (h : SmallConfig x) : (1 : Int) + (sumC cntE_Rule (newSys x).1.config.rules.rules : Nat) + (sumC cntOne (newSys x).1.config.scoring.weights : Nat) + (sumC cntOne (newSys x).1.config.survivors : Nat) + (sumC cntE_Record (newSys x).1.store.records : Nat) + (sumC cntE_Verdict (newSys x).1.store.verdicts : Nat) + (sumC cntE_Entity (newSys x).1.entities : Nat) + (sumC cntE_Verdict (newSys x).1.refused : Nat) ≤ 9223372036854775806 := by
  have h1 := cnt_config x h
  rcases newSys_cases x with e | e <;> rw [e] <;> simp only [sumC] <;> omega
theorem someT_in {n a b : Nat} {T : Nat → Nat → Prop} (h : InT T a b) : ∀ c, someT n T c → a ≤ c ∧ c < b := fun c ⟨i, _, hc⟩ => h i c hc

set_option maxRecDepth 100000 in
set_option maxHeartbeats 25600000 in
theorem lawNewSystem_any (x : DConfig) (us : List Value) (w : World) (h1 : ConfigR 0 w us x) :
    Calls Try.prog 9 #[.agg us.toArray] w (Yes w) := by
  obtain ⟨p0a, c0a, p1a, c1a, p2a, c2a, rfl, r0a, r1a, r2a⟩ := h1
  have HA : Hid (ConfigR 0 w [.slice p0a x.rules.rules.length c0a, .slice p1a x.scoring.weights.length c1a, .int .i64 x.scoring.bias, .slice p2a x.survivors.length c2a] x) := ⟨p0a, c0a, p1a, c1a, p2a, c2a, rfl, r0a, r1a, r2a⟩
  clear r0a r1a r2a
  go_enter Try.func9, Try.ntmps9
  go_wp2_with fail
  refine (szConfig_any x 1048576 (by omega) (by omega) [.slice p0a x.rules.rules.length c0a, .slice p1a x.scoring.weights.length c1a, .int .i64 x.scoring.bias, .slice p2a x.survivors.length c2a] 0 _ (good_Config.ext HA.out (by (repeat' (first | with_reducible assumption | with_reducible exact Below.refl _ _ | (with_reducible refine Ext.alloc' ?_ _) | (with_reducible refine Ext.drew' ?_) | (with_reducible refine Ext.drewN' ?_ _) | (with_reducible refine Ext.set_ ?_ (by first | omega | (simp; done) | (simp; omega)) _ _) | (refine Ext.trans ?_ (by with_reducible assumption))))))).mono ?_
  rintro e w1 ⟨v1, rfl, hv1, hm1, hp1, hE1⟩
  have HX1 : Hid (Box w1 w.heap.size 40 #[.slice p0a x.rules.rules.length c0a, .slice p1a x.scoring.weights.length c1a, .int .i64 x.scoring.bias, .slice p2a x.survivors.length c2a]) := (Box.new' _ _ _ _ rfl).ext hE1
  have HE1 := Lib.hid (show Ext w w1 from by (repeat' (first | with_reducible assumption | with_reducible exact Below.refl _ _ | (with_reducible refine Ext.alloc' ?_ _) | (with_reducible refine Ext.drew' ?_) | (with_reducible refine Ext.drewN' ?_ _) | (with_reducible refine Ext.set_ ?_ (by first | omega | (simp; done) | (simp; omega)) _ _) | (refine Ext.trans ?_ (by with_reducible assumption)))))
  have HP1 := Lib.hid hp1
  clear hE1 hp1
  by_cases hn : v1 < 0
  · go_wp2_with fail
    go_ret
    exact ⟨rfl, HE1.out⟩
  have HS := Lib.hid (HP1.out (by omega))
  have HCX := Lib.hid (cnt_config x HS.out); have HCY0 := Lib.hid (cnt_newSys x HS.out)
  have HSI := Lib.hid (fun vs w h => implNewSystem_any x HS.out vs w h); have HSS := Lib.hid (fun vs w h => specNewSystem_any x HS.out vs w h)
  obtain ⟨Y, hY⟩ : ∃ Y, Y = (newSys x).1 := ⟨_, rfl⟩
  obtain ⟨b, hb⟩ : ∃ b, b = (newSys x).2 := ⟨_, rfl⟩
  rw [← hY, ← hb] at HSI HSS
  rw [← hY] at HCY0
  have HCY := HCY0
  clear hY hb HCY0 HP1
  have bx := HX1.out
  have k0 := bx.cell 0
  have k1 := bx.cell 1
  have k2 := bx.cell 2
  have k3 := bx.cell 3
  have klt := bx.lt
  simp only [List.getElem?_toArray, List.getElem?_cons_zero, List.getElem?_cons_succ] at k0 k1 k2 k3
  clear bx
  go_wp2_with fail
  refine (toConfig_any x HS.out [.slice p0a x.rules.rules.length c0a, .slice p1a x.scoring.weights.length c1a, .int .i64 x.scoring.bias, .slice p2a x.survivors.length c2a] _ (good_Config.ext HA.out (by have h9 := HE1.out; (repeat' (first | with_reducible assumption | with_reducible exact Below.refl _ _ | (with_reducible refine Ext.alloc' ?_ _) | (with_reducible refine Ext.drew' ?_) | (with_reducible refine Ext.drewN' ?_ _) | (with_reducible refine Ext.set_ ?_ (by first | omega | (simp; done) | (simp; omega)) _ _) | (refine Ext.trans ?_ (by with_reducible assumption))))))).mono ?_
  rintro e w2 ⟨us, rfl, hr2, hE2⟩
  have HQ2 := Lib.hid (good_Config.mono (Nat.zero_le _) hr2)
  have HX2 := Lib.hid (HX1.out.ext hE2); have HE2 := Lib.hid (HE1.out.trans hE2)
  clear hE2 hr2 HX1 HE1 k0 k1 k2 k3 klt
  go_wp2_with fail
  refine (HSS.out us _ HQ2.out).mono ?_
  rintro e w3 ⟨p0s, c0s, p1s, c1s, p2s, c2s, p3s, c3s, p4s, c4s, p5s, c5s, p6s, c6s, TW, rfl, hA, hI, hR, hE3⟩
  have HX0L := Lib.hid (HX2.out.ext hE3).lt
  have HIW := Lib.hid hI; have HAW := Lib.hid hA; have HW3 := Lib.hid hR; have HX3 := Lib.hid (HX2.out.ext hE3); have HE3 := Lib.hid (HE2.out.trans hE3); have HL2 := Lib.hid HE2.out.size
  clear hA hI hR hE3 HX2 HE2 HQ2
  have bx := HX3.out
  have k0 := bx.cell 0
  have k1 := bx.cell 1
  have k2 := bx.cell 2
  have k3 := bx.cell 3
  have klt := bx.lt
  simp only [List.getElem?_toArray, List.getElem?_cons_zero, List.getElem?_cons_succ] at k0 k1 k2 k3
  clear bx
  go_wp2_with fail
  obtain ⟨wA, hwA⟩ : ∃ wA, wA = w3.alloc (.cells #[.slice p0s Y.config.rules.rules.length c0s, .slice p1s Y.config.scoring.weights.length c1s, .int .i64 Y.config.scoring.bias, .slice p2s Y.config.survivors.length c2s, .int .i64 Y.store.version, .slice p3s Y.store.records.length c3s, .slice p4s Y.store.verdicts.length c4s, .slice p5s Y.entities.length c5s, .int .i64 Y.next, .slice p6s Y.refused.length c6s] 72) := ⟨_, rfl⟩
  have HBWL0 : Hid (w3.heap.size < w3.heap.size + 1) := Nat.lt_succ_self _
  have HBW : Hid (Box wA w3.heap.size 72 #[.slice p0s Y.config.rules.rules.length c0s, .slice p1s Y.config.scoring.weights.length c1s, .int .i64 Y.config.scoring.bias, .slice p2s Y.config.survivors.length c2s, .int .i64 Y.store.version, .slice p3s Y.store.records.length c3s, .slice p4s Y.store.verdicts.length c4s, .slice p5s Y.entities.length c5s, .int .i64 Y.next, .slice p6s Y.refused.length c6s]) := by rw [hwA]; exact Box.new' _ _ _ _ rfl
  have HFA : Hid (Ext w3 wA) := by rw [hwA]; exact Ext.alloc _ _
  have HBWL := Lib.hid HBW.out.lt
  rw [← hwA]
  have HXA := Lib.hid (HX3.out.ext HFA.out); have HEA := Lib.hid (HE3.out.trans HFA.out); have HWA := Lib.hid (HW3.out.ext HFA.out)
  clear hwA HX3 HW3 k0 k1 k2 k3 klt
  have bx := HXA.out
  have k0 := bx.cell 0
  have k1 := bx.cell 1
  have k2 := bx.cell 2
  have k3 := bx.cell 3
  have klt := bx.lt
  simp only [List.getElem?_toArray, List.getElem?_cons_zero, List.getElem?_cons_succ] at k0 k1 k2 k3
  clear bx
  go_wp2_with fail
  refine (toConfig_rows x HS.out [.slice p0a x.rules.rules.length c0a, .slice p1a x.scoring.weights.length c1a, .int .i64 x.scoring.bias, .slice p2a x.survivors.length c2a] _ (good_Config.ext HA.out (by have h9 := HEA.out; (repeat' (first | with_reducible assumption | with_reducible exact Below.refl _ _ | (with_reducible refine Ext.alloc' ?_ _) | (with_reducible refine Ext.drew' ?_) | (with_reducible refine Ext.drewN' ?_ _) | (with_reducible refine Ext.set_ ?_ (by first | omega | (simp; done) | (simp; omega)) _ _) | (refine Ext.trans ?_ (by with_reducible assumption))))))).mono ?_
  rintro e w4 ⟨p0n, c0n, p1n, c1n, p2n, c2n, TX, rfl, hA, hI, r0n, r1n, r2n, hE4⟩
  have HAX := Lib.hid hA; have HIX := Lib.hid hI; have HR4 : Hid (RowsConfig x TX p0n p1n p2n w4) := ⟨r0n, r1n, r2n⟩
  have HF4 := Lib.hid hE4
  have HX4 := Lib.hid (HXA.out.ext hE4); have HE4 := Lib.hid (HEA.out.trans hE4); have HW4 := Lib.hid (HWA.out.ext hE4); have HBW4 := Lib.hid (HBW.out.ext hE4)
  clear hA hI r0n r1n r2n hE4 HXA HEA HWA HBW k0 k1 k2 k3 klt
  go_wp2_with fail
  obtain ⟨wB, hwB⟩ : ∃ wB, wB = w4.alloc (.cells #[.slice p0n x.rules.rules.length c0n, .slice p1n x.scoring.weights.length c1n, .int .i64 x.scoring.bias, .slice p2n x.survivors.length c2n] 48) := ⟨_, rfl⟩
  have HBX : Hid (Box wB w4.heap.size 48 #[.slice p0n x.rules.rules.length c0n, .slice p1n x.scoring.weights.length c1n, .int .i64 x.scoring.bias, .slice p2n x.survivors.length c2n]) := by rw [hwB]; exact Box.new' _ _ _ _ rfl
  have HFB : Hid (Ext w4 wB) := by rw [hwB]; exact Ext.alloc _ _
  rw [← hwB]
  have HRB := Lib.hid (HR4.out.ext HFB.out)
  clear hwB HR4
  have bx := HBX.out
  have k0 := bx.cell 0
  have k1 := bx.cell 1
  have k2 := bx.cell 2
  have k3 := bx.cell 3
  have klt := bx.lt
  simp only [List.getElem?_toArray, List.getElem?_cons_zero, List.getElem?_cons_succ] at k0 k1 k2 k3
  clear bx
  go_wp2_with fail
  refine (HSI.out [.slice p0n x.rules.rules.length c0n, .slice p1n x.scoring.weights.length c1n, .int .i64 x.scoring.bias, .slice p2n x.survivors.length c2n] _ (HRB.out.read c0n c1n c2n)).mono ?_
  rintro e w5 ⟨p0g, c0g, p1g, c1g, p2g, c2g, p3g, c3g, p4g, c4g, p5g, c5g, p6g, c6g, TG, rfl, hA, hI, hR, hE5⟩
  have HAG := Lib.hid hA; have HIG := Lib.hid hI; have HG5 := Lib.hid hR; have HF5 := Lib.hid hE5
  clear hA hI hR hE5 k0 k1 k2 k3 klt
  have hbb : (b != b) = false := by simp
  have bx := HBW4.out.ext (HFB.out.trans HF5.out)
  have k0 := bx.cell 0
  have k1 := bx.cell 1
  have k2 := bx.cell 2
  have k3 := bx.cell 3
  have k4 := bx.cell 4
  have k5 := bx.cell 5
  have k6 := bx.cell 6
  have k7 := bx.cell 7
  have k8 := bx.cell 8
  have k9 := bx.cell 9
  have klt := bx.lt
  simp only [List.getElem?_toArray, List.getElem?_cons_zero, List.getElem?_cons_succ] at k0 k1 k2 k3 k4 k5 k6 k7 k8 k9
  clear bx
  go_wp2_with fail
  obtain ⟨wC, hwC⟩ : ∃ wC, wC = w5.alloc (.cells #[.slice p0g Y.config.rules.rules.length c0g, .slice p1g Y.config.scoring.weights.length c1g, .int .i64 Y.config.scoring.bias, .slice p2g Y.config.survivors.length c2g, .int .i64 Y.store.version, .slice p3g Y.store.records.length c3g, .slice p4g Y.store.verdicts.length c4g, .slice p5g Y.entities.length c5g, .int .i64 Y.next, .slice p6g Y.refused.length c6g] 72) := ⟨_, rfl⟩
  have HBG : Hid (Box wC w5.heap.size 72 #[.slice p0g Y.config.rules.rules.length c0g, .slice p1g Y.config.scoring.weights.length c1g, .int .i64 Y.config.scoring.bias, .slice p2g Y.config.survivors.length c2g, .int .i64 Y.store.version, .slice p3g Y.store.records.length c3g, .slice p4g Y.store.verdicts.length c4g, .slice p5g Y.entities.length c5g, .int .i64 Y.next, .slice p6g Y.refused.length c6g]) := by rw [hwC]; exact Box.new' _ _ _ _ rfl
  have HFC : Hid (Ext w5 wC) := by rw [hwC]; exact Ext.alloc _ _
  rw [← hwC]
  have HF4C := Lib.hid (HFB.out.trans (HF5.out.trans HFC.out))
  have HXC := Lib.hid (HX4.out.ext HF4C.out); have HEC := Lib.hid (HE4.out.trans HF4C.out); have HWC := Lib.hid (HW4.out.ext HF4C.out); have HBWC := Lib.hid (HBW4.out.ext HF4C.out)
  have HBXC := Lib.hid (HBX.out.ext (HF5.out.trans HFC.out)); have HRC := Lib.hid (HRB.out.ext (HF5.out.trans HFC.out)); have HGC := Lib.hid (HG5.out.ext HFC.out)
  clear hwC HX4 HE4 HW4 HBW4 HBX HRB HG5 HF4C
  refine (eqSystem_any Y [.slice p0g Y.config.rules.rules.length c0g, .slice p1g Y.config.scoring.weights.length c1g, .int .i64 Y.config.scoring.bias, .slice p2g Y.config.survivors.length c2g, .int .i64 Y.store.version, .slice p3g Y.store.records.length c3g, .slice p4g Y.store.verdicts.length c4g, .slice p5g Y.entities.length c5g, .int .i64 Y.next, .slice p6g Y.refused.length c6g] [.slice p0s Y.config.rules.rules.length c0s, .slice p1s Y.config.scoring.weights.length c1s, .int .i64 Y.config.scoring.bias, .slice p2s Y.config.survivors.length c2s, .int .i64 Y.store.version, .slice p3s Y.store.records.length c3s, .slice p4s Y.store.verdicts.length c4s, .slice p5s Y.entities.length c5s, .int .i64 Y.next, .slice p6s Y.refused.length c6s] _ (HGC.out.read c0g c1g c2g c3g c4g c5g c6g) (HWC.out.read c0s c1s c2s c3s c4s c5s c6s)).mono ?_
  rintro e w6 ⟨rfl, hE6⟩
  have HF6 := Lib.hid hE6
  have HX6 := Lib.hid (HXC.out.ext hE6); have HBX6 := Lib.hid (HBXC.out.ext hE6)
  clear hE6 k0 k1 k2 k3 k4 k5 k6 k7 k8 k9 klt
  have bx := HX6.out; have bg := HBX6.out
  have k0 := bx.cell 0
  have k1 := bx.cell 1
  have k2 := bx.cell 2
  have k3 := bx.cell 3
  have klt := bx.lt
  simp only [List.getElem?_toArray, List.getElem?_cons_zero, List.getElem?_cons_succ] at k0 k1 k2 k3
  have m0 := bg.cell 0
  have m1 := bg.cell 1
  have m2 := bg.cell 2
  have m3 := bg.cell 3
  have mlt := bg.lt
  simp only [List.getElem?_toArray, List.getElem?_cons_zero, List.getElem?_cons_succ] at m0 m1 m2 m3
  clear bx bg
  go_wp2_with fail
  have hlX := Lib.hid HF6.out
  go_region_held3 (fun w' => w'.cell? ⟨w.heap.size, 0, none⟩ = some (.slice p0a x.rules.rules.length c0a) ∧ w'.cell? ⟨w.heap.size, 1, none⟩ = some (.slice p1a x.scoring.weights.length c1a) ∧ w'.cell? ⟨w.heap.size, 2, none⟩ = some (.int .i64 x.scoring.bias) ∧ w'.cell? ⟨w.heap.size, 3, none⟩ = some (.slice p2a x.survivors.length c2a) ∧ w'.cell? ⟨w4.heap.size, 0, none⟩ = some (.slice p0n x.rules.rules.length c0n) ∧ w'.cell? ⟨w4.heap.size, 1, none⟩ = some (.slice p1n x.scoring.weights.length c1n) ∧ w'.cell? ⟨w4.heap.size, 2, none⟩ = some (.int .i64 x.scoring.bias) ∧ w'.cell? ⟨w4.heap.size, 3, none⟩ = some (.slice p2n x.survivors.length c2n)) (go_keep)
    (first
      | (go_at_call 18; refine (toConfig_any x HS.out [.slice p0a x.rules.rules.length c0a, .slice p1a x.scoring.weights.length c1a, .int .i64 x.scoring.bias, .slice p2a x.survivors.length c2a] _ (good_Config.ext HA.out (HEC.out.trans (HF6.out.trans (Ext.drew' (Ext.refl _)))))).mono ?_; rintro e w7 ⟨us, rfl, hr7, hE7⟩
         have HF7 : Hid (Ext w6 w7) := Ext.trans (Ext.drew' (Ext.refl _)) hE7
         have HQ7 := Lib.hid (good_Config.mono (Nat.zero_le _) hr7)
         have k0' := HF7.out.at k0; have k1' := HF7.out.at k1; have k2' := HF7.out.at k2; have k3' := HF7.out.at k3; have m0' := HF7.out.at m0; have m1' := HF7.out.at m1; have m2' := HF7.out.at m2; have m3' := HF7.out.at m3
         clear hE7 hr7 k0 k1 k2 k3 klt m0 m1 m2 m3 mlt)
      | (go_at_call 20; refine (eqConfig_any x [.slice p0n x.rules.rules.length c0n, .slice p1n x.scoring.weights.length c1n, .int .i64 x.scoring.bias, .slice p2n x.survivors.length c2n] _ _ ((HRC.out.ext (HF6.out.trans HF7.out)).read c0n c1n c2n) HQ7.out).mono ?_; rintro e w8 ⟨rfl, hE8⟩
         have HF8 := Lib.hid (HF7.out.trans hE8)
         have k0 := hE8.at k0'; have k1 := hE8.at k1'; have k2 := hE8.at k2'; have k3 := hE8.at k3'; have m0 := hE8.at m0'; have m1 := hE8.at m1'; have m2 := hE8.at m2'; have m3 := hE8.at m3'
         clear hE8 HQ7 k0' k1' k2' k3' m0' m1' m2' m3'))
  have HFC8 := Lib.hid (HF6.out.trans HF8.out)
  have HX8 := Lib.hid (HXC.out.ext HFC8.out); have HE8 := Lib.hid (HEC.out.trans HFC8.out); have HW8 := Lib.hid (HWC.out.ext HFC8.out); have HBW8 := Lib.hid (HBWC.out.ext HFC8.out)
  have HBX8 := Lib.hid (HBXC.out.ext HFC8.out); have HR8 := Lib.hid (HRC.out.ext HFC8.out); have HG8 := Lib.hid (HGC.out.ext HFC8.out); have HBG8 := Lib.hid (HBG.out.ext HFC8.out)
  clear HXC HEC HWC HBWC HBXC HRC HGC HF6 HF7 HF8 HX6 HBX6 hlX k0 k1 k2 k3 m0 m1 m2 m3
  have bg := HBX8.out
  have m0 := bg.cell 0
  have m1 := bg.cell 1
  have m2 := bg.cell 2
  have m3 := bg.cell 3
  have mlt := bg.lt
  simp only [List.getElem?_toArray, List.getElem?_cons_zero, List.getElem?_cons_succ] at m0 m1 m2 m3
  clear bg
  go_wp2_with fail
  have s3A := HFA.out.size; have sA4 := HF4.out.size; have s4B := HFB.out.size; have sB5 := HF5.out.size; have s5C := HFC.out.size; have sC8 := HFC8.out.size; have s03 := HE3.out.size; have s02 := HL2.out; have hBWl := HBW8.out.lt; have sX := HX8.out.lt
  refine (markConfig_rows x 1 (by omega) HCX.out TX HAX.out p0n c0n p1n c1n p2n c2n _ (fun i c h => by have := (HIX.out i c h).2; omega) HR8.out.r0 HR8.out.r1 HR8.out.r2).mono ?_
  rintro e w9 ⟨rfl, hm0, hm1, hm2, hC9⟩
  have HZ9 := Lib.hid hC9.size
  have hsub : ∀ c, someT 3 TX c → wA.heap.size ≤ c ∧ c < w4.heap.size := someT_in HIX.out
  have HG9 := Lib.hid (HG8.out.chg hC9 (fun i c h1 h2 => by have := (HIG.out i c h1).1; have := (hsub c h2).2; omega))
  have HW9 := Lib.hid (HW8.out.chg hC9 (fun i c h1 h2 => by have := (HIW.out i c h1).2; have := (hsub c h2).1; omega))
  have HX9 := Lib.hid (HX8.out.chg hC9 (fun h => by have := (hsub _ h).1; have := HX0L.out; omega))
  have HBW9 := Lib.hid (HBW8.out.chg hC9 (fun h => by have := (hsub _ h).1; have := HBWL.out; omega))
  have HBG9 := Lib.hid (HBG8.out.chg hC9 (fun h => by have := (hsub _ h).2; omega))
  have HE9 := Lib.hid (Chg.ext HE8.out hC9 (fun c h => by have := (hsub c h).1; omega))
  clear hm0 hm1 hm2 hC9 hsub HG8 HW8 HX8 HBW8 HBG8 HE8 HR8 HBX8 hBWl sX m0 m1 m2 m3 mlt
  have hk0 : ¬ (1 : Int) + (sumC cntE_Rule x.rules.rules : Nat) + (sumC cntOne x.scoring.weights : Nat) + (sumC cntOne x.survivors : Nat) < 0 := by omega
  have bx := HBW9.out; have bg := HBG9.out
  have k0 := bx.cell 0
  have k1 := bx.cell 1
  have k2 := bx.cell 2
  have k3 := bx.cell 3
  have k4 := bx.cell 4
  have k5 := bx.cell 5
  have k6 := bx.cell 6
  have k7 := bx.cell 7
  have k8 := bx.cell 8
  have k9 := bx.cell 9
  have klt := bx.lt
  simp only [List.getElem?_toArray, List.getElem?_cons_zero, List.getElem?_cons_succ] at k0 k1 k2 k3 k4 k5 k6 k7 k8 k9
  have m0 := bg.cell 0
  have m1 := bg.cell 1
  have m2 := bg.cell 2
  have m3 := bg.cell 3
  have m4 := bg.cell 4
  have m5 := bg.cell 5
  have m6 := bg.cell 6
  have m7 := bg.cell 7
  have m8 := bg.cell 8
  have m9 := bg.cell 9
  have mlt := bg.lt
  simp only [List.getElem?_toArray, List.getElem?_cons_zero, List.getElem?_cons_succ] at m0 m1 m2 m3 m4 m5 m6 m7 m8 m9
  clear bx bg
  go_wp2_with fail
  refine (eqSystem_any Y [.slice p0g Y.config.rules.rules.length c0g, .slice p1g Y.config.scoring.weights.length c1g, .int .i64 Y.config.scoring.bias, .slice p2g Y.config.survivors.length c2g, .int .i64 Y.store.version, .slice p3g Y.store.records.length c3g, .slice p4g Y.store.verdicts.length c4g, .slice p5g Y.entities.length c5g, .int .i64 Y.next, .slice p6g Y.refused.length c6g] [.slice p0s Y.config.rules.rules.length c0s, .slice p1s Y.config.scoring.weights.length c1s, .int .i64 Y.config.scoring.bias, .slice p2s Y.config.survivors.length c2s, .int .i64 Y.store.version, .slice p3s Y.store.records.length c3s, .slice p4s Y.store.verdicts.length c4s, .slice p5s Y.entities.length c5s, .int .i64 Y.next, .slice p6s Y.refused.length c6s] _ (HG9.out.read c0g c1g c2g c3g c4g c5g c6g) (HW9.out.read c0s c1s c2s c3s c4s c5s c6s)).mono ?_
  rintro e w10 ⟨rfl, hE10⟩
  have HX10 := Lib.hid (HX9.out.ext hE10); have HE10 := Lib.hid (HE9.out.trans hE10); have HW10 := Lib.hid (HW9.out.ext hE10); have HBW10 := Lib.hid (HBW9.out.ext hE10); have HG10 := Lib.hid (HG9.out.ext hE10); have HBG10 := Lib.hid (HBG9.out.ext hE10)
  have s10 := hE10.size
  have hC9z : w8.heap.size ≤ w9.heap.size := HZ9.out
  clear hE10 HX9 HE9 HW9 HBW9 HG9 HBG9 hk0 k0 m0 k1 m1 k2 m2 k3 m3 k4 m4 k5 m5 k6 m6 k7 m7 k8 m8 k9 m9 klt mlt
  have bg := HBG10.out
  have m0 := bg.cell 0
  have m1 := bg.cell 1
  have m2 := bg.cell 2
  have m3 := bg.cell 3
  have m4 := bg.cell 4
  have m5 := bg.cell 5
  have m6 := bg.cell 6
  have m7 := bg.cell 7
  have m8 := bg.cell 8
  have m9 := bg.cell 9
  have mlt := bg.lt
  simp only [List.getElem?_toArray, List.getElem?_cons_zero, List.getElem?_cons_succ] at m0 m1 m2 m3 m4 m5 m6 m7 m8 m9
  clear bg
  go_wp2_with fail
  refine (markSystem_rows Y 1 (by omega) HCY.out TG HAG.out p0g c0g p1g c1g p2g c2g p3g c3g p4g c4g p5g c5g p6g c6g _ (fun i c h => by have := (HIG.out i c h).2; omega) HG10.out.r0 HG10.out.r1 HG10.out.r2 HG10.out.r3 HG10.out.r4 HG10.out.r5 HG10.out.r6).mono ?_
  rintro e w11 ⟨rfl, hm0, hm1, hm2, hm3, hm4, hm5, hm6, hC11⟩
  have hsub : ∀ c, someT 7 TG c → wB.heap.size ≤ c ∧ c < w5.heap.size := someT_in HIG.out
  have M0 := Lib.hid hm0; have M1 := Lib.hid hm1; have M2 := Lib.hid hm2; have M3 := Lib.hid hm3; have M4 := Lib.hid hm4; have M5 := Lib.hid hm5; have M6 := Lib.hid hm6
  have HW11 := Lib.hid (HW10.out.chg hC11 (fun i c h1 h2 => by have := (HIW.out i c h1).2; have := (hsub c h2).1; omega))
  have HX11 := Lib.hid (HX10.out.chg hC11 (fun h => by have := (hsub _ h).1; have := HX0L.out; omega))
  have HBW11 := Lib.hid (HBW10.out.chg hC11 (fun h => by have := (hsub _ h).1; have := HBWL.out; omega))
  have HBG11 := Lib.hid (HBG10.out.chg hC11 (fun h => by have := (hsub _ h).2; omega))
  have HE11 := Lib.hid (Chg.ext HE10.out hC11 (fun c h => by have := (hsub c h).1; omega))
  clear hm0 hm1 hm2 hm3 hm4 hm5 hm6 hC11 hsub HW10 HX10 HBW10 HBG10 HE10 HG10 m0 m1 m2 m3 m4 m5 m6 m7 m8 m9 mlt s3A sA4 s4B sB5 s5C sC8 s03 s02 s10 hC9z
  have hcy := HCY.out
  obtain ⟨q, hq⟩ : ∃ q : Int, q = (1 : Int) + (sumC cntE_Rule Y.config.rules.rules : Nat) + (sumC cntOne Y.config.scoring.weights : Nat) + (sumC cntOne Y.config.survivors : Nat) + (sumC cntE_Record Y.store.records : Nat) + (sumC cntE_Verdict Y.store.verdicts : Nat) + (sumC cntE_Entity Y.entities : Nat) + (sumC cntE_Verdict Y.refused : Nat) := ⟨_, rfl⟩
  have HQ := Lib.hid hq
  have hq0 : ¬ q < 0 := by omega
  have hqq : (q != q) = false := by simp
  rw [← hq]
  clear hq hcy
  have bg := HBG11.out
  have m0 := bg.cell 0
  have m1 := bg.cell 1
  have m2 := bg.cell 2
  have m3 := bg.cell 3
  have m4 := bg.cell 4
  have m5 := bg.cell 5
  have m6 := bg.cell 6
  have m7 := bg.cell 7
  have m8 := bg.cell 8
  have m9 := bg.cell 9
  have mlt := bg.lt
  simp only [List.getElem?_toArray, List.getElem?_cons_zero, List.getElem?_cons_succ] at m0 m1 m2 m3 m4 m5 m6 m7 m8 m9
  clear bg
  go_wp2_with fail
  refine (heldSystem_rows Y 1 (by omega) HCY.out 0 p0g c0g p1g c1g p2g c2g p3g c3g p4g c4g p5g c5g p6g c6g _ (M0.out.rel goodO_Rule (fun _ _ => Nat.zero_le _)) (M1.out.rel goodO_int (fun _ _ => Nat.zero_le _)) (M2.out.rel goodO_int (fun _ _ => Nat.zero_le _)) (M3.out.rel goodO_Record (fun _ _ => Nat.zero_le _)) (M4.out.rel goodO_Verdict (fun _ _ => Nat.zero_le _)) (M5.out.rel goodO_Entity (fun _ _ => Nat.zero_le _)) (M6.out.rel goodO_Verdict (fun _ _ => Nat.zero_le _))).mono ?_
  rintro e w12 ⟨rfl, hE12⟩
  rw [← HQ.out]
  have HF12 := Lib.hid hE12
  have HX12 := Lib.hid (HX11.out.ext hE12); have HE12 := Lib.hid (HE11.out.trans hE12); have HW12 := Lib.hid (HW11.out.ext hE12); have HBW12 := Lib.hid (HBW11.out.ext hE12); have HBG12 := Lib.hid (HBG11.out.ext hE12)
  clear hE12 HX11 HE11 HW11 HBW11 HBG11 m0 m1 m2 m3 m4 m5 m6 m7 m8 m9 mlt
  have bx := HX12.out
  have k0 := bx.cell 0
  have k1 := bx.cell 1
  have k2 := bx.cell 2
  have k3 := bx.cell 3
  have klt := bx.lt
  simp only [List.getElem?_toArray, List.getElem?_cons_zero, List.getElem?_cons_succ] at k0 k1 k2 k3
  clear bx
  go_wp2_with fail
  refine (toConfig_any x HS.out [.slice p0a x.rules.rules.length c0a, .slice p1a x.scoring.weights.length c1a, .int .i64 x.scoring.bias, .slice p2a x.survivors.length c2a] _ (good_Config.ext HA.out (by have h9 := HE12.out; (repeat' (first | with_reducible assumption | with_reducible exact Below.refl _ _ | (with_reducible refine Ext.alloc' ?_ _) | (with_reducible refine Ext.drew' ?_) | (with_reducible refine Ext.drewN' ?_ _) | (with_reducible refine Ext.set_ ?_ (by first | omega | (simp; done) | (simp; omega)) _ _) | (refine Ext.trans ?_ (by with_reducible assumption))))))).mono ?_
  rintro e w13 ⟨us, rfl, hr13, hE13⟩
  have HQ13 := Lib.hid (good_Config.mono (Nat.zero_le _) hr13); have HF13 := Lib.hid hE13
  clear hE13 hr13 k0 k1 k2 k3 klt
  go_wp2_with fail
  refine (HSI.out us _ HQ13.out).mono ?_
  rintro e w14 ⟨p0h, c0h, p1h, c1h, p2h, c2h, p3h, c3h, p4h, c4h, p5h, c5h, p6h, c6h, TH, rfl, hA, hI, hR, hE14⟩
  have HH14 := Lib.hid hR; have HF14 := Lib.hid (HF13.out.trans hE14)
  have bx := HBW12.out.ext HF14.out
  have k0 := bx.cell 0
  have k1 := bx.cell 1
  have k2 := bx.cell 2
  have k3 := bx.cell 3
  have k4 := bx.cell 4
  have k5 := bx.cell 5
  have k6 := bx.cell 6
  have k7 := bx.cell 7
  have k8 := bx.cell 8
  have k9 := bx.cell 9
  have klt := bx.lt
  simp only [List.getElem?_toArray, List.getElem?_cons_zero, List.getElem?_cons_succ] at k0 k1 k2 k3 k4 k5 k6 k7 k8 k9
  clear bx hA hI hR hE14 HQ13 HF13
  go_wp2_with fail
  obtain ⟨wD, hwD⟩ : ∃ wD, wD = w14.alloc (.cells #[.slice p0h Y.config.rules.rules.length c0h, .slice p1h Y.config.scoring.weights.length c1h, .int .i64 Y.config.scoring.bias, .slice p2h Y.config.survivors.length c2h, .int .i64 Y.store.version, .slice p3h Y.store.records.length c3h, .slice p4h Y.store.verdicts.length c4h, .slice p5h Y.entities.length c5h, .int .i64 Y.next, .slice p6h Y.refused.length c6h] 72) := ⟨_, rfl⟩
  have HBH : Hid (Box wD w14.heap.size 72 #[.slice p0h Y.config.rules.rules.length c0h, .slice p1h Y.config.scoring.weights.length c1h, .int .i64 Y.config.scoring.bias, .slice p2h Y.config.survivors.length c2h, .int .i64 Y.store.version, .slice p3h Y.store.records.length c3h, .slice p4h Y.store.verdicts.length c4h, .slice p5h Y.entities.length c5h, .int .i64 Y.next, .slice p6h Y.refused.length c6h]) := by rw [hwD]; exact Box.new' _ _ _ _ rfl
  have HFD0 : Hid (Ext w14 wD) := by rw [hwD]; exact Ext.alloc _ _
  rw [← hwD]
  have HFD := Lib.hid (HF14.out.trans HFD0.out); have HHD := Lib.hid (HH14.out.ext HFD0.out)
  have HWD := Lib.hid (HW12.out.ext HFD.out); have HBWD := Lib.hid (HBW12.out.ext HFD.out); have HBGD := Lib.hid (HBG12.out.ext HFD.out); have HED := Lib.hid (HE12.out.trans HFD.out)
  clear hwD HH14 HF14 HFD0 HX12 HE12 HW12 HBW12 HBG12
  refine (eqSystem_any Y [.slice p0h Y.config.rules.rules.length c0h, .slice p1h Y.config.scoring.weights.length c1h, .int .i64 Y.config.scoring.bias, .slice p2h Y.config.survivors.length c2h, .int .i64 Y.store.version, .slice p3h Y.store.records.length c3h, .slice p4h Y.store.verdicts.length c4h, .slice p5h Y.entities.length c5h, .int .i64 Y.next, .slice p6h Y.refused.length c6h] [.slice p0s Y.config.rules.rules.length c0s, .slice p1s Y.config.scoring.weights.length c1s, .int .i64 Y.config.scoring.bias, .slice p2s Y.config.survivors.length c2s, .int .i64 Y.store.version, .slice p3s Y.store.records.length c3s, .slice p4s Y.store.verdicts.length c4s, .slice p5s Y.entities.length c5s, .int .i64 Y.next, .slice p6s Y.refused.length c6s] _ (HHD.out.read c0h c1h c2h c3h c4h c5h c6h) (HWD.out.read c0s c1s c2s c3s c4s c5s c6s)).mono ?_
  rintro e w15 ⟨rfl, hE15⟩
  have HF15 := Lib.hid (HF12.out.trans (HFD.out.trans hE15)); have HBG15 := Lib.hid (HBGD.out.ext hE15); have HE15 := Lib.hid (HED.out.trans hE15)
  clear hE15 HHD HWD HBWD HBGD HED HFD HBH k0 k1 k2 k3 k4 k5 k6 k7 k8 k9 klt
  have bg := HBG15.out
  have m0 := bg.cell 0
  have m1 := bg.cell 1
  have m2 := bg.cell 2
  have m3 := bg.cell 3
  have m4 := bg.cell 4
  have m5 := bg.cell 5
  have m6 := bg.cell 6
  have m7 := bg.cell 7
  have m8 := bg.cell 8
  have m9 := bg.cell 9
  have mlt := bg.lt
  simp only [List.getElem?_toArray, List.getElem?_cons_zero, List.getElem?_cons_succ] at m0 m1 m2 m3 m4 m5 m6 m7 m8 m9
  clear bg
  go_wp2_with fail
  refine (heldSystem_rows Y 1 (by omega) HCY.out 0 p0g c0g p1g c1g p2g c2g p3g c3g p4g c4g p5g c5g p6g c6g _ ((M0.out.ext goodO_Rule HF15.out).rel goodO_Rule (fun _ _ => Nat.zero_le _)) ((M1.out.ext goodO_int HF15.out).rel goodO_int (fun _ _ => Nat.zero_le _)) ((M2.out.ext goodO_int HF15.out).rel goodO_int (fun _ _ => Nat.zero_le _)) ((M3.out.ext goodO_Record HF15.out).rel goodO_Record (fun _ _ => Nat.zero_le _)) ((M4.out.ext goodO_Verdict HF15.out).rel goodO_Verdict (fun _ _ => Nat.zero_le _)) ((M5.out.ext goodO_Entity HF15.out).rel goodO_Entity (fun _ _ => Nat.zero_le _)) ((M6.out.ext goodO_Verdict HF15.out).rel goodO_Verdict (fun _ _ => Nat.zero_le _))).mono ?_
  rintro e w16 ⟨rfl, hE16⟩
  rw [← HQ.out]
  have HE16 := Lib.hid (HE15.out.trans hE16)
  clear hE16 HE15 HBG15 m0 m1 m2 m3 m4 m5 m6 m7 m8 m9 mlt
  go_wp2_with fail
  go_ret
  exact ⟨rfl, HE16.out⟩
end Go.Proofs.Ytdgpbgpapcldeaa
