/- The walk of the law FnExactEqualSystems. -/
import Derived.Test.YtdgpbgpapcldeaaEqSysS
import Derived.Deep.RegionHeld3
set_option linter.unusedVariables false
set_option linter.unusedSimpArgs false
namespace Go.Proofs.Ytdgpbgpapcldeaa
open Go.RowKit Go.Er Go.BigFrame

set_option maxRecDepth 100000 in
set_option maxHeartbeats 6400000 in
theorem lawEqualSystems_any (x y : DSystem) (us vs : List Value) (w : World) (h1 : SystemR 0 w us x) (h2 : SystemR 0 w vs y) :
    Calls Try.prog 8 #[.agg us.toArray, .agg vs.toArray] w (Yes w) := by
  obtain ⟨p0a, c0a, p1a, c1a, p2a, c2a, p3a, c3a, p4a, c4a, p5a, c5a, p6a, c6a, rfl, r0a, r1a, r2a, r3a, r4a, r5a, r6a⟩ := h1
  obtain ⟨p0b, c0b, p1b, c1b, p2b, c2b, p3b, c3b, p4b, c4b, p5b, c5b, p6b, c6b, rfl, r0b, r1b, r2b, r3b, r4b, r5b, r6b⟩ := h2
  have HA : Hid (SystemR 0 w [.slice p0a x.config.rules.rules.length c0a, .slice p1a x.config.scoring.weights.length c1a, .int .i64 x.config.scoring.bias, .slice p2a x.config.survivors.length c2a, .int .i64 x.store.version, .slice p3a x.store.records.length c3a, .slice p4a x.store.verdicts.length c4a, .slice p5a x.entities.length c5a, .int .i64 x.next, .slice p6a x.refused.length c6a] x) := ⟨p0a, c0a, p1a, c1a, p2a, c2a, p3a, c3a, p4a, c4a, p5a, c5a, p6a, c6a, rfl, r0a, r1a, r2a, r3a, r4a, r5a, r6a⟩
  have HB : Hid (SystemR 0 w [.slice p0b y.config.rules.rules.length c0b, .slice p1b y.config.scoring.weights.length c1b, .int .i64 y.config.scoring.bias, .slice p2b y.config.survivors.length c2b, .int .i64 y.store.version, .slice p3b y.store.records.length c3b, .slice p4b y.store.verdicts.length c4b, .slice p5b y.entities.length c5b, .int .i64 y.next, .slice p6b y.refused.length c6b] y) := ⟨p0b, c0b, p1b, c1b, p2b, c2b, p3b, c3b, p4b, c4b, p5b, c5b, p6b, c6b, rfl, r0b, r1b, r2b, r3b, r4b, r5b, r6b⟩
  clear r0a r1a r2a r3a r4a r5a r6a r0b r1b r2b r3b r4b r5b r6b
  go_enter Try.func8, Try.ntmps8
  go_wp2_with fail
  refine (szSystem_any x 1048576 (by omega) (by omega) [.slice p0a x.config.rules.rules.length c0a, .slice p1a x.config.scoring.weights.length c1a, .int .i64 x.config.scoring.bias, .slice p2a x.config.survivors.length c2a, .int .i64 x.store.version, .slice p3a x.store.records.length c3a, .slice p4a x.store.verdicts.length c4a, .slice p5a x.entities.length c5a, .int .i64 x.next, .slice p6a x.refused.length c6a] 0 _ (good_System.ext HA.out (by (repeat' (first | with_reducible assumption | with_reducible exact Below.refl _ _ | (with_reducible refine Ext.alloc' ?_ _) | (with_reducible refine Ext.drew' ?_) | (with_reducible refine Ext.drewN' ?_ _) | (with_reducible refine Ext.set_ ?_ (by first | omega | (simp; done) | (simp; omega)) _ _) | (refine Ext.trans ?_ (by with_reducible assumption))))))).mono ?_
  rintro e w1 ⟨v1, rfl, hv1, hm1, hp1, hE1⟩
  have HX : Hid (Box w1 w.heap.size 63 #[.slice p0a x.config.rules.rules.length c0a, .slice p1a x.config.scoring.weights.length c1a, .int .i64 x.config.scoring.bias, .slice p2a x.config.survivors.length c2a, .int .i64 x.store.version, .slice p3a x.store.records.length c3a, .slice p4a x.store.verdicts.length c4a, .slice p5a x.entities.length c5a, .int .i64 x.next, .slice p6a x.refused.length c6a]) := (Box.alloc (Box.new' _ _ _ _ rfl) _).ext hE1
  have HY : Hid (Box w1 (w.heap.size + 1) 63 #[.slice p0b y.config.rules.rules.length c0b, .slice p1b y.config.scoring.weights.length c1b, .int .i64 y.config.scoring.bias, .slice p2b y.config.survivors.length c2b, .int .i64 y.store.version, .slice p3b y.store.records.length c3b, .slice p4b y.store.verdicts.length c4b, .slice p5b y.entities.length c5b, .int .i64 y.next, .slice p6b y.refused.length c6b]) := (Box.new' _ _ _ _ (by simp)).ext hE1
  have HE1 := Lib.hid (show Ext w w1 from by (repeat' (first | with_reducible assumption | with_reducible exact Below.refl _ _ | (with_reducible refine Ext.alloc' ?_ _) | (with_reducible refine Ext.drew' ?_) | (with_reducible refine Ext.drewN' ?_ _) | (with_reducible refine Ext.set_ ?_ (by first | omega | (simp; done) | (simp; omega)) _ _) | (refine Ext.trans ?_ (by with_reducible assumption)))))
  have HP1 := Lib.hid hp1
  clear hE1 hp1
  by_cases hn : v1 < 0
  · go_wp2_with fail
    go_ret
    exact ⟨rfl, HE1.out⟩
  have HS1 := Lib.hid (HP1.out (by omega))
  have bx := HX.out; have bY := HY.out
  have k0 := bx.cell 0
  have k1 := bx.cell 1
  have k2 := bx.cell 2
  have k3 := bx.cell 3
  have k4 := bx.cell 4
  have k5 := bx.cell 5
  have k6 := bx.cell 6
  have k7 := bx.cell 7
  have k8 := bx.cell 8
  have k9 := bx.cell 9
  have klt := bx.lt
  simp only [List.getElem?_toArray, List.getElem?_cons_zero, List.getElem?_cons_succ] at k0 k1 k2 k3 k4 k5 k6 k7 k8 k9
  have m0 := bY.cell 0
  have m1 := bY.cell 1
  have m2 := bY.cell 2
  have m3 := bY.cell 3
  have m4 := bY.cell 4
  have m5 := bY.cell 5
  have m6 := bY.cell 6
  have m7 := bY.cell 7
  have m8 := bY.cell 8
  have m9 := bY.cell 9
  have mlt := bY.lt
  simp only [List.getElem?_toArray, List.getElem?_cons_zero, List.getElem?_cons_succ] at m0 m1 m2 m3 m4 m5 m6 m7 m8 m9
  clear bx bY
  go_wp2_with fail
  refine (szSystem_any y v1 (by omega) (by omega) [.slice p0b y.config.rules.rules.length c0b, .slice p1b y.config.scoring.weights.length c1b, .int .i64 y.config.scoring.bias, .slice p2b y.config.survivors.length c2b, .int .i64 y.store.version, .slice p3b y.store.records.length c3b, .slice p4b y.store.verdicts.length c4b, .slice p5b y.entities.length c5b, .int .i64 y.next, .slice p6b y.refused.length c6b] 0 _ (good_System.ext HB.out (by have h8 := HE1.out; (repeat' (first | with_reducible assumption | with_reducible exact Below.refl _ _ | (with_reducible refine Ext.alloc' ?_ _) | (with_reducible refine Ext.drew' ?_) | (with_reducible refine Ext.drewN' ?_ _) | (with_reducible refine Ext.set_ ?_ (by first | omega | (simp; done) | (simp; omega)) _ _) | (refine Ext.trans ?_ (by with_reducible assumption))))))).mono ?_
  rintro e w2 ⟨v2, rfl, hv2, hm2, hp2, hE2⟩
  have HX2 := Lib.hid (HX.out.ext hE2); have HY2 := Lib.hid (HY.out.ext hE2); have HE2 := Lib.hid (HE1.out.trans hE2)
  have HP2 := Lib.hid hp2
  clear hE2 hp2 HX HY HE1 HP1 k0 m0 k1 m1 k2 m2 k3 m3 k4 m4 k5 m5 k6 m6 k7 m7 k8 m8 k9 m9 klt mlt
  by_cases hn2 : v2 < 0
  · go_wp2_with fail
    go_ret
    exact ⟨rfl, HE2.out⟩
  have HS2 := Lib.hid (HP2.out (by omega))
  have bx := HX2.out; have bY := HY2.out
  have k0 := bx.cell 0
  have k1 := bx.cell 1
  have k2 := bx.cell 2
  have k3 := bx.cell 3
  have k4 := bx.cell 4
  have k5 := bx.cell 5
  have k6 := bx.cell 6
  have k7 := bx.cell 7
  have k8 := bx.cell 8
  have k9 := bx.cell 9
  have klt := bx.lt
  simp only [List.getElem?_toArray, List.getElem?_cons_zero, List.getElem?_cons_succ] at k0 k1 k2 k3 k4 k5 k6 k7 k8 k9
  have m0 := bY.cell 0
  have m1 := bY.cell 1
  have m2 := bY.cell 2
  have m3 := bY.cell 3
  have m4 := bY.cell 4
  have m5 := bY.cell 5
  have m6 := bY.cell 6
  have m7 := bY.cell 7
  have m8 := bY.cell 8
  have m9 := bY.cell 9
  have mlt := bY.lt
  simp only [List.getElem?_toArray, List.getElem?_cons_zero, List.getElem?_cons_succ] at m0 m1 m2 m3 m4 m5 m6 m7 m8 m9
  clear bx bY
  go_wp2_with fail
  go_region_held3 (fun w' => w'.cell? ⟨w.heap.size, 0, none⟩ = some (.slice p0a x.config.rules.rules.length c0a) ∧ w'.cell? ⟨w.heap.size, 1, none⟩ = some (.slice p1a x.config.scoring.weights.length c1a) ∧ w'.cell? ⟨w.heap.size, 2, none⟩ = some (.int .i64 x.config.scoring.bias) ∧ w'.cell? ⟨w.heap.size, 3, none⟩ = some (.slice p2a x.config.survivors.length c2a) ∧ w'.cell? ⟨w.heap.size, 4, none⟩ = some (.int .i64 x.store.version) ∧ w'.cell? ⟨w.heap.size, 5, none⟩ = some (.slice p3a x.store.records.length c3a) ∧ w'.cell? ⟨w.heap.size, 6, none⟩ = some (.slice p4a x.store.verdicts.length c4a) ∧ w'.cell? ⟨w.heap.size, 7, none⟩ = some (.slice p5a x.entities.length c5a) ∧ w'.cell? ⟨w.heap.size, 8, none⟩ = some (.int .i64 x.next) ∧ w'.cell? ⟨w.heap.size, 9, none⟩ = some (.slice p6a x.refused.length c6a) ∧ w'.cell? ⟨w.heap.size + 1, 0, none⟩ = some (.slice p0b y.config.rules.rules.length c0b) ∧ w'.cell? ⟨w.heap.size + 1, 1, none⟩ = some (.slice p1b y.config.scoring.weights.length c1b) ∧ w'.cell? ⟨w.heap.size + 1, 2, none⟩ = some (.int .i64 y.config.scoring.bias) ∧ w'.cell? ⟨w.heap.size + 1, 3, none⟩ = some (.slice p2b y.config.survivors.length c2b) ∧ w'.cell? ⟨w.heap.size + 1, 4, none⟩ = some (.int .i64 y.store.version) ∧ w'.cell? ⟨w.heap.size + 1, 5, none⟩ = some (.slice p3b y.store.records.length c3b) ∧ w'.cell? ⟨w.heap.size + 1, 6, none⟩ = some (.slice p4b y.store.verdicts.length c4b) ∧ w'.cell? ⟨w.heap.size + 1, 7, none⟩ = some (.slice p5b y.entities.length c5b) ∧ w'.cell? ⟨w.heap.size + 1, 8, none⟩ = some (.int .i64 y.next) ∧ w'.cell? ⟨w.heap.size + 1, 9, none⟩ = some (.slice p6b y.refused.length c6b)) (go_keep)
    (first
      | (go_at_call_of 31 (Value.slice p0a x.config.rules.rules.length c0a); refine (toSystem_any x HS1.out [.slice p0a x.config.rules.rules.length c0a, .slice p1a x.config.scoring.weights.length c1a, .int .i64 x.config.scoring.bias, .slice p2a x.config.survivors.length c2a, .int .i64 x.store.version, .slice p3a x.store.records.length c3a, .slice p4a x.store.verdicts.length c4a, .slice p5a x.entities.length c5a, .int .i64 x.next, .slice p6a x.refused.length c6a] _ (good_System.ext HA.out (by have h9 := HE2.out; (repeat' (first | with_reducible assumption | with_reducible exact Below.refl _ _ | (with_reducible refine Ext.alloc' ?_ _) | (with_reducible refine Ext.drew' ?_) | (with_reducible refine Ext.drewN' ?_ _) | (with_reducible refine Ext.set_ ?_ (by first | omega | (simp; done) | (simp; omega)) _ _) | (refine Ext.trans ?_ (by with_reducible assumption))))))).mono ?_; rintro e w3 ⟨us, rfl, hr3, hE3⟩
         have HE3 := Lib.hid (show Ext w w3 from by have h8 := HE2.out; have h9 := hE3; (repeat' (first | with_reducible assumption | with_reducible exact Below.refl _ _ | (with_reducible refine Ext.alloc' ?_ _) | (with_reducible refine Ext.drew' ?_) | (with_reducible refine Ext.drewN' ?_ _) | (with_reducible refine Ext.set_ ?_ (by first | omega | (simp; done) | (simp; omega)) _ _) | (refine Ext.trans ?_ (by with_reducible assumption)))))
         have HF3 := Lib.hid (show Ext w2 w3 from by have h9 := hE3; (repeat' (first | with_reducible assumption | with_reducible exact Below.refl _ _ | (with_reducible refine Ext.alloc' ?_ _) | (with_reducible refine Ext.drew' ?_) | (with_reducible refine Ext.drewN' ?_ _) | (with_reducible refine Ext.set_ ?_ (by first | omega | (simp; done) | (simp; omega)) _ _) | (refine Ext.trans ?_ (by with_reducible assumption)))))
         have HQ3 := Lib.hid (good_System.mono (Nat.zero_le _) hr3)
         have k0' := hE3.at k0; have m0' := hE3.at m0; have k1' := hE3.at k1; have m1' := hE3.at m1; have k2' := hE3.at k2; have m2' := hE3.at m2; have k3' := hE3.at k3; have m3' := hE3.at m3; have k4' := hE3.at k4; have m4' := hE3.at m4; have k5' := hE3.at k5; have m5' := hE3.at m5; have k6' := hE3.at k6; have m6' := hE3.at m6; have k7' := hE3.at k7; have m7' := hE3.at m7; have k8' := hE3.at k8; have m8' := hE3.at m8; have k9' := hE3.at k9; have m9' := hE3.at m9
         clear hE3 hr3 k0 m0 k1 m1 k2 m2 k3 m3 k4 m4 k5 m5 k6 m6 k7 m7 k8 m8 k9 m9 klt mlt)
      | (go_at_call_of 31 (Value.slice p0b y.config.rules.rules.length c0b); refine (toSystem_any y HS2.out [.slice p0b y.config.rules.rules.length c0b, .slice p1b y.config.scoring.weights.length c1b, .int .i64 y.config.scoring.bias, .slice p2b y.config.survivors.length c2b, .int .i64 y.store.version, .slice p3b y.store.records.length c3b, .slice p4b y.store.verdicts.length c4b, .slice p5b y.entities.length c5b, .int .i64 y.next, .slice p6b y.refused.length c6b] _ (good_System.ext HB.out (by have h9 := HE3.out; (repeat' (first | with_reducible assumption | with_reducible exact Below.refl _ _ | (with_reducible refine Ext.alloc' ?_ _) | (with_reducible refine Ext.drew' ?_) | (with_reducible refine Ext.drewN' ?_ _) | (with_reducible refine Ext.set_ ?_ (by first | omega | (simp; done) | (simp; omega)) _ _) | (refine Ext.trans ?_ (by with_reducible assumption))))))).mono ?_; rintro e w4 ⟨vs, rfl, hr4, hE4⟩
         have HE4 := Lib.hid (HE3.out.trans hE4)
         have HF4 := Lib.hid (HF3.out.trans hE4)
         have HQ4 := Lib.hid (good_System.ext HQ3.out hE4)
         have HT4 := Lib.hid (good_System.mono (Nat.zero_le _) hr4)
         have k0 := hE4.at k0'; have m0 := hE4.at m0'; have k1 := hE4.at k1'; have m1 := hE4.at m1'; have k2 := hE4.at k2'; have m2 := hE4.at m2'; have k3 := hE4.at k3'; have m3 := hE4.at m3'; have k4 := hE4.at k4'; have m4 := hE4.at m4'; have k5 := hE4.at k5'; have m5 := hE4.at m5'; have k6 := hE4.at k6'; have m6 := hE4.at m6'; have k7 := hE4.at k7'; have m7 := hE4.at m7'; have k8 := hE4.at k8'; have m8 := hE4.at m8'; have k9 := hE4.at k9'; have m9 := hE4.at m9'
         clear hE4 hr4 HE3 HQ3 k0' m0' k1' m1' k2' m2' k3' m3' k4' m4' k5' m5' k6' m6' k7' m7' k8' m8' k9' m9')
      | (go_at_call 30; refine (specEqualSystems_any x y HS1.out HS2.out us vs _ HQ4.out HT4.out).mono ?_; rintro e w5 ⟨rfl, hE5⟩
         have HE5 := Lib.hid (HE4.out.trans hE5)
         have HF5 := Lib.hid (HF4.out.trans hE5)
         have k0' := hE5.at k0; have m0' := hE5.at m0; have k1' := hE5.at k1; have m1' := hE5.at m1; have k2' := hE5.at k2; have m2' := hE5.at m2; have k3' := hE5.at k3; have m3' := hE5.at m3; have k4' := hE5.at k4; have m4' := hE5.at m4; have k5' := hE5.at k5; have m5' := hE5.at m5; have k6' := hE5.at k6; have m6' := hE5.at m6; have k7' := hE5.at k7; have m7' := hE5.at m7; have k8' := hE5.at k8; have m8' := hE5.at m8; have k9' := hE5.at k9; have m9' := hE5.at m9
         clear hE5 HQ4 HT4 k0 m0 k1 m1 k2 m2 k3 m3 k4 m4 k5 m5 k6 m6 k7 m7 k8 m8 k9 m9))
  have HX5 := Lib.hid (HX2.out.ext HF5.out); have HY5 := Lib.hid (HY2.out.ext HF5.out)
  clear HX2 HY2 HE2 HE4 HF3 HF4 HF5 k0' m0' k1' m1' k2' m2' k3' m3' k4' m4' k5' m5' k6' m6' k7' m7' k8' m8' k9' m9'
  have bx := HX5.out; have bY := HY5.out
  have k0 := bx.cell 0
  have k1 := bx.cell 1
  have k2 := bx.cell 2
  have k3 := bx.cell 3
  have k4 := bx.cell 4
  have k5 := bx.cell 5
  have k6 := bx.cell 6
  have k7 := bx.cell 7
  have k8 := bx.cell 8
  have k9 := bx.cell 9
  have klt := bx.lt
  simp only [List.getElem?_toArray, List.getElem?_cons_zero, List.getElem?_cons_succ] at k0 k1 k2 k3 k4 k5 k6 k7 k8 k9
  have m0 := bY.cell 0
  have m1 := bY.cell 1
  have m2 := bY.cell 2
  have m3 := bY.cell 3
  have m4 := bY.cell 4
  have m5 := bY.cell 5
  have m6 := bY.cell 6
  have m7 := bY.cell 7
  have m8 := bY.cell 8
  have m9 := bY.cell 9
  have mlt := bY.lt
  simp only [List.getElem?_toArray, List.getElem?_cons_zero, List.getElem?_cons_succ] at m0 m1 m2 m3 m4 m5 m6 m7 m8 m9
  clear bx bY
  go_wp2_with fail
  refine (toSystem_any x HS1.out [.slice p0a x.config.rules.rules.length c0a, .slice p1a x.config.scoring.weights.length c1a, .int .i64 x.config.scoring.bias, .slice p2a x.config.survivors.length c2a, .int .i64 x.store.version, .slice p3a x.store.records.length c3a, .slice p4a x.store.verdicts.length c4a, .slice p5a x.entities.length c5a, .int .i64 x.next, .slice p6a x.refused.length c6a] _ (good_System.ext HA.out (by have h9 := HE5.out; (repeat' (first | with_reducible assumption | with_reducible exact Below.refl _ _ | (with_reducible refine Ext.alloc' ?_ _) | (with_reducible refine Ext.drew' ?_) | (with_reducible refine Ext.drewN' ?_ _) | (with_reducible refine Ext.set_ ?_ (by first | omega | (simp; done) | (simp; omega)) _ _) | (refine Ext.trans ?_ (by with_reducible assumption))))))).mono ?_
  rintro e w6 ⟨us, rfl, ⟨p0c, c0c, p1c, c1c, p2c, c2c, p3c, c3c, p4c, c4c, p5c, c5c, p6c, c6c, rfl, r0c, r1c, r2c, r3c, r4c, r5c, r6c⟩, hE6⟩
  have HC6 : Hid (SystemR 0 w6 [.slice p0c x.config.rules.rules.length c0c, .slice p1c x.config.scoring.weights.length c1c, .int .i64 x.config.scoring.bias, .slice p2c x.config.survivors.length c2c, .int .i64 x.store.version, .slice p3c x.store.records.length c3c, .slice p4c x.store.verdicts.length c4c, .slice p5c x.entities.length c5c, .int .i64 x.next, .slice p6c x.refused.length c6c] x) := ⟨p0c, c0c, p1c, c1c, p2c, c2c, p3c, c3c, p4c, c4c, p5c, c5c, p6c, c6c, rfl, r0c.mono good_Rule (Nat.zero_le _), r1c.mono good_int (Nat.zero_le _), r2c.mono good_int (Nat.zero_le _), r3c.mono good_Record (Nat.zero_le _), r4c.mono good_Verdict (Nat.zero_le _), r5c.mono good_Entity (Nat.zero_le _), r6c.mono good_Verdict (Nat.zero_le _)⟩
  have HX6 := Lib.hid (HX5.out.ext hE6); have HY6 := Lib.hid (HY5.out.ext hE6); have HE6 := Lib.hid (HE5.out.trans hE6)
  clear hE6 r0c r1c r2c r3c r4c r5c r6c HX5 HY5 HE5 k0 m0 k1 m1 k2 m2 k3 m3 k4 m4 k5 m5 k6 m6 k7 m7 k8 m8 k9 m9 klt mlt
  have bx := HX6.out; have bY := HY6.out
  have k0 := bx.cell 0
  have k1 := bx.cell 1
  have k2 := bx.cell 2
  have k3 := bx.cell 3
  have k4 := bx.cell 4
  have k5 := bx.cell 5
  have k6 := bx.cell 6
  have k7 := bx.cell 7
  have k8 := bx.cell 8
  have k9 := bx.cell 9
  have klt := bx.lt
  simp only [List.getElem?_toArray, List.getElem?_cons_zero, List.getElem?_cons_succ] at k0 k1 k2 k3 k4 k5 k6 k7 k8 k9
  have m0 := bY.cell 0
  have m1 := bY.cell 1
  have m2 := bY.cell 2
  have m3 := bY.cell 3
  have m4 := bY.cell 4
  have m5 := bY.cell 5
  have m6 := bY.cell 6
  have m7 := bY.cell 7
  have m8 := bY.cell 8
  have m9 := bY.cell 9
  have mlt := bY.lt
  simp only [List.getElem?_toArray, List.getElem?_cons_zero, List.getElem?_cons_succ] at m0 m1 m2 m3 m4 m5 m6 m7 m8 m9
  clear bx bY
  go_wp2_with fail
  refine (toSystem_any y HS2.out [.slice p0b y.config.rules.rules.length c0b, .slice p1b y.config.scoring.weights.length c1b, .int .i64 y.config.scoring.bias, .slice p2b y.config.survivors.length c2b, .int .i64 y.store.version, .slice p3b y.store.records.length c3b, .slice p4b y.store.verdicts.length c4b, .slice p5b y.entities.length c5b, .int .i64 y.next, .slice p6b y.refused.length c6b] _ (good_System.ext HB.out (by have h9 := HE6.out; (repeat' (first | with_reducible assumption | with_reducible exact Below.refl _ _ | (with_reducible refine Ext.alloc' ?_ _) | (with_reducible refine Ext.drew' ?_) | (with_reducible refine Ext.drewN' ?_ _) | (with_reducible refine Ext.set_ ?_ (by first | omega | (simp; done) | (simp; omega)) _ _) | (refine Ext.trans ?_ (by with_reducible assumption))))))).mono ?_
  rintro e w7 ⟨us, rfl, ⟨p0d, c0d, p1d, c1d, p2d, c2d, p3d, c3d, p4d, c4d, p5d, c5d, p6d, c6d, rfl, r0d, r1d, r2d, r3d, r4d, r5d, r6d⟩, hE7⟩
  have HD7 : Hid (SystemR 0 w7 [.slice p0d y.config.rules.rules.length c0d, .slice p1d y.config.scoring.weights.length c1d, .int .i64 y.config.scoring.bias, .slice p2d y.config.survivors.length c2d, .int .i64 y.store.version, .slice p3d y.store.records.length c3d, .slice p4d y.store.verdicts.length c4d, .slice p5d y.entities.length c5d, .int .i64 y.next, .slice p6d y.refused.length c6d] y) := ⟨p0d, c0d, p1d, c1d, p2d, c2d, p3d, c3d, p4d, c4d, p5d, c5d, p6d, c6d, rfl, r0d.mono good_Rule (Nat.zero_le _), r1d.mono good_int (Nat.zero_le _), r2d.mono good_int (Nat.zero_le _), r3d.mono good_Record (Nat.zero_le _), r4d.mono good_Verdict (Nat.zero_le _), r5d.mono good_Entity (Nat.zero_le _), r6d.mono good_Verdict (Nat.zero_le _)⟩
  have HF7 := Lib.hid (show Ext w6 w7 from by have h9 := hE7; (repeat' (first | with_reducible assumption | with_reducible exact Below.refl _ _ | (with_reducible refine Ext.alloc' ?_ _) | (with_reducible refine Ext.drew' ?_) | (with_reducible refine Ext.drewN' ?_ _) | (with_reducible refine Ext.set_ ?_ (by first | omega | (simp; done) | (simp; omega)) _ _) | (refine Ext.trans ?_ (by with_reducible assumption)))))
  have HU7 : Hid (Box w7 w6.heap.size 72 #[.slice p0c x.config.rules.rules.length c0c, .slice p1c x.config.scoring.weights.length c1c, .int .i64 x.config.scoring.bias, .slice p2c x.config.survivors.length c2c, .int .i64 x.store.version, .slice p3c x.store.records.length c3c, .slice p4c x.store.verdicts.length c4c, .slice p5c x.entities.length c5c, .int .i64 x.next, .slice p6c x.refused.length c6c]) := (Box.new' _ _ _ _ rfl).ext hE7
  have HC7 := Lib.hid (good_System.ext HC6.out HF7.out)
  have HX7 := Lib.hid (HX6.out.ext HF7.out); have HY7 := Lib.hid (HY6.out.ext HF7.out); have HE7 := Lib.hid (HE6.out.trans HF7.out)
  clear hE7 r0d r1d r2d r3d r4d r5d r6d HX6 HY6 HE6 HC6 HF7 k0 m0 k1 m1 k2 m2 k3 m3 k4 m4 k5 m5 k6 m6 k7 m7 k8 m8 k9 m9 klt mlt
  have bu := HU7.out
  have k0 := bu.cell 0
  have k1 := bu.cell 1
  have k2 := bu.cell 2
  have k3 := bu.cell 3
  have k4 := bu.cell 4
  have k5 := bu.cell 5
  have k6 := bu.cell 6
  have k7 := bu.cell 7
  have k8 := bu.cell 8
  have k9 := bu.cell 9
  have klt := bu.lt
  simp only [List.getElem?_toArray, List.getElem?_cons_zero, List.getElem?_cons_succ] at k0 k1 k2 k3 k4 k5 k6 k7 k8 k9
  clear bu
  go_wp2_with fail
  have HUV : Hid (Box (w7.alloc (.cells #[.slice p0d y.config.rules.rules.length c0d, .slice p1d y.config.scoring.weights.length c1d, .int .i64 y.config.scoring.bias, .slice p2d y.config.survivors.length c2d, .int .i64 y.store.version, .slice p3d y.store.records.length c3d, .slice p4d y.store.verdicts.length c4d, .slice p5d y.entities.length c5d, .int .i64 y.next, .slice p6d y.refused.length c6d] 72)) w7.heap.size 72 #[.slice p0d y.config.rules.rules.length c0d, .slice p1d y.config.scoring.weights.length c1d, .int .i64 y.config.scoring.bias, .slice p2d y.config.survivors.length c2d, .int .i64 y.store.version, .slice p3d y.store.records.length c3d, .slice p4d y.store.verdicts.length c4d, .slice p5d y.entities.length c5d, .int .i64 y.next, .slice p6d y.refused.length c6d]) := Box.new' _ _ _ _ rfl
  refine (implEqualSystems_any x y HS1.out HS2.out [.slice p0c x.config.rules.rules.length c0c, .slice p1c x.config.scoring.weights.length c1c, .int .i64 x.config.scoring.bias, .slice p2c x.config.survivors.length c2c, .int .i64 x.store.version, .slice p3c x.store.records.length c3c, .slice p4c x.store.verdicts.length c4c, .slice p5c x.entities.length c5c, .int .i64 x.next, .slice p6c x.refused.length c6c] [.slice p0d y.config.rules.rules.length c0d, .slice p1d y.config.scoring.weights.length c1d, .int .i64 y.config.scoring.bias, .slice p2d y.config.survivors.length c2d, .int .i64 y.store.version, .slice p3d y.store.records.length c3d, .slice p4d y.store.verdicts.length c4d, .slice p5d y.entities.length c5d, .int .i64 y.next, .slice p6d y.refused.length c6d] _ (good_System.ext HC7.out (by (repeat' (first | with_reducible assumption | with_reducible exact Below.refl _ _ | (with_reducible refine Ext.alloc' ?_ _) | (with_reducible refine Ext.drew' ?_) | (with_reducible refine Ext.drewN' ?_ _) | (with_reducible refine Ext.set_ ?_ (by first | omega | (simp; done) | (simp; omega)) _ _) | (refine Ext.trans ?_ (by with_reducible assumption)))))) (good_System.ext HD7.out (by (repeat' (first | with_reducible assumption | with_reducible exact Below.refl _ _ | (with_reducible refine Ext.alloc' ?_ _) | (with_reducible refine Ext.drew' ?_) | (with_reducible refine Ext.drewN' ?_ _) | (with_reducible refine Ext.set_ ?_ (by first | omega | (simp; done) | (simp; omega)) _ _) | (refine Ext.trans ?_ (by with_reducible assumption))))))).mono ?_
  rintro e w8 ⟨rfl, hE8⟩
  have HF8 := Lib.hid (show Ext w7 w8 from by have h9 := hE8; (repeat' (first | with_reducible assumption | with_reducible exact Below.refl _ _ | (with_reducible refine Ext.alloc' ?_ _) | (with_reducible refine Ext.drew' ?_) | (with_reducible refine Ext.drewN' ?_ _) | (with_reducible refine Ext.set_ ?_ (by first | omega | (simp; done) | (simp; omega)) _ _) | (refine Ext.trans ?_ (by with_reducible assumption)))))
  have HV8 : Hid (Box w8 w7.heap.size 72 #[.slice p0d y.config.rules.rules.length c0d, .slice p1d y.config.scoring.weights.length c1d, .int .i64 y.config.scoring.bias, .slice p2d y.config.survivors.length c2d, .int .i64 y.store.version, .slice p3d y.store.records.length c3d, .slice p4d y.store.verdicts.length c4d, .slice p5d y.entities.length c5d, .int .i64 y.next, .slice p6d y.refused.length c6d]) := HUV.out.ext hE8
  have HU8 := Lib.hid (HU7.out.ext HF8.out); have HX8 := Lib.hid (HX7.out.ext HF8.out); have HY8 := Lib.hid (HY7.out.ext HF8.out); have HE8 := Lib.hid (HE7.out.trans HF8.out)
  have HC8 := Lib.hid (good_System.ext HC7.out HF8.out); have HD8 := Lib.hid (good_System.ext HD7.out HF8.out)
  clear hE8 HUV HU7 HX7 HY7 HE7 HC7 HD7 HF8 k0 k1 k2 k3 k4 k5 k6 k7 k8 k9 klt
  have hbb : (systemEq x y != systemEq x y) = false := by simp
  have bx := HX8.out; have bu := HU8.out
  have k0 := bx.cell 0
  have k1 := bx.cell 1
  have k2 := bx.cell 2
  have k3 := bx.cell 3
  have k4 := bx.cell 4
  have k5 := bx.cell 5
  have k6 := bx.cell 6
  have k7 := bx.cell 7
  have k8 := bx.cell 8
  have k9 := bx.cell 9
  have klt := bx.lt
  simp only [List.getElem?_toArray, List.getElem?_cons_zero, List.getElem?_cons_succ] at k0 k1 k2 k3 k4 k5 k6 k7 k8 k9
  have m0 := bu.cell 0
  have m1 := bu.cell 1
  have m2 := bu.cell 2
  have m3 := bu.cell 3
  have m4 := bu.cell 4
  have m5 := bu.cell 5
  have m6 := bu.cell 6
  have m7 := bu.cell 7
  have m8 := bu.cell 8
  have m9 := bu.cell 9
  have mlt := bu.lt
  simp only [List.getElem?_toArray, List.getElem?_cons_zero, List.getElem?_cons_succ] at m0 m1 m2 m3 m4 m5 m6 m7 m8 m9
  clear bx bu
  go_wp2_with fail
  go_region_held3 (fun w' => w'.cell? ⟨w.heap.size, 0, none⟩ = some (.slice p0a x.config.rules.rules.length c0a) ∧ w'.cell? ⟨w.heap.size, 1, none⟩ = some (.slice p1a x.config.scoring.weights.length c1a) ∧ w'.cell? ⟨w.heap.size, 2, none⟩ = some (.int .i64 x.config.scoring.bias) ∧ w'.cell? ⟨w.heap.size, 3, none⟩ = some (.slice p2a x.config.survivors.length c2a) ∧ w'.cell? ⟨w.heap.size, 4, none⟩ = some (.int .i64 x.store.version) ∧ w'.cell? ⟨w.heap.size, 5, none⟩ = some (.slice p3a x.store.records.length c3a) ∧ w'.cell? ⟨w.heap.size, 6, none⟩ = some (.slice p4a x.store.verdicts.length c4a) ∧ w'.cell? ⟨w.heap.size, 7, none⟩ = some (.slice p5a x.entities.length c5a) ∧ w'.cell? ⟨w.heap.size, 8, none⟩ = some (.int .i64 x.next) ∧ w'.cell? ⟨w.heap.size, 9, none⟩ = some (.slice p6a x.refused.length c6a) ∧ w'.cell? ⟨w6.heap.size, 0, none⟩ = some (.slice p0c x.config.rules.rules.length c0c) ∧ w'.cell? ⟨w6.heap.size, 1, none⟩ = some (.slice p1c x.config.scoring.weights.length c1c) ∧ w'.cell? ⟨w6.heap.size, 2, none⟩ = some (.int .i64 x.config.scoring.bias) ∧ w'.cell? ⟨w6.heap.size, 3, none⟩ = some (.slice p2c x.config.survivors.length c2c) ∧ w'.cell? ⟨w6.heap.size, 4, none⟩ = some (.int .i64 x.store.version) ∧ w'.cell? ⟨w6.heap.size, 5, none⟩ = some (.slice p3c x.store.records.length c3c) ∧ w'.cell? ⟨w6.heap.size, 6, none⟩ = some (.slice p4c x.store.verdicts.length c4c) ∧ w'.cell? ⟨w6.heap.size, 7, none⟩ = some (.slice p5c x.entities.length c5c) ∧ w'.cell? ⟨w6.heap.size, 8, none⟩ = some (.int .i64 x.next) ∧ w'.cell? ⟨w6.heap.size, 9, none⟩ = some (.slice p6c x.refused.length c6c)) (go_keep)
    (first
      | (go_at_call 31; refine (toSystem_any x HS1.out [.slice p0a x.config.rules.rules.length c0a, .slice p1a x.config.scoring.weights.length c1a, .int .i64 x.config.scoring.bias, .slice p2a x.config.survivors.length c2a, .int .i64 x.store.version, .slice p3a x.store.records.length c3a, .slice p4a x.store.verdicts.length c4a, .slice p5a x.entities.length c5a, .int .i64 x.next, .slice p6a x.refused.length c6a] _ (good_System.ext HA.out (by have h9 := HE8.out; (repeat' (first | with_reducible assumption | with_reducible exact Below.refl _ _ | (with_reducible refine Ext.alloc' ?_ _) | (with_reducible refine Ext.drew' ?_) | (with_reducible refine Ext.drewN' ?_ _) | (with_reducible refine Ext.set_ ?_ (by first | omega | (simp; done) | (simp; omega)) _ _) | (refine Ext.trans ?_ (by with_reducible assumption))))))).mono ?_; rintro e w9 ⟨us, rfl, hr9, hE9⟩
         have HF9 := Lib.hid (show Ext w8 w9 from by have h9 := hE9; (repeat' (first | with_reducible assumption | with_reducible exact Below.refl _ _ | (with_reducible refine Ext.alloc' ?_ _) | (with_reducible refine Ext.drew' ?_) | (with_reducible refine Ext.drewN' ?_ _) | (with_reducible refine Ext.set_ ?_ (by first | omega | (simp; done) | (simp; omega)) _ _) | (refine Ext.trans ?_ (by with_reducible assumption)))))
         have HQ9 := Lib.hid (good_System.mono (Nat.zero_le _) hr9)
         have k0' := hE9.at k0; have m0' := hE9.at m0; have k1' := hE9.at k1; have m1' := hE9.at m1; have k2' := hE9.at k2; have m2' := hE9.at m2; have k3' := hE9.at k3; have m3' := hE9.at m3; have k4' := hE9.at k4; have m4' := hE9.at m4; have k5' := hE9.at k5; have m5' := hE9.at m5; have k6' := hE9.at k6; have m6' := hE9.at m6; have k7' := hE9.at k7; have m7' := hE9.at m7; have k8' := hE9.at k8; have m8' := hE9.at m8; have k9' := hE9.at k9; have m9' := hE9.at m9
         clear hE9 hr9 k0 m0 k1 m1 k2 m2 k3 m3 k4 m4 k5 m5 k6 m6 k7 m7 k8 m8 k9 m9 klt mlt)
      | (go_at_call 33; refine (eqSystem_any x [.slice p0c x.config.rules.rules.length c0c, .slice p1c x.config.scoring.weights.length c1c, .int .i64 x.config.scoring.bias, .slice p2c x.config.survivors.length c2c, .int .i64 x.store.version, .slice p3c x.store.records.length c3c, .slice p4c x.store.verdicts.length c4c, .slice p5c x.entities.length c5c, .int .i64 x.next, .slice p6c x.refused.length c6c] _ _ (good_System.ext HC8.out HF9.out) HQ9.out).mono ?_; rintro e w10 ⟨rfl, hE10⟩
         have HF10 := Lib.hid (HF9.out.trans hE10)
         have k0 := hE10.at k0'; have m0 := hE10.at m0'; have k1 := hE10.at k1'; have m1 := hE10.at m1'; have k2 := hE10.at k2'; have m2 := hE10.at m2'; have k3 := hE10.at k3'; have m3 := hE10.at m3'; have k4 := hE10.at k4'; have m4 := hE10.at m4'; have k5 := hE10.at k5'; have m5 := hE10.at m5'; have k6 := hE10.at k6'; have m6 := hE10.at m6'; have k7 := hE10.at k7'; have m7 := hE10.at m7'; have k8 := hE10.at k8'; have m8 := hE10.at m8'; have k9 := hE10.at k9'; have m9 := hE10.at m9'
         clear hE10 HQ9 k0' m0' k1' m1' k2' m2' k3' m3' k4' m4' k5' m5' k6' m6' k7' m7' k8' m8' k9' m9'))
  have HX10 := Lib.hid (HX8.out.ext HF10.out); have HY10 := Lib.hid (HY8.out.ext HF10.out); have HV10 := Lib.hid (HV8.out.ext HF10.out); have HE10 := Lib.hid (HE8.out.trans HF10.out); have HD10 := Lib.hid (good_System.ext HD8.out HF10.out)
  clear HX8 HY8 HU8 HV8 HE8 HC8 HD8 HF9 HF10 hbb k0 m0 k1 m1 k2 m2 k3 m3 k4 m4 k5 m5 k6 m6 k7 m7 k8 m8 k9 m9
  have bx := HY10.out; have bu := HV10.out
  have k0 := bx.cell 0
  have k1 := bx.cell 1
  have k2 := bx.cell 2
  have k3 := bx.cell 3
  have k4 := bx.cell 4
  have k5 := bx.cell 5
  have k6 := bx.cell 6
  have k7 := bx.cell 7
  have k8 := bx.cell 8
  have k9 := bx.cell 9
  have klt := bx.lt
  simp only [List.getElem?_toArray, List.getElem?_cons_zero, List.getElem?_cons_succ] at k0 k1 k2 k3 k4 k5 k6 k7 k8 k9
  have m0 := bu.cell 0
  have m1 := bu.cell 1
  have m2 := bu.cell 2
  have m3 := bu.cell 3
  have m4 := bu.cell 4
  have m5 := bu.cell 5
  have m6 := bu.cell 6
  have m7 := bu.cell 7
  have m8 := bu.cell 8
  have m9 := bu.cell 9
  have mlt := bu.lt
  simp only [List.getElem?_toArray, List.getElem?_cons_zero, List.getElem?_cons_succ] at m0 m1 m2 m3 m4 m5 m6 m7 m8 m9
  clear bx bu
  go_wp2_with fail
  go_region_held3 (fun w' => w'.cell? ⟨w.heap.size + 1, 0, none⟩ = some (.slice p0b y.config.rules.rules.length c0b) ∧ w'.cell? ⟨w.heap.size + 1, 1, none⟩ = some (.slice p1b y.config.scoring.weights.length c1b) ∧ w'.cell? ⟨w.heap.size + 1, 2, none⟩ = some (.int .i64 y.config.scoring.bias) ∧ w'.cell? ⟨w.heap.size + 1, 3, none⟩ = some (.slice p2b y.config.survivors.length c2b) ∧ w'.cell? ⟨w.heap.size + 1, 4, none⟩ = some (.int .i64 y.store.version) ∧ w'.cell? ⟨w.heap.size + 1, 5, none⟩ = some (.slice p3b y.store.records.length c3b) ∧ w'.cell? ⟨w.heap.size + 1, 6, none⟩ = some (.slice p4b y.store.verdicts.length c4b) ∧ w'.cell? ⟨w.heap.size + 1, 7, none⟩ = some (.slice p5b y.entities.length c5b) ∧ w'.cell? ⟨w.heap.size + 1, 8, none⟩ = some (.int .i64 y.next) ∧ w'.cell? ⟨w.heap.size + 1, 9, none⟩ = some (.slice p6b y.refused.length c6b) ∧ w'.cell? ⟨w7.heap.size, 0, none⟩ = some (.slice p0d y.config.rules.rules.length c0d) ∧ w'.cell? ⟨w7.heap.size, 1, none⟩ = some (.slice p1d y.config.scoring.weights.length c1d) ∧ w'.cell? ⟨w7.heap.size, 2, none⟩ = some (.int .i64 y.config.scoring.bias) ∧ w'.cell? ⟨w7.heap.size, 3, none⟩ = some (.slice p2d y.config.survivors.length c2d) ∧ w'.cell? ⟨w7.heap.size, 4, none⟩ = some (.int .i64 y.store.version) ∧ w'.cell? ⟨w7.heap.size, 5, none⟩ = some (.slice p3d y.store.records.length c3d) ∧ w'.cell? ⟨w7.heap.size, 6, none⟩ = some (.slice p4d y.store.verdicts.length c4d) ∧ w'.cell? ⟨w7.heap.size, 7, none⟩ = some (.slice p5d y.entities.length c5d) ∧ w'.cell? ⟨w7.heap.size, 8, none⟩ = some (.int .i64 y.next) ∧ w'.cell? ⟨w7.heap.size, 9, none⟩ = some (.slice p6d y.refused.length c6d)) (go_keep)
    (first
      | (go_at_call 31; refine (toSystem_any y HS2.out [.slice p0b y.config.rules.rules.length c0b, .slice p1b y.config.scoring.weights.length c1b, .int .i64 y.config.scoring.bias, .slice p2b y.config.survivors.length c2b, .int .i64 y.store.version, .slice p3b y.store.records.length c3b, .slice p4b y.store.verdicts.length c4b, .slice p5b y.entities.length c5b, .int .i64 y.next, .slice p6b y.refused.length c6b] _ (good_System.ext HB.out (by have h9 := HE10.out; (repeat' (first | with_reducible assumption | with_reducible exact Below.refl _ _ | (with_reducible refine Ext.alloc' ?_ _) | (with_reducible refine Ext.drew' ?_) | (with_reducible refine Ext.drewN' ?_ _) | (with_reducible refine Ext.set_ ?_ (by first | omega | (simp; done) | (simp; omega)) _ _) | (refine Ext.trans ?_ (by with_reducible assumption))))))).mono ?_; rintro e w11 ⟨us, rfl, hr11, hE11⟩
         have HF11 := Lib.hid (show Ext w10 w11 from by have h9 := hE11; (repeat' (first | with_reducible assumption | with_reducible exact Below.refl _ _ | (with_reducible refine Ext.alloc' ?_ _) | (with_reducible refine Ext.drew' ?_) | (with_reducible refine Ext.drewN' ?_ _) | (with_reducible refine Ext.set_ ?_ (by first | omega | (simp; done) | (simp; omega)) _ _) | (refine Ext.trans ?_ (by with_reducible assumption)))))
         have HQ11 := Lib.hid (good_System.mono (Nat.zero_le _) hr11)
         have k0' := hE11.at k0; have m0' := hE11.at m0; have k1' := hE11.at k1; have m1' := hE11.at m1; have k2' := hE11.at k2; have m2' := hE11.at m2; have k3' := hE11.at k3; have m3' := hE11.at m3; have k4' := hE11.at k4; have m4' := hE11.at m4; have k5' := hE11.at k5; have m5' := hE11.at m5; have k6' := hE11.at k6; have m6' := hE11.at m6; have k7' := hE11.at k7; have m7' := hE11.at m7; have k8' := hE11.at k8; have m8' := hE11.at m8; have k9' := hE11.at k9; have m9' := hE11.at m9
         clear hE11 hr11 k0 m0 k1 m1 k2 m2 k3 m3 k4 m4 k5 m5 k6 m6 k7 m7 k8 m8 k9 m9 klt mlt)
      | (go_at_call 33; refine (eqSystem_any y [.slice p0d y.config.rules.rules.length c0d, .slice p1d y.config.scoring.weights.length c1d, .int .i64 y.config.scoring.bias, .slice p2d y.config.survivors.length c2d, .int .i64 y.store.version, .slice p3d y.store.records.length c3d, .slice p4d y.store.verdicts.length c4d, .slice p5d y.entities.length c5d, .int .i64 y.next, .slice p6d y.refused.length c6d] _ _ (good_System.ext HD10.out HF11.out) HQ11.out).mono ?_; rintro e w12 ⟨rfl, hE12⟩
         have HF12 := Lib.hid (HF11.out.trans hE12)
         have k0 := hE12.at k0'; have m0 := hE12.at m0'; have k1 := hE12.at k1'; have m1 := hE12.at m1'; have k2 := hE12.at k2'; have m2 := hE12.at m2'; have k3 := hE12.at k3'; have m3 := hE12.at m3'; have k4 := hE12.at k4'; have m4 := hE12.at m4'; have k5 := hE12.at k5'; have m5 := hE12.at m5'; have k6 := hE12.at k6'; have m6 := hE12.at m6'; have k7 := hE12.at k7'; have m7 := hE12.at m7'; have k8 := hE12.at k8'; have m8 := hE12.at m8'; have k9 := hE12.at k9'; have m9 := hE12.at m9'
         clear hE12 HQ11 k0' m0' k1' m1' k2' m2' k3' m3' k4' m4' k5' m5' k6' m6' k7' m7' k8' m8' k9' m9'))
  have HE12 := Lib.hid (HE10.out.trans HF12.out)
  clear HF11 HF12 HE10 k0 m0 k1 m1 k2 m2 k3 m3 k4 m4 k5 m5 k6 m6 k7 m7 k8 m8 k9 m9
  go_wp2_with fail
  go_ret
  exact ⟨rfl, HE12.out⟩
end Go.Proofs.Ytdgpbgpapcldeaa
