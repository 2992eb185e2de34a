/- The walk of the law FnExactEqualConfigs. -/
import Derived.Test.YtdgpbgpapcldeaaEqConfS
import Derived.Deep.RegionHeld3
set_option linter.unusedVariables false
set_option linter.unusedSimpArgs false
namespace Go.Proofs.Ytdgpbgpapcldeaa
open Go.RowKit Go.Er Go.BigFrame

set_option maxHeartbeats 6400000 in
theorem lawEqualConfigs_any (x y : DConfig) (us vs : List Value) (w : World) (h1 : ConfigR 0 w us x) (h2 : ConfigR 0 w vs y) :
    Calls Try.prog 4 #[.agg us.toArray, .agg vs.toArray] w (Yes w) := by
  obtain ⟨p0a, c0a, p1a, c1a, p2a, c2a, rfl, r0a, r1a, r2a⟩ := h1
  obtain ⟨p0b, c0b, p1b, c1b, p2b, c2b, rfl, r0b, r1b, r2b⟩ := h2
  have HA : Hid (ConfigR 0 w [.slice p0a x.rules.rules.length c0a, .slice p1a x.scoring.weights.length c1a, .int .i64 x.scoring.bias, .slice p2a x.survivors.length c2a] x) := ⟨p0a, c0a, p1a, c1a, p2a, c2a, rfl, r0a, r1a, r2a⟩
  have HB : Hid (ConfigR 0 w [.slice p0b y.rules.rules.length c0b, .slice p1b y.scoring.weights.length c1b, .int .i64 y.scoring.bias, .slice p2b y.survivors.length c2b] y) := ⟨p0b, c0b, p1b, c1b, p2b, c2b, rfl, r0b, r1b, r2b⟩
  clear r0a r1a r2a r0b r1b r2b
  go_enter Try.func4, Try.ntmps4
  go_wp2_with fail
  refine (szConfig_any x 1048576 (by omega) (by omega) [.slice p0a x.rules.rules.length c0a, .slice p1a x.scoring.weights.length c1a, .int .i64 x.scoring.bias, .slice p2a x.survivors.length c2a] 0 _ (good_Config.ext HA.out (by (repeat' (first | with_reducible assumption | with_reducible exact Below.refl _ _ | (with_reducible refine Ext.alloc' ?_ _) | (with_reducible refine Ext.drew' ?_) | (with_reducible refine Ext.drewN' ?_ _) | (with_reducible refine Ext.set_ ?_ (by first | omega | (simp; done) | (simp; omega)) _ _) | (refine Ext.trans ?_ (by with_reducible assumption))))))).mono ?_
  rintro e w1 ⟨v1, rfl, hv1, hm1, hp1, hE1⟩
  have HX : Hid (Box w1 w.heap.size 40 #[.slice p0a x.rules.rules.length c0a, .slice p1a x.scoring.weights.length c1a, .int .i64 x.scoring.bias, .slice p2a x.survivors.length c2a]) := (Box.alloc (Box.new' _ _ _ _ rfl) _).ext hE1
  have HY : Hid (Box w1 (w.heap.size + 1) 40 #[.slice p0b y.rules.rules.length c0b, .slice p1b y.scoring.weights.length c1b, .int .i64 y.scoring.bias, .slice p2b y.survivors.length c2b]) := (Box.new' _ _ _ _ (by simp)).ext hE1
  have HE1 := Lib.hid (show Ext w w1 from by (repeat' (first | with_reducible assumption | with_reducible exact Below.refl _ _ | (with_reducible refine Ext.alloc' ?_ _) | (with_reducible refine Ext.drew' ?_) | (with_reducible refine Ext.drewN' ?_ _) | (with_reducible refine Ext.set_ ?_ (by first | omega | (simp; done) | (simp; omega)) _ _) | (refine Ext.trans ?_ (by with_reducible assumption)))))
  have HP1 := Lib.hid hp1
  clear hE1 hp1
  by_cases hn : v1 < 0
  · go_wp2_with fail
    go_ret
    exact ⟨rfl, HE1.out⟩
  have HS1 := Lib.hid (HP1.out (by omega))
  have bx := HX.out; have bY := HY.out
  have k0 := bx.cell 0
  have k1 := bx.cell 1
  have k2 := bx.cell 2
  have k3 := bx.cell 3
  have klt := bx.lt
  simp only [List.getElem?_toArray, List.getElem?_cons_zero, List.getElem?_cons_succ] at k0 k1 k2 k3
  have m0 := bY.cell 0
  have m1 := bY.cell 1
  have m2 := bY.cell 2
  have m3 := bY.cell 3
  have mlt := bY.lt
  simp only [List.getElem?_toArray, List.getElem?_cons_zero, List.getElem?_cons_succ] at m0 m1 m2 m3
  clear bx bY
  go_wp2_with fail
  refine (szConfig_any y v1 (by omega) (by omega) [.slice p0b y.rules.rules.length c0b, .slice p1b y.scoring.weights.length c1b, .int .i64 y.scoring.bias, .slice p2b y.survivors.length c2b] 0 _ (good_Config.ext HB.out (by have h8 := HE1.out; (repeat' (first | with_reducible assumption | with_reducible exact Below.refl _ _ | (with_reducible refine Ext.alloc' ?_ _) | (with_reducible refine Ext.drew' ?_) | (with_reducible refine Ext.drewN' ?_ _) | (with_reducible refine Ext.set_ ?_ (by first | omega | (simp; done) | (simp; omega)) _ _) | (refine Ext.trans ?_ (by with_reducible assumption))))))).mono ?_
  rintro e w2 ⟨v2, rfl, hv2, hm2, hp2, hE2⟩
  have HX2 := Lib.hid (HX.out.ext hE2); have HY2 := Lib.hid (HY.out.ext hE2); have HE2 := Lib.hid (HE1.out.trans hE2)
  have HP2 := Lib.hid hp2
  clear hE2 hp2 HX HY HE1 HP1 k0 k1 k2 k3 klt m0 m1 m2 m3 mlt
  by_cases hn2 : v2 < 0
  · go_wp2_with fail
    go_ret
    exact ⟨rfl, HE2.out⟩
  have HS2 := Lib.hid (HP2.out (by omega))
  have bx := HX2.out; have bY := HY2.out
  have k0 := bx.cell 0
  have k1 := bx.cell 1
  have k2 := bx.cell 2
  have k3 := bx.cell 3
  have klt := bx.lt
  simp only [List.getElem?_toArray, List.getElem?_cons_zero, List.getElem?_cons_succ] at k0 k1 k2 k3
  have m0 := bY.cell 0
  have m1 := bY.cell 1
  have m2 := bY.cell 2
  have m3 := bY.cell 3
  have mlt := bY.lt
  simp only [List.getElem?_toArray, List.getElem?_cons_zero, List.getElem?_cons_succ] at m0 m1 m2 m3
  clear bx bY
  go_wp2_with fail
  go_region_held3 (fun w' => w'.cell? ⟨w.heap.size, 0, none⟩ = some (.slice p0a x.rules.rules.length c0a) ∧ w'.cell? ⟨w.heap.size, 1, none⟩ = some (.slice p1a x.scoring.weights.length c1a) ∧ w'.cell? ⟨w.heap.size, 2, none⟩ = some (.int .i64 x.scoring.bias) ∧ w'.cell? ⟨w.heap.size, 3, none⟩ = some (.slice p2a x.survivors.length c2a) ∧ w'.cell? ⟨w.heap.size + 1, 0, none⟩ = some (.slice p0b y.rules.rules.length c0b) ∧ w'.cell? ⟨w.heap.size + 1, 1, none⟩ = some (.slice p1b y.scoring.weights.length c1b) ∧ w'.cell? ⟨w.heap.size + 1, 2, none⟩ = some (.int .i64 y.scoring.bias) ∧ w'.cell? ⟨w.heap.size + 1, 3, none⟩ = some (.slice p2b y.survivors.length c2b)) (go_keep)
    (first
      | (go_at_call_of 18 (Value.slice p0a x.rules.rules.length c0a); refine (toConfig_any x HS1.out [.slice p0a x.rules.rules.length c0a, .slice p1a x.scoring.weights.length c1a, .int .i64 x.scoring.bias, .slice p2a x.survivors.length c2a] _ (good_Config.ext HA.out (by have h9 := HE2.out; (repeat' (first | with_reducible assumption | with_reducible exact Below.refl _ _ | (with_reducible refine Ext.alloc' ?_ _) | (with_reducible refine Ext.drew' ?_) | (with_reducible refine Ext.drewN' ?_ _) | (with_reducible refine Ext.set_ ?_ (by first | omega | (simp; done) | (simp; omega)) _ _) | (refine Ext.trans ?_ (by with_reducible assumption))))))).mono ?_; rintro e w3 ⟨us, rfl, hr3, hE3⟩
         obtain ⟨P0a, C0a, P1a, C1a, P2a, C2a, rfl, R0a, R1a, R2a⟩ := hr3
         have HE3 := Lib.hid (show Ext w w3 from by have h8 := HE2.out; have h9 := hE3; (repeat' (first | with_reducible assumption | with_reducible exact Below.refl _ _ | (with_reducible refine Ext.alloc' ?_ _) | (with_reducible refine Ext.drew' ?_) | (with_reducible refine Ext.drewN' ?_ _) | (with_reducible refine Ext.set_ ?_ (by first | omega | (simp; done) | (simp; omega)) _ _) | (refine Ext.trans ?_ (by with_reducible assumption)))))
         have HF3 := Lib.hid (show Ext w2 w3 from by have h9 := hE3; (repeat' (first | with_reducible assumption | with_reducible exact Below.refl _ _ | (with_reducible refine Ext.alloc' ?_ _) | (with_reducible refine Ext.drew' ?_) | (with_reducible refine Ext.drewN' ?_ _) | (with_reducible refine Ext.set_ ?_ (by first | omega | (simp; done) | (simp; omega)) _ _) | (refine Ext.trans ?_ (by with_reducible assumption)))))
         have HQ3 : Hid (ConfigR 0 w3 _ x) := ⟨P0a, C0a, P1a, C1a, P2a, C2a, rfl, R0a.mono good_Rule (Nat.zero_le _), R1a.mono good_int (Nat.zero_le _), R2a.mono good_int (Nat.zero_le _)⟩
         have k0' := hE3.at k0; have m0' := hE3.at m0; have k1' := hE3.at k1; have m1' := hE3.at m1; have k2' := hE3.at k2; have m2' := hE3.at m2; have k3' := hE3.at k3; have m3' := hE3.at m3
         clear hE3 R0a R1a R2a k0 k1 k2 k3 klt m0 m1 m2 m3 mlt)
      | (go_at_call_of 18 (Value.slice p0b y.rules.rules.length c0b); refine (toConfig_any y HS2.out [.slice p0b y.rules.rules.length c0b, .slice p1b y.scoring.weights.length c1b, .int .i64 y.scoring.bias, .slice p2b y.survivors.length c2b] _ (good_Config.ext HB.out (by have h9 := HE3.out; (repeat' (first | with_reducible assumption | with_reducible exact Below.refl _ _ | (with_reducible refine Ext.alloc' ?_ _) | (with_reducible refine Ext.drew' ?_) | (with_reducible refine Ext.drewN' ?_ _) | (with_reducible refine Ext.set_ ?_ (by first | omega | (simp; done) | (simp; omega)) _ _) | (refine Ext.trans ?_ (by with_reducible assumption))))))).mono ?_; rintro e w4 ⟨us, rfl, hr4, hE4⟩
         obtain ⟨P0b, C0b, P1b, C1b, P2b, C2b, rfl, R0b, R1b, R2b⟩ := hr4
         have HE4 := Lib.hid (HE3.out.trans hE4)
         have HF4 := Lib.hid (HF3.out.trans hE4)
         have HQ4 := Lib.hid (good_Config.ext HQ3.out hE4)
         have HT4 : Hid (ConfigR 0 w4 _ y) := ⟨P0b, C0b, P1b, C1b, P2b, C2b, rfl, R0b.mono good_Rule (Nat.zero_le _), R1b.mono good_int (Nat.zero_le _), R2b.mono good_int (Nat.zero_le _)⟩
         have k0 := hE4.at k0'; have m0 := hE4.at m0'; have k1 := hE4.at k1'; have m1 := hE4.at m1'; have k2 := hE4.at k2'; have m2 := hE4.at m2'; have k3 := hE4.at k3'; have m3 := hE4.at m3'
         clear hE4 R0b R1b R2b HE3 HQ3 k0' k1' k2' k3' m0' m1' m2' m3')
      | (go_at_call 17; refine (specEqualConfigs_any x y HS1.out HS2.out _ _ _ HQ4.out HT4.out).mono ?_; rintro e w5 ⟨rfl, hE5⟩
         have HE5 := Lib.hid (HE4.out.trans hE5)
         have HF5 := Lib.hid (HF4.out.trans hE5)
         have k0' := hE5.at k0; have m0' := hE5.at m0; have k1' := hE5.at k1; have m1' := hE5.at m1; have k2' := hE5.at k2; have m2' := hE5.at m2; have k3' := hE5.at k3; have m3' := hE5.at m3
         clear hE5 HQ4 HT4 k0 k1 k2 k3 m0 m1 m2 m3))
  have HX5 := Lib.hid (HX2.out.ext HF5.out); have HY5 := Lib.hid (HY2.out.ext HF5.out)
  clear HX2 HY2 HE2 HE4 HF3 HF4 HF5 k0' k1' k2' k3' m0' m1' m2' m3'
  have bx := HX5.out; have bY := HY5.out
  have k0 := bx.cell 0
  have k1 := bx.cell 1
  have k2 := bx.cell 2
  have k3 := bx.cell 3
  have klt := bx.lt
  simp only [List.getElem?_toArray, List.getElem?_cons_zero, List.getElem?_cons_succ] at k0 k1 k2 k3
  have m0 := bY.cell 0
  have m1 := bY.cell 1
  have m2 := bY.cell 2
  have m3 := bY.cell 3
  have mlt := bY.lt
  simp only [List.getElem?_toArray, List.getElem?_cons_zero, List.getElem?_cons_succ] at m0 m1 m2 m3
  clear bx bY
  go_wp2_with fail
  refine (toConfig_any x HS1.out [.slice p0a x.rules.rules.length c0a, .slice p1a x.scoring.weights.length c1a, .int .i64 x.scoring.bias, .slice p2a x.survivors.length c2a] _ (good_Config.ext HA.out (by have h9 := HE5.out; (repeat' (first | with_reducible assumption | with_reducible exact Below.refl _ _ | (with_reducible refine Ext.alloc' ?_ _) | (with_reducible refine Ext.drew' ?_) | (with_reducible refine Ext.drewN' ?_ _) | (with_reducible refine Ext.set_ ?_ (by first | omega | (simp; done) | (simp; omega)) _ _) | (refine Ext.trans ?_ (by with_reducible assumption))))))).mono ?_
  rintro e w6 ⟨us, rfl, ⟨p0c, c0c, p1c, c1c, p2c, c2c, rfl, r0c, r1c, r2c⟩, hE6⟩
  have HC6 : Hid (ConfigR 0 w6 [.slice p0c x.rules.rules.length c0c, .slice p1c x.scoring.weights.length c1c, .int .i64 x.scoring.bias, .slice p2c x.survivors.length c2c] x) := ⟨p0c, c0c, p1c, c1c, p2c, c2c, rfl, r0c.mono good_Rule (Nat.zero_le _), r1c.mono good_int (Nat.zero_le _), r2c.mono good_int (Nat.zero_le _)⟩
  have HX6 := Lib.hid (HX5.out.ext hE6); have HY6 := Lib.hid (HY5.out.ext hE6); have HE6 := Lib.hid (HE5.out.trans hE6)
  clear hE6 r0c r1c r2c HX5 HY5 HE5 k0 k1 k2 k3 klt m0 m1 m2 m3 mlt
  have bx := HX6.out; have bY := HY6.out
  have k0 := bx.cell 0
  have k1 := bx.cell 1
  have k2 := bx.cell 2
  have k3 := bx.cell 3
  have klt := bx.lt
  simp only [List.getElem?_toArray, List.getElem?_cons_zero, List.getElem?_cons_succ] at k0 k1 k2 k3
  have m0 := bY.cell 0
  have m1 := bY.cell 1
  have m2 := bY.cell 2
  have m3 := bY.cell 3
  have mlt := bY.lt
  simp only [List.getElem?_toArray, List.getElem?_cons_zero, List.getElem?_cons_succ] at m0 m1 m2 m3
  clear bx bY
  go_wp2_with fail
  refine (toConfig_any y HS2.out [.slice p0b y.rules.rules.length c0b, .slice p1b y.scoring.weights.length c1b, .int .i64 y.scoring.bias, .slice p2b y.survivors.length c2b] _ (good_Config.ext HB.out (by have h9 := HE6.out; (repeat' (first | with_reducible assumption | with_reducible exact Below.refl _ _ | (with_reducible refine Ext.alloc' ?_ _) | (with_reducible refine Ext.drew' ?_) | (with_reducible refine Ext.drewN' ?_ _) | (with_reducible refine Ext.set_ ?_ (by first | omega | (simp; done) | (simp; omega)) _ _) | (refine Ext.trans ?_ (by with_reducible assumption))))))).mono ?_
  rintro e w7 ⟨us, rfl, ⟨p0d, c0d, p1d, c1d, p2d, c2d, rfl, r0d, r1d, r2d⟩, hE7⟩
  have HD7 : Hid (ConfigR 0 w7 [.slice p0d y.rules.rules.length c0d, .slice p1d y.scoring.weights.length c1d, .int .i64 y.scoring.bias, .slice p2d y.survivors.length c2d] y) := ⟨p0d, c0d, p1d, c1d, p2d, c2d, rfl, r0d.mono good_Rule (Nat.zero_le _), r1d.mono good_int (Nat.zero_le _), r2d.mono good_int (Nat.zero_le _)⟩
  have HF7 := Lib.hid (show Ext w6 w7 from by have h9 := hE7; (repeat' (first | with_reducible assumption | with_reducible exact Below.refl _ _ | (with_reducible refine Ext.alloc' ?_ _) | (with_reducible refine Ext.drew' ?_) | (with_reducible refine Ext.drewN' ?_ _) | (with_reducible refine Ext.set_ ?_ (by first | omega | (simp; done) | (simp; omega)) _ _) | (refine Ext.trans ?_ (by with_reducible assumption)))))
  have HU7 : Hid (Box w7 w6.heap.size 48 #[.slice p0c x.rules.rules.length c0c, .slice p1c x.scoring.weights.length c1c, .int .i64 x.scoring.bias, .slice p2c x.survivors.length c2c]) := (Box.new' _ _ _ _ rfl).ext hE7
  have HC7 := Lib.hid (good_Config.ext HC6.out HF7.out)
  have HX7 := Lib.hid (HX6.out.ext HF7.out); have HY7 := Lib.hid (HY6.out.ext HF7.out); have HE7 := Lib.hid (HE6.out.trans HF7.out)
  clear hE7 r0d r1d r2d HX6 HY6 HE6 HC6 HF7 k0 k1 k2 k3 klt m0 m1 m2 m3 mlt
  have bu := HU7.out
  have k0 := bu.cell 0
  have k1 := bu.cell 1
  have k2 := bu.cell 2
  have k3 := bu.cell 3
  have klt := bu.lt
  simp only [List.getElem?_toArray, List.getElem?_cons_zero, List.getElem?_cons_succ] at k0 k1 k2 k3
  clear bu
  go_wp2_with fail
  have HUV : Hid (Box (w7.alloc (.cells #[.slice p0d y.rules.rules.length c0d, .slice p1d y.scoring.weights.length c1d, .int .i64 y.scoring.bias, .slice p2d y.survivors.length c2d] 48)) w7.heap.size 48 #[.slice p0d y.rules.rules.length c0d, .slice p1d y.scoring.weights.length c1d, .int .i64 y.scoring.bias, .slice p2d y.survivors.length c2d]) := Box.new' _ _ _ _ rfl
  refine (implEqualConfigs_any x y HS1.out HS2.out [.slice p0c x.rules.rules.length c0c, .slice p1c x.scoring.weights.length c1c, .int .i64 x.scoring.bias, .slice p2c x.survivors.length c2c] [.slice p0d y.rules.rules.length c0d, .slice p1d y.scoring.weights.length c1d, .int .i64 y.scoring.bias, .slice p2d y.survivors.length c2d] _ (good_Config.ext HC7.out (by (repeat' (first | with_reducible assumption | with_reducible exact Below.refl _ _ | (with_reducible refine Ext.alloc' ?_ _) | (with_reducible refine Ext.drew' ?_) | (with_reducible refine Ext.drewN' ?_ _) | (with_reducible refine Ext.set_ ?_ (by first | omega | (simp; done) | (simp; omega)) _ _) | (refine Ext.trans ?_ (by with_reducible assumption)))))) (good_Config.ext HD7.out (by (repeat' (first | with_reducible assumption | with_reducible exact Below.refl _ _ | (with_reducible refine Ext.alloc' ?_ _) | (with_reducible refine Ext.drew' ?_) | (with_reducible refine Ext.drewN' ?_ _) | (with_reducible refine Ext.set_ ?_ (by first | omega | (simp; done) | (simp; omega)) _ _) | (refine Ext.trans ?_ (by with_reducible assumption))))))).mono ?_
  rintro e w8 ⟨rfl, hE8⟩
  have HF8 := Lib.hid (show Ext w7 w8 from by have h9 := hE8; (repeat' (first | with_reducible assumption | with_reducible exact Below.refl _ _ | (with_reducible refine Ext.alloc' ?_ _) | (with_reducible refine Ext.drew' ?_) | (with_reducible refine Ext.drewN' ?_ _) | (with_reducible refine Ext.set_ ?_ (by first | omega | (simp; done) | (simp; omega)) _ _) | (refine Ext.trans ?_ (by with_reducible assumption)))))
  have HV8 : Hid (Box w8 w7.heap.size 48 #[.slice p0d y.rules.rules.length c0d, .slice p1d y.scoring.weights.length c1d, .int .i64 y.scoring.bias, .slice p2d y.survivors.length c2d]) := HUV.out.ext hE8
  have HU8 := Lib.hid (HU7.out.ext HF8.out); have HX8 := Lib.hid (HX7.out.ext HF8.out); have HY8 := Lib.hid (HY7.out.ext HF8.out); have HE8 := Lib.hid (HE7.out.trans HF8.out)
  have HC8 := Lib.hid (good_Config.ext HC7.out HF8.out); have HD8 := Lib.hid (good_Config.ext HD7.out HF8.out)
  clear hE8 HUV HU7 HX7 HY7 HE7 HC7 HD7 HF8 k0 k1 k2 k3 klt
  have hbb : (configEq x y != configEq x y) = false := by simp
  have bx := HX8.out; have bu := HU8.out
  have k0 := bx.cell 0
  have k1 := bx.cell 1
  have k2 := bx.cell 2
  have k3 := bx.cell 3
  have klt := bx.lt
  simp only [List.getElem?_toArray, List.getElem?_cons_zero, List.getElem?_cons_succ] at k0 k1 k2 k3
  have m0 := bu.cell 0
  have m1 := bu.cell 1
  have m2 := bu.cell 2
  have m3 := bu.cell 3
  have mlt := bu.lt
  simp only [List.getElem?_toArray, List.getElem?_cons_zero, List.getElem?_cons_succ] at m0 m1 m2 m3
  clear bx bu
  go_wp2_with fail
  go_region_held3 (fun w' => w'.cell? ⟨w.heap.size, 0, none⟩ = some (.slice p0a x.rules.rules.length c0a) ∧ w'.cell? ⟨w.heap.size, 1, none⟩ = some (.slice p1a x.scoring.weights.length c1a) ∧ w'.cell? ⟨w.heap.size, 2, none⟩ = some (.int .i64 x.scoring.bias) ∧ w'.cell? ⟨w.heap.size, 3, none⟩ = some (.slice p2a x.survivors.length c2a) ∧ w'.cell? ⟨w6.heap.size, 0, none⟩ = some (.slice p0c x.rules.rules.length c0c) ∧ w'.cell? ⟨w6.heap.size, 1, none⟩ = some (.slice p1c x.scoring.weights.length c1c) ∧ w'.cell? ⟨w6.heap.size, 2, none⟩ = some (.int .i64 x.scoring.bias) ∧ w'.cell? ⟨w6.heap.size, 3, none⟩ = some (.slice p2c x.survivors.length c2c)) (go_keep)
    (first
      | (go_at_call 18; refine (toConfig_any x HS1.out [.slice p0a x.rules.rules.length c0a, .slice p1a x.scoring.weights.length c1a, .int .i64 x.scoring.bias, .slice p2a x.survivors.length c2a] _ (good_Config.ext HA.out (by have h9 := HE8.out; (repeat' (first | with_reducible assumption | with_reducible exact Below.refl _ _ | (with_reducible refine Ext.alloc' ?_ _) | (with_reducible refine Ext.drew' ?_) | (with_reducible refine Ext.drewN' ?_ _) | (with_reducible refine Ext.set_ ?_ (by first | omega | (simp; done) | (simp; omega)) _ _) | (refine Ext.trans ?_ (by with_reducible assumption))))))).mono ?_; rintro e w9 ⟨us, rfl, hr9, hE9⟩
         have HF9 := Lib.hid (show Ext w8 w9 from by have h9 := hE9; (repeat' (first | with_reducible assumption | with_reducible exact Below.refl _ _ | (with_reducible refine Ext.alloc' ?_ _) | (with_reducible refine Ext.drew' ?_) | (with_reducible refine Ext.drewN' ?_ _) | (with_reducible refine Ext.set_ ?_ (by first | omega | (simp; done) | (simp; omega)) _ _) | (refine Ext.trans ?_ (by with_reducible assumption)))))
         have HQ9 := Lib.hid (good_Config.mono (Nat.zero_le _) hr9)
         have k0' := hE9.at k0; have m0' := hE9.at m0; have k1' := hE9.at k1; have m1' := hE9.at m1; have k2' := hE9.at k2; have m2' := hE9.at m2; have k3' := hE9.at k3; have m3' := hE9.at m3
         clear hE9 hr9 k0 k1 k2 k3 klt m0 m1 m2 m3 mlt)
      | (go_at_call 20; refine (eqConfig_any x [.slice p0c x.rules.rules.length c0c, .slice p1c x.scoring.weights.length c1c, .int .i64 x.scoring.bias, .slice p2c x.survivors.length c2c] _ _ (good_Config.ext HC8.out HF9.out) HQ9.out).mono ?_; rintro e w10 ⟨rfl, hE10⟩
         have HF10 := Lib.hid (HF9.out.trans hE10)
         have k0 := hE10.at k0'; have m0 := hE10.at m0'; have k1 := hE10.at k1'; have m1 := hE10.at m1'; have k2 := hE10.at k2'; have m2 := hE10.at m2'; have k3 := hE10.at k3'; have m3 := hE10.at m3'
         clear hE10 HQ9 k0' k1' k2' k3' m0' m1' m2' m3'))
  have HX10 := Lib.hid (HX8.out.ext HF10.out); have HY10 := Lib.hid (HY8.out.ext HF10.out); have HV10 := Lib.hid (HV8.out.ext HF10.out); have HE10 := Lib.hid (HE8.out.trans HF10.out); have HD10 := Lib.hid (good_Config.ext HD8.out HF10.out)
  clear HX8 HY8 HU8 HV8 HE8 HC8 HD8 HF9 HF10 hbb k0 k1 k2 k3 m0 m1 m2 m3
  have bx := HY10.out; have bu := HV10.out
  have k0 := bx.cell 0
  have k1 := bx.cell 1
  have k2 := bx.cell 2
  have k3 := bx.cell 3
  have klt := bx.lt
  simp only [List.getElem?_toArray, List.getElem?_cons_zero, List.getElem?_cons_succ] at k0 k1 k2 k3
  have m0 := bu.cell 0
  have m1 := bu.cell 1
  have m2 := bu.cell 2
  have m3 := bu.cell 3
  have mlt := bu.lt
  simp only [List.getElem?_toArray, List.getElem?_cons_zero, List.getElem?_cons_succ] at m0 m1 m2 m3
  clear bx bu
  go_wp2_with fail
  go_region_held3 (fun w' => w'.cell? ⟨w.heap.size + 1, 0, none⟩ = some (.slice p0b y.rules.rules.length c0b) ∧ w'.cell? ⟨w.heap.size + 1, 1, none⟩ = some (.slice p1b y.scoring.weights.length c1b) ∧ w'.cell? ⟨w.heap.size + 1, 2, none⟩ = some (.int .i64 y.scoring.bias) ∧ w'.cell? ⟨w.heap.size + 1, 3, none⟩ = some (.slice p2b y.survivors.length c2b) ∧ w'.cell? ⟨w7.heap.size, 0, none⟩ = some (.slice p0d y.rules.rules.length c0d) ∧ w'.cell? ⟨w7.heap.size, 1, none⟩ = some (.slice p1d y.scoring.weights.length c1d) ∧ w'.cell? ⟨w7.heap.size, 2, none⟩ = some (.int .i64 y.scoring.bias) ∧ w'.cell? ⟨w7.heap.size, 3, none⟩ = some (.slice p2d y.survivors.length c2d)) (go_keep)
    (first
      | (go_at_call 18; refine (toConfig_any y HS2.out [.slice p0b y.rules.rules.length c0b, .slice p1b y.scoring.weights.length c1b, .int .i64 y.scoring.bias, .slice p2b y.survivors.length c2b] _ (good_Config.ext HB.out (by have h9 := HE10.out; (repeat' (first | with_reducible assumption | with_reducible exact Below.refl _ _ | (with_reducible refine Ext.alloc' ?_ _) | (with_reducible refine Ext.drew' ?_) | (with_reducible refine Ext.drewN' ?_ _) | (with_reducible refine Ext.set_ ?_ (by first | omega | (simp; done) | (simp; omega)) _ _) | (refine Ext.trans ?_ (by with_reducible assumption))))))).mono ?_; rintro e w11 ⟨us, rfl, hr11, hE11⟩
         have HF11 := Lib.hid (show Ext w10 w11 from by have h9 := hE11; (repeat' (first | with_reducible assumption | with_reducible exact Below.refl _ _ | (with_reducible refine Ext.alloc' ?_ _) | (with_reducible refine Ext.drew' ?_) | (with_reducible refine Ext.drewN' ?_ _) | (with_reducible refine Ext.set_ ?_ (by first | omega | (simp; done) | (simp; omega)) _ _) | (refine Ext.trans ?_ (by with_reducible assumption)))))
         have HQ11 := Lib.hid (good_Config.mono (Nat.zero_le _) hr11)
         have k0' := hE11.at k0; have m0' := hE11.at m0; have k1' := hE11.at k1; have m1' := hE11.at m1; have k2' := hE11.at k2; have m2' := hE11.at m2; have k3' := hE11.at k3; have m3' := hE11.at m3
         clear hE11 hr11 k0 k1 k2 k3 klt m0 m1 m2 m3 mlt)
      | (go_at_call 20; refine (eqConfig_any y [.slice p0d y.rules.rules.length c0d, .slice p1d y.scoring.weights.length c1d, .int .i64 y.scoring.bias, .slice p2d y.survivors.length c2d] _ _ (good_Config.ext HD10.out HF11.out) HQ11.out).mono ?_; rintro e w12 ⟨rfl, hE12⟩
         have HF12 := Lib.hid (HF11.out.trans hE12)
         have k0 := hE12.at k0'; have m0 := hE12.at m0'; have k1 := hE12.at k1'; have m1 := hE12.at m1'; have k2 := hE12.at k2'; have m2 := hE12.at m2'; have k3 := hE12.at k3'; have m3 := hE12.at m3'
         clear hE12 HQ11 k0' k1' k2' k3' m0' m1' m2' m3'))
  have HE12 := Lib.hid (HE10.out.trans HF12.out)
  clear HF11 HF12 HE10 k0 k1 k2 k3 m0 m1 m2 m3
  go_wp2_with fail
  go_ret
  exact ⟨rfl, HE12.out⟩
end Go.Proofs.Ytdgpbgpapcldeaa
