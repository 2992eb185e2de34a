/- The walk of the law FnExactIsValidConfig. -/
import Derived.Test.YtdgpbgpapcldeaaValidC
import Derived.Deep.RegionHeld3
set_option linter.unusedVariables false
set_option linter.unusedSimpArgs false
namespace Go.Proofs.Ytdgpbgpapcldeaa
open Go.RowKit Go.Er Go.BigFrame

set_option maxHeartbeats 6400000 in
theorem lawIsValidConfig_any (x : DConfig) (us : List Value) (w : World) (h1 : ConfigR 0 w us x) :
    Calls Try.prog 5 #[.agg us.toArray] w (Yes w) := by
  obtain ⟨p0a, c0a, p1a, c1a, p2a, c2a, rfl, r0a, r1a, r2a⟩ := h1
  have HA : Hid (ConfigR 0 w [.slice p0a x.rules.rules.length c0a, .slice p1a x.scoring.weights.length c1a, .int .i64 x.scoring.bias, .slice p2a x.survivors.length c2a] x) := ⟨p0a, c0a, p1a, c1a, p2a, c2a, rfl, r0a, r1a, r2a⟩
  clear r0a r1a r2a
  go_enter Try.func5, Try.ntmps5
  go_wp2_with fail
  refine (szConfig_any x 1048576 (by omega) (by omega) [.slice p0a x.rules.rules.length c0a, .slice p1a x.scoring.weights.length c1a, .int .i64 x.scoring.bias, .slice p2a x.survivors.length c2a] 0 _ (good_Config.ext HA.out (by (repeat' (first | with_reducible assumption | with_reducible exact Below.refl _ _ | (with_reducible refine Ext.alloc' ?_ _) | (with_reducible refine Ext.drew' ?_) | (with_reducible refine Ext.drewN' ?_ _) | (with_reducible refine Ext.set_ ?_ (by first | omega | (simp; done) | (simp; omega)) _ _) | (refine Ext.trans ?_ (by with_reducible assumption))))))).mono ?_
  rintro e w1 ⟨v1, rfl, hv1, hm1, hp1, hE1⟩
  have HX : Hid (Box w1 w.heap.size 40 #[.slice p0a x.rules.rules.length c0a, .slice p1a x.scoring.weights.length c1a, .int .i64 x.scoring.bias, .slice p2a x.survivors.length c2a]) := (Box.new' _ _ _ _ rfl).ext hE1
  have HE1 := Lib.hid (show Ext w w1 from by (repeat' (first | with_reducible assumption | with_reducible exact Below.refl _ _ | (with_reducible refine Ext.alloc' ?_ _) | (with_reducible refine Ext.drew' ?_) | (with_reducible refine Ext.drewN' ?_ _) | (with_reducible refine Ext.set_ ?_ (by first | omega | (simp; done) | (simp; omega)) _ _) | (refine Ext.trans ?_ (by with_reducible assumption)))))
  have HP1 := Lib.hid hp1
  clear hE1 hp1
  by_cases hn : v1 < 0
  · go_wp2_with fail
    go_ret
    exact ⟨rfl, HE1.out⟩
  have HS1 := Lib.hid (HP1.out (by omega))
  have bx := HX.out
  have k0 := bx.cell 0
  have k1 := bx.cell 1
  have k2 := bx.cell 2
  have k3 := bx.cell 3
  have klt := bx.lt
  simp only [List.getElem?_toArray, List.getElem?_cons_zero, List.getElem?_cons_succ] at k0 k1 k2 k3
  clear bx
  go_wp2_with fail
  refine (toConfig_any x HS1.out [.slice p0a x.rules.rules.length c0a, .slice p1a x.scoring.weights.length c1a, .int .i64 x.scoring.bias, .slice p2a x.survivors.length c2a] _ (good_Config.ext HA.out (by have h9 := HE1.out; (repeat' (first | with_reducible assumption | with_reducible exact Below.refl _ _ | (with_reducible refine Ext.alloc' ?_ _) | (with_reducible refine Ext.drew' ?_) | (with_reducible refine Ext.drewN' ?_ _) | (with_reducible refine Ext.set_ ?_ (by first | omega | (simp; done) | (simp; omega)) _ _) | (refine Ext.trans ?_ (by with_reducible assumption))))))).mono ?_
  rintro e w2 ⟨us, rfl, hr2, hE2⟩
  have HQ2 := Lib.hid (good_Config.mono (Nat.zero_le _) hr2)
  have HX2 := Lib.hid (HX.out.ext hE2); have HE2 := Lib.hid (HE1.out.trans hE2)
  clear hE2 hr2 HX HE1 k0 k1 k2 k3 klt
  go_wp2_with fail
  refine (specValidConfig_any x HS1.out us _ HQ2.out).mono ?_
  rintro e w3 ⟨rfl, hE3⟩
  have HX3 := Lib.hid (HX2.out.ext hE3); have HE3 := Lib.hid (HE2.out.trans hE3)
  clear hE3 HX2 HE2 HQ2
  have bx := HX3.out
  have k0 := bx.cell 0
  have k1 := bx.cell 1
  have k2 := bx.cell 2
  have k3 := bx.cell 3
  have klt := bx.lt
  simp only [List.getElem?_toArray, List.getElem?_cons_zero, List.getElem?_cons_succ] at k0 k1 k2 k3
  clear bx
  go_wp2_with fail
  refine (toConfig_any x HS1.out [.slice p0a x.rules.rules.length c0a, .slice p1a x.scoring.weights.length c1a, .int .i64 x.scoring.bias, .slice p2a x.survivors.length c2a] _ (good_Config.ext HA.out (by have h9 := HE3.out; (repeat' (first | with_reducible assumption | with_reducible exact Below.refl _ _ | (with_reducible refine Ext.alloc' ?_ _) | (with_reducible refine Ext.drew' ?_) | (with_reducible refine Ext.drewN' ?_ _) | (with_reducible refine Ext.set_ ?_ (by first | omega | (simp; done) | (simp; omega)) _ _) | (refine Ext.trans ?_ (by with_reducible assumption))))))).mono ?_
  rintro e w6 ⟨us, rfl, ⟨p0c, c0c, p1c, c1c, p2c, c2c, rfl, r0c, r1c, r2c⟩, hE6⟩
  have HC6 : Hid (ConfigR 0 w6 [.slice p0c x.rules.rules.length c0c, .slice p1c x.scoring.weights.length c1c, .int .i64 x.scoring.bias, .slice p2c x.survivors.length c2c] x) := ⟨p0c, c0c, p1c, c1c, p2c, c2c, rfl, r0c.mono good_Rule (Nat.zero_le _), r1c.mono good_int (Nat.zero_le _), r2c.mono good_int (Nat.zero_le _)⟩
  have HX6 := Lib.hid (HX3.out.ext hE6); have HE6 := Lib.hid (HE3.out.trans hE6)
  clear hE6 r0c r1c r2c HX3 HE3 k0 k1 k2 k3 klt
  go_wp2_with fail
  have HUV : Hid (Box (w6.alloc (.cells #[.slice p0c x.rules.rules.length c0c, .slice p1c x.scoring.weights.length c1c, .int .i64 x.scoring.bias, .slice p2c x.survivors.length c2c] 48)) w6.heap.size 48 #[.slice p0c x.rules.rules.length c0c, .slice p1c x.scoring.weights.length c1c, .int .i64 x.scoring.bias, .slice p2c x.survivors.length c2c]) := Box.new' _ _ _ _ rfl
  refine (implValidConfig_any x HS1.out [.slice p0c x.rules.rules.length c0c, .slice p1c x.scoring.weights.length c1c, .int .i64 x.scoring.bias, .slice p2c x.survivors.length c2c] _ (good_Config.ext HC6.out (by (repeat' (first | with_reducible assumption | with_reducible exact Below.refl _ _ | (with_reducible refine Ext.alloc' ?_ _) | (with_reducible refine Ext.drew' ?_) | (with_reducible refine Ext.drewN' ?_ _) | (with_reducible refine Ext.set_ ?_ (by first | omega | (simp; done) | (simp; omega)) _ _) | (refine Ext.trans ?_ (by with_reducible assumption))))))).mono ?_
  rintro e w8 ⟨rfl, hE8⟩
  have HF8 := Lib.hid (show Ext w6 w8 from by have h9 := hE8; (repeat' (first | with_reducible assumption | with_reducible exact Below.refl _ _ | (with_reducible refine Ext.alloc' ?_ _) | (with_reducible refine Ext.drew' ?_) | (with_reducible refine Ext.drewN' ?_ _) | (with_reducible refine Ext.set_ ?_ (by first | omega | (simp; done) | (simp; omega)) _ _) | (refine Ext.trans ?_ (by with_reducible assumption)))))
  have HU8 : Hid (Box w8 w6.heap.size 48 #[.slice p0c x.rules.rules.length c0c, .slice p1c x.scoring.weights.length c1c, .int .i64 x.scoring.bias, .slice p2c x.survivors.length c2c]) := HUV.out.ext hE8
  have HX8 := Lib.hid (HX6.out.ext HF8.out); have HE8 := Lib.hid (HE6.out.trans HF8.out)
  have HC8 := Lib.hid (good_Config.ext HC6.out HF8.out)
  clear hE8 HUV HX6 HE6 HC6 HF8
  have hbb : (configOk x != configOk x) = false := by simp
  have bx := HX8.out; have bu := HU8.out
  have k0 := bx.cell 0
  have k1 := bx.cell 1
  have k2 := bx.cell 2
  have k3 := bx.cell 3
  have klt := bx.lt
  simp only [List.getElem?_toArray, List.getElem?_cons_zero, List.getElem?_cons_succ] at k0 k1 k2 k3
  have m0 := bu.cell 0
  have m1 := bu.cell 1
  have m2 := bu.cell 2
  have m3 := bu.cell 3
  have mlt := bu.lt
  simp only [List.getElem?_toArray, List.getElem?_cons_zero, List.getElem?_cons_succ] at m0 m1 m2 m3
  clear bx bu
  go_wp2_with fail
  go_region_held3 (fun w' => w'.cell? ⟨w.heap.size, 0, none⟩ = some (.slice p0a x.rules.rules.length c0a) ∧ w'.cell? ⟨w.heap.size, 1, none⟩ = some (.slice p1a x.scoring.weights.length c1a) ∧ w'.cell? ⟨w.heap.size, 2, none⟩ = some (.int .i64 x.scoring.bias) ∧ w'.cell? ⟨w.heap.size, 3, none⟩ = some (.slice p2a x.survivors.length c2a) ∧ w'.cell? ⟨w6.heap.size, 0, none⟩ = some (.slice p0c x.rules.rules.length c0c) ∧ w'.cell? ⟨w6.heap.size, 1, none⟩ = some (.slice p1c x.scoring.weights.length c1c) ∧ w'.cell? ⟨w6.heap.size, 2, none⟩ = some (.int .i64 x.scoring.bias) ∧ w'.cell? ⟨w6.heap.size, 3, none⟩ = some (.slice p2c x.survivors.length c2c)) (go_keep)
    (first
      | (go_at_call 18; refine (toConfig_any x HS1.out [.slice p0a x.rules.rules.length c0a, .slice p1a x.scoring.weights.length c1a, .int .i64 x.scoring.bias, .slice p2a x.survivors.length c2a] _ (good_Config.ext HA.out (by have h9 := HE8.out; (repeat' (first | with_reducible assumption | with_reducible exact Below.refl _ _ | (with_reducible refine Ext.alloc' ?_ _) | (with_reducible refine Ext.drew' ?_) | (with_reducible refine Ext.drewN' ?_ _) | (with_reducible refine Ext.set_ ?_ (by first | omega | (simp; done) | (simp; omega)) _ _) | (refine Ext.trans ?_ (by with_reducible assumption))))))).mono ?_; rintro e w9 ⟨us, rfl, hr9, hE9⟩
         have HF9 := Lib.hid (show Ext w8 w9 from by have h9 := hE9; (repeat' (first | with_reducible assumption | with_reducible exact Below.refl _ _ | (with_reducible refine Ext.alloc' ?_ _) | (with_reducible refine Ext.drew' ?_) | (with_reducible refine Ext.drewN' ?_ _) | (with_reducible refine Ext.set_ ?_ (by first | omega | (simp; done) | (simp; omega)) _ _) | (refine Ext.trans ?_ (by with_reducible assumption)))))
         have HQ9 := Lib.hid (good_Config.mono (Nat.zero_le _) hr9)
         have k0' := hE9.at k0; have m0' := hE9.at m0; have k1' := hE9.at k1; have m1' := hE9.at m1; have k2' := hE9.at k2; have m2' := hE9.at m2; have k3' := hE9.at k3; have m3' := hE9.at m3
         clear hE9 hr9 k0 k1 k2 k3 klt m0 m1 m2 m3 mlt)
      | (go_at_call 20; refine (eqConfig_any x [.slice p0c x.rules.rules.length c0c, .slice p1c x.scoring.weights.length c1c, .int .i64 x.scoring.bias, .slice p2c x.survivors.length c2c] _ _ (good_Config.ext HC8.out HF9.out) HQ9.out).mono ?_; rintro e w10 ⟨rfl, hE10⟩
         have HF10 := Lib.hid (HF9.out.trans hE10)
         have k0 := hE10.at k0'; have m0 := hE10.at m0'; have k1 := hE10.at k1'; have m1 := hE10.at m1'; have k2 := hE10.at k2'; have m2 := hE10.at m2'; have k3 := hE10.at k3'; have m3 := hE10.at m3'
         clear hE10 HQ9 k0' k1' k2' k3' m0' m1' m2' m3'))
  have HE10 := Lib.hid (HE8.out.trans HF10.out)
  clear HX8 HU8 HE8 HC8 HF9 HF10 hbb k0 k1 k2 k3 m0 m1 m2 m3
  go_wp2_with fail
  go_ret
  exact ⟨rfl, HE10.out⟩
end Go.Proofs.Ytdgpbgpapcldeaa
