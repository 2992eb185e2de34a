/- Valid configurations. -/
import Derived.Test.YtdgpbgpapcldeaaValidS
import Derived.Test.YtdgpbgpapcldeaaValidRI
import Derived.Test.YtdgpbgpapcldeaaValidRS
set_option linter.unusedVariables false
set_option linter.unusedSimpArgs false
namespace Go.Proofs.Ytdgpbgpapcldeaa
open Go.RowKit Go.Er Go.BigFrame
def configOk (x : DConfig) : Bool := rulesOk x.rules.rules && scoringOk x.scoring && survOk x.survivors

set_option maxHeartbeats 1600000 in
theorem implValidConfig_any (x : DConfig) (hs : SmallConfig x) (vs : List Value) (w : World) (h : ConfigR 0 w vs x) :
    Calls Try.prog 22 #[.agg vs.toArray] w fun e w' => e = .returned (.bool (configOk x)) ∧ Ext w w' := by
  obtain ⟨p0a, c0a, p1a, c1a, p2a, c2a, rfl, r0a, r1a, r2a⟩ := h
  have HS := Lib.hid hs
  have A0 := Lib.hid r0a; have A1 := Lib.hid r1a; have A2 := Lib.hid r2a
  clear r0a r1a r2a hs
  obtain ⟨cA, hA⟩ : ∃ q, q = rulesOk x.rules.rules := ⟨_, rfl⟩
  obtain ⟨cB, hB⟩ : ∃ q, q = scoringOk x.scoring := ⟨_, rfl⟩
  obtain ⟨cD, hD⟩ : ∃ q, q = survOk x.survivors := ⟨_, rfl⟩
  have hcc : configOk x = (cA && cB && cD) := by rw [hA, hB, hD]; rfl
  have HCC := Lib.hid hcc; have HA := Lib.hid hA; have HB := Lib.hid hB; have HD := Lib.hid hD
  clear hcc hA hB hD
  go_enter Try.func22, Try.ntmps22
  go_wp2_with fail
  refine (implRules_any x.rules [.slice p0a x.rules.rules.length c0a] _ ⟨p0a, c0a, rfl, A0.out.ext good_Rule (by (repeat' (first | with_reducible assumption | with_reducible exact Below.refl _ _ | (with_reducible refine Ext.alloc' ?_ _) | (with_reducible refine Ext.drew' ?_) | (with_reducible refine Ext.drewN' ?_ _) | (with_reducible refine Ext.set_ ?_ (by first | omega | (simp; done) | (simp; omega)) _ _) | (refine Ext.trans ?_ (by with_reducible assumption)))))⟩).mono ?_
  rintro e w1 ⟨rfl, hE1⟩
  rw [← HA.out]
  have HX : Hid (Box w1 w.heap.size 48 #[.slice p0a x.rules.rules.length c0a, .slice p1a x.scoring.weights.length c1a, .int .i64 x.scoring.bias, .slice p2a x.survivors.length c2a]) := (Box.new' _ _ _ _ rfl).ext hE1
  have HE1 := Lib.hid (show Ext w w1 from by (repeat' (first | with_reducible assumption | with_reducible exact Below.refl _ _ | (with_reducible refine Ext.alloc' ?_ _) | (with_reducible refine Ext.drew' ?_) | (with_reducible refine Ext.drewN' ?_ _) | (with_reducible refine Ext.set_ ?_ (by first | omega | (simp; done) | (simp; omega)) _ _) | (refine Ext.trans ?_ (by with_reducible assumption)))))
  clear hE1
  cases cA
  · go_wp2_with fail
    go_ret
    exact ⟨ret_bool (by rw [HCC.out]; rfl), HE1.out⟩
  · have bx := HX.out
    have k0 := bx.cell 0
    have k1 := bx.cell 1
    have k2 := bx.cell 2
    have k3 := bx.cell 3
    have klt := bx.lt
    simp only [List.getElem?_toArray, List.getElem?_cons_zero, List.getElem?_cons_succ] at k0 k1 k2 k3
    clear bx
    go_wp2_with fail
    refine (implScoring_any x.scoring HS.out.2.1 [.slice p1a x.scoring.weights.length c1a, .int .i64 x.scoring.bias] _ ⟨p1a, c1a, rfl, A1.out.ext good_int (by have h8 := HE1.out; (repeat' (first | with_reducible assumption | with_reducible exact Below.refl _ _ | (with_reducible refine Ext.alloc' ?_ _) | (with_reducible refine Ext.drew' ?_) | (with_reducible refine Ext.drewN' ?_ _) | (with_reducible refine Ext.set_ ?_ (by first | omega | (simp; done) | (simp; omega)) _ _) | (refine Ext.trans ?_ (by with_reducible assumption)))))⟩).mono ?_
    rintro e w2 ⟨rfl, hE2⟩
    rw [← HB.out]
    have HX2 := Lib.hid (HX.out.ext hE2); have HE2 := Lib.hid (HE1.out.trans hE2)
    clear hE2 k0 k1 k2 k3 klt HX HE1
    cases cB
    · go_wp2_with fail
      go_ret
      exact ⟨ret_bool (by rw [HCC.out]; rfl), HE2.out⟩
    · have bx := HX2.out
      have k0 := bx.cell 0
      have k1 := bx.cell 1
      have k2 := bx.cell 2
      have k3 := bx.cell 3
      have klt := bx.lt
      simp only [List.getElem?_toArray, List.getElem?_cons_zero, List.getElem?_cons_succ] at k0 k1 k2 k3
      clear bx
      go_wp2_with fail
      refine (implSurv_any x.survivors p2a c2a _ (A2.out.ext good_int (by have h8 := HE2.out; (repeat' (first | with_reducible assumption | with_reducible exact Below.refl _ _ | (with_reducible refine Ext.alloc' ?_ _) | (with_reducible refine Ext.drew' ?_) | (with_reducible refine Ext.drewN' ?_ _) | (with_reducible refine Ext.set_ ?_ (by first | omega | (simp; done) | (simp; omega)) _ _) | (refine Ext.trans ?_ (by with_reducible assumption))))))).mono ?_
      rintro e w3 ⟨rfl, hE3⟩
      rw [← HD.out]
      have HE3 := Lib.hid (HE2.out.trans hE3)
      clear hE3 k0 k1 k2 k3 klt
      go_wp2_with fail
      go_ret
      exact ⟨ret_bool (by rw [HCC.out]; rfl), HE3.out⟩

set_option maxHeartbeats 1600000 in
theorem specValidConfig_any (x : DConfig) (hs : SmallConfig x) (vs : List Value) (w : World) (h : ConfigR 0 w vs x) :
    Calls Try.prog 21 #[.agg vs.toArray] w fun e w' => e = .returned (.bool (configOk x)) ∧ Ext w w' := by
  obtain ⟨p0a, c0a, p1a, c1a, p2a, c2a, rfl, r0a, r1a, r2a⟩ := h
  have HS := Lib.hid hs
  have A0 := Lib.hid r0a; have A1 := Lib.hid r1a; have A2 := Lib.hid r2a
  clear r0a r1a r2a hs
  obtain ⟨cA, hA⟩ : ∃ q, q = rulesOk x.rules.rules := ⟨_, rfl⟩
  obtain ⟨cB, hB⟩ : ∃ q, q = scoringOk x.scoring := ⟨_, rfl⟩
  obtain ⟨cD, hD⟩ : ∃ q, q = survOk x.survivors := ⟨_, rfl⟩
  have hcc : configOk x = (cA && cB && cD) := by rw [hA, hB, hD]; rfl
  have HCC := Lib.hid hcc; have HA := Lib.hid hA; have HB := Lib.hid hB; have HD := Lib.hid hD
  clear hcc hA hB hD
  go_enter Try.func21, Try.ntmps21
  go_wp2_with fail
  refine (specRules_any x.rules [.slice p0a x.rules.rules.length c0a] _ ⟨p0a, c0a, rfl, A0.out.ext good_Rule (by (repeat' (first | with_reducible assumption | with_reducible exact Below.refl _ _ | (with_reducible refine Ext.alloc' ?_ _) | (with_reducible refine Ext.drew' ?_) | (with_reducible refine Ext.drewN' ?_ _) | (with_reducible refine Ext.set_ ?_ (by first | omega | (simp; done) | (simp; omega)) _ _) | (refine Ext.trans ?_ (by with_reducible assumption)))))⟩).mono ?_
  rintro e w1 ⟨rfl, hE1⟩
  rw [← HA.out]
  have HX : Hid (Box w1 w.heap.size 48 #[.slice p0a x.rules.rules.length c0a, .slice p1a x.scoring.weights.length c1a, .int .i64 x.scoring.bias, .slice p2a x.survivors.length c2a]) := (Box.new' _ _ _ _ rfl).ext hE1
  have HE1 := Lib.hid (show Ext w w1 from by (repeat' (first | with_reducible assumption | with_reducible exact Below.refl _ _ | (with_reducible refine Ext.alloc' ?_ _) | (with_reducible refine Ext.drew' ?_) | (with_reducible refine Ext.drewN' ?_ _) | (with_reducible refine Ext.set_ ?_ (by first | omega | (simp; done) | (simp; omega)) _ _) | (refine Ext.trans ?_ (by with_reducible assumption)))))
  clear hE1
  cases cA
  · go_wp2_with fail
    go_ret
    exact ⟨ret_bool (by rw [HCC.out]; rfl), HE1.out⟩
  · have bx := HX.out
    have k0 := bx.cell 0
    have k1 := bx.cell 1
    have k2 := bx.cell 2
    have k3 := bx.cell 3
    have klt := bx.lt
    simp only [List.getElem?_toArray, List.getElem?_cons_zero, List.getElem?_cons_succ] at k0 k1 k2 k3
    clear bx
    go_wp2_with fail
    refine (specScoring_any x.scoring HS.out.2.1 [.slice p1a x.scoring.weights.length c1a, .int .i64 x.scoring.bias] _ ⟨p1a, c1a, rfl, A1.out.ext good_int (by have h8 := HE1.out; (repeat' (first | with_reducible assumption | with_reducible exact Below.refl _ _ | (with_reducible refine Ext.alloc' ?_ _) | (with_reducible refine Ext.drew' ?_) | (with_reducible refine Ext.drewN' ?_ _) | (with_reducible refine Ext.set_ ?_ (by first | omega | (simp; done) | (simp; omega)) _ _) | (refine Ext.trans ?_ (by with_reducible assumption)))))⟩).mono ?_
    rintro e w2 ⟨rfl, hE2⟩
    rw [← HB.out]
    have HX2 := Lib.hid (HX.out.ext hE2); have HE2 := Lib.hid (HE1.out.trans hE2)
    clear hE2 k0 k1 k2 k3 klt HX HE1
    cases cB
    · go_wp2_with fail
      go_ret
      exact ⟨ret_bool (by rw [HCC.out]; rfl), HE2.out⟩
    · have bx := HX2.out
      have k0 := bx.cell 0
      have k1 := bx.cell 1
      have k2 := bx.cell 2
      have k3 := bx.cell 3
      have klt := bx.lt
      simp only [List.getElem?_toArray, List.getElem?_cons_zero, List.getElem?_cons_succ] at k0 k1 k2 k3
      clear bx
      go_wp2_with fail
      refine (specSurv_any x.survivors p2a c2a _ (A2.out.ext good_int (by have h8 := HE2.out; (repeat' (first | with_reducible assumption | with_reducible exact Below.refl _ _ | (with_reducible refine Ext.alloc' ?_ _) | (with_reducible refine Ext.drew' ?_) | (with_reducible refine Ext.drewN' ?_ _) | (with_reducible refine Ext.set_ ?_ (by first | omega | (simp; done) | (simp; omega)) _ _) | (refine Ext.trans ?_ (by with_reducible assumption))))))).mono ?_
      rintro e w3 ⟨rfl, hE3⟩
      rw [← HD.out]
      have HE3 := Lib.hid (HE2.out.trans hE3)
      clear hE3 k0 k1 k2 k3 klt
      go_wp2_with fail
      go_ret
      exact ⟨ret_bool (by rw [HCC.out]; rfl), HE3.out⟩
end Go.Proofs.Ytdgpbgpapcldeaa
