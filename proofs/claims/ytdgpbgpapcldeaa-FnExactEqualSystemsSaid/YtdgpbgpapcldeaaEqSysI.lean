/- Equality of systems. -/
import Derived.Test.YtdgpbgpapcldeaaEqStoreS
import Derived.Test.YtdgpbgpapcldeaaEqConfS
import Derived.Test.YtdgpbgpapcldeaaKSystem
set_option linter.unusedVariables false
set_option linter.unusedSimpArgs false
namespace Go.Proofs.Ytdgpbgpapcldeaa
open Go.RowKit Go.Er Go.BigFrame
noncomputable def systemEq (x y : DSystem) : Bool := configEq x.config y.config && same x.store y.store && same x.entities y.entities && (x.next == y.next) && same x.refused y.refused

set_option maxRecDepth 100000 in
set_option maxHeartbeats 6400000 in
theorem implEqualSystems_any (x y : DSystem) (hsx : SmallSystem x) (hsy : SmallSystem y) (us vs : List Value) (w : World) (h1 : SystemR 0 w us x) (h2 : SystemR 0 w vs y) :
    Calls Try.prog 32 #[.agg us.toArray, .agg vs.toArray] w fun e w' => e = .returned (.bool (systemEq x y)) ∧ Ext w w' := by
  obtain ⟨p0a, c0a, p1a, c1a, p2a, c2a, p3a, c3a, p4a, c4a, p5a, c5a, p6a, c6a, rfl, r0a, r1a, r2a, r3a, r4a, r5a, r6a⟩ := h1
  obtain ⟨p0b, c0b, p1b, c1b, p2b, c2b, p3b, c3b, p4b, c4b, p5b, c5b, p6b, c6b, rfl, r0b, r1b, r2b, r3b, r4b, r5b, r6b⟩ := h2
  have HSX := Lib.hid hsx; have HSY := Lib.hid hsy
  have hlr : (x.refused.length : Int) ≤ 9223372036854775807 := by have := r6a.1; unfold maxLen at this; omega
  have A0 := Lib.hid r0a; have B0 := Lib.hid r0b
  have A1 := Lib.hid r1a; have B1 := Lib.hid r1b
  have A2 := Lib.hid r2a; have B2 := Lib.hid r2b
  have A3 := Lib.hid r3a; have B3 := Lib.hid r3b
  have A4 := Lib.hid r4a; have B4 := Lib.hid r4b
  have A5 := Lib.hid r5a; have B5 := Lib.hid r5b
  have A6 := Lib.hid r6a; have B6 := Lib.hid r6b
  clear hsx hsy r0a r0b r1a r1b r2a r2b r3a r3b r4a r4b r5a r5b r6a r6b
  obtain ⟨cA, hA⟩ : ∃ q, q = configEq x.config y.config := ⟨_, rfl⟩
  obtain ⟨cB, hB⟩ : ∃ q, q = same x.store y.store := ⟨_, rfl⟩
  obtain ⟨cC, hC⟩ : ∃ q, q = same x.entities y.entities := ⟨_, rfl⟩
  obtain ⟨cD, hD⟩ : ∃ q, q = same x.refused y.refused := ⟨_, rfl⟩
  have hcc : systemEq x y = (cA && cB && cC && (x.next == y.next) && cD) := by rw [hA, hB, hC, hD]; rfl
  have HCC := Lib.hid hcc; have HA := Lib.hid hA; have HB := Lib.hid hB; have HC := Lib.hid hC; have HD := Lib.hid hD
  clear hcc hA hB hC hD
  go_enter Try.func32, Try.ntmps32
  go_wp2_with fail
  refine (implEqualConfigs_any x.config y.config HSX.out.1 HSY.out.1 [.slice p0a x.config.rules.rules.length c0a, .slice p1a x.config.scoring.weights.length c1a, .int .i64 x.config.scoring.bias, .slice p2a x.config.survivors.length c2a] [.slice p0b y.config.rules.rules.length c0b, .slice p1b y.config.scoring.weights.length c1b, .int .i64 y.config.scoring.bias, .slice p2b y.config.survivors.length c2b] _ ⟨p0a, c0a, p1a, c1a, p2a, c2a, rfl, A0.out.ext good_Rule (by (repeat' (first | with_reducible assumption | with_reducible exact Below.refl _ _ | (with_reducible refine Ext.alloc' ?_ _) | (with_reducible refine Ext.drew' ?_) | (with_reducible refine Ext.drewN' ?_ _) | (with_reducible refine Ext.set_ ?_ (by first | omega | (simp; done) | (simp; omega)) _ _) | (refine Ext.trans ?_ (by with_reducible assumption))))), A1.out.ext good_int (by (repeat' (first | with_reducible assumption | with_reducible exact Below.refl _ _ | (with_reducible refine Ext.alloc' ?_ _) | (with_reducible refine Ext.drew' ?_) | (with_reducible refine Ext.drewN' ?_ _) | (with_reducible refine Ext.set_ ?_ (by first | omega | (simp; done) | (simp; omega)) _ _) | (refine Ext.trans ?_ (by with_reducible assumption))))), A2.out.ext good_int (by (repeat' (first | with_reducible assumption | with_reducible exact Below.refl _ _ | (with_reducible refine Ext.alloc' ?_ _) | (with_reducible refine Ext.drew' ?_) | (with_reducible refine Ext.drewN' ?_ _) | (with_reducible refine Ext.set_ ?_ (by first | omega | (simp; done) | (simp; omega)) _ _) | (refine Ext.trans ?_ (by with_reducible assumption)))))⟩ ⟨p0b, c0b, p1b, c1b, p2b, c2b, rfl, B0.out.ext good_Rule (by (repeat' (first | with_reducible assumption | with_reducible exact Below.refl _ _ | (with_reducible refine Ext.alloc' ?_ _) | (with_reducible refine Ext.drew' ?_) | (with_reducible refine Ext.drewN' ?_ _) | (with_reducible refine Ext.set_ ?_ (by first | omega | (simp; done) | (simp; omega)) _ _) | (refine Ext.trans ?_ (by with_reducible assumption))))), B1.out.ext good_int (by (repeat' (first | with_reducible assumption | with_reducible exact Below.refl _ _ | (with_reducible refine Ext.alloc' ?_ _) | (with_reducible refine Ext.drew' ?_) | (with_reducible refine Ext.drewN' ?_ _) | (with_reducible refine Ext.set_ ?_ (by first | omega | (simp; done) | (simp; omega)) _ _) | (refine Ext.trans ?_ (by with_reducible assumption))))), B2.out.ext good_int (by (repeat' (first | with_reducible assumption | with_reducible exact Below.refl _ _ | (with_reducible refine Ext.alloc' ?_ _) | (with_reducible refine Ext.drew' ?_) | (with_reducible refine Ext.drewN' ?_ _) | (with_reducible refine Ext.set_ ?_ (by first | omega | (simp; done) | (simp; omega)) _ _) | (refine Ext.trans ?_ (by with_reducible assumption)))))⟩).mono ?_
  rintro e w1 ⟨rfl, hE1⟩
  rw [← HA.out]
  have HX1 : Hid (Box w1 w.heap.size 72 #[.slice p0a x.config.rules.rules.length c0a, .slice p1a x.config.scoring.weights.length c1a, .int .i64 x.config.scoring.bias, .slice p2a x.config.survivors.length c2a, .int .i64 x.store.version, .slice p3a x.store.records.length c3a, .slice p4a x.store.verdicts.length c4a, .slice p5a x.entities.length c5a, .int .i64 x.next, .slice p6a x.refused.length c6a]) := (Box.alloc (Box.new' _ _ _ _ rfl) _).ext hE1
  have HY1 : Hid (Box w1 (w.heap.size + 1) 72 #[.slice p0b y.config.rules.rules.length c0b, .slice p1b y.config.scoring.weights.length c1b, .int .i64 y.config.scoring.bias, .slice p2b y.config.survivors.length c2b, .int .i64 y.store.version, .slice p3b y.store.records.length c3b, .slice p4b y.store.verdicts.length c4b, .slice p5b y.entities.length c5b, .int .i64 y.next, .slice p6b y.refused.length c6b]) := (Box.new' _ _ _ _ (by simp)).ext hE1
  have HE1 := Lib.hid (show Ext w w1 from by (repeat' (first | with_reducible assumption | with_reducible exact Below.refl _ _ | (with_reducible refine Ext.alloc' ?_ _) | (with_reducible refine Ext.drew' ?_) | (with_reducible refine Ext.drewN' ?_ _) | (with_reducible refine Ext.set_ ?_ (by first | omega | (simp; done) | (simp; omega)) _ _) | (refine Ext.trans ?_ (by with_reducible assumption)))))
  clear hE1
  cases cA
  · go_wp2_with fail
    go_ret
    exact ⟨ret_bool (by rw [HCC.out]; simp), HE1.out⟩
  · have bx := HX1.out; have bY := HY1.out
    have k0 := bx.cell 0
    have k1 := bx.cell 1
    have k2 := bx.cell 2
    have k3 := bx.cell 3
    have k4 := bx.cell 4
    have k5 := bx.cell 5
    have k6 := bx.cell 6
    have k7 := bx.cell 7
    have k8 := bx.cell 8
    have k9 := bx.cell 9
    have klt := bx.lt
    simp only [List.getElem?_toArray, List.getElem?_cons_zero, List.getElem?_cons_succ] at k0 k1 k2 k3 k4 k5 k6 k7 k8 k9
    have m0 := bY.cell 0
    have m1 := bY.cell 1
    have m2 := bY.cell 2
    have m3 := bY.cell 3
    have m4 := bY.cell 4
    have m5 := bY.cell 5
    have m6 := bY.cell 6
    have m7 := bY.cell 7
    have m8 := bY.cell 8
    have m9 := bY.cell 9
    have mlt := bY.lt
    simp only [List.getElem?_toArray, List.getElem?_cons_zero, List.getElem?_cons_succ] at m0 m1 m2 m3 m4 m5 m6 m7 m8 m9
    clear bx bY
    go_wp2_with fail
    refine (implEqualStores_any x.store y.store [.int .i64 x.store.version, .slice p3a x.store.records.length c3a, .slice p4a x.store.verdicts.length c4a] [.int .i64 y.store.version, .slice p3b y.store.records.length c3b, .slice p4b y.store.verdicts.length c4b] _ ⟨p3a, c3a, p4a, c4a, rfl, A3.out.ext good_Record (by have h8 := HE1.out; (repeat' (first | with_reducible assumption | with_reducible exact Below.refl _ _ | (with_reducible refine Ext.alloc' ?_ _) | (with_reducible refine Ext.drew' ?_) | (with_reducible refine Ext.drewN' ?_ _) | (with_reducible refine Ext.set_ ?_ (by first | omega | (simp; done) | (simp; omega)) _ _) | (refine Ext.trans ?_ (by with_reducible assumption))))), A4.out.ext good_Verdict (by have h8 := HE1.out; (repeat' (first | with_reducible assumption | with_reducible exact Below.refl _ _ | (with_reducible refine Ext.alloc' ?_ _) | (with_reducible refine Ext.drew' ?_) | (with_reducible refine Ext.drewN' ?_ _) | (with_reducible refine Ext.set_ ?_ (by first | omega | (simp; done) | (simp; omega)) _ _) | (refine Ext.trans ?_ (by with_reducible assumption)))))⟩ ⟨p3b, c3b, p4b, c4b, rfl, B3.out.ext good_Record (by have h8 := HE1.out; (repeat' (first | with_reducible assumption | with_reducible exact Below.refl _ _ | (with_reducible refine Ext.alloc' ?_ _) | (with_reducible refine Ext.drew' ?_) | (with_reducible refine Ext.drewN' ?_ _) | (with_reducible refine Ext.set_ ?_ (by first | omega | (simp; done) | (simp; omega)) _ _) | (refine Ext.trans ?_ (by with_reducible assumption))))), B4.out.ext good_Verdict (by have h8 := HE1.out; (repeat' (first | with_reducible assumption | with_reducible exact Below.refl _ _ | (with_reducible refine Ext.alloc' ?_ _) | (with_reducible refine Ext.drew' ?_) | (with_reducible refine Ext.drewN' ?_ _) | (with_reducible refine Ext.set_ ?_ (by first | omega | (simp; done) | (simp; omega)) _ _) | (refine Ext.trans ?_ (by with_reducible assumption)))))⟩).mono ?_
    rintro e w2 ⟨rfl, hE2⟩
    rw [← HB.out]
    clear k0 m0 k1 m1 k2 m2 k3 m3 k4 m4 k5 m5 k6 m6 k7 m7 k8 m8 k9 m9 klt mlt
    have HX2 := Lib.hid (HX1.out.ext hE2); have HY2 := Lib.hid (HY1.out.ext hE2); have HE2 := Lib.hid (HE1.out.trans hE2)
    clear hE2 HX1 HY1 HE1
    cases cB
    · go_wp2_with fail
      go_ret
      exact ⟨ret_bool (by rw [HCC.out]; simp), HE2.out⟩
    · have bx := HX2.out; have bY := HY2.out
      have k0 := bx.cell 0
      have k1 := bx.cell 1
      have k2 := bx.cell 2
      have k3 := bx.cell 3
      have k4 := bx.cell 4
      have k5 := bx.cell 5
      have k6 := bx.cell 6
      have k7 := bx.cell 7
      have k8 := bx.cell 8
      have k9 := bx.cell 9
      have klt := bx.lt
      simp only [List.getElem?_toArray, List.getElem?_cons_zero, List.getElem?_cons_succ] at k0 k1 k2 k3 k4 k5 k6 k7 k8 k9
      have m0 := bY.cell 0
      have m1 := bY.cell 1
      have m2 := bY.cell 2
      have m3 := bY.cell 3
      have m4 := bY.cell 4
      have m5 := bY.cell 5
      have m6 := bY.cell 6
      have m7 := bY.cell 7
      have m8 := bY.cell 8
      have m9 := bY.cell 9
      have mlt := bY.lt
      simp only [List.getElem?_toArray, List.getElem?_cons_zero, List.getElem?_cons_succ] at m0 m1 m2 m3 m4 m5 m6 m7 m8 m9
      clear bx bY
      go_wp2_with fail
      refine (implEqualEntities_any x.entities y.entities HSX.out.2.2.1 HSY.out.2.2.1 p5a p5b c5a c5b _ (A5.out.ext good_Entity (by have h8 := HE2.out; (repeat' (first | with_reducible assumption | with_reducible exact Below.refl _ _ | (with_reducible refine Ext.alloc' ?_ _) | (with_reducible refine Ext.drew' ?_) | (with_reducible refine Ext.drewN' ?_ _) | (with_reducible refine Ext.set_ ?_ (by first | omega | (simp; done) | (simp; omega)) _ _) | (refine Ext.trans ?_ (by with_reducible assumption)))))) (B5.out.ext good_Entity (by have h8 := HE2.out; (repeat' (first | with_reducible assumption | with_reducible exact Below.refl _ _ | (with_reducible refine Ext.alloc' ?_ _) | (with_reducible refine Ext.drew' ?_) | (with_reducible refine Ext.drewN' ?_ _) | (with_reducible refine Ext.set_ ?_ (by first | omega | (simp; done) | (simp; omega)) _ _) | (refine Ext.trans ?_ (by with_reducible assumption))))))).mono ?_
      rintro e w3 ⟨rfl, hE3⟩
      rw [← HC.out]
      clear k0 m0 k1 m1 k2 m2 k3 m3 k4 m4 k5 m5 k6 m6 k7 m7 k8 m8 k9 m9 klt mlt
      have HX3 := Lib.hid (HX2.out.ext hE3); have HY3 := Lib.hid (HY2.out.ext hE3); have HE3 := Lib.hid (HE2.out.trans hE3)
      clear hE3 HX2 HY2 HE2
      cases cC
      · go_wp2_with fail
        go_ret
        exact ⟨ret_bool (by rw [HCC.out]; simp), HE3.out⟩
      · by_cases hn : x.next = y.next
        · have hnb : (x.next == y.next) = true := by simpa using hn
          have HNX := Lib.hid hn; clear hn
          have bx := HX3.out; have bY := HY3.out
          have k0 := bx.cell 0
          have k1 := bx.cell 1
          have k2 := bx.cell 2
          have k3 := bx.cell 3
          have k4 := bx.cell 4
          have k5 := bx.cell 5
          have k6 := bx.cell 6
          have k7 := bx.cell 7
          have k8 := bx.cell 8
          have k9 := bx.cell 9
          have klt := bx.lt
          simp only [List.getElem?_toArray, List.getElem?_cons_zero, List.getElem?_cons_succ] at k0 k1 k2 k3 k4 k5 k6 k7 k8 k9
          have m0 := bY.cell 0
          have m1 := bY.cell 1
          have m2 := bY.cell 2
          have m3 := bY.cell 3
          have m4 := bY.cell 4
          have m5 := bY.cell 5
          have m6 := bY.cell 6
          have m7 := bY.cell 7
          have m8 := bY.cell 8
          have m9 := bY.cell 9
          have mlt := bY.lt
          simp only [List.getElem?_toArray, List.getElem?_cons_zero, List.getElem?_cons_succ] at m0 m1 m2 m3 m4 m5 m6 m7 m8 m9
          clear bx bY
          go_wp2_with fail
          refine (equalVerdicts_any x.refused y.refused p6a p6b c6a c6b _ (A6.out.ext good_Verdict (by have h8 := HE3.out; (repeat' (first | with_reducible assumption | with_reducible exact Below.refl _ _ | (with_reducible refine Ext.alloc' ?_ _) | (with_reducible refine Ext.drew' ?_) | (with_reducible refine Ext.drewN' ?_ _) | (with_reducible refine Ext.set_ ?_ (by first | omega | (simp; done) | (simp; omega)) _ _) | (refine Ext.trans ?_ (by with_reducible assumption)))))) (B6.out.ext good_Verdict (by have h8 := HE3.out; (repeat' (first | with_reducible assumption | with_reducible exact Below.refl _ _ | (with_reducible refine Ext.alloc' ?_ _) | (with_reducible refine Ext.drew' ?_) | (with_reducible refine Ext.drewN' ?_ _) | (with_reducible refine Ext.set_ ?_ (by first | omega | (simp; done) | (simp; omega)) _ _) | (refine Ext.trans ?_ (by with_reducible assumption))))))).mono ?_
          rintro e w4 ⟨rfl, hE4⟩
          have HE4 := Lib.hid (HE3.out.trans hE4)
          rw [← HD.out]
          clear hE4
          clear k0 m0 k1 m1 k2 m2 k3 m3 k4 m4 k5 m5 k6 m6 k7 m7 k8 m8 k9 m9 klt mlt
          go_wp2_with fail
          go_ret
          exact ⟨ret_bool (by rw [HCC.out]; simp [HNX.out]), HE4.out⟩
        · have hnb : (x.next == y.next) = false := by simpa using hn
          have HNX := Lib.hid hn; clear hn
          have bx := HX3.out; have bY := HY3.out
          have k0 := bx.cell 0
          have k1 := bx.cell 1
          have k2 := bx.cell 2
          have k3 := bx.cell 3
          have k4 := bx.cell 4
          have k5 := bx.cell 5
          have k6 := bx.cell 6
          have k7 := bx.cell 7
          have k8 := bx.cell 8
          have k9 := bx.cell 9
          have klt := bx.lt
          simp only [List.getElem?_toArray, List.getElem?_cons_zero, List.getElem?_cons_succ] at k0 k1 k2 k3 k4 k5 k6 k7 k8 k9
          have m0 := bY.cell 0
          have m1 := bY.cell 1
          have m2 := bY.cell 2
          have m3 := bY.cell 3
          have m4 := bY.cell 4
          have m5 := bY.cell 5
          have m6 := bY.cell 6
          have m7 := bY.cell 7
          have m8 := bY.cell 8
          have m9 := bY.cell 9
          have mlt := bY.lt
          simp only [List.getElem?_toArray, List.getElem?_cons_zero, List.getElem?_cons_succ] at m0 m1 m2 m3 m4 m5 m6 m7 m8 m9
          clear bx bY
          go_wp2_with fail
          go_ret
          exact ⟨ret_bool (by rw [HCC.out]; simp [HNX.out]), HE3.out⟩
end Go.Proofs.Ytdgpbgpapcldeaa
