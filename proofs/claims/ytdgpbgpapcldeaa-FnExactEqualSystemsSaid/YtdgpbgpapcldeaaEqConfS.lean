/- The reference's equality of configurations. -/
import Derived.Test.YtdgpbgpapcldeaaEqConf
set_option linter.unusedVariables false
set_option linter.unusedSimpArgs false
namespace Go.Proofs.Ytdgpbgpapcldeaa
open Go.RowKit Go.Er Go.BigFrame

set_option maxHeartbeats 3200000 in
theorem sameRules_any (x y : DRuleSet) (us vs : List Value) (w : World) (h1 : RuleSetR 0 w us x) (h2 : RuleSetR 0 w vs y) :
    Calls Try.prog 47 #[.agg us.toArray, .agg vs.toArray] w fun e w' => e = .returned (.bool (eqL ruleEq x.rules y.rules)) ∧ Ext w w' := by
  obtain ⟨p0a, c0a, rfl, r0a⟩ := h1
  obtain ⟨p0b, c0b, rfl, r0b⟩ := h2
  obtain ⟨l, hl0⟩ : ∃ l, l = x.rules := ⟨_, rfl⟩
  obtain ⟨m, hm0⟩ : ∃ m, m = y.rules := ⟨_, rfl⟩
  rw [← hl0] at r0a
  rw [← hm0] at r0b
  simp only [← hl0, ← hm0]
  clear hl0 hm0
  have hl : (l.length : Int) ≤ 9223372036854775807 := by have := r0a.1; unfold maxLen at this; omega
  have hm : (m.length : Int) ≤ 9223372036854775807 := by have := r0b.1; unfold maxLen at this; omega
  have HA := Lib.hid r0a; have HB := Lib.hid r0b; clear r0a r0b
  have HX : Hid (Box ((w.alloc (.cells #[.slice p0a l.length c0a] 45)).alloc (.cells #[.slice p0b m.length c0b] 45)) w.heap.size 45 #[.slice p0a l.length c0a]) := Box.alloc (Box.new' _ _ _ _ rfl) _
  have HY : Hid (Box ((w.alloc (.cells #[.slice p0a l.length c0a] 45)).alloc (.cells #[.slice p0b m.length c0b] 45)) (w.heap.size + 1) 45 #[.slice p0b m.length c0b]) := Box.new' _ _ _ _ (by simp)
  have HE0 : Hid (Ext w ((w.alloc (.cells #[.slice p0a l.length c0a] 45)).alloc (.cells #[.slice p0b m.length c0b] 45))) := (show Ext w _ from by (repeat' (first | with_reducible assumption | with_reducible exact Below.refl _ _ | (with_reducible refine Ext.alloc' ?_ _) | (with_reducible refine Ext.drew' ?_) | (with_reducible refine Ext.drewN' ?_ _) | (with_reducible refine Ext.set_ ?_ (by first | omega | (simp; done) | (simp; omega)) _ _) | (refine Ext.trans ?_ (by with_reducible assumption)))))
  by_cases hlen : l.length = m.length
  · have Hlen := Lib.hid hlen
    have htest : ((l.length : Int) != m.length) = false := by simp [hlen]
    clear hlen
    go_enter Try.func47, Try.ntmps47
    go_wp2_with fail
    clear htest
    go_loopw [5] (fun s5 wr => ∃ k : Nat, k ≤ l.length ∧ s5 = .int .i64 k ∧ Ext w wr ∧ Box wr w.heap.size 45 #[.slice p0a l.length c0a] ∧ Box wr (w.heap.size + 1) 45 #[.slice p0b m.length c0b] ∧ Hid (eqL ruleEq (l.drop k) (m.drop k) = eqL ruleEq l m)) (fun i _ => l.length - (intOf i).toNat)
    case atStart => exact ⟨0, Nat.zero_le _, rfl, HE0.out, HX.out, HY.out, rfl⟩
    case round =>
      obtain ⟨k, hk, rfl, hE, hX, hY, hR⟩ := hrel
      have HE := Lib.hid hE
      have HX1 := Lib.hid hX; have HY1 := Lib.hid hY
      have k0 := hX.cell 0
      have klt := hX.lt
      simp only [List.getElem?_toArray, List.getElem?_cons_zero, List.getElem?_cons_succ] at k0
      have m0 := hY.cell 0
      have mlt := hY.lt
      simp only [List.getElem?_toArray, List.getElem?_cons_zero, List.getElem?_cons_succ] at m0
      clear hE hX hY
      by_cases hlt : k < l.length
      · have hkm : k < m.length := by have := Hlen.out; omega
        obtain ⟨b1, o1, vs1, rfl, _, _, hc1, hR1⟩ := (HA.out.ext good_Rule HE.out).2 k hlt
        obtain ⟨b2, o2, vs2, rfl, _, _, hc2, hR2⟩ := (HB.out.ext good_Rule HE.out).2 k hkm
        have hR' := eqL_drop ruleEq l m k hlt hkm
        obtain ⟨x, hx⟩ : ∃ x, x = l[k] := ⟨_, rfl⟩
        obtain ⟨y, hy⟩ : ∃ y, y = m[k] := ⟨_, rfl⟩
        rw [← hx] at hR1 hR'
        rw [← hy] at hR2 hR'
        have HR' := Lib.hid (hR'.symm.trans hR.out)
        clear hx hy hR' hR
        obtain ⟨pa, ca, rfl, ra⟩ := hR1
        obtain ⟨pb, cb, rfl, rb⟩ := hR2
        have htl : (x.tests.length : Int) ≤ 9223372036854775807 := by have := ra.1; unfold maxLen at this; omega
        have htm : (y.tests.length : Int) ≤ 9223372036854775807 := by have := rb.1; unfold maxLen at this; omega
        have RA := Lib.hid ra; have RB := Lib.hid rb
        clear ra rb
        have q0 := hc1 0 (by simp)
        simp only [List.getElem_cons_zero, List.getElem_cons_succ, Nat.mul_one, Nat.add_zero] at q0
        have t0 := hc2 0 (by simp)
        simp only [List.getElem_cons_zero, List.getElem_cons_succ, Nat.mul_one, Nat.add_zero] at t0
        clear hc1 hc2
        have hlt1 : (k : Int) < l.length := by omega
        have hlt2 : (k : Int) < m.length := by omega
        by_cases hlen2 : x.tests.length = y.tests.length
        · have Hlen2 := Lib.hid hlen2
          have htest : ((x.tests.length : Int) != y.tests.length) = false := by simp [hlen2]
          clear hlen2
          go_wp2_with fail
          clear htest
          obtain ⟨wo, hwo, HW⟩ : ∃ wo : World, wo = wr ∧ Hid (Ext wo wr) := ⟨wr, rfl, Lib.hid (Ext.refl _)⟩
          rw [← hwo] at HE RA RB HX1 HY1
          clear hwo k0 klt m0 mlt q0 t0
          go_loopw [8] (fun s8 wr => ∃ j : Nat, j ≤ x.tests.length ∧ s8 = .int .i64 j ∧ Ext wo wr ∧ Hid (eqL testEq (x.tests.drop j) (y.tests.drop j) = ruleEq x y)) (fun i _ => x.tests.length - (intOf i).toNat)
          case atStart => exact ⟨0, Nat.zero_le _, rfl, HW.out, rfl⟩
          case round =>
            obtain ⟨j, hj, rfl, hE5, hR5⟩ := hrel
            have HE5 := Lib.hid hE5; clear hE5
            by_cases hjt : j < x.tests.length
            · have hjm : j < y.tests.length := by have := Hlen2.out; omega
              obtain ⟨b3, o3, vs3, rfl, _, _, hc3, hR3⟩ := (RA.out.ext good_Test HE5.out).2 j hjt
              obtain ⟨b4, o4, vs4, rfl, _, _, hc4, hR4⟩ := (RB.out.ext good_Test HE5.out).2 j hjm
              have hR6 := eqL_drop testEq x.tests y.tests j hjt hjm
              obtain ⟨f, hf⟩ : ∃ f, f = x.tests[j] := ⟨_, rfl⟩
              obtain ⟨g, hg⟩ : ∃ g, g = y.tests[j] := ⟨_, rfl⟩
              rw [← hf] at hR3 hR6
              rw [← hg] at hR4 hR6
              have HR6 := Lib.hid (hR6.symm.trans hR5.out)
              clear hf hg hR6 hR5
              obtain rfl := hR3
              obtain rfl := hR4
              have q0 := hc3 0 (by simp)
              have q1 := hc3 1 (by simp)
              have q2 := hc3 2 (by simp)
              simp only [List.getElem_cons_zero, List.getElem_cons_succ, Nat.mul_one, Nat.add_zero] at q0 q1 q2
              have t0 := hc4 0 (by simp)
              have t1 := hc4 1 (by simp)
              have t2 := hc4 2 (by simp)
              simp only [List.getElem_cons_zero, List.getElem_cons_succ, Nat.mul_one, Nat.add_zero] at t0 t1 t2
              clear hc3 hc4
              have hjt1 : (j : Int) < x.tests.length := by omega
              have hjt2 : (j : Int) < y.tests.length := by omega
              rcases test_cases f g with ⟨ht, e1, e2, e3⟩ | ⟨ht, e1 | ⟨e1, e2⟩ | ⟨e1, e2, e3⟩⟩
              · rw [ht, Bool.true_and] at HR6
                clear ht
                go_wp2_with fail
                go_quiet (fail)
                go_wp2_with fail
                go_roundw
                case rel => exact ⟨j + 1, by omega, by go_num, HE5.out.drewN' _, HR6⟩
                case measure => (simp [intOf] <;> omega)
              all_goals
                rw [ht, Bool.false_and] at HR6
                clear ht
                have HR7 : Hid (false = eqL ruleEq l m) := by have h := HR'.out; rw [← HR6.out, Bool.false_and] at h; exact h
                go_wp2_with fail
                go_quiet (fail)
                go_wp2_with fail
                go_ret
                exact ⟨ret_bool HR7.out, HE.out.trans (HE5.out.drewN' _)⟩
            · obtain rfl : j = x.tests.length := by omega
              have hR6 := (eqL_end testEq x.tests y.tests Hlen2.out).symm.trans hR5.out
              have HR7 : Hid (eqL ruleEq (l.drop (k + 1)) (m.drop (k + 1)) = eqL ruleEq l m) := by have h := HR'.out; rw [← hR6, Bool.true_and] at h; exact h
              clear hR5 hR6
              go_wp2_with fail
              go_roundw
              case rel => exact ⟨k + 1, by omega, by go_num, HE.out.trans HE5.out, HX1.out.ext HE5.out, HY1.out.ext HE5.out, HR7⟩
              case measure => (simp [intOf] <;> omega)
        · have htest : ((x.tests.length : Int) != y.tests.length) = true := by simp; omega
          have HR7 : Hid (false = eqL ruleEq l m) := by
            have h := HR'.out
            rw [show ruleEq x y = false from eqL_len testEq _ _ hlen2, Bool.false_and] at h
            exact h
          clear hlen2
          go_wp2_with fail
          go_ret
          exact ⟨ret_bool HR7.out, HE.out⟩
      · obtain rfl : k = l.length := by omega
        have hR' := Lib.hid ((eqL_end ruleEq l m Hlen.out).symm.trans hR.out)
        clear hR
        go_wp2_with fail
        go_ret
        exact ⟨ret_bool hR'.out, HE.out⟩
  · have htest : ((l.length : Int) != m.length) = true := by simp; omega
    have hf := Lib.hid (eqL_len ruleEq l m hlen)
    go_enter Try.func47, Try.ntmps47
    go_wp2_with fail
    go_ret
    exact ⟨ret_bool hf.out.symm, HE0.out⟩

set_option maxHeartbeats 1600000 in
theorem specEqualConfigs_any (x y : DConfig) (hx : SmallConfig x) (hy : SmallConfig y) (us vs : List Value) (w : World) (h1 : ConfigR 0 w us x) (h2 : ConfigR 0 w vs y) :
    Calls Try.prog 17 #[.agg us.toArray, .agg vs.toArray] w fun e w' => e = .returned (.bool (configEq x y)) ∧ Ext w w' := by
  obtain ⟨p0a, c0a, p1a, c1a, p2a, c2a, rfl, r0a, r1a, r2a⟩ := h1
  obtain ⟨p0b, c0b, p1b, c1b, p2b, c2b, rfl, r0b, r1b, r2b⟩ := h2
  have hw1 : x.scoring.weights.length ≤ 1048576 := hx.2.1.1
  have hw2 : y.scoring.weights.length ≤ 1048576 := hy.2.1.1
  have hs1 : x.survivors.length ≤ 1048576 := hx.2.2.1
  have hs2 : y.survivors.length ≤ 1048576 := hy.2.2.1
  have A0 := Lib.hid r0a; have A1 := Lib.hid r1a; have A2 := Lib.hid r2a; have B0 := Lib.hid r0b; have B1 := Lib.hid r1b; have B2 := Lib.hid r2b
  clear r0a r1a r2a r0b r1b r2b hx hy
  obtain ⟨cA, hA⟩ : ∃ q, q = eqL ruleEq x.rules.rules y.rules.rules := ⟨_, rfl⟩
  obtain ⟨cB, hB⟩ : ∃ q, q = (x.scoring.weights == y.scoring.weights) := ⟨_, rfl⟩
  obtain ⟨cD, hD⟩ : ∃ q, q = (x.survivors == y.survivors) := ⟨_, rfl⟩
  have hcc : configEq x y = (cA && cB && (x.scoring.bias == y.scoring.bias) && cD) := by rw [hA, hB, hD]; rfl
  have hz1 := cmpInts_zero x.scoring.weights y.scoring.weights
  have hz2 := cmpInts_zero x.survivors y.survivors
  rw [← hB] at hz1
  rw [← hD] at hz2
  obtain ⟨n1, hn1⟩ : ∃ n, n = cmpInts x.scoring.weights y.scoring.weights := ⟨_, rfl⟩
  obtain ⟨n2, hn2⟩ : ∃ n, n = cmpInts x.survivors y.survivors := ⟨_, rfl⟩
  rw [← hn1] at hz1
  rw [← hn2] at hz2
  have HCC := Lib.hid hcc; have HA := Lib.hid hA; have HN1 := Lib.hid hn1; have HN2 := Lib.hid hn2
  clear hcc hA hB hD hn1 hn2
  go_enter Try.func17, Try.ntmps17
  go_wp2_with fail
  refine (l8Ints_any x.scoring.weights y.scoring.weights p1a p1b c1a c1b _ ((A1.out.ext good_int (by (repeat' (first | with_reducible assumption | with_reducible exact Below.refl _ _ | (with_reducible refine Ext.alloc' ?_ _) | (with_reducible refine Ext.drew' ?_) | (with_reducible refine Ext.drewN' ?_ _) | (with_reducible refine Ext.set_ ?_ (by first | omega | (simp; done) | (simp; omega)) _ _) | (refine Ext.trans ?_ (by with_reducible assumption)))))).ints) ((B1.out.ext good_int (by (repeat' (first | with_reducible assumption | with_reducible exact Below.refl _ _ | (with_reducible refine Ext.alloc' ?_ _) | (with_reducible refine Ext.drew' ?_) | (with_reducible refine Ext.drewN' ?_ _) | (with_reducible refine Ext.set_ ?_ (by first | omega | (simp; done) | (simp; omega)) _ _) | (refine Ext.trans ?_ (by with_reducible assumption)))))).ints) hw1 hw2).mono ?_
  rintro e w1 ⟨rfl, ⟨q1, hq1⟩⟩
  rw [← HN1.out]
  have HX : Hid (Box w1 w.heap.size 48 #[.slice p0a x.rules.rules.length c0a, .slice p1a x.scoring.weights.length c1a, .int .i64 x.scoring.bias, .slice p2a x.survivors.length c2a]) := by subst hq1; exact Box.drewN (Box.alloc (Box.new' _ _ _ _ rfl) _) _
  have HY : Hid (Box w1 (w.heap.size + 1) 48 #[.slice p0b y.rules.rules.length c0b, .slice p1b y.scoring.weights.length c1b, .int .i64 y.scoring.bias, .slice p2b y.survivors.length c2b]) := by subst hq1; exact Box.drewN (Box.new' _ _ _ _ (by simp)) _
  have HE1 : Hid (Ext w w1) := by subst hq1; exact (show Ext w _ from by (repeat' (first | with_reducible assumption | with_reducible exact Below.refl _ _ | (with_reducible refine Ext.alloc' ?_ _) | (with_reducible refine Ext.drew' ?_) | (with_reducible refine Ext.drewN' ?_ _) | (with_reducible refine Ext.set_ ?_ (by first | omega | (simp; done) | (simp; omega)) _ _) | (refine Ext.trans ?_ (by with_reducible assumption)))))
  clear hq1
  by_cases hb1 : n1 = 0
  · have hcB : cB = true := by rw [← hz1, hb1]; rfl
    subst hcB
    clear hz1
    have bx := HX.out; have bY := HY.out
    have k0 := bx.cell 0
    have k1 := bx.cell 1
    have k2 := bx.cell 2
    have k3 := bx.cell 3
    have klt := bx.lt
    simp only [List.getElem?_toArray, List.getElem?_cons_zero, List.getElem?_cons_succ] at k0 k1 k2 k3
    have m0 := bY.cell 0
    have m1 := bY.cell 1
    have m2 := bY.cell 2
    have m3 := bY.cell 3
    have mlt := bY.lt
    simp only [List.getElem?_toArray, List.getElem?_cons_zero, List.getElem?_cons_succ] at m0 m1 m2 m3
    clear bx bY
    by_cases hb : x.scoring.bias = y.scoring.bias
    · go_wp2_with fail
      refine (l8Ints_any x.survivors y.survivors p2a p2b c2a c2b _ ((A2.out.ext good_int (by have h8 := HE1.out; (repeat' (first | with_reducible assumption | with_reducible exact Below.refl _ _ | (with_reducible refine Ext.alloc' ?_ _) | (with_reducible refine Ext.drew' ?_) | (with_reducible refine Ext.drewN' ?_ _) | (with_reducible refine Ext.set_ ?_ (by first | omega | (simp; done) | (simp; omega)) _ _) | (refine Ext.trans ?_ (by with_reducible assumption)))))).ints) ((B2.out.ext good_int (by have h8 := HE1.out; (repeat' (first | with_reducible assumption | with_reducible exact Below.refl _ _ | (with_reducible refine Ext.alloc' ?_ _) | (with_reducible refine Ext.drew' ?_) | (with_reducible refine Ext.drewN' ?_ _) | (with_reducible refine Ext.set_ ?_ (by first | omega | (simp; done) | (simp; omega)) _ _) | (refine Ext.trans ?_ (by with_reducible assumption)))))).ints) hs1 hs2).mono ?_
      rintro e w2 ⟨rfl, ⟨q2, hq2⟩⟩
      rw [← HN2.out]
      have HX2 : Hid (Box w2 w.heap.size 48 #[.slice p0a x.rules.rules.length c0a, .slice p1a x.scoring.weights.length c1a, .int .i64 x.scoring.bias, .slice p2a x.survivors.length c2a]) := by subst hq2; exact Box.drewN HX.out _
      have HY2 : Hid (Box w2 (w.heap.size + 1) 48 #[.slice p0b y.rules.rules.length c0b, .slice p1b y.scoring.weights.length c1b, .int .i64 y.scoring.bias, .slice p2b y.survivors.length c2b]) := by subst hq2; exact Box.drewN HY.out _
      have HE2 : Hid (Ext w w2) := by subst hq2; exact HE1.out.drewN' _
      clear hq2 k0 k1 k2 k3 m0 m1 m2 m3 klt mlt HX HY HE1
      by_cases hb2 : n2 = 0
      · have hcD : cD = true := by rw [← hz2, hb2]; rfl
        subst hcD
        clear hz2
        have bx := HX2.out; have bY := HY2.out
        have k0 := bx.cell 0
        have k1 := bx.cell 1
        have k2 := bx.cell 2
        have k3 := bx.cell 3
        have klt := bx.lt
        simp only [List.getElem?_toArray, List.getElem?_cons_zero, List.getElem?_cons_succ] at k0 k1 k2 k3
        have m0 := bY.cell 0
        have m1 := bY.cell 1
        have m2 := bY.cell 2
        have m3 := bY.cell 3
        have mlt := bY.lt
        simp only [List.getElem?_toArray, List.getElem?_cons_zero, List.getElem?_cons_succ] at m0 m1 m2 m3
        clear bx bY
        go_wp2_with fail
        refine (sameRules_any x.rules y.rules [.slice p0a x.rules.rules.length c0a] [.slice p0b y.rules.rules.length c0b] _ ⟨p0a, c0a, rfl, A0.out.ext good_Rule (by have h8 := HE2.out; (repeat' (first | with_reducible assumption | with_reducible exact Below.refl _ _ | (with_reducible refine Ext.alloc' ?_ _) | (with_reducible refine Ext.drew' ?_) | (with_reducible refine Ext.drewN' ?_ _) | (with_reducible refine Ext.set_ ?_ (by first | omega | (simp; done) | (simp; omega)) _ _) | (refine Ext.trans ?_ (by with_reducible assumption)))))⟩ ⟨p0b, c0b, rfl, B0.out.ext good_Rule (by have h8 := HE2.out; (repeat' (first | with_reducible assumption | with_reducible exact Below.refl _ _ | (with_reducible refine Ext.alloc' ?_ _) | (with_reducible refine Ext.drew' ?_) | (with_reducible refine Ext.drewN' ?_ _) | (with_reducible refine Ext.set_ ?_ (by first | omega | (simp; done) | (simp; omega)) _ _) | (refine Ext.trans ?_ (by with_reducible assumption)))))⟩).mono ?_
        rintro e w3 ⟨rfl, hE3⟩
        rw [← HA.out]
        have HE3 := Lib.hid (HE2.out.trans hE3)
        clear hE3 k0 k1 k2 k3 m0 m1 m2 m3 klt mlt
        cases cA
        · go_wp2_with fail
          go_ret
          exact ⟨ret_bool (by rw [HCC.out]; rfl), HE3.out⟩
        · go_wp2_with fail
          go_ret
          exact ⟨ret_bool (by rw [HCC.out, hb]; simp), HE3.out⟩
      · have hcD : cD = false := by rw [← hz2]; simpa using hb2
        subst hcD
        clear hz2
        go_wp2_with fail
        go_ret
        exact ⟨ret_bool (by rw [HCC.out]; simp), HE2.out⟩
    · go_wp2_with fail
      go_ret
      have hb2 : (x.scoring.bias == y.scoring.bias) = false := by simpa using hb
      exact ⟨ret_bool (by rw [HCC.out, hb2]; simp), HE1.out⟩
  · have hcB : cB = false := by rw [← hz1]; simpa using hb1
    subst hcB
    clear hz1
    go_wp2_with fail
    go_ret
    exact ⟨ret_bool (by rw [HCC.out]; simp), HE1.out⟩
end Go.Proofs.Ytdgpbgpapcldeaa
