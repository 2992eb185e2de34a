/- Valid rules: impl. -/
import Derived.Test.YtdgpbgpapcldeaaValidD
set_option linter.unusedVariables false
set_option linter.unusedSimpArgs false
namespace Go.Proofs.Ytdgpbgpapcldeaa
open Go.RowKit Go.Er Go.BigFrame

set_option maxRecDepth 100000 in
set_option maxHeartbeats 6400000 in
theorem implRules_any (x : DRuleSet) (vs : List Value) (w : World) (h : RuleSetR 0 w vs x) :
    Calls Try.prog 61 #[.agg vs.toArray] w fun e w' => e = .returned (.bool (rulesOk x.rules)) ∧ Ext w w' := by
  obtain ⟨p0, c0, rfl, r0⟩ := h
  obtain ⟨l, hl0⟩ : ∃ l, l = x.rules := ⟨_, rfl⟩
  rw [← hl0] at r0
  simp only [← hl0]
  clear hl0
  have hl : (l.length : Int) ≤ 9223372036854775807 := by have := r0.1; unfold maxLen at this; omega
  have HA := Lib.hid r0; clear r0
  have HB : Hid (Box (w.alloc (.cells #[.slice p0 l.length c0] 45)) w.heap.size 45 #[.slice p0 l.length c0]) := Box.new' _ _ _ _ rfl
  have HE0 := Lib.hid (Ext.alloc w (.cells #[.slice p0 l.length c0] 45))
  go_enter Try.func61, Try.ntmps61
  go_wp2_with fail
  go_loopw [10] (fun s3 wr => ∃ k : Nat, k ≤ l.length ∧ s3 = .int .i64 k ∧ Box wr w.heap.size 45 #[.slice p0 l.length c0] ∧ Ext w wr ∧ Hid ((l.drop k).all ruleOk = l.all ruleOk)) (fun i _ => l.length - (intOf i).toNat)
  case atStart => exact ⟨0, Nat.zero_le _, rfl, HB.out, HE0.out, rfl⟩
  case round =>
    obtain ⟨k, hk, rfl, hB, hE, hR⟩ := hrel
    have HB1 := Lib.hid hB; have HE := Lib.hid hE
    have k0 := hB.cell 0
    have klt := hB.lt
    simp only [List.getElem?_toArray, List.getElem?_cons_zero, List.getElem?_cons_succ] at k0
    clear hB hE
    by_cases hlt : k < l.length
    · obtain ⟨b, o, vs, rfl, _, _, hc, hR1⟩ := (HA.out.ext good_Rule HE.out).2 k hlt
      have hR' := hR.out
      rw [List.drop_eq_getElem_cons hlt, List.all_cons] at hR'
      obtain ⟨r, hr⟩ : ∃ r, r = l[k] := ⟨_, rfl⟩
      rw [← hr] at hR1 hR'
      obtain ⟨pr, cr, rfl, hrr⟩ := hR1
      have HR' := Lib.hid hR'
      have htl : (r.tests.length : Int) ≤ 9223372036854775807 := by have := hrr.1; unfold maxLen at this; omega
      have HT := Lib.hid hrr
      clear hr hR' hR hrr
      have q0 := hc 0 (by simp)
      simp only [List.getElem_cons_zero, List.getElem_cons_succ, Nat.mul_one, Nat.add_zero] at q0
      clear hc
      have hlt1 : (k : Int) < l.length := by omega
      have qlt0 := lt_of_cell q0
      cases hin : inR r.tests.length 1 3
      · have HR7 : Hid (false = l.all ruleOk) := by have h := HR'.out; rw [show ruleOk r = false by unfold ruleOk; rw [hin]; rfl, Bool.false_and] at h; exact h
        have HC : Hid (∀ w : World, Calls Try.prog 106 #[.int .i64 r.tests.length, .int .i64 1, .int .i64 3] w fun e w' => e = .returned (.bool false) ∧ w' = w) := fun w => by have h := within_any r.tests.length 1 3 w; rw [hin] at h; exact h
        clear hin
        go_wp2_with fail
        refine (HC.out _).mono ?_
        rintro e w9 ⟨rfl, rfl⟩
        go_wp2_with fail
        go_ret
        exact ⟨ret_bool (by unfold rulesOk; rw [← HR7.out]; rfl), (show Ext w _ from by have h8 := HE.out; (repeat' (first | with_reducible assumption | with_reducible exact Below.refl _ _ | (with_reducible refine Ext.alloc' ?_ _) | (with_reducible refine Ext.drew' ?_) | (with_reducible refine Ext.drewN' ?_ _) | (with_reducible refine Ext.set_ ?_ (by first | omega | (simp; done) | (simp; omega)) _ _) | (refine Ext.trans ?_ (by with_reducible assumption)))))⟩
      · have HC : Hid (∀ w : World, Calls Try.prog 106 #[.int .i64 r.tests.length, .int .i64 1, .int .i64 3] w fun e w' => e = .returned (.bool true) ∧ w' = w) := fun w => by have h := within_any r.tests.length 1 3 w; rw [hin] at h; exact h
        have HLEN := Lib.hid hin
        clear hin
        go_wp2_with fail
        refine (HC.out _).mono ?_
        rintro e w9 ⟨rfl, rfl⟩
        go_wp2_with fail
        obtain ⟨wo, hwo, HW, HBX⟩ : ∃ wo : World, wo = wr ∧ Hid (Ext wo (wr.alloc (.cells #[.slice pr r.tests.length cr] 104))) ∧ Hid (Box (wr.alloc (.cells #[.slice pr r.tests.length cr] 104)) wo.heap.size 104 #[.slice pr r.tests.length cr]) := ⟨wr, rfl, Lib.hid (Ext.alloc _ _), Lib.hid (Box.new' _ _ _ _ rfl)⟩
        have hws : wo.heap.size = wr.heap.size := by rw [hwo]
        rw [← hws]
        clear hws
        rw [← hwo] at HB1 HE HT
        clear hwo k0 klt q0 qlt0
        go_loopw [22] (fun s5 wr => ∃ j : Nat, j ≤ r.tests.length ∧ s5 = .int .i64 j ∧ Box wr wo.heap.size 104 #[.slice pr r.tests.length cr] ∧ Ext wo wr ∧ Hid (testsOk (prevOf r.tests j) (r.tests.drop j) = testsOk none r.tests)) (fun i _ => r.tests.length - (intOf i).toNat)
        case atStart => exact ⟨0, Nat.zero_le _, rfl, HBX.out, HW.out, rfl⟩
        case round =>
          obtain ⟨j, hj, rfl, hBB, hE5, hR5⟩ := hrel
          have HE5 := Lib.hid hE5; have HBB := Lib.hid hBB
          by_cases hjt : j < r.tests.length
          · obtain ⟨b3, o3, vs3, rfl, _, _, hc3, hR3⟩ := (HT.out.ext good_Test HE5.out).2 j hjt
            have hR6 := (tests_step r.tests j hjt).symm.trans hR5.out
            obtain ⟨f, hf⟩ : ∃ f, f = r.tests[j] := ⟨_, rfl⟩
            rw [← hf] at hR3 hR6
            have HR6 := Lib.hid hR6
            obtain rfl := hR3
            clear hf hR6 hR5
            have q0 := hc3 0 (by simp)
            have q1 := hc3 1 (by simp)
            have q2 := hc3 2 (by simp)
            simp only [List.getElem_cons_zero, List.getElem_cons_succ, Nat.mul_one, Nat.add_zero] at q0 q1 q2
            clear hc3
            have qlt := lt_of_cell q0
            have z0 := hBB.cell 0; have zlt := hBB.lt; simp only [List.getElem?_toArray, List.getElem?_cons_zero] at z0
            clear hE5 hBB
            have hjt1 : (j : Int) < r.tests.length := by omega
            cases h5 : inR f.feature 0 5
            · have hto : testOk (prevOf r.tests j) f = false := by simp [testOk, h5]
              have HR7 : Hid (false = l.all ruleOk) := by have h := HR'.out; have h6 := HR6.out; rw [hto, Bool.false_and] at h6; rw [show ruleOk r = false by unfold ruleOk; rw [← h6, Bool.and_false], Bool.false_and] at h; exact h
              clear hto
              have HC5 : Hid (∀ w : World, Calls Try.prog 107 #[.int .i64 f.feature] w fun e w' => e = .returned (.bool false) ∧ w' = w) := fun w => by have h := isFeature_any f.feature w; rw [h5] at h; exact h
              clear h5
              go_wp2_with fail
              go_quiet ((go_at_call 107; exact Calls.quiet_of_same (HC5.out _)))
              go_wp2_with fail
              go_ret
              exact ⟨ret_bool (by unfold rulesOk; rw [← HR7.out]; rfl), (show Ext w _ from by have h7 := HE.out.trans HE5.out; (repeat' (first | with_reducible assumption | with_reducible exact Below.refl _ _ | (with_reducible refine Ext.alloc' ?_ _) | (with_reducible refine Ext.drew' ?_) | (with_reducible refine Ext.drewN' ?_ _) | (with_reducible refine Ext.set_ ?_ (by first | omega | (simp; done) | (simp; omega)) _ _) | (refine Ext.trans ?_ (by with_reducible assumption)))))⟩
            · cases h100 : inR f.threshold 1 1000
              · have hto : testOk (prevOf r.tests j) f = false := by simp [testOk, h100]
                have HR7 : Hid (false = l.all ruleOk) := by have h := HR'.out; have h6 := HR6.out; rw [hto, Bool.false_and] at h6; rw [show ruleOk r = false by unfold ruleOk; rw [← h6, Bool.and_false], Bool.false_and] at h; exact h
                clear hto
                have HC5 : Hid (∀ w : World, Calls Try.prog 107 #[.int .i64 f.feature] w fun e w' => e = .returned (.bool true) ∧ w' = w) := fun w => by have h := isFeature_any f.feature w; rw [h5] at h; exact h
                have HC100 : Hid (∀ w : World, Calls Try.prog 108 #[.int .i64 f.threshold] w fun e w' => e = .returned (.bool false) ∧ w' = w) := fun w => by have h := isThreshold_any f.threshold w; rw [h100] at h; exact h
                clear h5 h100
                go_wp2_with fail
                go_quiet (first | (go_at_call_of 107 (Value.int IntKind.i64 f.feature); exact Calls.quiet_of_same (HC5.out _)) | (go_at_call_of 108 (Value.int IntKind.i64 f.threshold); exact Calls.quiet_of_same (HC100.out _)))
                go_wp2_with fail
                go_ret
                exact ⟨ret_bool (by unfold rulesOk; rw [← HR7.out]; rfl), (show Ext w _ from by have h7 := HE.out.trans HE5.out; (repeat' (first | with_reducible assumption | with_reducible exact Below.refl _ _ | (with_reducible refine Ext.alloc' ?_ _) | (with_reducible refine Ext.drew' ?_) | (with_reducible refine Ext.drewN' ?_ _) | (with_reducible refine Ext.set_ ?_ (by first | omega | (simp; done) | (simp; omega)) _ _) | (refine Ext.trans ?_ (by with_reducible assumption)))))⟩
              · have HC5 : Hid (∀ w : World, Calls Try.prog 107 #[.int .i64 f.feature] w fun e w' => e = .returned (.bool true) ∧ w' = w) := fun w => by have h := isFeature_any f.feature w; rw [h5] at h; exact h
                have HC100 : Hid (∀ w : World, Calls Try.prog 108 #[.int .i64 f.threshold] w fun e w' => e = .returned (.bool true) ∧ w' = w) := fun w => by have h := isThreshold_any f.threshold w; rw [h100] at h; exact h
                rcases Nat.eq_zero_or_pos j with hj0 | hjp
                · have hto : testOk (prevOf r.tests j) f = true := by rw [hj0]; simp [testOk, h5, h100, prevOf]
                  have HR7 : Hid (testsOk (prevOf r.tests (j + 1)) (r.tests.drop (j + 1)) = testsOk none r.tests) := by have h6 := HR6.out; rw [hto, Bool.true_and] at h6; exact h6
                  clear hto
                  have hj1 : decide (0 < (j : Int)) = false := by simp; omega
                  have hj2 : decide (0 < j) = false := by simp; omega
                  clear h5 h100 hj0
                  go_wp2_with fail
                  go_quiet (first | (go_at_call_of 107 (Value.int IntKind.i64 f.feature); exact Calls.quiet_of_same (HC5.out _)) | (go_at_call_of 108 (Value.int IntKind.i64 f.threshold); exact Calls.quiet_of_same (HC100.out _)))
                  go_wp2_with fail
                  go_roundw
                  case rel => exact ⟨j + 1, by omega, by go_num, (HBB.out.ext (show Ext wr _ from by (repeat' (first | with_reducible assumption | with_reducible exact Below.refl _ _ | (with_reducible refine Ext.alloc' ?_ _) | (with_reducible refine Ext.drew' ?_) | (with_reducible refine Ext.drewN' ?_ _) | (with_reducible refine Ext.set_ ?_ (by first | omega | (simp; done) | (simp; omega)) _ _) | (refine Ext.trans ?_ (by with_reducible assumption)))))), (show Ext wo _ from by have h9 := HE5.out; (repeat' (first | with_reducible assumption | with_reducible exact Below.refl _ _ | (with_reducible refine Ext.alloc' ?_ _) | (with_reducible refine Ext.drew' ?_) | (with_reducible refine Ext.drewN' ?_ _) | (with_reducible refine Ext.set_ ?_ (by first | omega | (simp; done) | (simp; omega)) _ _) | (refine Ext.trans ?_ (by with_reducible assumption))))), HR7⟩
                  case measure => (simp [intOf] <;> omega)
                · obtain ⟨i, rfl⟩ : ∃ i, j = i + 1 := ⟨j - 1, by omega⟩
                  have hi2 : i < r.tests.length := by omega
                  obtain ⟨b4, o4, vs4, hpr, _, _, hc4, hR4⟩ := (HT.out.ext good_Test HE5.out).2 i hi2
                  simp only [Option.some.injEq, Addr.mk.injEq] at hpr
                  obtain ⟨rfl, rfl, _⟩ := hpr
                  have hpv := prevOf_succ r.tests i hi2
                  obtain ⟨g, hg⟩ : ∃ g, g = r.tests[i] := ⟨_, rfl⟩
                  rw [← hg] at hR4 hpv
                  obtain rfl := hR4
                  clear hg
                  have t0 := hc4 0 (by simp)
                  have t1 := hc4 1 (by simp)
                  have t2 := hc4 2 (by simp)
                  simp only [List.getElem_cons_zero, List.getElem_cons_succ, Nat.mul_one, Nat.add_zero] at t0 t1 t2
                  clear hc4
                  have tlt := lt_of_cell t0
                  by_cases hgf : g.feature < f.feature
                  · have hto : testOk (prevOf r.tests (i + 1)) f = true := by rw [hpv]; simp [testOk, h5, h100, hgf]
                    have HR7 : Hid (testsOk (prevOf r.tests (i + 1 + 1)) (r.tests.drop (i + 1 + 1)) = testsOk none r.tests) := by have h6 := HR6.out; rw [hto, Bool.true_and] at h6; exact h6
                    clear hto
                    clear h5 h100 hpv
                    have hge : decide (f.feature ≤ g.feature) = false := by simp; omega
                    go_wp2_with fail
                    go_quiet (first | (go_at_call_of 107 (Value.int IntKind.i64 f.feature); exact Calls.quiet_of_same (HC5.out _)) | (go_at_call_of 108 (Value.int IntKind.i64 f.threshold); exact Calls.quiet_of_same (HC100.out _)))
                    go_wp2_with fail
                    go_roundw
                    case rel => exact ⟨i + 1 + 1, by omega, by go_num, (HBB.out.ext (show Ext wr _ from by (repeat' (first | with_reducible assumption | with_reducible exact Below.refl _ _ | (with_reducible refine Ext.alloc' ?_ _) | (with_reducible refine Ext.drew' ?_) | (with_reducible refine Ext.drewN' ?_ _) | (with_reducible refine Ext.set_ ?_ (by first | omega | (simp; done) | (simp; omega)) _ _) | (refine Ext.trans ?_ (by with_reducible assumption)))))), (show Ext wo _ from by have h9 := HE5.out; (repeat' (first | with_reducible assumption | with_reducible exact Below.refl _ _ | (with_reducible refine Ext.alloc' ?_ _) | (with_reducible refine Ext.drew' ?_) | (with_reducible refine Ext.drewN' ?_ _) | (with_reducible refine Ext.set_ ?_ (by first | omega | (simp; done) | (simp; omega)) _ _) | (refine Ext.trans ?_ (by with_reducible assumption))))), HR7⟩
                    case measure => (simp [intOf] <;> omega)
                  · have hto : testOk (prevOf r.tests (i + 1)) f = false := by rw [hpv]; simp [testOk, hgf]
                    have HR7 : Hid (false = l.all ruleOk) := by have h := HR'.out; have h6 := HR6.out; rw [hto, Bool.false_and] at h6; rw [show ruleOk r = false by unfold ruleOk; rw [← h6, Bool.and_false], Bool.false_and] at h; exact h
                    clear hto
                    clear h5 h100 hpv
                    have hge : decide (f.feature ≤ g.feature) = true := by simp; omega
                    go_wp2_with fail
                    go_quiet (first | (go_at_call_of 107 (Value.int IntKind.i64 f.feature); exact Calls.quiet_of_same (HC5.out _)) | (go_at_call_of 108 (Value.int IntKind.i64 f.threshold); exact Calls.quiet_of_same (HC100.out _)))
                    go_wp2_with fail
                    go_ret
                    exact ⟨ret_bool (by unfold rulesOk; rw [← HR7.out]; rfl), (show Ext w _ from by have h7 := HE.out.trans HE5.out; (repeat' (first | with_reducible assumption | with_reducible exact Below.refl _ _ | (with_reducible refine Ext.alloc' ?_ _) | (with_reducible refine Ext.drew' ?_) | (with_reducible refine Ext.drewN' ?_ _) | (with_reducible refine Ext.set_ ?_ (by first | omega | (simp; done) | (simp; omega)) _ _) | (refine Ext.trans ?_ (by with_reducible assumption)))))⟩
          · obtain rfl : j = r.tests.length := by omega
            have hR6 : true = testsOk none r.tests := by have h := hR5.out; rw [List.drop_eq_nil_of_le (Nat.le_refl _)] at h; cases hp : prevOf r.tests r.tests.length <;> (rw [hp] at h; exact h)
            have HR7 : Hid ((l.drop (k + 1)).all ruleOk = l.all ruleOk) := by have h := HR'.out; rw [show ruleOk r = true by unfold ruleOk; rw [← hR6, HLEN.out]; rfl, Bool.true_and] at h; exact h
            clear hR5 hR6 hE5 hBB
            go_wp2_with fail
            go_roundw
            case rel => exact ⟨k + 1, by omega, by go_num, HB1.out.ext HE5.out, HE.out.trans HE5.out, HR7⟩
            case measure => (simp [intOf] <;> omega)
    · obtain rfl : k = l.length := by omega
      have HR2 : Hid (true = l.all ruleOk) := by have h := hR.out; rw [List.drop_eq_nil_of_le (Nat.le_refl _)] at h; exact h
      clear hR
      go_wp2_with fail
      refine (within_any l.length 1 3 _).mono ?_
      rintro e w9 ⟨rfl, rfl⟩
      go_wp2_with fail
      go_ret
      exact ⟨ret_bool (by unfold rulesOk; rw [← HR2.out]; rfl), HE.out⟩
end Go.Proofs.Ytdgpbgpapcldeaa
