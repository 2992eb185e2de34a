/- The reference's equality of stores. -/
import Derived.Test.YtdgpbgpapcldeaaEqStores
set_option linter.unusedVariables false
set_option linter.unusedSimpArgs false
namespace Go.Proofs.Ytdgpbgpapcldeaa
open Go.RowKit Go.Er Go.BigFrame

set_option maxRecDepth 100000 in
set_option maxHeartbeats 6400000 in
theorem specEqualStores_any (x y : DStore) (us vs : List Value) (w : World) (h1 : StoreR 0 w us x) (h2 : StoreR 0 w vs y) :
    Calls Try.prog 75 #[.agg us.toArray, .agg vs.toArray] w fun e w' => e = .returned (.bool (same x y)) ∧ Ext w w' := by
  obtain ⟨p0a, c0a, p1a, c1a, rfl, r0a, r1a⟩ := h1
  obtain ⟨p0b, c0b, p1b, c1b, rfl, r0b, r1b⟩ := h2
  have hl1 : (x.records.length : Int) ≤ 9223372036854775807 := by have := r0a.1; unfold maxLen at this; omega
  have hl2 : (y.records.length : Int) ≤ 9223372036854775807 := by have := r0b.1; unfold maxLen at this; omega
  have hl3 : (x.verdicts.length : Int) ≤ 9223372036854775807 := by have := r1a.1; unfold maxLen at this; omega
  have hl4 : (y.verdicts.length : Int) ≤ 9223372036854775807 := by have := r1b.1; unfold maxLen at this; omega
  have A0 := Lib.hid r0a; have A1 := Lib.hid r1a; have B0 := Lib.hid r0b; have B1 := Lib.hid r1b
  clear r0a r1a r0b r1b
  have HX : Hid (Box ((w.alloc (.cells #[.int .i64 x.version, .slice p0a x.records.length c0a, .slice p1a x.verdicts.length c1a] 69)).alloc (.cells #[.int .i64 y.version, .slice p0b y.records.length c0b, .slice p1b y.verdicts.length c1b] 69)) w.heap.size 69 #[.int .i64 x.version, .slice p0a x.records.length c0a, .slice p1a x.verdicts.length c1a]) := Box.alloc (Box.new' _ _ _ _ rfl) _
  have HY : Hid (Box ((w.alloc (.cells #[.int .i64 x.version, .slice p0a x.records.length c0a, .slice p1a x.verdicts.length c1a] 69)).alloc (.cells #[.int .i64 y.version, .slice p0b y.records.length c0b, .slice p1b y.verdicts.length c1b] 69)) (w.heap.size + 1) 69 #[.int .i64 y.version, .slice p0b y.records.length c0b, .slice p1b y.verdicts.length c1b]) := Box.new' _ _ _ _ (by simp)
  have HE := Lib.hid (show Ext w ((w.alloc (.cells #[.int .i64 x.version, .slice p0a x.records.length c0a, .slice p1a x.verdicts.length c1a] 69)).alloc (.cells #[.int .i64 y.version, .slice p0b y.records.length c0b, .slice p1b y.verdicts.length c1b] 69)) from by (repeat' (first | with_reducible assumption | with_reducible exact Below.refl _ _ | (with_reducible refine Ext.alloc' ?_ _) | (with_reducible refine Ext.drew' ?_) | (with_reducible refine Ext.drewN' ?_ _) | (with_reducible refine Ext.set_ ?_ (by first | omega | (simp; done) | (simp; omega)) _ _) | (refine Ext.trans ?_ (by with_reducible assumption)))))
  by_cases hv : x.version = y.version
  · have hvb : (x.version != y.version) = false := by simpa using hv
    have HV := Lib.hid hv; clear hv
    by_cases hr : x.records.length = y.records.length
    · have hrb : ((x.records.length : Int) != y.records.length) = false := by simp [hr]
      have HRL := Lib.hid hr; clear hr
      by_cases hd : x.verdicts.length = y.verdicts.length
      · have hdb : ((x.verdicts.length : Int) != y.verdicts.length) = false := by simp [hd]
        have HDL := Lib.hid hd; clear hd
        go_enter Try.func75, Try.ntmps75
        go_wp2_with fail
        clear hvb hrb hdb
        go_loopw [5] (fun s5 wr => ∃ k : Nat, k ≤ x.records.length ∧ s5 = .int .i64 k ∧ Box wr w.heap.size 69 #[.int .i64 x.version, .slice p0a x.records.length c0a, .slice p1a x.verdicts.length c1a] ∧ Box wr (w.heap.size + 1) 69 #[.int .i64 y.version, .slice p0b y.records.length c0b, .slice p1b y.verdicts.length c1b] ∧ Ext w wr ∧ Hid (x.records.take k = y.records.take k)) (fun i _ => x.records.length - (intOf i).toNat)
        case atStart => exact ⟨0, Nat.zero_le _, rfl, HX.out, HY.out, HE.out, rfl⟩
        case round =>
          obtain ⟨k, hk, rfl, hX, hY, hE, hR⟩ := hrel
          have HX1 := Lib.hid hX; have HY1 := Lib.hid hY; have HE1 := Lib.hid hE
          have k0 := hX.cell 0
          have k1 := hX.cell 1
          have k2 := hX.cell 2
          have klt := hX.lt
          simp only [List.getElem?_toArray, List.getElem?_cons_zero, List.getElem?_cons_succ] at k0 k1 k2
          have m0 := hY.cell 0
          have m1 := hY.cell 1
          have m2 := hY.cell 2
          have mlt := hY.lt
          simp only [List.getElem?_toArray, List.getElem?_cons_zero, List.getElem?_cons_succ] at m0 m1 m2
          clear hX hY hE
          by_cases hlt : k < x.records.length
          · have hkm : k < y.records.length := by have := HRL.out; omega
            obtain ⟨b1, o1, vs1, rfl, _, _, hc1, hR1⟩ := (A0.out.ext good_Record HE1.out).2 k hlt
            obtain ⟨b2, o2, vs2, rfl, _, _, hc2, hR2⟩ := (B0.out.ext good_Record HE1.out).2 k hkm
            obtain ⟨r, hr⟩ : ∃ r, r = x.records[k] := ⟨_, rfl⟩
            obtain ⟨s, hs⟩ : ∃ s, s = y.records[k] := ⟨_, rfl⟩
            have HXX := Lib.hid hr; have HYY := Lib.hid hs
            rw [← hr] at hR1
            rw [← hs] at hR2
            clear hr hs
            obtain ⟨p0c, c0c, rfl, r0c⟩ := hR1
            obtain ⟨p0d, c0d, rfl, r0d⟩ := hR2
            have HR1 : Hid (RecordR 0 wr [.int .i64 r.source, .int .i64 r.key, .int .i64 r.version, .slice p0c r.fields.length c0c] r) := ⟨p0c, c0c, rfl, r0c⟩
            have HR2 : Hid (RecordR 0 wr [.int .i64 s.source, .int .i64 s.key, .int .i64 s.version, .slice p0d s.fields.length c0d] s) := ⟨p0d, c0d, rfl, r0d⟩
            clear r0c r0d
            have q0 := hc1 0 (by simp)
            have q1 := hc1 1 (by simp)
            have q2 := hc1 2 (by simp)
            have q3 := hc1 3 (by simp)
            simp only [List.getElem_cons_zero, List.getElem_cons_succ, Nat.mul_one, Nat.add_zero] at q0 q1 q2 q3
            have t0 := hc2 0 (by simp)
            have t1 := hc2 1 (by simp)
            have t2 := hc2 2 (by simp)
            have t3 := hc2 3 (by simp)
            simp only [List.getElem_cons_zero, List.getElem_cons_succ, Nat.mul_one, Nat.add_zero] at t0 t1 t2 t3
            clear hc1 hc2
            have hlt1 : (k : Int) < x.records.length := by omega
            have hlt2 : (k : Int) < y.records.length := by omega
            go_wp2_with fail
            go_region_held3 (fun w' => w'.cell? ⟨w.heap.size, 0, none⟩ = some (.int .i64 x.version) ∧ w'.cell? ⟨w.heap.size, 1, none⟩ = some (.slice (some ⟨b1, o1, none⟩) x.records.length c0a) ∧ w'.cell? ⟨w.heap.size, 2, none⟩ = some (.slice p1a x.verdicts.length c1a) ∧ w'.cell? ⟨w.heap.size + 1, 0, none⟩ = some (.int .i64 y.version) ∧ w'.cell? ⟨w.heap.size + 1, 1, none⟩ = some (.slice (some ⟨b2, o2, none⟩) y.records.length c0b) ∧ w'.cell? ⟨w.heap.size + 1, 2, none⟩ = some (.slice p1b y.verdicts.length c1b) ∧ w'.cell? ⟨b1, o1 + k * 4, none⟩ = some (.int .i64 r.source) ∧ w'.cell? ⟨b1, o1 + k * 4 + 1, none⟩ = some (.int .i64 r.key) ∧ w'.cell? ⟨b1, o1 + k * 4 + 2, none⟩ = some (.int .i64 r.version) ∧ w'.cell? ⟨b1, o1 + k * 4 + 3, none⟩ = some (.slice p0c r.fields.length c0c) ∧ w'.cell? ⟨b2, o2 + k * 4, none⟩ = some (.int .i64 s.source) ∧ w'.cell? ⟨b2, o2 + k * 4 + 1, none⟩ = some (.int .i64 s.key) ∧ w'.cell? ⟨b2, o2 + k * 4 + 2, none⟩ = some (.int .i64 s.version) ∧ w'.cell? ⟨b2, o2 + k * 4 + 3, none⟩ = some (.slice p0d s.fields.length c0d)) (go_keep)
              (first
                | (go_at_call 118; refine (specCompareRecords_any r s [.int .i64 r.source, .int .i64 r.key, .int .i64 r.version, .slice p0c r.fields.length c0c] [.int .i64 s.source, .int .i64 s.key, .int .i64 s.version, .slice p0d s.fields.length c0d] _ (good_Record.ext HR1.out (by (repeat' (first | with_reducible assumption | with_reducible exact Below.refl _ _ | (with_reducible refine Ext.alloc' ?_ _) | (with_reducible refine Ext.drew' ?_) | (with_reducible refine Ext.drewN' ?_ _) | (with_reducible refine Ext.set_ ?_ (by first | omega | (simp; done) | (simp; omega)) _ _) | (refine Ext.trans ?_ (by with_reducible assumption)))))) (good_Record.ext HR2.out (by (repeat' (first | with_reducible assumption | with_reducible exact Below.refl _ _ | (with_reducible refine Ext.alloc' ?_ _) | (with_reducible refine Ext.drew' ?_) | (with_reducible refine Ext.drewN' ?_ _) | (with_reducible refine Ext.set_ ?_ (by first | omega | (simp; done) | (simp; omega)) _ _) | (refine Ext.trans ?_ (by with_reducible assumption))))))).mono ?_; rintro e w2 ⟨n, rfl, hn, hE2⟩
                   have HN := Lib.hid hn
                   have hF2 : Ext wr w2 := (show Ext wr w2 from by have h9 := hE2; (repeat' (first | with_reducible assumption | with_reducible exact Below.refl _ _ | (with_reducible refine Ext.alloc' ?_ _) | (with_reducible refine Ext.drew' ?_) | (with_reducible refine Ext.drewN' ?_ _) | (with_reducible refine Ext.set_ ?_ (by first | omega | (simp; done) | (simp; omega)) _ _) | (refine Ext.trans ?_ (by with_reducible assumption)))))
                   have HF2 := Lib.hid hF2
                   have k0' := hF2.at k0; have k1' := hF2.at k1; have k2' := hF2.at k2; have m0' := hF2.at m0; have m1' := hF2.at m1; have m2' := hF2.at m2; have q0' := hF2.at q0; have q1' := hF2.at q1; have q2' := hF2.at q2; have q3' := hF2.at q3; have t0' := hF2.at t0; have t1' := hF2.at t1; have t2' := hF2.at t2; have t3' := hF2.at t3
                   clear hn hE2 hF2 k0 k1 k2 m0 m1 m2 q0 q1 q2 q3 t0 t1 t2 t3 klt mlt))
            clear k0' k1' k2' m0' m1' m2' q0' q1' q2' q3' t0' t1' t2' t3'
            by_cases h0 : n = 0
            · have hnb : (n != 0) = false := by simp [h0]
              have HXY := Lib.hid (HN.out.1 h0)
              clear h0
              go_wp2_with fail
              go_roundw
              case rel => exact ⟨k + 1, by omega, by go_num, HX1.out.ext HF2.out, HY1.out.ext HF2.out, HE1.out.trans HF2.out, take_step hlt hkm hR.out (by rw [← HXX.out, ← HYY.out]; exact HXY.out)⟩
              case measure => (simp [intOf] <;> omega)
            · have hnb : (n != 0) = true := by simpa using h0
              have HXY := Lib.hid (show ¬ x.records = y.records from fun e => by
                have h3 := not_same hlt hkm (by rw [← HXX.out, ← HYY.out]; exact fun e => h0 (HN.out.2 e))
                rw [(same_iff _ _).2 e] at h3; cases h3)
              clear h0
              go_wp2_with fail
              go_ret
              exact ⟨ret_bool (same_eq x y false (by rw [← store_ext]; simp [HXY.out])), HE1.out.trans HF2.out⟩
          · obtain hkl : k = x.records.length := by omega
            have hge : ¬ (k : Int) < x.records.length := by omega
            have HREC := Lib.hid ((same_iff x.records y.records).1 (yes_same hR.out hkl HRL.out).symm)
            clear hR hkl
            go_wp2_with fail
            clear hge k0 k1 k2 klt m0 m1 m2 mlt
            obtain ⟨wo, hwo, HW⟩ : ∃ wo : World, wo = wr ∧ Hid (Ext wo wr) := ⟨wr, rfl, Lib.hid (Ext.refl _)⟩
            rw [← hwo] at HX1 HY1 HE1
            clear hwo
            go_loopw [6] (fun s6 wr => ∃ j : Nat, j ≤ x.verdicts.length ∧ s6 = .int .i64 j ∧ Ext wo wr ∧ Hid (x.verdicts.take j = y.verdicts.take j)) (fun i _ => x.verdicts.length - (intOf i).toNat)
            case atStart => exact ⟨0, Nat.zero_le _, rfl, HW.out, rfl⟩
            case round =>
              obtain ⟨j, hj, rfl, hE, hR⟩ := hrel
              have HE5 := Lib.hid hE
              have hX := HX1.out.ext hE; have hY := HY1.out.ext hE
              have k0 := hX.cell 0
              have k1 := hX.cell 1
              have k2 := hX.cell 2
              have klt := hX.lt
              simp only [List.getElem?_toArray, List.getElem?_cons_zero, List.getElem?_cons_succ] at k0 k1 k2
              have m0 := hY.cell 0
              have m1 := hY.cell 1
              have m2 := hY.cell 2
              have mlt := hY.lt
              simp only [List.getElem?_toArray, List.getElem?_cons_zero, List.getElem?_cons_succ] at m0 m1 m2
              clear hX hY hE
              by_cases hjt : j < x.verdicts.length
              · have hjm : j < y.verdicts.length := by have := HDL.out; omega
                obtain ⟨b3, o3, vs3, rfl, _, _, hc3, hR3⟩ := (A1.out.ext good_Verdict (HE1.out.trans HE5.out)).2 j hjt
                obtain ⟨b4, o4, vs4, rfl, _, _, hc4, hR4⟩ := (B1.out.ext good_Verdict (HE1.out.trans HE5.out)).2 j hjm
                obtain ⟨f, hf⟩ : ∃ f, f = x.verdicts[j] := ⟨_, rfl⟩
                obtain ⟨g, hg⟩ : ∃ g, g = y.verdicts[j] := ⟨_, rfl⟩
                have HXX := Lib.hid hf; have HYY := Lib.hid hg
                rw [← hf] at hR3
                rw [← hg] at hR4
                clear hf hg
                obtain rfl := hR3
                obtain rfl := hR4
                have q0 := hc3 0 (by simp)
                have q1 := hc3 1 (by simp)
                have q2 := hc3 2 (by simp)
                have q3 := hc3 3 (by simp)
                simp only [List.getElem_cons_zero, List.getElem_cons_succ, Nat.mul_one, Nat.add_zero] at q0 q1 q2 q3
                have t0 := hc4 0 (by simp)
                have t1 := hc4 1 (by simp)
                have t2 := hc4 2 (by simp)
                have t3 := hc4 3 (by simp)
                simp only [List.getElem_cons_zero, List.getElem_cons_succ, Nat.mul_one, Nat.add_zero] at t0 t1 t2 t3
                clear hc3 hc4
                have hjt1 : (j : Int) < x.verdicts.length := by omega
                have hjt2 : (j : Int) < y.verdicts.length := by omega
                rcases ver_cases f g with ⟨hsm, e1, e2, e3, e4⟩ | ⟨hsm, e1 | ⟨e1, e2⟩ | ⟨e1, e2, e3⟩ | ⟨e1, e2, e3, e4⟩⟩
                · have HS := Lib.hid hsm; clear hsm
                  go_wp2_with fail
                  go_quiet (fail)
                  go_wp2_with fail
                  go_roundw
                  case rel => exact ⟨j + 1, by omega, by go_num, HE5.out.drewN' _, take_step hjt hjm hR.out (by rw [← HXX.out, ← HYY.out]; exact HS.out)⟩
                  case measure => (simp [intOf] <;> omega)
                all_goals
                  have HS := Lib.hid hsm; clear hsm
                  have HXY := Lib.hid (show ¬ x.verdicts = y.verdicts from fun e => by
                    have h3 := not_same hjt hjm (by rw [← HXX.out, ← HYY.out]; exact HS.out)
                    rw [(same_iff _ _).2 e] at h3; cases h3)
                  go_wp2_with fail
                  go_quiet (fail)
                  go_wp2_with fail
                  go_ret
                  exact ⟨ret_bool (same_eq x y false (by rw [← store_ext]; simp [HXY.out])), (HE1.out.trans HE5.out).drewN' _⟩
              · obtain hjl : j = x.verdicts.length := by omega
                have hge : ¬ (j : Int) < x.verdicts.length := by omega
                have HVER := Lib.hid ((same_iff x.verdicts y.verdicts).1 (yes_same hR.out hjl HDL.out).symm)
                clear hR hjl
                go_wp2_with fail
                go_ret
                exact ⟨ret_bool (same_eq x y true (by rw [← store_ext]; simp [HV.out, HREC.out, HVER.out])), HE1.out.trans HE5.out⟩
      · have hdb : ((x.verdicts.length : Int) != y.verdicts.length) = true := by simp; omega
        have HDL := Lib.hid (show ¬ x.verdicts = y.verdicts from fun e => hd (by rw [e]))
        clear hd
        go_enter Try.func75, Try.ntmps75
        go_wp2_with fail
        go_ret
        exact ⟨ret_bool (same_eq x y false (by rw [← store_ext]; simp [HDL.out])), HE.out⟩
    · have hrb : ((x.records.length : Int) != y.records.length) = true := by simp; omega
      have HDL := Lib.hid (show ¬ x.records = y.records from fun e => hr (by rw [e]))
      clear hr
      go_enter Try.func75, Try.ntmps75
      go_wp2_with fail
      go_ret
      exact ⟨ret_bool (same_eq x y false (by rw [← store_ext]; simp [HDL.out])), HE.out⟩
  · have hvb : (x.version != y.version) = true := by simpa using hv
    have HDL := Lib.hid hv
    clear hv
    go_enter Try.func75, Try.ntmps75
    go_wp2_with fail
    go_ret
    exact ⟨ret_bool (same_eq x y false (by rw [← store_ext]; simp [HDL.out])), HE.out⟩
end Go.Proofs.Ytdgpbgpapcldeaa
