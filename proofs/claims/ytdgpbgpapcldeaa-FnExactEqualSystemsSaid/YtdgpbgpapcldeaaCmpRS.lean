/- The reference's comparison of records. -/
import Derived.Test.YtdgpbgpapcldeaaCmpR
import Derived.Test.YtdgpbgpapcldeaaEqInts
set_option linter.unusedVariables false
set_option linter.unusedSimpArgs false
namespace Go.Proofs.Ytdgpbgpapcldeaa
open Go.RowKit Go.Er Go.BigFrame
theorem cmpI_zero (a b : Int) : cmpI a b = 0 ↔ a = b := by
  unfold cmpI; split
  · omega
  · split <;> omega

set_option maxRecDepth 100000 in
set_option maxHeartbeats 6400000 in
theorem specCompareRecords_any (x y : DRecord) (us vs : List Value) (w : World) (h1 : RecordR 0 w us x) (h2 : RecordR 0 w vs y) :
    Calls Try.prog 118 #[.agg us.toArray, .agg vs.toArray] w (ZeroE (x = y) w) := by
  obtain ⟨p0a, c0a, rfl, r0a⟩ := h1
  obtain ⟨p0b, c0b, rfl, r0b⟩ := h2
  have HRA := Lib.hid r0a; have HRB := Lib.hid r0b
  have hl : (x.fields.length : Int) ≤ 9223372036854775807 := by have := r0a.1; unfold maxLen at this; omega
  have hm : (y.fields.length : Int) ≤ 9223372036854775807 := by have := r0b.1; unfold maxLen at this; omega
  clear r0a r0b
  have HE := Lib.hid (show Ext w ((w.alloc (.cells #[.int .i64 x.source, .int .i64 x.key, .int .i64 x.version, .slice p0a x.fields.length c0a] 88)).alloc (.cells #[.int .i64 y.source, .int .i64 y.key, .int .i64 y.version, .slice p0b y.fields.length c0b] 88)) from by (repeat' (first | with_reducible assumption | with_reducible exact Below.refl _ _ | (with_reducible refine Ext.alloc' ?_ _) | (with_reducible refine Ext.drew' ?_) | (with_reducible refine Ext.drewN' ?_ _) | (with_reducible refine Ext.set_ ?_ (by first | omega | (simp; done) | (simp; omega)) _ _) | (refine Ext.trans ?_ (by with_reducible assumption)))))
  have HX : Hid (Box ((w.alloc (.cells #[.int .i64 x.source, .int .i64 x.key, .int .i64 x.version, .slice p0a x.fields.length c0a] 88)).alloc (.cells #[.int .i64 y.source, .int .i64 y.key, .int .i64 y.version, .slice p0b y.fields.length c0b] 88)) w.heap.size 88 #[.int .i64 x.source, .int .i64 x.key, .int .i64 x.version, .slice p0a x.fields.length c0a]) := Box.alloc (Box.new' _ _ _ _ rfl) _
  have HY : Hid (Box ((w.alloc (.cells #[.int .i64 x.source, .int .i64 x.key, .int .i64 x.version, .slice p0a x.fields.length c0a] 88)).alloc (.cells #[.int .i64 y.source, .int .i64 y.key, .int .i64 y.version, .slice p0b y.fields.length c0b] 88)) (w.heap.size + 1) 88 #[.int .i64 y.source, .int .i64 y.key, .int .i64 y.version, .slice p0b y.fields.length c0b]) := Box.new' _ _ _ _ (by simp)
  have z1 := cmpI_zero x.source y.source; have z2 := cmpI_zero x.key y.key; have z3 := cmpI_zero x.version y.version
  obtain ⟨n1, hn1⟩ : ∃ n, n = cmpI x.source y.source := ⟨_, rfl⟩
  obtain ⟨n2, hn2⟩ : ∃ n, n = cmpI x.key y.key := ⟨_, rfl⟩
  obtain ⟨n3, hn3⟩ : ∃ n, n = cmpI x.version y.version := ⟨_, rfl⟩
  rw [← hn1] at z1; rw [← hn2] at z2; rw [← hn3] at z3
  have C1 : Hid (∀ w : World, Calls Try.prog 102 #[.int .i64 x.source, .int .i64 y.source] w fun e w' => e = .returned (.int .i64 n1) ∧ w = w') := fun w => by rw [hn1]; exact l8Int_any _ _ w
  have C2 : Hid (∀ w : World, Calls Try.prog 102 #[.int .i64 x.key, .int .i64 y.key] w fun e w' => e = .returned (.int .i64 n2) ∧ w = w') := fun w => by rw [hn2]; exact l8Int_any _ _ w
  have C3 : Hid (∀ w : World, Calls Try.prog 102 #[.int .i64 x.version, .int .i64 y.version] w fun e w' => e = .returned (.int .i64 n3) ∧ w = w') := fun w => by rw [hn3]; exact l8Int_any _ _ w
  clear hn1 hn2 hn3
  obtain ⟨k0, HK, HW⟩ : ∃ k0 : Int, Hid (k0 = 0 ↔ (x.source = y.source ∧ x.key = y.key) ∧ x.version = y.version) ∧
      ((¬ n1 = 0 ∧ k0 = n1) ∨ (n1 = 0 ∧ ¬ n2 = 0 ∧ k0 = n2) ∨ (n1 = 0 ∧ n2 = 0 ∧ k0 = n3)) := by
    by_cases e1 : n1 = 0
    · by_cases e2 : n2 = 0
      · exact ⟨n3, (by show _ ↔ _; rw [z3]; simp [z1.1 e1, z2.1 e2]), .inr (.inr ⟨e1, e2, rfl⟩)⟩
      · exact ⟨n2, (by show _ ↔ _; rw [z2]; have hne : ¬ x.key = y.key := fun h => e2 (z2.2 h); simp [hne]), .inr (.inl ⟨e1, e2, rfl⟩)⟩
    · exact ⟨n1, (by show _ ↔ _; rw [z1]; have hne : ¬ x.source = y.source := fun h => e1 (z1.2 h); simp [hne]), .inl ⟨e1, rfl⟩⟩
  clear z1 z2 z3
  go_enter Try.func118, Try.ntmps118
  rcases HW with ⟨e1, e⟩ | ⟨e1, e2, e⟩ | ⟨e1, e2, e⟩
  · have b1 : (n1 == 0) = false := by simpa using e1
    rw [← e] at b1 C1
    clear e e1 C2 C3
    go_wp2_with fail
    refine (C1.out _).mono ?_
    rintro e w' ⟨rfl, rfl⟩
    go_wp2_with fail
    go_loopw [5, 6] (fun s5 s6 wr => ∃ (i : Nat) (k : Int), i ≤ x.fields.length ∧ i ≤ y.fields.length ∧ s6 = .int .i64 i ∧ s5 = .int .i64 k ∧ Box wr w.heap.size 88 #[.int .i64 x.source, .int .i64 x.key, .int .i64 x.version, .slice p0a x.fields.length c0a] ∧ Box wr (w.heap.size + 1) 88 #[.int .i64 y.source, .int .i64 y.key, .int .i64 y.version, .slice p0b y.fields.length c0b] ∧ Ext w wr ∧ Hid (k = 0 → x.fields.take i = y.fields.take i) ∧ Hid ((k = 0 → ((x.source = y.source ∧ x.key = y.key) ∧ x.version = y.version)) ∧ (¬ k = 0 → ¬ x = y))) (fun _ i _ => x.fields.length - (intOf i).toNat)
    case atStart => exact ⟨0, k0, Nat.zero_le _, Nat.zero_le _, rfl, rfl, HX.out, HY.out, HE.out, fun _ => rfl, HK.out.1, fun h e => h (HK.out.2 (by subst e; exact ⟨⟨rfl, rfl⟩, rfl⟩))⟩
    case round =>
      obtain ⟨i, k, hi, him, rfl, rfl, hX, hY, hE, hR1, hR2⟩ := hrel
      have HX1 := Lib.hid hX; have HY1 := Lib.hid hY; have HE1 := Lib.hid hE
      have k0 := hX.cell 0
      have k1 := hX.cell 1
      have k2 := hX.cell 2
      have k3 := hX.cell 3
      have klt := hX.lt
      simp only [List.getElem?_toArray, List.getElem?_cons_zero, List.getElem?_cons_succ] at k0 k1 k2 k3
      have m0 := hY.cell 0
      have m1 := hY.cell 1
      have m2 := hY.cell 2
      have m3 := hY.cell 3
      have mlt := hY.lt
      simp only [List.getElem?_toArray, List.getElem?_cons_zero, List.getElem?_cons_succ] at m0 m1 m2 m3
      clear hX hY hE
      by_cases hk0 : k = 0
      · subst hk0
        have HT := Lib.hid (hR1.out rfl); have HBase := Lib.hid (hR2.out.1 rfl)
        clear hR1 hR2
        by_cases hlt : i < x.fields.length
        · by_cases hmt : i < y.fields.length
          · obtain ⟨b1_, o1, vs1, rfl, _, _, hc1, hQ1⟩ := (HRA.out.ext good_str HE1.out).2 i hlt
            obtain ⟨b2_, o2, vs2, rfl, _, _, hc2, hQ2⟩ := (HRB.out.ext good_str HE1.out).2 i hmt
            obtain ⟨s, hs⟩ : ∃ s, s = x.fields[i] := ⟨_, rfl⟩
            obtain ⟨t, ht⟩ : ∃ t, t = y.fields[i] := ⟨_, rfl⟩
            have HS := Lib.hid hs; have HTT := Lib.hid ht
            rw [← hs] at hQ1
            rw [← ht] at hQ2
            obtain ⟨rfl, _⟩ := hQ1
            obtain ⟨rfl, _⟩ := hQ2
            clear hs ht
            have q0 := hc1 0 (by simp)
            simp only [List.getElem_cons_zero, List.getElem_cons_succ, Nat.mul_one, Nat.add_zero] at q0
            have t0 := hc2 0 (by simp)
            simp only [List.getElem_cons_zero, List.getElem_cons_succ, Nat.mul_one, Nat.add_zero] at t0
            clear hc1 hc2
            have hlt1 : (i : Int) < x.fields.length := by omega
            have hlt2 : (i : Int) < y.fields.length := by omega
            have HNE : Hid (¬ s = t → ¬ x = y) := fun h e => h (by rw [HS.out, HTT.out]; subst e; rfl)
            rcases str_cases s t with ⟨e1, e2, e3⟩ | ⟨e1, e2, e3⟩ | ⟨e1, e2, e3⟩
            all_goals
              have H1 := Lib.hid e1; clear e1
              go_wp2_with fail
              go_quiet (fail)
              have hE2 : Ext wr (wr.drewN nq) := (Ext.refl _).drewN' nq
              have k0' := hE2.at k0; have k1' := hE2.at k1; have k2' := hE2.at k2; have k3' := hE2.at k3; have m0' := hE2.at m0; have m1' := hE2.at m1; have m2' := hE2.at m2; have m3' := hE2.at m3; have q0' := hE2.at q0; have t0' := hE2.at t0
              have HX2 := Lib.hid (HX1.out.ext hE2); have HY2 := Lib.hid (HY1.out.ext hE2); have HE2 := Lib.hid (HE1.out.trans hE2)
              clear hE2 k0 k1 k2 k3 m0 m1 m2 m3 q0 t0 klt mlt
              generalize wr.drewN nq = wq at *
              go_wp2_with fail
              go_quiet (fail)
              go_wp2_with fail
              go_roundw
              case rel => first
                | exact ⟨i + 1, 0, by omega, by omega, by go_num, rfl, HX2.out.drewN _, HY2.out.drewN _, HE2.out.drewN' _, fun _ => take_step hlt hmt HT.out (by rw [← HS.out, ← HTT.out]; exact H1.out), fun _ => HBase.out, fun h => absurd rfl h⟩
                | exact ⟨i + 1, -1, by omega, by omega, by go_num, rfl, HX2.out.drewN _, HY2.out.drewN _, HE2.out.drewN' _, fun h => absurd h (by omega), fun h => absurd h (by omega), fun _ => HNE.out H1.out⟩
                | exact ⟨i + 1, 1, by omega, by omega, by go_num, rfl, HX2.out.drewN _, HY2.out.drewN _, HE2.out.drewN' _, fun h => absurd h (by omega), fun h => absurd h (by omega), fun _ => HNE.out H1.out⟩
              case measure => (simp [intOf] <;> omega)
          · have hml : ¬ (i : Int) < y.fields.length := by omega
            have hne : ¬ x = y := fun e => by subst e; omega
            have hcl : ¬ cmpI x.fields.length y.fields.length = 0 := fun h => by have := (cmpI_zero _ _).1 h; omega
            have HNE := Lib.hid hne; have HCL := Lib.hid hcl
            clear hne hcl
            go_wp2_with fail
            refine (l8Int_any _ _ _).mono ?_
            rintro e w' ⟨rfl, rfl⟩
            go_wp2_with fail
            go_ret
            exact (⟨_, rfl, ⟨fun h => absurd h HCL.out, fun h => absurd h HNE.out⟩, HE1.out⟩ : ZeroE (x = y) w _ _)
        · obtain hie : i = x.fields.length := by omega
          have hXL : ¬ (i : Int) < x.fields.length := by omega
          have hfin : cmpI x.fields.length y.fields.length = 0 ↔ x = y := by
            rw [cmpI_zero]
            refine ⟨fun h => (record_ext x y).1 ⟨HBase.out.1, HBase.out.2, ?_⟩, fun e => by subst e; rfl⟩
            have h2 := HT.out
            rw [hie, List.take_length, List.take_of_length_le (by omega)] at h2
            exact h2
          have HF := Lib.hid hfin
          clear hfin hie
          go_wp2_with fail
          refine (l8Int_any _ _ _).mono ?_
          rintro e w' ⟨rfl, rfl⟩
          go_wp2_with fail
          go_ret
          exact (⟨_, rfl, HF.out, HE1.out⟩ : ZeroE (x = y) w _ _)
      · have hkb : (k == 0) = false := by simpa using hk0
        have HK0 := Lib.hid hk0
        have HNE := Lib.hid (hR2.out.2 hk0)
        clear hR1 hR2 hk0
        by_cases hlt : (i : Int) < x.fields.length
        · by_cases hmt : (i : Int) < y.fields.length
          · go_wp2_with fail
            go_ret
            exact (⟨k, rfl, ⟨fun h => absurd h HK0.out, fun h => absurd h HNE.out⟩, HE1.out⟩ : ZeroE (x = y) w _ _)
          · go_wp2_with fail
            go_ret
            exact (⟨k, rfl, ⟨fun h => absurd h HK0.out, fun h => absurd h HNE.out⟩, HE1.out⟩ : ZeroE (x = y) w _ _)
        · go_wp2_with fail
          go_ret
          exact (⟨k, rfl, ⟨fun h => absurd h HK0.out, fun h => absurd h HNE.out⟩, HE1.out⟩ : ZeroE (x = y) w _ _)
  · have b1 : (n1 == 0) = true := by simpa using e1
    have b2 : (n2 == 0) = false := by simpa using e2
    rw [← e] at b2 C2
    clear e e1 e2 C3
    go_wp2_with fail
    refine (C1.out _).mono ?_
    rintro e w' ⟨rfl, rfl⟩
    go_wp2_with fail
    refine (C2.out _).mono ?_
    rintro e w' ⟨rfl, rfl⟩
    go_wp2_with fail
    go_loopw [5, 6] (fun s5 s6 wr => ∃ (i : Nat) (k : Int), i ≤ x.fields.length ∧ i ≤ y.fields.length ∧ s6 = .int .i64 i ∧ s5 = .int .i64 k ∧ Box wr w.heap.size 88 #[.int .i64 x.source, .int .i64 x.key, .int .i64 x.version, .slice p0a x.fields.length c0a] ∧ Box wr (w.heap.size + 1) 88 #[.int .i64 y.source, .int .i64 y.key, .int .i64 y.version, .slice p0b y.fields.length c0b] ∧ Ext w wr ∧ Hid (k = 0 → x.fields.take i = y.fields.take i) ∧ Hid ((k = 0 → ((x.source = y.source ∧ x.key = y.key) ∧ x.version = y.version)) ∧ (¬ k = 0 → ¬ x = y))) (fun _ i _ => x.fields.length - (intOf i).toNat)
    case atStart => exact ⟨0, k0, Nat.zero_le _, Nat.zero_le _, rfl, rfl, HX.out, HY.out, HE.out, fun _ => rfl, HK.out.1, fun h e => h (HK.out.2 (by subst e; exact ⟨⟨rfl, rfl⟩, rfl⟩))⟩
    case round =>
      obtain ⟨i, k, hi, him, rfl, rfl, hX, hY, hE, hR1, hR2⟩ := hrel
      have HX1 := Lib.hid hX; have HY1 := Lib.hid hY; have HE1 := Lib.hid hE
      have k0 := hX.cell 0
      have k1 := hX.cell 1
      have k2 := hX.cell 2
      have k3 := hX.cell 3
      have klt := hX.lt
      simp only [List.getElem?_toArray, List.getElem?_cons_zero, List.getElem?_cons_succ] at k0 k1 k2 k3
      have m0 := hY.cell 0
      have m1 := hY.cell 1
      have m2 := hY.cell 2
      have m3 := hY.cell 3
      have mlt := hY.lt
      simp only [List.getElem?_toArray, List.getElem?_cons_zero, List.getElem?_cons_succ] at m0 m1 m2 m3
      clear hX hY hE
      by_cases hk0 : k = 0
      · subst hk0
        have HT := Lib.hid (hR1.out rfl); have HBase := Lib.hid (hR2.out.1 rfl)
        clear hR1 hR2
        by_cases hlt : i < x.fields.length
        · by_cases hmt : i < y.fields.length
          · obtain ⟨b1_, o1, vs1, rfl, _, _, hc1, hQ1⟩ := (HRA.out.ext good_str HE1.out).2 i hlt
            obtain ⟨b2_, o2, vs2, rfl, _, _, hc2, hQ2⟩ := (HRB.out.ext good_str HE1.out).2 i hmt
            obtain ⟨s, hs⟩ : ∃ s, s = x.fields[i] := ⟨_, rfl⟩
            obtain ⟨t, ht⟩ : ∃ t, t = y.fields[i] := ⟨_, rfl⟩
            have HS := Lib.hid hs; have HTT := Lib.hid ht
            rw [← hs] at hQ1
            rw [← ht] at hQ2
            obtain ⟨rfl, _⟩ := hQ1
            obtain ⟨rfl, _⟩ := hQ2
            clear hs ht
            have q0 := hc1 0 (by simp)
            simp only [List.getElem_cons_zero, List.getElem_cons_succ, Nat.mul_one, Nat.add_zero] at q0
            have t0 := hc2 0 (by simp)
            simp only [List.getElem_cons_zero, List.getElem_cons_succ, Nat.mul_one, Nat.add_zero] at t0
            clear hc1 hc2
            have hlt1 : (i : Int) < x.fields.length := by omega
            have hlt2 : (i : Int) < y.fields.length := by omega
            have HNE : Hid (¬ s = t → ¬ x = y) := fun h e => h (by rw [HS.out, HTT.out]; subst e; rfl)
            rcases str_cases s t with ⟨e1, e2, e3⟩ | ⟨e1, e2, e3⟩ | ⟨e1, e2, e3⟩
            all_goals
              have H1 := Lib.hid e1; clear e1
              go_wp2_with fail
              go_quiet (fail)
              have hE2 : Ext wr (wr.drewN nq) := (Ext.refl _).drewN' nq
              have k0' := hE2.at k0; have k1' := hE2.at k1; have k2' := hE2.at k2; have k3' := hE2.at k3; have m0' := hE2.at m0; have m1' := hE2.at m1; have m2' := hE2.at m2; have m3' := hE2.at m3; have q0' := hE2.at q0; have t0' := hE2.at t0
              have HX2 := Lib.hid (HX1.out.ext hE2); have HY2 := Lib.hid (HY1.out.ext hE2); have HE2 := Lib.hid (HE1.out.trans hE2)
              clear hE2 k0 k1 k2 k3 m0 m1 m2 m3 q0 t0 klt mlt
              generalize wr.drewN nq = wq at *
              go_wp2_with fail
              go_quiet (fail)
              go_wp2_with fail
              go_roundw
              case rel => first
                | exact ⟨i + 1, 0, by omega, by omega, by go_num, rfl, HX2.out.drewN _, HY2.out.drewN _, HE2.out.drewN' _, fun _ => take_step hlt hmt HT.out (by rw [← HS.out, ← HTT.out]; exact H1.out), fun _ => HBase.out, fun h => absurd rfl h⟩
                | exact ⟨i + 1, -1, by omega, by omega, by go_num, rfl, HX2.out.drewN _, HY2.out.drewN _, HE2.out.drewN' _, fun h => absurd h (by omega), fun h => absurd h (by omega), fun _ => HNE.out H1.out⟩
                | exact ⟨i + 1, 1, by omega, by omega, by go_num, rfl, HX2.out.drewN _, HY2.out.drewN _, HE2.out.drewN' _, fun h => absurd h (by omega), fun h => absurd h (by omega), fun _ => HNE.out H1.out⟩
              case measure => (simp [intOf] <;> omega)
          · have hml : ¬ (i : Int) < y.fields.length := by omega
            have hne : ¬ x = y := fun e => by subst e; omega
            have hcl : ¬ cmpI x.fields.length y.fields.length = 0 := fun h => by have := (cmpI_zero _ _).1 h; omega
            have HNE := Lib.hid hne; have HCL := Lib.hid hcl
            clear hne hcl
            go_wp2_with fail
            refine (l8Int_any _ _ _).mono ?_
            rintro e w' ⟨rfl, rfl⟩
            go_wp2_with fail
            go_ret
            exact (⟨_, rfl, ⟨fun h => absurd h HCL.out, fun h => absurd h HNE.out⟩, HE1.out⟩ : ZeroE (x = y) w _ _)
        · obtain hie : i = x.fields.length := by omega
          have hXL : ¬ (i : Int) < x.fields.length := by omega
          have hfin : cmpI x.fields.length y.fields.length = 0 ↔ x = y := by
            rw [cmpI_zero]
            refine ⟨fun h => (record_ext x y).1 ⟨HBase.out.1, HBase.out.2, ?_⟩, fun e => by subst e; rfl⟩
            have h2 := HT.out
            rw [hie, List.take_length, List.take_of_length_le (by omega)] at h2
            exact h2
          have HF := Lib.hid hfin
          clear hfin hie
          go_wp2_with fail
          refine (l8Int_any _ _ _).mono ?_
          rintro e w' ⟨rfl, rfl⟩
          go_wp2_with fail
          go_ret
          exact (⟨_, rfl, HF.out, HE1.out⟩ : ZeroE (x = y) w _ _)
      · have hkb : (k == 0) = false := by simpa using hk0
        have HK0 := Lib.hid hk0
        have HNE := Lib.hid (hR2.out.2 hk0)
        clear hR1 hR2 hk0
        by_cases hlt : (i : Int) < x.fields.length
        · by_cases hmt : (i : Int) < y.fields.length
          · go_wp2_with fail
            go_ret
            exact (⟨k, rfl, ⟨fun h => absurd h HK0.out, fun h => absurd h HNE.out⟩, HE1.out⟩ : ZeroE (x = y) w _ _)
          · go_wp2_with fail
            go_ret
            exact (⟨k, rfl, ⟨fun h => absurd h HK0.out, fun h => absurd h HNE.out⟩, HE1.out⟩ : ZeroE (x = y) w _ _)
        · go_wp2_with fail
          go_ret
          exact (⟨k, rfl, ⟨fun h => absurd h HK0.out, fun h => absurd h HNE.out⟩, HE1.out⟩ : ZeroE (x = y) w _ _)
  · have b1 : (n1 == 0) = true := by simpa using e1
    have b2 : (n2 == 0) = true := by simpa using e2
    rw [← e] at C3
    clear e e1 e2
    go_wp2_with fail
    refine (C1.out _).mono ?_
    rintro e w' ⟨rfl, rfl⟩
    go_wp2_with fail
    refine (C2.out _).mono ?_
    rintro e w' ⟨rfl, rfl⟩
    go_wp2_with fail
    refine (C3.out _).mono ?_
    rintro e w' ⟨rfl, rfl⟩
    go_wp2_with fail
    go_loopw [5, 6] (fun s5 s6 wr => ∃ (i : Nat) (k : Int), i ≤ x.fields.length ∧ i ≤ y.fields.length ∧ s6 = .int .i64 i ∧ s5 = .int .i64 k ∧ Box wr w.heap.size 88 #[.int .i64 x.source, .int .i64 x.key, .int .i64 x.version, .slice p0a x.fields.length c0a] ∧ Box wr (w.heap.size + 1) 88 #[.int .i64 y.source, .int .i64 y.key, .int .i64 y.version, .slice p0b y.fields.length c0b] ∧ Ext w wr ∧ Hid (k = 0 → x.fields.take i = y.fields.take i) ∧ Hid ((k = 0 → ((x.source = y.source ∧ x.key = y.key) ∧ x.version = y.version)) ∧ (¬ k = 0 → ¬ x = y))) (fun _ i _ => x.fields.length - (intOf i).toNat)
    case atStart => exact ⟨0, k0, Nat.zero_le _, Nat.zero_le _, rfl, rfl, HX.out, HY.out, HE.out, fun _ => rfl, HK.out.1, fun h e => h (HK.out.2 (by subst e; exact ⟨⟨rfl, rfl⟩, rfl⟩))⟩
    case round =>
      obtain ⟨i, k, hi, him, rfl, rfl, hX, hY, hE, hR1, hR2⟩ := hrel
      have HX1 := Lib.hid hX; have HY1 := Lib.hid hY; have HE1 := Lib.hid hE
      have k0 := hX.cell 0
      have k1 := hX.cell 1
      have k2 := hX.cell 2
      have k3 := hX.cell 3
      have klt := hX.lt
      simp only [List.getElem?_toArray, List.getElem?_cons_zero, List.getElem?_cons_succ] at k0 k1 k2 k3
      have m0 := hY.cell 0
      have m1 := hY.cell 1
      have m2 := hY.cell 2
      have m3 := hY.cell 3
      have mlt := hY.lt
      simp only [List.getElem?_toArray, List.getElem?_cons_zero, List.getElem?_cons_succ] at m0 m1 m2 m3
      clear hX hY hE
      by_cases hk0 : k = 0
      · subst hk0
        have HT := Lib.hid (hR1.out rfl); have HBase := Lib.hid (hR2.out.1 rfl)
        clear hR1 hR2
        by_cases hlt : i < x.fields.length
        · by_cases hmt : i < y.fields.length
          · obtain ⟨b1_, o1, vs1, rfl, _, _, hc1, hQ1⟩ := (HRA.out.ext good_str HE1.out).2 i hlt
            obtain ⟨b2_, o2, vs2, rfl, _, _, hc2, hQ2⟩ := (HRB.out.ext good_str HE1.out).2 i hmt
            obtain ⟨s, hs⟩ : ∃ s, s = x.fields[i] := ⟨_, rfl⟩
            obtain ⟨t, ht⟩ : ∃ t, t = y.fields[i] := ⟨_, rfl⟩
            have HS := Lib.hid hs; have HTT := Lib.hid ht
            rw [← hs] at hQ1
            rw [← ht] at hQ2
            obtain ⟨rfl, _⟩ := hQ1
            obtain ⟨rfl, _⟩ := hQ2
            clear hs ht
            have q0 := hc1 0 (by simp)
            simp only [List.getElem_cons_zero, List.getElem_cons_succ, Nat.mul_one, Nat.add_zero] at q0
            have t0 := hc2 0 (by simp)
            simp only [List.getElem_cons_zero, List.getElem_cons_succ, Nat.mul_one, Nat.add_zero] at t0
            clear hc1 hc2
            have hlt1 : (i : Int) < x.fields.length := by omega
            have hlt2 : (i : Int) < y.fields.length := by omega
            have HNE : Hid (¬ s = t → ¬ x = y) := fun h e => h (by rw [HS.out, HTT.out]; subst e; rfl)
            rcases str_cases s t with ⟨e1, e2, e3⟩ | ⟨e1, e2, e3⟩ | ⟨e1, e2, e3⟩
            all_goals
              have H1 := Lib.hid e1; clear e1
              go_wp2_with fail
              go_quiet (fail)
              have hE2 : Ext wr (wr.drewN nq) := (Ext.refl _).drewN' nq
              have k0' := hE2.at k0; have k1' := hE2.at k1; have k2' := hE2.at k2; have k3' := hE2.at k3; have m0' := hE2.at m0; have m1' := hE2.at m1; have m2' := hE2.at m2; have m3' := hE2.at m3; have q0' := hE2.at q0; have t0' := hE2.at t0
              have HX2 := Lib.hid (HX1.out.ext hE2); have HY2 := Lib.hid (HY1.out.ext hE2); have HE2 := Lib.hid (HE1.out.trans hE2)
              clear hE2 k0 k1 k2 k3 m0 m1 m2 m3 q0 t0 klt mlt
              generalize wr.drewN nq = wq at *
              go_wp2_with fail
              go_quiet (fail)
              go_wp2_with fail
              go_roundw
              case rel => first
                | exact ⟨i + 1, 0, by omega, by omega, by go_num, rfl, HX2.out.drewN _, HY2.out.drewN _, HE2.out.drewN' _, fun _ => take_step hlt hmt HT.out (by rw [← HS.out, ← HTT.out]; exact H1.out), fun _ => HBase.out, fun h => absurd rfl h⟩
                | exact ⟨i + 1, -1, by omega, by omega, by go_num, rfl, HX2.out.drewN _, HY2.out.drewN _, HE2.out.drewN' _, fun h => absurd h (by omega), fun h => absurd h (by omega), fun _ => HNE.out H1.out⟩
                | exact ⟨i + 1, 1, by omega, by omega, by go_num, rfl, HX2.out.drewN _, HY2.out.drewN _, HE2.out.drewN' _, fun h => absurd h (by omega), fun h => absurd h (by omega), fun _ => HNE.out H1.out⟩
              case measure => (simp [intOf] <;> omega)
          · have hml : ¬ (i : Int) < y.fields.length := by omega
            have hne : ¬ x = y := fun e => by subst e; omega
            have hcl : ¬ cmpI x.fields.length y.fields.length = 0 := fun h => by have := (cmpI_zero _ _).1 h; omega
            have HNE := Lib.hid hne; have HCL := Lib.hid hcl
            clear hne hcl
            go_wp2_with fail
            refine (l8Int_any _ _ _).mono ?_
            rintro e w' ⟨rfl, rfl⟩
            go_wp2_with fail
            go_ret
            exact (⟨_, rfl, ⟨fun h => absurd h HCL.out, fun h => absurd h HNE.out⟩, HE1.out⟩ : ZeroE (x = y) w _ _)
        · obtain hie : i = x.fields.length := by omega
          have hXL : ¬ (i : Int) < x.fields.length := by omega
          have hfin : cmpI x.fields.length y.fields.length = 0 ↔ x = y := by
            rw [cmpI_zero]
            refine ⟨fun h => (record_ext x y).1 ⟨HBase.out.1, HBase.out.2, ?_⟩, fun e => by subst e; rfl⟩
            have h2 := HT.out
            rw [hie, List.take_length, List.take_of_length_le (by omega)] at h2
            exact h2
          have HF := Lib.hid hfin
          clear hfin hie
          go_wp2_with fail
          refine (l8Int_any _ _ _).mono ?_
          rintro e w' ⟨rfl, rfl⟩
          go_wp2_with fail
          go_ret
          exact (⟨_, rfl, HF.out, HE1.out⟩ : ZeroE (x = y) w _ _)
      · have hkb : (k == 0) = false := by simpa using hk0
        have HK0 := Lib.hid hk0
        have HNE := Lib.hid (hR2.out.2 hk0)
        clear hR1 hR2 hk0
        by_cases hlt : (i : Int) < x.fields.length
        · by_cases hmt : (i : Int) < y.fields.length
          · go_wp2_with fail
            go_ret
            exact (⟨k, rfl, ⟨fun h => absurd h HK0.out, fun h => absurd h HNE.out⟩, HE1.out⟩ : ZeroE (x = y) w _ _)
          · go_wp2_with fail
            go_ret
            exact (⟨k, rfl, ⟨fun h => absurd h HK0.out, fun h => absurd h HNE.out⟩, HE1.out⟩ : ZeroE (x = y) w _ _)
        · go_wp2_with fail
          go_ret
          exact (⟨k, rfl, ⟨fun h => absurd h HK0.out, fun h => absurd h HNE.out⟩, HE1.out⟩ : ZeroE (x = y) w _ _)
end Go.Proofs.Ytdgpbgpapcldeaa
