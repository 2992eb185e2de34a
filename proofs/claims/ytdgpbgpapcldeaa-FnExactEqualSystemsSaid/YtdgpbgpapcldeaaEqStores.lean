/- Equality of verdict lists, stores, entities: the program's and the reference's. -/
import Derived.Test.YtdgpbgpapcldeaaEqStore
import Derived.Deep.RegionHeld3
set_option linter.unusedVariables false
set_option linter.unusedSimpArgs false
namespace Go.Proofs.Ytdgpbgpapcldeaa
open Go.RowKit Go.Er Go.BigFrame

theorem verdict_ext (x y : DVerdict) : (x.a = y.a ∧ x.b = y.b ∧ x.same = y.same ∧ x.time = y.time) ↔ x = y := by cases x; cases y; simp
theorem ver_cases (x y : DVerdict) : (x = y ∧ x.a = y.a ∧ x.b = y.b ∧ x.same = y.same ∧ x.time = y.time) ∨
    (¬ x = y ∧ (¬ x.a = y.a ∨ x.a = y.a ∧ ¬ x.b = y.b ∨ x.a = y.a ∧ x.b = y.b ∧ ¬ x.same = y.same ∨ x.a = y.a ∧ x.b = y.b ∧ x.same = y.same ∧ ¬ x.time = y.time)) := by
  rw [← verdict_ext]
  by_cases h1 : x.a = y.a <;> by_cases h2 : x.b = y.b <;> by_cases h3 : x.same = y.same <;> by_cases h4 : x.time = y.time <;> simp [h1, h2, h3, h4]
theorem not_same {α : Type} {l m : List α} {k : Nat} (h1 : k < l.length) (h2 : k < m.length) (h : ¬ l[k] = m[k]) : false = same l m := by
  have h3 : ¬ l = m := fun e => h (by subst e; rfl)
  simp [same, h3]
theorem not_same_len {α : Type} {l m : List α} (h : ¬ l.length = m.length) : false = same l m := by
  have h3 : ¬ l = m := fun e => h (by rw [e])
  simp [same, h3]
theorem yes_same {α : Type} {l m : List α} {k : Nat} (h : l.take k = m.take k) (h1 : k = l.length) (h2 : l.length = m.length) : true = same l m := by
  rw [h1, List.take_length, List.take_of_length_le (by omega)] at h
  simp [same, h]

set_option maxHeartbeats 1600000 in
theorem equalVerdicts_any (l m : List DVerdict) (a1 a2 : Option Addr) (c1 c2 : Nat) (w : World) (h1 : RowR 4 VerdictR 0 w a1 l) (h2 : RowR 4 VerdictR 0 w a2 m) :
    Calls Try.prog 82 #[.slice a1 l.length c1, .slice a2 m.length c2] w fun e w' => e = .returned (.bool (same l m)) ∧ Ext w w' := by
  have hl : (l.length : Int) ≤ 9223372036854775807 := by have := h1.1; unfold maxLen at this; omega
  have hm : (m.length : Int) ≤ 9223372036854775807 := by have := h2.1; unfold maxLen at this; omega
  have HA := Lib.hid h1; have HB := Lib.hid h2; clear h1 h2
  by_cases hlen : l.length = m.length
  · have Hlen := Lib.hid hlen
    have htest : ((l.length : Int) != m.length) = false := by simp [hlen]
    clear hlen
    go_enter Try.func82, Try.ntmps82
    go_wp2_with fail
    clear htest
    go_loopw [13] (fun s5 wr => ∃ k : Nat, k ≤ l.length ∧ s5 = .int .i64 k ∧ Ext w wr ∧ Hid (l.take k = m.take k)) (fun i _ => l.length - (intOf i).toNat)
    case atStart => exact ⟨0, Nat.zero_le _, rfl, Ext.refl _, rfl⟩
    case round =>
      obtain ⟨k, hk, rfl, hE, hR⟩ := hrel
      have HE := Lib.hid hE; clear hE
      by_cases hlt : k < l.length
      · have hkm : k < m.length := by have := Hlen.out; omega
        obtain ⟨b1, o1, vs1, rfl, _, _, hc1, hR1⟩ := (HA.out.ext good_Verdict HE.out).2 k hlt
        obtain ⟨b2, o2, vs2, rfl, _, _, hc2, hR2⟩ := (HB.out.ext good_Verdict HE.out).2 k hkm
        obtain ⟨x, hx⟩ : ∃ x, x = l[k] := ⟨_, rfl⟩
        obtain ⟨y, hy⟩ : ∃ y, y = m[k] := ⟨_, rfl⟩
        have HXX := Lib.hid hx; have HYY := Lib.hid hy
        rw [← hx] at hR1
        rw [← hy] at hR2
        clear hx hy
        obtain rfl := hR1
        obtain rfl := hR2
        have q0 := hc1 0 (by simp)
        have q1 := hc1 1 (by simp)
        have q2 := hc1 2 (by simp)
        have q3 := hc1 3 (by simp)
        simp only [List.getElem_cons_zero, List.getElem_cons_succ, Nat.mul_one, Nat.add_zero] at q0 q1 q2 q3
        have t0 := hc2 0 (by simp)
        have t1 := hc2 1 (by simp)
        have t2 := hc2 2 (by simp)
        have t3 := hc2 3 (by simp)
        simp only [List.getElem_cons_zero, List.getElem_cons_succ, Nat.mul_one, Nat.add_zero] at t0 t1 t2 t3
        clear hc1 hc2
        have hlt1 : (k : Int) < l.length := by omega
        have hlt2 : (k : Int) < m.length := by omega
        rcases ver_cases x y with ⟨hsm, e1, e2, e3, e4⟩ | ⟨hsm, e1 | ⟨e1, e2⟩ | ⟨e1, e2, e3⟩ | ⟨e1, e2, e3, e4⟩⟩
        · have HS := Lib.hid hsm; clear hsm
          go_wp2_with fail
          go_quiet (fail)
          go_wp2_with fail
          go_roundw
          case rel => exact ⟨k + 1, by omega, by go_num, HE.out.drewN' _, take_step hlt hkm hR.out (by rw [← HXX.out, ← HYY.out]; exact HS.out)⟩
          case measure => (simp [intOf] <;> omega)
        all_goals
          have HS := Lib.hid hsm; clear hsm
          go_wp2_with fail
          go_quiet (fail)
          go_wp2_with fail
          go_ret
          exact ⟨ret_bool (not_same hlt hkm (by rw [← HXX.out, ← HYY.out]; exact HS.out)), HE.out.drewN' _⟩
      · obtain hkl : k = l.length := by omega
        have hge : ¬ (k : Int) < l.length := by omega
        have HKL := Lib.hid hkl; clear hkl
        go_wp2_with fail
        go_ret
        exact ⟨ret_bool (yes_same hR.out HKL.out Hlen.out), HE.out⟩
  · have htest : ((l.length : Int) != m.length) = true := by simp; omega
    have hf := Lib.hid (not_same_len hlen)
    go_enter Try.func82, Try.ntmps82
    go_wp2_with fail
    go_ret
    exact ⟨ret_bool hf.out, Ext.refl _⟩

theorem store_ext (x y : DStore) : (x.version = y.version ∧ x.records = y.records ∧ x.verdicts = y.verdicts) ↔ x = y := by cases x; cases y; simp

set_option maxHeartbeats 1600000 in
theorem implEqualStores_any (x y : DStore) (us vs : List Value) (w : World) (h1 : StoreR 0 w us x) (h2 : StoreR 0 w vs y) :
    Calls Try.prog 80 #[.agg us.toArray, .agg vs.toArray] w fun e w' => e = .returned (.bool (same x y)) ∧ Ext w w' := by
  obtain ⟨p0a, c0a, p1a, c1a, rfl, r0a, r1a⟩ := h1
  obtain ⟨p0b, c0b, p1b, c1b, rfl, r0b, r1b⟩ := h2
  have A0 := Lib.hid r0a; have A1 := Lib.hid r1a; have B0 := Lib.hid r0b; have B1 := Lib.hid r1b
  clear r0a r1a r0b r1b
  by_cases hv : x.version = y.version
  · obtain ⟨cA, hA⟩ : ∃ q, q = same x.records y.records := ⟨_, rfl⟩
    obtain ⟨cB, hB⟩ : ∃ q, q = same x.verdicts y.verdicts := ⟨_, rfl⟩
    have HCC := Lib.hid (same_eq x y (cA && cB) (by rw [hA, hB, Bool.and_eq_true, same_iff, same_iff, ← store_ext]; simp [hv]))
    have HA := Lib.hid hA; have HB := Lib.hid hB
    have hvb : (x.version == y.version) = true := by simpa using hv
    clear hA hB hv
    go_enter Try.func80, Try.ntmps80
    go_wp2_with fail
    refine (equalFuncRecord_any 122 canCallRecs x.records y.records (fun x y us vs w _ _ h1 h2 => equalRecords_any x y us vs w h1 h2) p0a p0b c0a c0b _ (A0.out.ext good_Record (by (repeat' (first | with_reducible assumption | with_reducible exact Below.refl _ _ | (with_reducible refine Ext.alloc' ?_ _) | (with_reducible refine Ext.drew' ?_) | (with_reducible refine Ext.drewN' ?_ _) | (with_reducible refine Ext.set_ ?_ (by first | omega | (simp; done) | (simp; omega)) _ _) | (refine Ext.trans ?_ (by with_reducible assumption)))))) (B0.out.ext good_Record (by (repeat' (first | with_reducible assumption | with_reducible exact Below.refl _ _ | (with_reducible refine Ext.alloc' ?_ _) | (with_reducible refine Ext.drew' ?_) | (with_reducible refine Ext.drewN' ?_ _) | (with_reducible refine Ext.set_ ?_ (by first | omega | (simp; done) | (simp; omega)) _ _) | (refine Ext.trans ?_ (by with_reducible assumption))))))).mono ?_
    rintro e w1 ⟨rfl, hE1⟩
    rw [← HA.out]
    have HX : Hid (Box w1 w.heap.size 69 #[.int .i64 x.version, .slice p0a x.records.length c0a, .slice p1a x.verdicts.length c1a]) := (Box.alloc (Box.new' _ _ _ _ rfl) _).ext hE1
    have HY : Hid (Box w1 (w.heap.size + 1) 69 #[.int .i64 y.version, .slice p0b y.records.length c0b, .slice p1b y.verdicts.length c1b]) := (Box.new' _ _ _ _ (by simp)).ext hE1
    have HE1 := Lib.hid (show Ext w w1 from by (repeat' (first | with_reducible assumption | with_reducible exact Below.refl _ _ | (with_reducible refine Ext.alloc' ?_ _) | (with_reducible refine Ext.drew' ?_) | (with_reducible refine Ext.drewN' ?_ _) | (with_reducible refine Ext.set_ ?_ (by first | omega | (simp; done) | (simp; omega)) _ _) | (refine Ext.trans ?_ (by with_reducible assumption)))))
    clear hE1
    cases cA
    · go_wp2_with fail
      go_ret
      exact ⟨ret_bool (by rw [← HCC.out]; rfl), HE1.out⟩
    · have bx := HX.out; have bY := HY.out
      have k0 := bx.cell 0
      have k1 := bx.cell 1
      have k2 := bx.cell 2
      have klt := bx.lt
      simp only [List.getElem?_toArray, List.getElem?_cons_zero, List.getElem?_cons_succ] at k0 k1 k2
      have m0 := bY.cell 0
      have m1 := bY.cell 1
      have m2 := bY.cell 2
      have mlt := bY.lt
      simp only [List.getElem?_toArray, List.getElem?_cons_zero, List.getElem?_cons_succ] at m0 m1 m2
      clear bx bY
      go_wp2_with fail
      refine (equalVerdicts_any x.verdicts y.verdicts p1a p1b c1a c1b _ (A1.out.ext good_Verdict (by have h8 := HE1.out; (repeat' (first | with_reducible assumption | with_reducible exact Below.refl _ _ | (with_reducible refine Ext.alloc' ?_ _) | (with_reducible refine Ext.drew' ?_) | (with_reducible refine Ext.drewN' ?_ _) | (with_reducible refine Ext.set_ ?_ (by first | omega | (simp; done) | (simp; omega)) _ _) | (refine Ext.trans ?_ (by with_reducible assumption)))))) (B1.out.ext good_Verdict (by have h8 := HE1.out; (repeat' (first | with_reducible assumption | with_reducible exact Below.refl _ _ | (with_reducible refine Ext.alloc' ?_ _) | (with_reducible refine Ext.drew' ?_) | (with_reducible refine Ext.drewN' ?_ _) | (with_reducible refine Ext.set_ ?_ (by first | omega | (simp; done) | (simp; omega)) _ _) | (refine Ext.trans ?_ (by with_reducible assumption))))))).mono ?_
      rintro e w2 ⟨rfl, hE2⟩
      rw [← HB.out]
      have HE2 := Lib.hid (HE1.out.trans hE2)
      clear hE2 k0 k1 k2 klt m0 m1 m2 mlt
      go_wp2_with fail
      go_ret
      exact ⟨ret_bool (by rw [← HCC.out]; simp), HE2.out⟩
  · have HCC := Lib.hid (same_eq x y false (by rw [← store_ext]; simp [hv]))
    go_enter Try.func80, Try.ntmps80
    go_wp2_with fail
    go_ret
    exact ⟨ret_bool HCC.out, by (repeat' (first | with_reducible assumption | with_reducible exact Below.refl _ _ | (with_reducible refine Ext.alloc' ?_ _) | (with_reducible refine Ext.drew' ?_) | (with_reducible refine Ext.drewN' ?_ _) | (with_reducible refine Ext.set_ ?_ (by first | omega | (simp; done) | (simp; omega)) _ _) | (refine Ext.trans ?_ (by with_reducible assumption))))⟩

set_option maxRecDepth 100000 in
set_option maxHeartbeats 3200000 in
theorem specEqualEntities_any (l m : List DEntity) (hsl : SmallL SmallEntity l) (hsm_ : SmallL SmallEntity m) (a1 a2 : Option Addr) (c1 c2 : Nat) (w : World) (h1 : RowR 2 EntityR 0 w a1 l) (h2 : RowR 2 EntityR 0 w a2 m) :
    Calls Try.prog 76 #[.slice a1 l.length c1, .slice a2 m.length c2] w fun e w' => e = .returned (.bool (same l m)) ∧ Ext w w' := by
  have hl : (l.length : Int) ≤ 9223372036854775807 := by have := h1.1; unfold maxLen at this; omega
  have hm : (m.length : Int) ≤ 9223372036854775807 := by have := h2.1; unfold maxLen at this; omega
  have HA := Lib.hid h1; have HB := Lib.hid h2; have HSL := Lib.hid hsl.2; have HSM := Lib.hid hsm_.2; clear h1 h2 hsl hsm_
  by_cases hlen : l.length = m.length
  · have Hlen := Lib.hid hlen
    have htest : ((l.length : Int) != m.length) = false := by simp [hlen]
    clear hlen
    go_enter Try.func76, Try.ntmps76
    go_wp2_with fail
    clear htest
    go_loopw [5] (fun s5 wr => ∃ k : Nat, k ≤ l.length ∧ s5 = .int .i64 k ∧ Ext w wr ∧ Hid (l.take k = m.take k)) (fun i _ => l.length - (intOf i).toNat)
    case atStart => exact ⟨0, Nat.zero_le _, rfl, Ext.refl _, rfl⟩
    case round =>
      obtain ⟨k, hk, rfl, hE, hR⟩ := hrel
      have HE := Lib.hid hE; clear hE
      by_cases hlt : k < l.length
      · have hkm : k < m.length := by have := Hlen.out; omega
        obtain ⟨b1, o1, vs1, rfl, _, _, hc1, hR1⟩ := (HA.out.ext good_Entity HE.out).2 k hlt
        obtain ⟨b2, o2, vs2, rfl, _, _, hc2, hR2⟩ := (HB.out.ext good_Entity HE.out).2 k hkm
        have hsx := (HSL.out _ (List.getElem_mem hlt)).1
        have hsy := (HSM.out _ (List.getElem_mem hkm)).1
        obtain ⟨x, hx⟩ : ∃ x, x = l[k] := ⟨_, rfl⟩
        obtain ⟨y, hy⟩ : ∃ y, y = m[k] := ⟨_, rfl⟩
        have HXX := Lib.hid hx; have HYY := Lib.hid hy
        rw [← hx] at hR1 hsx
        rw [← hy] at hR2 hsy
        clear hx hy
        obtain ⟨p0a, c0a, rfl, r0a⟩ := hR1
        obtain ⟨p0b, c0b, rfl, r0b⟩ := hR2
        have RA := Lib.hid r0a; have RB := Lib.hid r0b
        clear r0a r0b
        have q0 := hc1 0 (by simp)
        have q1 := hc1 1 (by simp)
        simp only [List.getElem_cons_zero, List.getElem_cons_succ, Nat.mul_one, Nat.add_zero] at q0 q1
        have t0 := hc2 0 (by simp)
        have t1 := hc2 1 (by simp)
        simp only [List.getElem_cons_zero, List.getElem_cons_succ, Nat.mul_one, Nat.add_zero] at t0 t1
        clear hc1 hc2
        have hlt1 : (k : Int) < l.length := by omega
        have hlt2 : (k : Int) < m.length := by omega
        by_cases hid_ : x.id = y.id
        · have hz := cmpInts_zero x.members y.members
          obtain ⟨n, hn⟩ : ∃ n, n = cmpInts x.members y.members := ⟨_, rfl⟩
          have HC : Hid (∀ w1 : World, Ext wr w1 → Calls Try.prog 46 #[.slice p0a x.members.length c0a, .slice p0b y.members.length c0b] w1 fun e w' => e = .returned (.int .i64 n) ∧ ∃ q, w' = w1.drewN q) := fun w1 h => by
            rw [hn]; exact l8Ints_any x.members y.members p0a p0b c0a c0b w1 ((RA.out.ext good_int h).ints) ((RB.out.ext good_int h).ints) hsx hsy
          rw [← hn] at hz
          clear hn
          by_cases h0 : n = 0
          · have hmm : x.members = y.members := by have : (x.members == y.members) = true := by rw [← hz, h0]; rfl
                                                   simpa using this
            have HXY := Lib.hid ((entity_ext x y).1 ⟨hid_, hmm⟩)
            have hnb : (n != 0) = false := by simp [h0]
            clear hz hmm h0
            go_wp2_with fail
            go_quiet ((go_at_call 46; exact Calls.quiet_of (HC.out _ ((Ext.refl _).drewN' _))))
            go_wp2_with fail
            go_roundw
            case rel => exact ⟨k + 1, by omega, by go_num, HE.out.drewN' _, take_step hlt hkm hR.out (by rw [← HXX.out, ← HYY.out]; exact HXY.out)⟩
            case measure => (simp [intOf] <;> omega)
          · have hmm : ¬ x.members = y.members := fun e => h0 (by have : (n == 0) = true := by rw [hz, e]; simp
                                                                  simpa using this)
            have HXY := Lib.hid (show ¬ x = y from fun e => hmm (by rw [e]))
            have hnb : (n != 0) = true := by simpa using h0
            clear hz hmm h0
            go_wp2_with fail
            go_quiet ((go_at_call 46; exact Calls.quiet_of (HC.out _ ((Ext.refl _).drewN' _))))
            go_wp2_with fail
            go_ret
            exact ⟨ret_bool (not_same hlt hkm (by rw [← HXX.out, ← HYY.out]; exact HXY.out)), HE.out.drewN' _⟩
        · have HXY := Lib.hid (show ¬ x = y from fun e => hid_ (by rw [e]))
          have hib : (x.id != y.id) = true := by simpa using hid_
          go_wp2_with fail
          go_quiet (fail)
          go_wp2_with fail
          go_ret
          exact ⟨ret_bool (not_same hlt hkm (by rw [← HXX.out, ← HYY.out]; exact HXY.out)), HE.out.drewN' _⟩
      · obtain hkl : k = l.length := by omega
        have hge : ¬ (k : Int) < l.length := by omega
        have HKL := Lib.hid hkl; clear hkl
        go_wp2_with fail
        go_ret
        exact ⟨ret_bool (yes_same hR.out HKL.out Hlen.out), HE.out⟩
  · have htest : ((l.length : Int) != m.length) = true := by simp; omega
    have hf := Lib.hid (not_same_len hlen)
    go_enter Try.func76, Try.ntmps76
    go_wp2_with fail
    go_ret
    exact ⟨ret_bool hf.out, Ext.refl _⟩
end Go.Proofs.Ytdgpbgpapcldeaa
