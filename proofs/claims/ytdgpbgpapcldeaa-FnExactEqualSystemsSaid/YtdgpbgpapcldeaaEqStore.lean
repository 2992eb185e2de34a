/- Equality of stores and of lists of entities. -/
import Derived.Test.YtdgpbgpapcldeaaCmpRS
import Derived.Test.YtdgpbgpapcldeaaKStore
import Derived.Test.YtdgpbgpapcldeaaKEntity
set_option linter.unusedVariables false
set_option linter.unusedSimpArgs false
namespace Go.Proofs.Ytdgpbgpapcldeaa
open Go.RowKit Go.Er Go.BigFrame

set_option maxHeartbeats 1600000 in
theorem equalFuncRecord_any (F : FuncId) (hcf : ∀ (args : Array Value) (w : World), (callFunc F args).run Try.prog w = .ok (.enter F args) w)
    (l m : List DRecord) (hcl : ∀ (x y : DRecord) (us vs : List Value) (w : World), x ∈ l → y ∈ m → RecordR 0 w us x → RecordR 0 w vs y → Calls Try.prog F #[.agg us.toArray, .agg vs.toArray] w fun e w' => e = .returned (.bool (same x y)) ∧ Ext w w')
    (a1 a2 : Option Addr) (c1 c2 : Nat) (w : World) (h1 : RowR 4 RecordR 0 w a1 l) (h2 : RowR 4 RecordR 0 w a2 m) :
    Calls Try.prog 121 #[.slice a1 l.length c1, .slice a2 m.length c2, .func (.func F) #[] #[]] w fun e w' => e = .returned (.bool (same l m)) ∧ Ext w w' := by
  have hl : (l.length : Int) ≤ 9223372036854775807 := by have := h1.1; unfold maxLen at this; omega
  have hm : (m.length : Int) ≤ 9223372036854775807 := by have := h2.1; unfold maxLen at this; omega
  have HA := Lib.hid h1; have HB := Lib.hid h2; clear h1 h2
  have HCL := Lib.hid hcl; clear hcl
  by_cases hlen : l.length = m.length
  · have Hlen := Lib.hid hlen
    have htest : ((l.length : Int) != m.length) = false := by simp [hlen]
    clear hlen
    go_enter Try.func121, Try.ntmps121
    go_wp2_with fail
    clear htest
    go_loopw [17] (fun s5 wr => ∃ k : Nat, k ≤ l.length ∧ s5 = .int .i64 k ∧ Ext w wr ∧ Hid (l.take k = m.take k)) (fun i _ => l.length - (intOf i).toNat)
    case atStart => exact ⟨0, Nat.zero_le _, rfl, Ext.refl _, rfl⟩
    case round =>
      obtain ⟨k, hk, rfl, hE, hR⟩ := hrel
      have HE := Lib.hid hE; clear hE
      by_cases hlt : k < l.length
      · have hkm : k < m.length := by have := Hlen.out; omega
        obtain ⟨b1, o1, vs1, rfl, _, _, hc1, hR1⟩ := (HA.out.ext good_Record HE.out).2 k hlt
        obtain ⟨b2, o2, vs2, rfl, _, _, hc2, hR2⟩ := (HB.out.ext good_Record HE.out).2 k hkm
        obtain ⟨x, hx⟩ : ∃ x, x = l[k] := ⟨_, rfl⟩
        obtain ⟨y, hy⟩ : ∃ y, y = m[k] := ⟨_, rfl⟩
        have HXX := Lib.hid hx; have HYY := Lib.hid hy
        rw [← hx] at hR1
        rw [← hy] at hR2
        clear hx hy
        obtain ⟨p0a, c0a, rfl, r0a⟩ := hR1
        obtain ⟨p0b, c0b, rfl, r0b⟩ := hR2
        have HX : Hid (RecordR 0 wr [.int .i64 x.source, .int .i64 x.key, .int .i64 x.version, .slice p0a x.fields.length c0a] x) := ⟨p0a, c0a, rfl, r0a⟩
        have HY : Hid (RecordR 0 wr [.int .i64 y.source, .int .i64 y.key, .int .i64 y.version, .slice p0b y.fields.length c0b] y) := ⟨p0b, c0b, rfl, r0b⟩
        clear r0a r0b
        have q0 := hc1 0 (by simp)
        have q1 := hc1 1 (by simp)
        have q2 := hc1 2 (by simp)
        have q3 := hc1 3 (by simp)
        simp only [List.getElem_cons_zero, List.getElem_cons_succ, Nat.mul_one, Nat.add_zero] at q0 q1 q2 q3
        have t0 := hc2 0 (by simp)
        have t1 := hc2 1 (by simp)
        have t2 := hc2 2 (by simp)
        have t3 := hc2 3 (by simp)
        simp only [List.getElem_cons_zero, List.getElem_cons_succ, Nat.mul_one, Nat.add_zero] at t0 t1 t2 t3
        clear hc1 hc2
        have hlt1 : (k : Int) < l.length := by omega
        have hlt2 : (k : Int) < m.length := by omega
        have ql := lt_of_cell q0; have tl := lt_of_cell t0
        have HM1 := Lib.hid (show x ∈ l by rw [HXX.out]; exact List.getElem_mem hlt); have HM2 := Lib.hid (show y ∈ m by rw [HYY.out]; exact List.getElem_mem hkm)
        go_wp2_with fail
        refine (HCL.out x y [.int .i64 x.source, .int .i64 x.key, .int .i64 x.version, .slice p0a x.fields.length c0a] [.int .i64 y.source, .int .i64 y.key, .int .i64 y.version, .slice p0b y.fields.length c0b] _ HM1.out HM2.out (good_Record.ext HX.out (by (repeat' (first | with_reducible assumption | with_reducible exact Below.refl _ _ | (with_reducible refine Ext.alloc' ?_ _) | (with_reducible refine Ext.drew' ?_) | (with_reducible refine Ext.drewN' ?_ _) | (with_reducible refine Ext.set_ ?_ (by first | omega | (simp; done) | (simp; omega)) _ _) | (refine Ext.trans ?_ (by with_reducible assumption)))))) (good_Record.ext HY.out (by (repeat' (first | with_reducible assumption | with_reducible exact Below.refl _ _ | (with_reducible refine Ext.alloc' ?_ _) | (with_reducible refine Ext.drew' ?_) | (with_reducible refine Ext.drewN' ?_ _) | (with_reducible refine Ext.set_ ?_ (by first | omega | (simp; done) | (simp; omega)) _ _) | (refine Ext.trans ?_ (by with_reducible assumption))))))).mono ?_
        rintro e w1 ⟨rfl, hE1⟩
        have HE1 : Hid (Ext w w1) := (show Ext w w1 from by have h8 := HE.out; have h9 := hE1; (repeat' (first | with_reducible assumption | with_reducible exact Below.refl _ _ | (with_reducible refine Ext.alloc' ?_ _) | (with_reducible refine Ext.drew' ?_) | (with_reducible refine Ext.drewN' ?_ _) | (with_reducible refine Ext.set_ ?_ (by first | omega | (simp; done) | (simp; omega)) _ _) | (refine Ext.trans ?_ (by with_reducible assumption)))))
        clear hE1 q0 t0 q1 t1 q2 t2 q3 t3 ql tl
        cases hp : same x y
        · have HNE : Hid (false = same l m) := by
            have h2 : ¬ x = y := fun e => by rw [(same_iff x y).2 e] at hp; cases hp
            have h3 : ¬ l = m := fun e => h2 (by rw [HXX.out, HYY.out]; subst e; rfl)
            show _ = _
            simp [same, h3]
          clear hp
          go_wp2_with fail
          go_ret
          exact ⟨ret_bool HNE.out, HE1.out⟩
        · have HXY := Lib.hid ((same_iff x y).1 hp)
          clear hp
          go_wp2_with fail
          go_roundw
          case rel => exact ⟨k + 1, by omega, by go_num, HE1.out, take_step hlt hkm hR.out (by rw [← HXX.out, ← HYY.out]; exact HXY.out)⟩
          case measure => (simp [intOf] <;> omega)
      · obtain hkl : k = l.length := by omega
        have hR' : Hid (true = same l m) := by
          have h := hR.out
          rw [hkl, List.take_length, List.take_of_length_le (by have := Hlen.out; omega)] at h
          show _ = _
          simp [same, h]
        clear hR hkl
        have hge : ¬ (k : Int) < l.length := by omega
        go_wp2_with fail
        go_ret
        exact ⟨ret_bool hR'.out, HE.out⟩
  · have htest : ((l.length : Int) != m.length) = true := by simp; omega
    have hf : Hid (false = same l m) := by
      have h3 : ¬ l = m := fun e => hlen (by rw [e])
      show _ = _
      simp [same, h3]
    go_enter Try.func121, Try.ntmps121
    go_wp2_with fail
    go_ret
    exact ⟨ret_bool hf.out, Ext.refl _⟩

set_option maxHeartbeats 1600000 in
theorem equalFuncEntity_any (F : FuncId) (hcf : ∀ (args : Array Value) (w : World), (callFunc F args).run Try.prog w = .ok (.enter F args) w)
    (l m : List DEntity) (hcl : ∀ (x y : DEntity) (us vs : List Value) (w : World), x ∈ l → y ∈ m → EntityR 0 w us x → EntityR 0 w vs y → Calls Try.prog F #[.agg us.toArray, .agg vs.toArray] w fun e w' => e = .returned (.bool (same x y)) ∧ Ext w w')
    (a1 a2 : Option Addr) (c1 c2 : Nat) (w : World) (h1 : RowR 2 EntityR 0 w a1 l) (h2 : RowR 2 EntityR 0 w a2 m) :
    Calls Try.prog 123 #[.slice a1 l.length c1, .slice a2 m.length c2, .func (.func F) #[] #[]] w fun e w' => e = .returned (.bool (same l m)) ∧ Ext w w' := by
  have hl : (l.length : Int) ≤ 9223372036854775807 := by have := h1.1; unfold maxLen at this; omega
  have hm : (m.length : Int) ≤ 9223372036854775807 := by have := h2.1; unfold maxLen at this; omega
  have HA := Lib.hid h1; have HB := Lib.hid h2; clear h1 h2
  have HCL := Lib.hid hcl; clear hcl
  by_cases hlen : l.length = m.length
  · have Hlen := Lib.hid hlen
    have htest : ((l.length : Int) != m.length) = false := by simp [hlen]
    clear hlen
    go_enter Try.func123, Try.ntmps123
    go_wp2_with fail
    clear htest
    go_loopw [17] (fun s5 wr => ∃ k : Nat, k ≤ l.length ∧ s5 = .int .i64 k ∧ Ext w wr ∧ Hid (l.take k = m.take k)) (fun i _ => l.length - (intOf i).toNat)
    case atStart => exact ⟨0, Nat.zero_le _, rfl, Ext.refl _, rfl⟩
    case round =>
      obtain ⟨k, hk, rfl, hE, hR⟩ := hrel
      have HE := Lib.hid hE; clear hE
      by_cases hlt : k < l.length
      · have hkm : k < m.length := by have := Hlen.out; omega
        obtain ⟨b1, o1, vs1, rfl, _, _, hc1, hR1⟩ := (HA.out.ext good_Entity HE.out).2 k hlt
        obtain ⟨b2, o2, vs2, rfl, _, _, hc2, hR2⟩ := (HB.out.ext good_Entity HE.out).2 k hkm
        obtain ⟨x, hx⟩ : ∃ x, x = l[k] := ⟨_, rfl⟩
        obtain ⟨y, hy⟩ : ∃ y, y = m[k] := ⟨_, rfl⟩
        have HXX := Lib.hid hx; have HYY := Lib.hid hy
        rw [← hx] at hR1
        rw [← hy] at hR2
        clear hx hy
        obtain ⟨p0a, c0a, rfl, r0a⟩ := hR1
        obtain ⟨p0b, c0b, rfl, r0b⟩ := hR2
        have HX : Hid (EntityR 0 wr [.int .i64 x.id, .slice p0a x.members.length c0a] x) := ⟨p0a, c0a, rfl, r0a⟩
        have HY : Hid (EntityR 0 wr [.int .i64 y.id, .slice p0b y.members.length c0b] y) := ⟨p0b, c0b, rfl, r0b⟩
        clear r0a r0b
        have q0 := hc1 0 (by simp)
        have q1 := hc1 1 (by simp)
        simp only [List.getElem_cons_zero, List.getElem_cons_succ, Nat.mul_one, Nat.add_zero] at q0 q1
        have t0 := hc2 0 (by simp)
        have t1 := hc2 1 (by simp)
        simp only [List.getElem_cons_zero, List.getElem_cons_succ, Nat.mul_one, Nat.add_zero] at t0 t1
        clear hc1 hc2
        have hlt1 : (k : Int) < l.length := by omega
        have hlt2 : (k : Int) < m.length := by omega
        have ql := lt_of_cell q0; have tl := lt_of_cell t0
        have HM1 := Lib.hid (show x ∈ l by rw [HXX.out]; exact List.getElem_mem hlt); have HM2 := Lib.hid (show y ∈ m by rw [HYY.out]; exact List.getElem_mem hkm)
        go_wp2_with fail
        refine (HCL.out x y [.int .i64 x.id, .slice p0a x.members.length c0a] [.int .i64 y.id, .slice p0b y.members.length c0b] _ HM1.out HM2.out (good_Entity.ext HX.out (by (repeat' (first | with_reducible assumption | with_reducible exact Below.refl _ _ | (with_reducible refine Ext.alloc' ?_ _) | (with_reducible refine Ext.drew' ?_) | (with_reducible refine Ext.drewN' ?_ _) | (with_reducible refine Ext.set_ ?_ (by first | omega | (simp; done) | (simp; omega)) _ _) | (refine Ext.trans ?_ (by with_reducible assumption)))))) (good_Entity.ext HY.out (by (repeat' (first | with_reducible assumption | with_reducible exact Below.refl _ _ | (with_reducible refine Ext.alloc' ?_ _) | (with_reducible refine Ext.drew' ?_) | (with_reducible refine Ext.drewN' ?_ _) | (with_reducible refine Ext.set_ ?_ (by first | omega | (simp; done) | (simp; omega)) _ _) | (refine Ext.trans ?_ (by with_reducible assumption))))))).mono ?_
        rintro e w1 ⟨rfl, hE1⟩
        have HE1 : Hid (Ext w w1) := (show Ext w w1 from by have h8 := HE.out; have h9 := hE1; (repeat' (first | with_reducible assumption | with_reducible exact Below.refl _ _ | (with_reducible refine Ext.alloc' ?_ _) | (with_reducible refine Ext.drew' ?_) | (with_reducible refine Ext.drewN' ?_ _) | (with_reducible refine Ext.set_ ?_ (by first | omega | (simp; done) | (simp; omega)) _ _) | (refine Ext.trans ?_ (by with_reducible assumption)))))
        clear hE1 q0 t0 q1 t1 ql tl
        cases hp : same x y
        · have HNE : Hid (false = same l m) := by
            have h2 : ¬ x = y := fun e => by rw [(same_iff x y).2 e] at hp; cases hp
            have h3 : ¬ l = m := fun e => h2 (by rw [HXX.out, HYY.out]; subst e; rfl)
            show _ = _
            simp [same, h3]
          clear hp
          go_wp2_with fail
          go_ret
          exact ⟨ret_bool HNE.out, HE1.out⟩
        · have HXY := Lib.hid ((same_iff x y).1 hp)
          clear hp
          go_wp2_with fail
          go_roundw
          case rel => exact ⟨k + 1, by omega, by go_num, HE1.out, take_step hlt hkm hR.out (by rw [← HXX.out, ← HYY.out]; exact HXY.out)⟩
          case measure => (simp [intOf] <;> omega)
      · obtain hkl : k = l.length := by omega
        have hR' : Hid (true = same l m) := by
          have h := hR.out
          rw [hkl, List.take_length, List.take_of_length_le (by have := Hlen.out; omega)] at h
          show _ = _
          simp [same, h]
        clear hR hkl
        have hge : ¬ (k : Int) < l.length := by omega
        go_wp2_with fail
        go_ret
        exact ⟨ret_bool hR'.out, HE.out⟩
  · have htest : ((l.length : Int) != m.length) = true := by simp; omega
    have hf : Hid (false = same l m) := by
      have h3 : ¬ l = m := fun e => hlen (by rw [e])
      show _ = _
      simp [same, h3]
    go_enter Try.func123, Try.ntmps123
    go_wp2_with fail
    go_ret
    exact ⟨ret_bool hf.out, Ext.refl _⟩

theorem canCallRecs : ∀ (args : Array Value) (w : World), (callFunc 122 args).run Try.prog w = .ok (.enter 122 args) w :=
  callFunc_run Try.func122 (by kernel_rfl) (by kernel_rfl)
theorem canCallEnt : ∀ (args : Array Value) (w : World), (callFunc 124 args).run Try.prog w = .ok (.enter 124 args) w :=
  callFunc_run Try.func124 (by kernel_rfl) (by kernel_rfl)
theorem entity_ext (x y : DEntity) : (x.id = y.id ∧ x.members = y.members) ↔ x = y := by cases x; cases y; simp
theorem same_eq {α : Type} (x y : α) (p : Bool) (h : p = true ↔ x = y) : p = same x y := by
  rw [Bool.eq_iff_iff, same_iff]; exact h

set_option maxHeartbeats 800000 in
theorem entClosure_any (x y : DEntity) (hx : x.members.length ≤ 1048576) (hy : y.members.length ≤ 1048576) (us vs : List Value) (w : World) (h1 : EntityR 0 w us x) (h2 : EntityR 0 w vs y) :
    Calls Try.prog 124 #[.agg us.toArray, .agg vs.toArray] w fun e w' => e = .returned (.bool (same x y)) ∧ Ext w w' := by
  obtain ⟨p0a, c0a, rfl, r0a⟩ := h1
  obtain ⟨p0b, c0b, rfl, r0b⟩ := h2
  have HA := Lib.hid r0a; have HB := Lib.hid r0b; clear r0a r0b
  by_cases hid_ : x.id = y.id
  · have hs := Lib.hid (same_eq x y (x.members == y.members) (by rw [← entity_ext]; simp [hid_]))
    go_enter Try.func124, Try.ntmps124
    go_wp2_with fail
    refine (sliceEqual_any x.members y.members p0a p0b c0a c0b _ ((HA.out.ext good_int (by (repeat' (first | with_reducible assumption | with_reducible exact Below.refl _ _ | (with_reducible refine Ext.alloc' ?_ _) | (with_reducible refine Ext.drew' ?_) | (with_reducible refine Ext.drewN' ?_ _) | (with_reducible refine Ext.set_ ?_ (by first | omega | (simp; done) | (simp; omega)) _ _) | (refine Ext.trans ?_ (by with_reducible assumption)))))).ints) ((HB.out.ext good_int (by (repeat' (first | with_reducible assumption | with_reducible exact Below.refl _ _ | (with_reducible refine Ext.alloc' ?_ _) | (with_reducible refine Ext.drew' ?_) | (with_reducible refine Ext.drewN' ?_ _) | (with_reducible refine Ext.set_ ?_ (by first | omega | (simp; done) | (simp; omega)) _ _) | (refine Ext.trans ?_ (by with_reducible assumption)))))).ints) hx hy).mono ?_
    rintro e w1 ⟨rfl, hE1⟩
    have HE1 := Lib.hid (show Ext w w1 from by (repeat' (first | with_reducible assumption | with_reducible exact Below.refl _ _ | (with_reducible refine Ext.alloc' ?_ _) | (with_reducible refine Ext.drew' ?_) | (with_reducible refine Ext.drewN' ?_ _) | (with_reducible refine Ext.set_ ?_ (by first | omega | (simp; done) | (simp; omega)) _ _) | (refine Ext.trans ?_ (by with_reducible assumption)))))
    rw [hs.out]
    clear hE1
    go_wp2_with fail
    go_ret
    exact ⟨rfl, HE1.out⟩
  · have hs := Lib.hid (same_eq x y false (by rw [← entity_ext]; simp [hid_]))
    go_enter Try.func124, Try.ntmps124
    go_wp2_with fail
    go_ret
    exact ⟨ret_bool hs.out, by (repeat' (first | with_reducible assumption | with_reducible exact Below.refl _ _ | (with_reducible refine Ext.alloc' ?_ _) | (with_reducible refine Ext.drew' ?_) | (with_reducible refine Ext.drewN' ?_ _) | (with_reducible refine Ext.set_ ?_ (by first | omega | (simp; done) | (simp; omega)) _ _) | (refine Ext.trans ?_ (by with_reducible assumption))))⟩

theorem implEqualEntities_any (l m : List DEntity) (hl : SmallL SmallEntity l) (hm : SmallL SmallEntity m) (a1 a2 : Option Addr) (c1 c2 : Nat) (w : World) (h1 : RowR 2 EntityR 0 w a1 l) (h2 : RowR 2 EntityR 0 w a2 m) :
    Calls Try.prog 81 #[.slice a1 l.length c1, .slice a2 m.length c2] w fun e w' => e = .returned (.bool (same l m)) ∧ Ext w w' := by
  have HA := Lib.hid h1; have HB := Lib.hid h2; clear h1 h2
  have HL := Lib.hid hl; have HM := Lib.hid hm; clear hl hm
  go_enter Try.func81, Try.ntmps81
  go_wp2_with fail
  refine (equalFuncEntity_any 124 canCallEnt l m (fun x y us vs w hx hy h1 h2 => entClosure_any x y (HL.out.2 x hx).1 (HM.out.2 y hy).1 us vs w h1 h2) a1 a2 c1 c2 _ HA.out HB.out).mono ?_
  rintro e w1 ⟨rfl, hE1⟩
  have HE1 := Lib.hid hE1; clear hE1
  go_wp2_with fail
  go_ret
  exact ⟨rfl, HE1.out⟩
end Go.Proofs.Ytdgpbgpapcldeaa
