/- Valid scorings. -/
import Derived.Test.YtdgpbgpapcldeaaValid
set_option linter.unusedVariables false
set_option linter.unusedSimpArgs false
namespace Go.Proofs.Ytdgpbgpapcldeaa
open Go.RowKit Go.Er Go.BigFrame

set_option maxHeartbeats 1600000 in
theorem implScoring_any (x : DScoring) (hs : SmallScoring x) (vs : List Value) (w : World) (h : ScoringR 0 w vs x) :
    Calls Try.prog 62 #[.agg vs.toArray] w fun e w' => e = .returned (.bool (scoringOk x)) ∧ Ext w w' := by
  obtain ⟨p0, c0, rfl, r0⟩ := h
  have hl : x.weights.length ≤ 1048576 := hs.1
  have HA := Lib.hid r0; clear r0 hs
  have HB : Hid (Box (w.alloc (.cells #[.slice p0 x.weights.length c0, .int .i64 x.bias] 46)) w.heap.size 46 #[.slice p0 x.weights.length c0, .int .i64 x.bias]) := Box.new' _ _ _ _ rfl
  have HE0 := Lib.hid (Ext.alloc w (.cells #[.slice p0 x.weights.length c0, .int .i64 x.bias] 46))
  go_enter Try.func62, Try.ntmps62
  go_wp2_with fail
  go_loopw [3, 9] (fun s3 s9 wr => ∃ (k : Nat) (s : Int), k ≤ x.weights.length ∧ s9 = .int .i64 k ∧ s3 = .int .i64 s ∧ 0 ≤ s ∧ s ≤ 9 * k ∧ Box wr w.heap.size 46 #[.slice p0 x.weights.length c0, .int .i64 x.bias] ∧ Ext w wr ∧ Hid (goW (x.weights.drop k) s = goW x.weights 0)) (fun _ i _ => x.weights.length - (intOf i).toNat)
  case atStart => exact ⟨0, 0, Nat.zero_le _, rfl, rfl, by omega, by omega, HB.out, HE0.out, rfl⟩
  case round =>
    obtain ⟨k, s, hk, rfl, rfl, hs0, hs9, hB, hE, hR⟩ := hrel
    have HB1 := Lib.hid hB; have HE := Lib.hid hE
    have k0 := hB.cell 0
    have k1 := hB.cell 1
    have klt := hB.lt
    simp only [List.getElem?_toArray, List.getElem?_cons_zero, List.getElem?_cons_succ] at k0 k1
    clear hB hE
    by_cases hlt : k < x.weights.length
    · obtain ⟨b, o, vs, rfl, _, _, hc, hR1⟩ := (HA.out.ext good_int HE.out).2 k hlt
      have hR' := hR.out
      rw [List.drop_eq_getElem_cons hlt, goW] at hR'
      obtain ⟨y, hy⟩ : ∃ y, y = x.weights[k] := ⟨_, rfl⟩
      rw [← hy] at hR1 hR'
      obtain rfl := hR1
      have HR' := Lib.hid hR'
      clear hy hR' hR
      have q0 := hc 0 (by simp)
      simp only [List.getElem_cons_zero, List.getElem_cons_succ, Nat.mul_one, Nat.add_zero] at q0
      clear hc
      have hlt1 : (k : Int) < x.weights.length := by omega
      cases hp : inR y 0 9
      · have HR2 : Hid (none = goW x.weights 0) := by have h := HR'.out; rw [hp] at h; show _ = _; simpa using h
        have HC : Hid (∀ w : World, Calls Try.prog 106 #[.int .i64 y, .int .i64 0, .int .i64 9] w fun e w' => e = .returned (.bool false) ∧ w' = w) := fun w => by have h := within_any y 0 9 w; rw [hp] at h; exact h
        clear hp
        go_wp2_with fail
        refine (HC.out _).mono ?_
        rintro e w1 ⟨rfl, rfl⟩
        go_wp2_with fail
        go_ret
        exact ⟨ret_bool (by unfold scoringOk; rw [← HR2.out]), HE.out⟩
      · have hy9 := inR_iff hp
        have HR2 : Hid (goW (x.weights.drop (k + 1)) (s + y) = goW x.weights 0) := by have h := HR'.out; rw [hp] at h; show _ = _; simpa using h
        have HC : Hid (∀ w : World, Calls Try.prog 106 #[.int .i64 y, .int .i64 0, .int .i64 9] w fun e w' => e = .returned (.bool true) ∧ w' = w) := fun w => by have h := within_any y 0 9 w; rw [hp] at h; exact h
        clear hp
        go_wp2_with fail
        refine (HC.out _).mono ?_
        rintro e w1 ⟨rfl, rfl⟩
        go_wp2_with fail
        go_roundw
        case rel => exact ⟨k + 1, s + y, by omega, by go_num, by go_num, by omega, by omega, HB1.out, HE.out, HR2⟩
        case measure => (simp [intOf] <;> omega)
    · obtain rfl : k = x.weights.length := by omega
      have HR2 : Hid (some s = goW x.weights 0) := by have h := hR.out; rw [List.drop_eq_nil_of_le (Nat.le_refl _)] at h; exact h
      clear hR
      by_cases h6 : x.weights.length = 6
      · have h6' : ((x.weights.length : Int) == 6) = true := by simp [h6]
        have H6 := Lib.hid h6; clear h6
        by_cases hpos : 0 < s
        · go_wp2_with fail
          refine (within_any x.bias 0 1000 _).mono ?_
          rintro e w1 ⟨rfl, rfl⟩
          go_wp2_with fail
          go_ret
          exact ⟨ret_bool (by unfold scoringOk; rw [← HR2.out]; simp [H6.out, hpos]), HE.out⟩
        · go_wp2_with fail
          go_ret
          exact ⟨ret_bool (by unfold scoringOk; rw [← HR2.out]; simp [hpos] <;> (intros; omega)), HE.out⟩
      · have h6' : ((x.weights.length : Int) == 6) = false := by simp; omega
        have H6 := Lib.hid h6; clear h6
        go_wp2_with fail
        go_ret
        exact ⟨ret_bool (by unfold scoringOk; rw [← HR2.out]; simp [H6.out]), HE.out⟩

set_option maxHeartbeats 1600000 in
theorem specScoring_any (x : DScoring) (hs : SmallScoring x) (vs : List Value) (w : World) (h : ScoringR 0 w vs x) :
    Calls Try.prog 59 #[.agg vs.toArray] w fun e w' => e = .returned (.bool (scoringOk x)) ∧ Ext w w' := by
  obtain ⟨p0, c0, rfl, r0⟩ := h
  have hl : x.weights.length ≤ 1048576 := hs.1
  have HA := Lib.hid r0; clear r0 hs
  have HB : Hid (Box (w.alloc (.cells #[.slice p0 x.weights.length c0, .int .i64 x.bias] 46)) w.heap.size 46 #[.slice p0 x.weights.length c0, .int .i64 x.bias]) := Box.new' _ _ _ _ rfl
  have HE0 := Lib.hid (Ext.alloc w (.cells #[.slice p0 x.weights.length c0, .int .i64 x.bias] 46))
  go_enter Try.func59, Try.ntmps59
  go_wp2_with fail
  go_loopw [3, 4] (fun s3 s9 wr => ∃ (k : Nat) (s : Int), k ≤ x.weights.length ∧ s9 = .int .i64 k ∧ s3 = .int .i64 s ∧ 0 ≤ s ∧ s ≤ 9 * k ∧ Box wr w.heap.size 46 #[.slice p0 x.weights.length c0, .int .i64 x.bias] ∧ Ext w wr ∧ Hid (goW (x.weights.drop k) s = goW x.weights 0)) (fun _ i _ => x.weights.length - (intOf i).toNat)
  case atStart => exact ⟨0, 0, Nat.zero_le _, rfl, rfl, by omega, by omega, HB.out, HE0.out, rfl⟩
  case round =>
    obtain ⟨k, s, hk, rfl, rfl, hs0, hs9, hB, hE, hR⟩ := hrel
    have HB1 := Lib.hid hB; have HE := Lib.hid hE
    have k0 := hB.cell 0
    have k1 := hB.cell 1
    have klt := hB.lt
    simp only [List.getElem?_toArray, List.getElem?_cons_zero, List.getElem?_cons_succ] at k0 k1
    clear hB hE
    by_cases hlt : k < x.weights.length
    · obtain ⟨b, o, vs, rfl, _, _, hc, hR1⟩ := (HA.out.ext good_int HE.out).2 k hlt
      have hR' := hR.out
      rw [List.drop_eq_getElem_cons hlt, goW] at hR'
      obtain ⟨y, hy⟩ : ∃ y, y = x.weights[k] := ⟨_, rfl⟩
      rw [← hy] at hR1 hR'
      obtain rfl := hR1
      have HR' := Lib.hid hR'
      clear hy hR' hR
      have q0 := hc 0 (by simp)
      simp only [List.getElem_cons_zero, List.getElem_cons_succ, Nat.mul_one, Nat.add_zero] at q0
      clear hc
      have hlt1 : (k : Int) < x.weights.length := by omega
      cases hp : inR y 0 9
      · have HR2 : Hid (none = goW x.weights 0) := by have h := HR'.out; rw [hp] at h; show _ = _; simpa using h
        have HC : Hid (∀ w : World, Calls Try.prog 105 #[.int .i64 y, .int .i64 0, .int .i64 9] w fun e w' => e = .returned (.bool false) ∧ w' = w) := fun w => by have h := l1In_any y 0 9 w; rw [hp] at h; exact h
        clear hp
        go_wp2_with fail
        refine (HC.out _).mono ?_
        rintro e w1 ⟨rfl, rfl⟩
        go_wp2_with fail
        go_ret
        exact ⟨ret_bool (by unfold scoringOk; rw [← HR2.out]), HE.out⟩
      · have hy9 := inR_iff hp
        have HR2 : Hid (goW (x.weights.drop (k + 1)) (s + y) = goW x.weights 0) := by have h := HR'.out; rw [hp] at h; show _ = _; simpa using h
        have HC : Hid (∀ w : World, Calls Try.prog 105 #[.int .i64 y, .int .i64 0, .int .i64 9] w fun e w' => e = .returned (.bool true) ∧ w' = w) := fun w => by have h := l1In_any y 0 9 w; rw [hp] at h; exact h
        clear hp
        go_wp2_with fail
        refine (HC.out _).mono ?_
        rintro e w1 ⟨rfl, rfl⟩
        go_wp2_with fail
        go_roundw
        case rel => exact ⟨k + 1, s + y, by omega, by go_num, by go_num, by omega, by omega, HB1.out, HE.out, HR2⟩
        case measure => (simp [intOf] <;> omega)
    · obtain rfl : k = x.weights.length := by omega
      have HR2 : Hid (some s = goW x.weights 0) := by have h := hR.out; rw [List.drop_eq_nil_of_le (Nat.le_refl _)] at h; exact h
      clear hR
      by_cases h6 : x.weights.length = 6
      · have h6' : ((x.weights.length : Int) == 6) = true := by simp [h6]
        have H6 := Lib.hid h6; clear h6
        by_cases hpos : 0 < s
        · go_wp2_with fail
          refine (l1In_any x.bias 0 1000 _).mono ?_
          rintro e w1 ⟨rfl, rfl⟩
          go_wp2_with fail
          go_ret
          exact ⟨ret_bool (by unfold scoringOk; rw [← HR2.out]; simp [H6.out, hpos]), HE.out⟩
        · go_wp2_with fail
          go_ret
          exact ⟨ret_bool (by unfold scoringOk; rw [← HR2.out]; simp [hpos] <;> (intros; omega)), HE.out⟩
      · have h6' : ((x.weights.length : Int) == 6) = false := by simp; omega
        have H6 := Lib.hid h6; clear h6
        go_wp2_with fail
        go_ret
        exact ⟨ret_bool (by unfold scoringOk; rw [← HR2.out]; simp [H6.out]), HE.out⟩
end Go.Proofs.Ytdgpbgpapcldeaa
