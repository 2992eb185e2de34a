/- Equality of slices of tests: slices.Equal. -/
import Derived.Test.YtdgpbgpapcldeaaRows
import Derived.Test.YtdgpbgpapcldeaaKTest
set_option linter.unusedVariables false
set_option linter.unusedSimpArgs false
namespace Go.Proofs.Ytdgpbgpapcldeaa
open Go.RowKit Go.Er Go.BigFrame

def eqL {α : Type} (p : α → α → Bool) : List α → List α → Bool
  | [], [] => true
  | x :: xs, y :: ys => p x y && eqL p xs ys
  | _, _ => false
theorem eqL_drop {α : Type} (p : α → α → Bool) (l m : List α) (k : Nat) (h1 : k < l.length) (h2 : k < m.length) : eqL p (l.drop k) (m.drop k) = (p l[k] m[k] && eqL p (l.drop (k + 1)) (m.drop (k + 1))) := by
  rw [List.drop_eq_getElem_cons h1, List.drop_eq_getElem_cons h2]; rfl
theorem eqL_len {α : Type} (p : α → α → Bool) : ∀ (l m : List α), l.length ≠ m.length → eqL p l m = false
  | [], [], h => absurd rfl h
  | [], _ :: _, _ => rfl
  | _ :: _, [], _ => rfl
  | x :: xs, y :: ys, h => by
    have h2 : xs.length ≠ ys.length := fun e => h (by simp [e])
    simp [eqL, eqL_len p xs ys h2]
theorem eqL_end {α : Type} (p : α → α → Bool) (l m : List α) (h : l.length = m.length) : eqL p (l.drop l.length) (m.drop l.length) = true := by
  rw [List.drop_eq_nil_of_le (Nat.le_refl _), List.drop_eq_nil_of_le (by omega)]; rfl
def testEq (x y : DTest) : Bool := x.feature == y.feature && x.threshold == y.threshold && x.below == y.below
theorem test_cases (x y : DTest) : (testEq x y = true ∧ x.feature = y.feature ∧ x.threshold = y.threshold ∧ x.below = y.below) ∨
    (testEq x y = false ∧ (¬ x.feature = y.feature ∨ x.feature = y.feature ∧ ¬ x.threshold = y.threshold ∨ x.feature = y.feature ∧ x.threshold = y.threshold ∧ ¬ x.below = y.below)) := by
  by_cases h1 : x.feature = y.feature <;> by_cases h2 : x.threshold = y.threshold <;> by_cases h3 : x.below = y.below <;> simp [testEq, h1, h2, h3]

set_option maxHeartbeats 1600000 in
theorem equalTests_any (l m : List DTest) (a1 a2 : Option Addr) (c1 c2 : Nat) (w : World) (h1 : RowR 3 TestR 0 w a1 l) (h2 : RowR 3 TestR 0 w a2 m) :
    Calls Try.prog 52 #[.slice a1 l.length c1, .slice a2 m.length c2] w fun e w' => e = .returned (.bool (eqL testEq l m)) ∧ Ext w w' := by
  have hl : (l.length : Int) ≤ 9223372036854775807 := by have := h1.1; unfold maxLen at this; omega
  have hm : (m.length : Int) ≤ 9223372036854775807 := by have := h2.1; unfold maxLen at this; omega
  have HA := Lib.hid h1; have HB := Lib.hid h2; clear h1 h2
  by_cases hlen : l.length = m.length
  · have Hlen := Lib.hid hlen
    have htest : ((l.length : Int) != m.length) = false := by simp [hlen]
    clear hlen
    go_enter Try.func52, Try.ntmps52
    go_wp2_with fail
    clear htest
    go_loopw [13] (fun s5 wr => ∃ k : Nat, k ≤ l.length ∧ s5 = .int .i64 k ∧ Ext w wr ∧ Hid (eqL testEq (l.drop k) (m.drop k) = eqL testEq l m)) (fun i _ => l.length - (intOf i).toNat)
    case atStart => exact ⟨0, Nat.zero_le _, rfl, Ext.refl _, rfl⟩
    case round =>
      obtain ⟨k, hk, rfl, hE, hR⟩ := hrel
      have HE := Lib.hid hE; clear hE
      by_cases hlt : k < l.length
      · have hkm : k < m.length := by have := Hlen.out; omega
        obtain ⟨b1, o1, vs1, rfl, _, _, hc1, hR1⟩ := (HA.out.ext good_Test HE.out).2 k hlt
        obtain ⟨b2, o2, vs2, rfl, _, _, hc2, hR2⟩ := (HB.out.ext good_Test HE.out).2 k hkm
        have hR' := eqL_drop testEq l m k hlt hkm
        obtain ⟨x, hx⟩ : ∃ x, x = l[k] := ⟨_, rfl⟩
        obtain ⟨y, hy⟩ : ∃ y, y = m[k] := ⟨_, rfl⟩
        rw [← hx] at hR1 hR'
        rw [← hy] at hR2 hR'
        have HR' := Lib.hid (hR'.symm.trans hR.out)
        clear hx hy hR' hR
        obtain rfl := hR1
        obtain rfl := hR2
        have q0 := hc1 0 (by simp)
        have q1 := hc1 1 (by simp)
        have q2 := hc1 2 (by simp)
        simp only [List.getElem_cons_zero, List.getElem_cons_succ, Nat.mul_one, Nat.add_zero] at q0 q1 q2
        have t0 := hc2 0 (by simp)
        have t1 := hc2 1 (by simp)
        have t2 := hc2 2 (by simp)
        simp only [List.getElem_cons_zero, List.getElem_cons_succ, Nat.mul_one, Nat.add_zero] at t0 t1 t2
        clear hc1 hc2
        have hlt1 : (k : Int) < l.length := by omega
        have hlt2 : (k : Int) < m.length := by omega
        rcases test_cases x y with ⟨ht, e1, e2, e3⟩ | ⟨ht, e1 | ⟨e1, e2⟩ | ⟨e1, e2, e3⟩⟩
        · rw [ht, Bool.true_and] at HR'
          clear ht
          go_wp2_with fail
          go_quiet (fail)
          go_wp2_with fail
          go_roundw
          case rel => exact ⟨k + 1, by omega, by go_num, HE.out.drewN' _, HR'⟩
          case measure => (simp [intOf] <;> omega)
        all_goals
          rw [ht, Bool.false_and] at HR'
          clear ht
          go_wp2_with fail
          go_quiet (fail)
          go_wp2_with fail
          go_ret
          exact ⟨ret_bool HR'.out, HE.out.drewN' _⟩
      · obtain rfl : k = l.length := by omega
        have hR' := Lib.hid ((eqL_end testEq l m Hlen.out).symm.trans hR.out)
        clear hR
        go_wp2_with fail
        go_ret
        exact ⟨ret_bool hR'.out, HE.out⟩
  · have htest : ((l.length : Int) != m.length) = true := by simp; omega
    have hf := Lib.hid (eqL_len testEq l m hlen)
    go_enter Try.func52, Try.ntmps52
    go_wp2_with fail
    go_ret
    exact ⟨ret_bool hf.out.symm, Ext.refl _⟩
end Go.Proofs.Ytdgpbgpapcldeaa
