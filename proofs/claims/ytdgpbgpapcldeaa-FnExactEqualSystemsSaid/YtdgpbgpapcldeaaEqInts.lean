/- Equality of integer slices: slices.Equal, the reference's l8Ints. -/
import Derived.Test.YtdgpbgpapcldeaaRows
import Derived.Test.YtdgpbgpapcldeaaDLib
set_option linter.unusedVariables false
set_option linter.unusedSimpArgs false
namespace Go.Proofs.Ytdgpbgpapcldeaa
open Go.RowKit Go.Er

theorem _root_.Go.Er.RowR.ints {B : Nat} {w : World} {a : Option Addr} {l : List Int} (h : RowR 1 IntR B w a l) : Ints w a l := by
  intro i hi
  obtain ⟨b, o, vs, h1, _, _, h4, h5⟩ := h.2 i hi
  have h5' : vs = [.int .i64 l[i]] := h5
  subst h5'
  have h6 := h4 0 (by simp)
  exact ⟨b, o, h1, by simpa using h6⟩
theorem beq_drop (l m : List Int) (k : Nat) (h1 : k < l.length) (h2 : k < m.length) : (l.drop k == m.drop k) = (l[k] == m[k] && l.drop (k + 1) == m.drop (k + 1)) := by
  rw [List.drop_eq_getElem_cons h1, List.drop_eq_getElem_cons h2]; rfl
theorem beq_false_of_length {l m : List Int} (h : l.length ≠ m.length) : (l == m) = false := by
  rw [beq_eq_false_iff_ne]; rintro rfl; exact h rfl

set_option maxHeartbeats 400000 in
theorem sliceEqual_any (l m : List Int) (a c : Option Addr) (ca cc : Nat) (w : World) (ha : Ints w a l) (hc : Ints w c m) (hl : l.length ≤ 1048576) (hm : m.length ≤ 1048576) :
    Calls Try.prog 54 #[.slice a l.length ca, .slice c m.length cc] w fun e w' => e = .returned (.bool (l == m)) ∧ Ext w w' := by
  by_cases hlen : l.length = m.length
  · have Hlen := Lib.hid hlen
    have htest : ((l.length : Int) != m.length) = false := by simp [hlen]
    clear hlen
    go_enter Try.func54, Try.ntmps54
    go_wp2
    clear htest
    go_loopw [13] (fun s5 wr => ∃ k : Nat, k ≤ l.length ∧ s5 = .int .i64 k ∧ Ext w wr ∧ Hid ((l.drop k == m.drop k) = (l == m))) (fun i _ => l.length - (intOf i).toNat)
    case atStart => exact ⟨0, Nat.zero_le _, rfl, Ext.refl _, rfl⟩
    case round =>
      obtain ⟨k, hk, rfl, hE, hR⟩ := hrel
      by_cases hlt : k < l.length
      · obtain ⟨b, o, rfl, hca⟩ := ha.ext hE k hlt
        obtain ⟨b', o', rfl, hcc⟩ := hc.ext hE k (by have := Hlen.out; omega)
        have hR' := Lib.hid (beq_drop l m k hlt (by have := Hlen.out; omega))
        generalize hx : l[k] = x at *
        generalize hy : m[k]'(by have := Hlen.out; omega) = y at *
        have hkm : k < m.length := by have := Hlen.out; omega
        have Hx := Lib.hid hx; have Hy := Lib.hid hy; clear hx hy
        go_wp2
        go_quiet (fail)
        go_wp2
        · have h : (x != y) = true := by assumption
          go_ret
          refine ⟨ret_bool ?_, hE.drewN' _⟩
          rw [← hR.out, hR'.out]
          have h2 : (x == y) = false := by simpa [bne] using h
          simp [h2]
        · have h : (x != y) = false := by assumption
          go_roundw
          case rel =>
            refine ⟨k + 1, by omega, by go_num, hE.drewN' _, ?_⟩
            have h2 : (x == y) = true := by simpa [bne] using h
            have h3 := hR'.out
            rw [h2, Bool.true_and] at h3
            exact (h3.symm.trans hR.out)
          case measure => simp [intOf]; omega
      · go_wp2
        go_ret
        refine ⟨ret_bool ?_, hE⟩
        rw [← hR.out, List.drop_eq_nil_of_le (by omega), List.drop_eq_nil_of_le (by have := Hlen.out; omega)]
        rfl
  · have htest : ((l.length : Int) != m.length) = true := by simp; omega
    have hf := Lib.hid (beq_false_of_length hlen)
    go_enter Try.func54, Try.ntmps54
    go_wp2
    go_ret
    exact ⟨ret_bool hf.out.symm, Ext.refl _⟩
def cmpI (a b : Int) : Int := if a < b then -1 else if b < a then 1 else 0
theorem l8Int_any (a b : Int) (w : World) :
    Calls Try.prog 102 #[.int .i64 a, .int .i64 b] w fun e w' => e = .returned (.int .i64 (cmpI a b)) ∧ w = w' := by
  by_cases h1 : a < b <;> by_cases h2 : b < a <;> (
  go_enter Try.func102, Try.ntmps102
  go_wp2
  all_goals (go_ret; refine ⟨ret_int ?_, rfl⟩; simp [cmpI, *]; try omega))
def cmpInts : List Int → List Int → Int
  | [], [] => 0
  | [], _ :: _ => -1
  | _ :: _, [] => 1
  | x :: xs, y :: ys => if x == y then cmpInts xs ys else cmpI x y
theorem cmpInts_zero : ∀ (l m : List Int), (cmpInts l m == 0) = (l == m)
  | [], [] => rfl
  | [], _ :: _ => rfl
  | _ :: _, [] => rfl
  | x :: xs, y :: ys => by
    simp only [cmpInts]
    by_cases h : x = y
    · subst h
      simp only [beq_self_eq_true, if_true]
      rw [cmpInts_zero xs ys]
      rw [Bool.eq_iff_iff]; simp
    · have h2 : (x == y) = false := by simpa using h
      simp only [h2, Bool.false_eq_true, if_false]
      have h3 : (x :: xs == y :: ys) = false := by rw [beq_eq_false_iff_ne]; simp [h]
      rw [h3, beq_eq_false_iff_ne]
      unfold cmpI
      split
      · omega
      · split
        · omega
        · omega

/-! ### The reference's comparison of two lists -/
set_option maxHeartbeats 800000 in
theorem l8Ints_any (l m : List Int) (a c : Option Addr) (ca cc : Nat) (w : World) (ha : Ints w a l) (hc : Ints w c m) (hl : l.length ≤ 1048576) (hm : m.length ≤ 1048576) :
    Calls Try.prog 46 #[.slice a l.length ca, .slice c m.length cc] w fun e w' => e = .returned (.int .i64 (cmpInts l m)) ∧ ∃ n, w' = w.drewN n := by
  go_enter Try.func46, Try.ntmps46
  go_wp2
  go_loopw [5] (fun s5 wr => ∃ k : Nat, k ≤ l.length ∧ k ≤ m.length ∧ s5 = .int .i64 k ∧ (∃ n, wr = w.drewN n) ∧ Hid (cmpInts (l.drop k) (m.drop k) = cmpInts l m)) (fun i _ => l.length - (intOf i).toNat)
  case atStart => exact ⟨0, Nat.zero_le _, Nat.zero_le _, rfl, ⟨0, rfl⟩, rfl⟩
  case round =>
    obtain ⟨k, hk, hkm, rfl, ⟨nw, hwn⟩, hR⟩ := hrel
    have hE : Ext w wr := by rw [hwn]; exact (Ext.refl w).drewN' nw
    have HW := Lib.hid hwn; clear hwn
    by_cases hlt : k < l.length
    · by_cases hmt : k < m.length
      · obtain ⟨b, o, rfl, hca⟩ := ha.ext hE k hlt
        obtain ⟨b', o', rfl, hcc⟩ := hc.ext hE k hmt
        have hR' := Lib.hid (show cmpInts (l.drop k) (m.drop k) = cmpInts (l[k] :: l.drop (k + 1)) (m[k] :: m.drop (k + 1)) by rw [← List.drop_eq_getElem_cons hlt, ← List.drop_eq_getElem_cons hmt])
        generalize hx : l[k] = x at *
        generalize hy : m[k] = y at *
        have Hx := Lib.hid hx; have Hy := Lib.hid hy; clear hx hy
        cases hxy : (x == y)
        · have hne : (x != y) = true := by simp [bne, hxy]
          have Hxy := Lib.hid hxy; clear hxy
          go_wp2
          go_quiet (fail)
          have hE2 : Ext wr (wr.drewN nq) := (Ext.refl _).drewN' nq
          have hca2 := hE2.at hca; have hcc2 := hE2.at hcc
          have HW2 : Hid (∃ n, wr.drewN nq = w.drewN n) := ⟨nw + nq, by rw [HW.out, World.drewN_drewN]⟩
          clear hca hcc hE2
          generalize wr.drewN nq = wq at *
          go_wp2
          go_quiet ((go_at_call 102; exact Calls.quiet_of_same ((l8Int_any _ _ _).mono fun _ _ h => ⟨h.1, h.2.symm⟩)))
          go_wp2
          go_ret
          refine ⟨ret_int ?_, ?_⟩
          · rw [← hR.out, hR'.out]; simp only [cmpInts, Hxy.out, Bool.false_eq_true, if_false]
          · obtain ⟨n2, h2⟩ := HW2.out
            exact ⟨_, by rw [h2, World.drewN_drewN]⟩
        · have hne : (x != y) = false := by simp [bne, hxy]
          have Hxy := Lib.hid hxy; clear hxy
          go_wp2
          go_quiet (fail)
          go_wp2
          go_roundw
          case rel =>
            refine ⟨k + 1, by omega, by omega, by go_num, ?_, ?_⟩
            · rw [HW.out]; exact ⟨_, by rw [World.drewN_drewN]⟩
            · show _ = _
              rw [← hR.out, hR'.out]; simp only [cmpInts, Hxy.out, if_true]
          case measure => simp [intOf]; omega
      · obtain rfl : k = m.length := by omega
        have hR' := Lib.hid (show cmpInts (l.drop m.length) (m.drop m.length) = cmpI l.length m.length by
          rw [List.drop_eq_nil_of_le (Nat.le_refl m.length), List.drop_eq_getElem_cons hlt]
          simp only [cmpInts, cmpI]
          rw [if_neg (by omega), if_pos (by omega)])
        go_wp2_with (go_at_call 102; refine (l8Int_any _ _ _).mono ?_; rintro e w' ⟨rfl, rfl⟩)
        go_ret
        refine ⟨ret_int ?_, nw, HW.out⟩
        rw [← hR.out, hR'.out]
    · obtain rfl : k = l.length := by omega
      have hR' := Lib.hid (show cmpInts (l.drop l.length) (m.drop l.length) = cmpI l.length m.length by
        rw [List.drop_eq_nil_of_le (Nat.le_refl l.length)]
        by_cases h : l.length < m.length
        · rw [List.drop_eq_getElem_cons h]
          simp only [cmpInts, cmpI]
          rw [if_pos (by omega)]
        · rw [List.drop_eq_nil_of_le (by omega)]
          simp only [cmpInts, cmpI]
          rw [if_neg (by omega), if_neg (by omega)])
      go_wp2_with (go_at_call 102; refine (l8Int_any _ _ _).mono ?_; rintro e w' ⟨rfl, rfl⟩)
      go_ret
      refine ⟨ret_int ?_, nw, HW.out⟩
      rw [← hR.out, hR'.out]
end Go.Proofs.Ytdgpbgpapcldeaa
