/- The walks of small functions over slices of integers: equality, partitions. -/
import Derived.Test.YtgehpbikkcnecaaRows
import Derived.Test.YtgehpbikkcnecaaLib
import Derived.Test.YtgehpbikkcnecaaScore
import Derived.BigQuiet
import Derived.Deep.QuietTactic
set_option linter.unusedVariables false
set_option linter.unusedSimpArgs false
namespace Go.Proofs.Ytgehpbikkcnecaa
open Go.RowKit Go.Er

theorem beq_drop (l m : List Int) (k : Nat) (h1 : k < l.length) (h2 : k < m.length) : (l.drop k == m.drop k) = (l[k] == m[k] && l.drop (k + 1) == m.drop (k + 1)) := by
  rw [List.drop_eq_getElem_cons h1, List.drop_eq_getElem_cons h2]; rfl
theorem beq_false_of_length {l m : List Int} (h : l.length ≠ m.length) : (l == m) = false := by
  rw [beq_eq_false_iff_ne]; rintro rfl; exact h rfl

set_option maxHeartbeats 400000 in
theorem eqIntS_any (l m : List Int) (a c : Option Addr) (ca cc : Nat) (w : World) (ha : Ints w a l) (hc : Ints w c m) (hl : l.length ≤ 1048576) (hm : m.length ≤ 1048576) :
    Calls Try.prog 21 #[.slice a l.length ca, .slice c m.length cc] w fun e w' => e = .returned (.bool (l == m)) ∧ Ext w w' := by
  by_cases hlen : l.length = m.length
  · have Hlen := Lib.hid hlen
    have htest : ((l.length : Int) != m.length) = false := by simp [hlen]
    clear hlen
    go_enter Try.func21, Try.ntmps21
    go_wp2
    clear htest
    go_loopw [5] (fun s5 wr => ∃ k : Nat, k ≤ l.length ∧ s5 = .int .i64 k ∧ Ext w wr ∧ Hid ((l.drop k == m.drop k) = (l == m))) (fun i _ => l.length - (intOf i).toNat)
    case atStart => exact ⟨0, Nat.zero_le _, rfl, Ext.refl _, rfl⟩
    case round =>
      obtain ⟨k, hk, rfl, hE, hR⟩ := hrel
      by_cases hlt : k < l.length
      · obtain ⟨b, o, rfl, hca⟩ := ha.ext hE k hlt
        obtain ⟨b', o', rfl, hcc⟩ := hc.ext hE k (by have := Hlen.out; omega)
        have hR' := Lib.hid (beq_drop l m k hlt (by have := Hlen.out; omega))
        generalize hx : l[k] = x at *
        generalize hy : m[k]'(by have := Hlen.out; omega) = y at *
        have hkm : k < m.length := by have := Hlen.out; omega
        have Hx := Lib.hid hx; have Hy := Lib.hid hy; clear hx hy
        go_wp2
        go_quiet (fail)
        go_wp2
        · have h : (x != y) = true := by assumption
          go_ret
          refine ⟨ret_bool ?_, hE.drewN' _⟩
          rw [← hR.out, hR'.out]
          have h2 : (x == y) = false := by simpa [bne] using h
          simp [h2]
        · have h : (x != y) = false := by assumption
          go_roundw
          case rel =>
            refine ⟨k + 1, by omega, by go_num, hE.drewN' _, ?_⟩
            have h2 : (x == y) = true := by simpa [bne] using h
            have h3 := hR'.out
            rw [h2, Bool.true_and] at h3
            exact (h3.symm.trans hR.out)
          case measure => simp [intOf]; omega
      · go_wp2
        go_ret
        refine ⟨ret_bool ?_, hE⟩
        rw [← hR.out, List.drop_eq_nil_of_le (by omega), List.drop_eq_nil_of_le (by have := Hlen.out; omega)]
        rfl
  · have htest : ((l.length : Int) != m.length) = true := by simp; omega
    have hf := Lib.hid (beq_false_of_length hlen)
    go_enter Try.func21, Try.ntmps21
    go_wp2
    go_ret
    exact ⟨ret_bool hf.out.symm, Ext.refl _⟩

set_option maxHeartbeats 400000 in
theorem sliceEqual_any (l m : List Int) (a c : Option Addr) (ca cc : Nat) (w : World) (ha : Ints w a l) (hc : Ints w c m) (hl : l.length ≤ 1048576) (hm : m.length ≤ 1048576) :
    Calls Try.prog 43 #[.slice a l.length ca, .slice c m.length cc] w fun e w' => e = .returned (.bool (l == m)) ∧ Ext w w' := by
  by_cases hlen : l.length = m.length
  · have Hlen := Lib.hid hlen
    have htest : ((l.length : Int) != m.length) = false := by simp [hlen]
    clear hlen
    go_enter Try.func43, Try.ntmps43
    go_wp2
    clear htest
    go_loopw [13] (fun s5 wr => ∃ k : Nat, k ≤ l.length ∧ s5 = .int .i64 k ∧ Ext w wr ∧ Hid ((l.drop k == m.drop k) = (l == m))) (fun i _ => l.length - (intOf i).toNat)
    case atStart => exact ⟨0, Nat.zero_le _, rfl, Ext.refl _, rfl⟩
    case round =>
      obtain ⟨k, hk, rfl, hE, hR⟩ := hrel
      by_cases hlt : k < l.length
      · obtain ⟨b, o, rfl, hca⟩ := ha.ext hE k hlt
        obtain ⟨b', o', rfl, hcc⟩ := hc.ext hE k (by have := Hlen.out; omega)
        have hR' := Lib.hid (beq_drop l m k hlt (by have := Hlen.out; omega))
        generalize hx : l[k] = x at *
        generalize hy : m[k]'(by have := Hlen.out; omega) = y at *
        have hkm : k < m.length := by have := Hlen.out; omega
        have Hx := Lib.hid hx; have Hy := Lib.hid hy; clear hx hy
        go_wp2
        go_quiet (fail)
        go_wp2
        · have h : (x != y) = true := by assumption
          go_ret
          refine ⟨ret_bool ?_, hE.drewN' _⟩
          rw [← hR.out, hR'.out]
          have h2 : (x == y) = false := by simpa [bne] using h
          simp [h2]
        · have h : (x != y) = false := by assumption
          go_roundw
          case rel =>
            refine ⟨k + 1, by omega, by go_num, hE.drewN' _, ?_⟩
            have h2 : (x == y) = true := by simpa [bne] using h
            have h3 := hR'.out
            rw [h2, Bool.true_and] at h3
            exact (h3.symm.trans hR.out)
          case measure => simp [intOf]; omega
      · go_wp2
        go_ret
        refine ⟨ret_bool ?_, hE⟩
        rw [← hR.out, List.drop_eq_nil_of_le (by omega), List.drop_eq_nil_of_le (by have := Hlen.out; omega)]
        rfl
  · have htest : ((l.length : Int) != m.length) = true := by simp; omega
    have hf := Lib.hid (beq_false_of_length hlen)
    go_enter Try.func43, Try.ntmps43
    go_wp2
    go_ret
    exact ⟨ret_bool hf.out.symm, Ext.refl _⟩

set_option maxHeartbeats 400000 in
theorem sameInts_any (l m : List Int) (a c : Option Addr) (ca cc : Nat) (w : World) (ha : Ints w a l) (hc : Ints w c m) (hl : l.length ≤ 1048576) (hm : m.length ≤ 1048576) :
    Calls Try.prog 29 #[.slice a l.length ca, .slice c m.length cc] w fun e w' => e = .returned (.bool (l == m)) ∧ Ext w w' := by
  by_cases hlen : l.length = m.length
  · have Hlen := Lib.hid hlen
    have htest : ((l.length : Int) != m.length) = false := by simp [hlen]
    clear hlen
    go_enter Try.func29, Try.ntmps29
    go_wp2
    clear htest
    go_loopw [5] (fun s5 wr => ∃ k : Nat, k ≤ l.length ∧ s5 = .int .i64 k ∧ Ext w wr ∧ Hid ((l.drop k == m.drop k) = (l == m))) (fun i _ => l.length - (intOf i).toNat)
    case atStart => exact ⟨0, Nat.zero_le _, rfl, Ext.refl _, rfl⟩
    case round =>
      obtain ⟨k, hk, rfl, hE, hR⟩ := hrel
      by_cases hlt : k < l.length
      · obtain ⟨b, o, rfl, hca⟩ := ha.ext hE k hlt
        obtain ⟨b', o', rfl, hcc⟩ := hc.ext hE k (by have := Hlen.out; omega)
        have hR' := Lib.hid (beq_drop l m k hlt (by have := Hlen.out; omega))
        generalize hx : l[k] = x at *
        generalize hy : m[k]'(by have := Hlen.out; omega) = y at *
        have hkm : k < m.length := by have := Hlen.out; omega
        have Hx := Lib.hid hx; have Hy := Lib.hid hy; clear hx hy
        go_wp2
        go_quiet (fail)
        go_wp2
        · have h : (x != y) = true := by assumption
          go_ret
          refine ⟨ret_bool ?_, hE.drewN' _⟩
          rw [← hR.out, hR'.out]
          have h2 : (x == y) = false := by simpa [bne] using h
          simp [h2]
        · have h : (x != y) = false := by assumption
          go_roundw
          case rel =>
            refine ⟨k + 1, by omega, by go_num, hE.drewN' _, ?_⟩
            have h2 : (x == y) = true := by simpa [bne] using h
            have h3 := hR'.out
            rw [h2, Bool.true_and] at h3
            exact (h3.symm.trans hR.out)
          case measure => simp [intOf]; omega
      · go_wp2
        go_ret
        refine ⟨ret_bool ?_, hE⟩
        rw [← hR.out, List.drop_eq_nil_of_le (by omega), List.drop_eq_nil_of_le (by have := Hlen.out; omega)]
        rfl
  · have htest : ((l.length : Int) != m.length) = true := by simp; omega
    have hf := Lib.hid (beq_false_of_length hlen)
    go_enter Try.func29, Try.ntmps29
    go_wp2
    go_ret
    exact ⟨ret_bool hf.out.symm, Ext.refl _⟩

/-! ### Partitions -/
def partFrom (n : Int) : List Int → Int → Bool
  | [], _ => inR n 1 8
  | x :: xs, next => if inR x 0 next then partFrom n xs (if next < x + 1 then x + 1 else next) else false
def isPart (l : List Int) : Bool := partFrom l.length l 0

theorem isPartition_any (l : List Int) (a : Option Addr) (cap : Nat) (w : World) (hr : Ints w a l) (hl : l.length ≤ 1048576) :
    Calls Try.prog 55 #[.slice a l.length cap] w fun e w' => e = .returned (.bool (isPart l)) ∧ w = w' := by
  go_enter Try.func55, Try.ntmps55
  go_wp2
  go_loop [3, 8] (fun s3 s8 => ∃ (k : Nat) (next : Int), k ≤ l.length ∧ s8 = .int .i64 k ∧ s3 = .int .i64 next ∧ next ≤ 1048576 + k ∧ Hid (partFrom l.length (l.drop k) next = isPart l)) (fun _ i => l.length - (intOf i).toNat)
  case atStart => exact ⟨0, 0, Nat.zero_le _, rfl, rfl, by omega, rfl⟩
  case round =>
    obtain ⟨k, next, hk, rfl, rfl, hnx, hR⟩ := hrel
    by_cases hlt : k < l.length
    · obtain ⟨b, o, rfl, hc⟩ := hr k hlt
      have hR' := Lib.hid (congrArg (fun q => partFrom l.length q next) (List.drop_eq_getElem_cons hlt))
      generalize hv : l[k] = v at *
      have Hv := Lib.hid hv; clear hv
      cases hb : inR v 0 next
      · go_wp2_with (go_at_call 52; refine (within_any _ _ _ _).mono ?_; rintro e w' ⟨rfl, rfl⟩)
        go_ret
        refine ⟨ret_bool ?_, rfl⟩
        rw [← hR.out, hR'.out]; simp [partFrom, hb]
      · have hb2 := (inR_iff _ _ _).1 hb
        go_wp2_with (go_at_call 52; refine (within_any _ _ _ _).mono ?_; rintro e w' ⟨rfl, rfl⟩)
        all_goals
          go_round
          case rel =>
            refine ⟨k + 1, _, by omega, by go_num, rfl, by omega, ?_⟩
            show _ = _
            rw [← hR.out, hR'.out]; simp only [partFrom, hb, if_true]
            all_goals (congr 1 <;> (split <;> omega))
          case measure => simp [intOf]; omega
    · go_wp2_with (go_at_call 52; refine (within_any _ _ _ _).mono ?_; rintro e w' ⟨rfl, rfl⟩)
      go_ret
      refine ⟨ret_bool ?_, rfl⟩
      rw [← hR.out, List.drop_eq_nil_of_le (by omega)]; rfl

theorem specIsPartition_any (l : List Int) (a : Option Addr) (cap : Nat) (w : World) (hr : Ints w a l) (hl : l.length ≤ 1048576) :
    Calls Try.prog 53 #[.slice a l.length cap] w fun e w' => e = .returned (.bool (isPart l)) ∧ w = w' := by
  go_enter Try.func53, Try.ntmps53
  go_wp2
  go_loop [3, 4] (fun s3 s4 => ∃ (k : Nat) (top : Int), k ≤ l.length ∧ s4 = .int .i64 k ∧ s3 = .int .i64 top ∧ -1 ≤ top ∧ top ≤ 1048576 + k ∧ Hid (partFrom l.length (l.drop k) (top + 1) = isPart l)) (fun _ i => l.length - (intOf i).toNat)
  case atStart => exact ⟨0, -1, Nat.zero_le _, rfl, rfl, by omega, by omega, rfl⟩
  case round =>
    obtain ⟨k, top, hk, rfl, rfl, hlo, hnx, hR⟩ := hrel
    by_cases hlt : k < l.length
    · obtain ⟨b, o, rfl, hc⟩ := hr k hlt
      have hR' := Lib.hid (congrArg (fun q => partFrom l.length q (top + 1)) (List.drop_eq_getElem_cons hlt))
      generalize hv : l[k] = v at *
      have Hv := Lib.hid hv; clear hv
      cases hb : inR v 0 (top + 1)
      · go_wp2_with (go_at_call 51; refine (l1In_any _ _ _ _).mono ?_; rintro e w' ⟨rfl, rfl⟩)
        go_ret
        refine ⟨ret_bool ?_, rfl⟩
        rw [← hR.out, hR'.out]; simp [partFrom, hb]
      · have hb2 := (inR_iff _ _ _).1 hb
        go_wp2_with (go_at_call 51; refine (l1In_any _ _ _ _).mono ?_; rintro e w' ⟨rfl, rfl⟩)
        all_goals
          go_round
          case rel =>
            refine ⟨k + 1, _, by omega, by go_num, rfl, by omega, by omega, ?_⟩
            show _ = _
            rw [← hR.out, hR'.out]; simp only [partFrom, hb, if_true]
            all_goals (congr 1 <;> (split <;> omega))
          case measure => simp [intOf]; omega
    · go_wp2_with (go_at_call 51; refine (l1In_any _ _ _ _).mono ?_; rintro e w' ⟨rfl, rfl⟩)
      go_ret
      refine ⟨ret_bool ?_, rfl⟩
      rw [← hR.out, List.drop_eq_nil_of_le (by omega)]; rfl

def pairB (l m : List Int) : Bool := isPart l && isPart m && decide (l.length = m.length)

theorem arePartitions_any (l m : List Int) (a c : Option Addr) (ca cc : Nat) (w : World) (ha : Ints w a l) (hc : Ints w c m) (hl : l.length ≤ 1048576) (hm : m.length ≤ 1048576) :
    Calls Try.prog 37 #[.slice a l.length ca, .slice c m.length cc] w fun e w' => e = .returned (.bool (pairB l m)) ∧ w = w' := by
  cases hlen : ((l.length : Int) == m.length) <;> cases h1 : isPart l <;> cases h2 : isPart m <;> (
  go_enter Try.func37, Try.ntmps37
  go_wp2_with (go_at_call 55; first | ((with_reducible refine (isPartition_any l a ca _ ha hl).mono ?_); rintro e w' ⟨rfl, rfl⟩) | ((with_reducible refine (isPartition_any m c cc _ hc hm).mono ?_); rintro e w' ⟨rfl, rfl⟩))
  go_ret
  refine ⟨ret_bool ?_, rfl⟩
  simp [pairB, h1, h2] <;> simp at hlen <;> omega)

theorem l19Pair_any (l m : List Int) (a c : Option Addr) (ca cc : Nat) (w : World) (ha : Ints w a l) (hc : Ints w c m) (hl : l.length ≤ 1048576) (hm : m.length ≤ 1048576) :
    Calls Try.prog 34 #[.slice a l.length ca, .slice c m.length cc] w fun e w' => e = .returned (.bool (pairB l m)) ∧ w = w' := by
  cases hlen : ((l.length : Int) == m.length) <;> cases h1 : isPart l <;> cases h2 : isPart m <;> (
  go_enter Try.func34, Try.ntmps34
  go_wp2_with (go_at_call 53; first | ((with_reducible refine (specIsPartition_any l a ca _ ha hl).mono ?_); rintro e w' ⟨rfl, rfl⟩) | ((with_reducible refine (specIsPartition_any m c cc _ hc hm).mono ?_); rintro e w' ⟨rfl, rfl⟩))
  go_ret
  refine ⟨ret_bool ?_, rfl⟩
  simp [pairB, h1, h2] <;> simp at hlen <;> omega)

end Go.Proofs.Ytgehpbikkcnecaa
