/- The walks of searches in a slice of integers. -/
import Derived.Test.YtgehpbikkcnecaaRows
import Derived.Test.YtgehpbikkcnecaaLib
import Derived.Test.YtgehpbikkcnecaaRows2
import Derived.Test.YtgehpbikkcnecaaScore
import Derived.Test.YtgehpbikkcnecaaPart
import Derived.Test.YtgehpbikkcnecaaLabels
import Derived.Test.YtgehpbikkcnecaaBlocks
import Derived.Test.YtgehpbikkcnecaaExact
set_option linter.unusedVariables false
set_option linter.unusedSimpArgs false
namespace Go.Proofs.Ytgehpbikkcnecaa
open Go.RowKit Go.Er

theorem findB_eq_neg {α : Type} (p : α → Bool) (l : List α) (h : l.any p = false) : ∀ k, findB p l k = -1 := by
  induction l with
  | nil => intro k; rfl
  | cons x xs ih =>
    intro k
    simp only [List.any_cons, Bool.or_eq_false_iff] at h
    simp only [findB, h.1, Bool.false_eq_true, if_false]
    exact ih h.2 (k + 1)

set_option maxHeartbeats 400000 in
theorem sliceIndex_any (l : List Int) (v : Int) (a : Option Addr) (cap : Nat) (w : World) (ha : Ints w a l) (hl : l.length ≤ 1048576) :
    Calls Try.prog 72 #[.slice a l.length cap, .int .i64 v] w fun e w' => e = .returned (.int .i64 (findB (fun x => x == v) l 0)) ∧ w = w' := by
  go_enter Try.func72, Try.ntmps72
  go_wp2
  go_loop [8] (fun s => ∃ k : Nat, k ≤ l.length ∧ s = .int .i64 k ∧ Hid (findB (fun x => x == v) (l.drop k) k = findB (fun x => x == v) l 0)) (fun i => l.length - (intOf i).toNat)
  case atStart => exact ⟨0, Nat.zero_le _, rfl, rfl⟩
  case round =>
    obtain ⟨k, hk, rfl, hR⟩ := hrel
    by_cases hlt : k < l.length
    · obtain ⟨b, o, rfl, hc⟩ := ha k hlt
      have hR' := Lib.hid (congrArg (fun q => findB (fun x => x == v) q k) (List.drop_eq_getElem_cons hlt))
      generalize hx : l[k] = x at *
      have Hx := Lib.hid hx; clear hx
      cases hxv : (x == v)
      · have Hxv := Lib.hid hxv
        have htest : (v == x) = false := by rw [beq_eq_false_iff_ne] at hxv ⊢; exact fun h => hxv h.symm
        clear hxv
        go_wp2
        go_round
        case rel =>
          refine ⟨k + 1, by omega, by go_num, ?_⟩
          show _ = _
          rw [← hR.out, hR'.out]; simp only [findB, Hxv.out, Bool.false_eq_true, if_false]
        case measure => simp [intOf]; omega
      · have Hxv := Lib.hid hxv
        have htest : (v == x) = true := by rw [beq_iff_eq] at hxv ⊢; exact hxv.symm
        clear hxv
        go_wp2
        go_ret
        refine ⟨ret_int ?_, rfl⟩
        rw [← hR.out, hR'.out]; simp only [findB, Hxv.out, if_true]
    · go_wp2
      go_ret
      refine ⟨ret_int ?_, rfl⟩
      rw [← hR.out, List.drop_eq_nil_of_le (by omega)]; rfl

set_option maxHeartbeats 400000 in
theorem l24Find_any (l : List Int) (v : Int) (a : Option Addr) (cap : Nat) (w : World) (ha : Ints w a l) (hl : l.length ≤ 1048576) :
    Calls Try.prog 69 #[.slice a l.length cap, .int .i64 v] w fun e w' => e = .returned (.int .i64 (findB (fun x => x == v) l 0)) ∧ w = w' := by
  go_enter Try.func69, Try.ntmps69
  go_wp2
  go_loop [5] (fun s => ∃ k : Nat, k ≤ l.length ∧ s = .int .i64 k ∧ Hid (findB (fun x => x == v) (l.drop k) k = findB (fun x => x == v) l 0)) (fun i => l.length - (intOf i).toNat)
  case atStart => exact ⟨0, Nat.zero_le _, rfl, rfl⟩
  case round =>
    obtain ⟨k, hk, rfl, hR⟩ := hrel
    by_cases hlt : k < l.length
    · obtain ⟨b, o, rfl, hc⟩ := ha k hlt
      have hR' := Lib.hid (congrArg (fun q => findB (fun x => x == v) q k) (List.drop_eq_getElem_cons hlt))
      generalize hx : l[k] = x at *
      have Hx := Lib.hid hx; clear hx
      cases hxv : (x == v)
      · have Hxv := Lib.hid hxv
        have htest : (x == v) = false := by exact hxv
        clear hxv
        go_wp2
        go_round
        case rel =>
          refine ⟨k + 1, by omega, by go_num, ?_⟩
          show _ = _
          rw [← hR.out, hR'.out]; simp only [findB, Hxv.out, Bool.false_eq_true, if_false]
        case measure => simp [intOf]; omega
      · have Hxv := Lib.hid hxv
        have htest : (x == v) = true := by exact hxv
        clear hxv
        go_wp2
        go_ret
        refine ⟨ret_int ?_, rfl⟩
        rw [← hR.out, hR'.out]; simp only [findB, Hxv.out, if_true]
    · go_wp2
      go_ret
      refine ⟨ret_int ?_, rfl⟩
      rw [← hR.out, List.drop_eq_nil_of_le (by omega)]; rfl

theorem sliceContains_any (l : List Int) (v : Int) (a : Option Addr) (cap : Nat) (w : World) (ha : Ints w a l) (hl : l.length ≤ 1048576) :
    Calls Try.prog 63 #[.slice a l.length cap, .int .i64 v] w fun e w' => e = .returned (.bool (l.any (fun x => x == v))) ∧ w = w' := by
  have HB := Lib.hid (findB_any (fun x => x == v) l 0)
  go_enter Try.func63, Try.ntmps63
  go_wp2_with fail
  refine (sliceIndex_any l v a cap _ ha hl).mono ?_
  rintro e w' ⟨rfl, rfl⟩
  generalize findB (fun x => x == v) l 0 = q at *
  go_wp2_with fail
  go_ret
  exact ⟨ret_bool HB.out, rfl⟩

/-! ### Counts -/
theorem cntUpto_succ' {α : Type} (p : α → Bool) (l : List α) (k : Nat) (h : k < l.length) : (l.take (k + 1)).countP p = (l.take k).countP p + if p l[k] then 1 else 0 := by
  rw [List.take_succ_eq_append_getElem h, List.countP_append, List.countP_singleton]
theorem countP_take_le {α : Type} (p : α → Bool) (l : List α) (k : Nat) : (l.take k).countP p ≤ k :=
  Nat.le_trans List.countP_le_length (by simp; omega)
def ov (x y : List Int) : Nat := x.countP (fun n => y.any (fun z => z == n))

set_option maxHeartbeats 400000 in
theorem l25Count_any (l m : List Int) (a c : Option Addr) (ca cc : Nat) (w : World) (ha : Ints w a l) (hc : Ints w c m) (hl : l.length ≤ 1048576) (hm : m.length ≤ 1048576) :
    Calls Try.prog 60 #[.slice a l.length ca, .slice c m.length cc] w fun e w' => e = .returned (.int .i64 (ov l m)) ∧ w = w' := by
  go_enter Try.func60, Try.ntmps60
  go_wp2
  go_loop [5, 6] (fun s5 s6 => ∃ k : Nat, k ≤ l.length ∧ s6 = .int .i64 k ∧ s5 = .int .i64 ((l.take k).countP (fun n => m.any (fun z => z == n)) : Nat)) (fun _ i => l.length - (intOf i).toNat)
  case atStart => exact ⟨0, Nat.zero_le _, rfl, rfl⟩
  case round =>
    obtain ⟨k, hk, rfl, rfl⟩ := hrel
    have hb := countP_take_le (fun n => m.any (fun z => z == n)) l k
    by_cases hlt : k < l.length
    · obtain ⟨b, o, rfl, hcl⟩ := ha k hlt
      have hs := Lib.hid (cntUpto_succ' (fun n => m.any (fun z => z == n)) l k hlt)
      have HB := Lib.hid (findB_any (fun z => z == l[k]) m 0)
      generalize hq : (l.take k).countP (fun n => m.any (fun z => z == n)) = q at *
      generalize hx : l[k] = x at *
      have Hx := Lib.hid (And.intro hx hq); clear hx hq
      go_wp2_with fail
      refine (l24Find_any m x c cc _ hc hm).mono ?_
      rintro e w' ⟨rfl, rfl⟩
      have hB := HB.out
      generalize findB (fun z => z == x) m 0 = f at *
      cases hany : m.any (fun z => z == x)
      · have hf : f < 0 := by rw [hany] at hB; simpa using hB
        clear hB
        go_wp2_with fail
        go_round
        case rel => exact ⟨k + 1, by omega, by go_num, by rw [hs.out, hany]; rfl⟩
        case measure => simp [intOf]; omega
      · have hf : 0 ≤ f := by rw [hany] at hB; simpa using hB
        clear hB
        go_wp2_with fail
        go_round
        case rel => exact ⟨k + 1, by omega, by go_num, by rw [hs.out, hany]; go_num⟩
        case measure => simp [intOf]; omega
    · obtain rfl : k = l.length := by omega
      go_wp2
      go_ret
      exact ⟨ret_int rfl, rfl⟩
end Go.Proofs.Ytgehpbikkcnecaa
