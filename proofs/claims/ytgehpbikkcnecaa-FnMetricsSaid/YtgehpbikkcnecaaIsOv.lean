/- The walks of IsOverlapMatrix at matrices that are valid. -/
import Derived.Test.YtgehpbikkcnecaaOverlap
set_option linter.unusedVariables false
set_option linter.unusedSimpArgs false
namespace Go.Proofs.Ytgehpbikkcnecaa
open Go.RowKit Go.Er

set_option maxHeartbeats 800000 in
theorem indexFunc_ints0 (F : FuncId) (p : Int → Bool) (L : List Int) (a : Option Addr) (cap : Nat) (w : World) (ha : Ints w a L) (hl : L.length ≤ 1048576)
    (hcf : ∀ (args : Array Value) (w : World), (callFunc F args).run Try.prog w = .ok (.enter F args) w)
    (hf : ∀ x wr, Calls Try.prog F #[.int .i64 x] wr fun e w' => e = .returned (.bool (p x)) ∧ wr = w') :
    Calls Try.prog 74 #[.slice a L.length cap, .func (.func F) #[] #[]] w fun e w' => e = .returned (.int .i64 (findB p L 0)) ∧ w = w' := by
  have HF := Lib.hid hf; clear hf
  go_enter Try.func74, Try.ntmps74
  go_wp2_with fail
  go_loop [8] (fun s8 => ∃ k : Nat, k ≤ L.length ∧ s8 = .int .i64 k ∧ Hid (findB p (L.drop k) k = findB p L 0)) (fun i => L.length - (intOf i).toNat)
  case atStart => exact ⟨0, Nat.zero_le _, rfl, rfl⟩
  case round =>
    obtain ⟨k, hk, rfl, hR⟩ := hrel
    by_cases hlt : k < L.length
    · obtain ⟨b, o, rfl, hc⟩ := ha k hlt
      have hR' := Lib.hid (congrArg (fun q => findB p q k) (List.drop_eq_getElem_cons hlt))
      generalize hx : L[k] = x at *
      have Hx := Lib.hid hx; clear hx
      cases hp : p x
      · go_wp2_with fail
        refine (HF.out x w).mono ?_
        rintro e w' ⟨rfl, rfl⟩
        go_wp2_with fail
        go_round
        case rel =>
          refine ⟨k + 1, by omega, by go_num, ?_⟩
          show _ = _
          rw [← hR.out, hR'.out]; simp only [findB, hp, Bool.false_eq_true, if_false]
        case measure => (simp [intOf] <;> omega)
      · go_wp2_with fail
        refine (HF.out x w).mono ?_
        rintro e w' ⟨rfl, rfl⟩
        go_wp2_with fail
        go_ret
        refine ⟨ret_int ?_, rfl⟩
        rw [← hR.out, hR'.out]; simp only [findB, hp, if_true]
    · go_wp2_with fail
      go_ret
      refine ⟨ret_int ?_, rfl⟩
      rw [← hR.out, List.drop_eq_nil_of_le (by omega)]; rfl

theorem containsFunc_ints0 (F : FuncId) (p : Int → Bool) (L : List Int) (a : Option Addr) (cap : Nat) (w : World) (ha : Ints w a L) (hl : L.length ≤ 1048576)
    (hcf : ∀ (args : Array Value) (w : World), (callFunc F args).run Try.prog w = .ok (.enter F args) w)
    (hf : ∀ x wr, Calls Try.prog F #[.int .i64 x] wr fun e w' => e = .returned (.bool (p x)) ∧ wr = w') :
    Calls Try.prog 70 #[.slice a L.length cap, .func (.func F) #[] #[]] w fun e w' => e = .returned (.bool (L.any p)) ∧ w = w' := by
  have HB := Lib.hid (findB_any p L 0)
  have HF := Lib.hid hf; have HC := Lib.hid hcf; clear hf hcf
  go_enter Try.func70, Try.ntmps70
  go_wp2_with fail
  refine (indexFunc_ints0 F p L a cap _ ha hl HC.out HF.out).mono ?_
  rintro e w' ⟨rfl, rfl⟩
  generalize findB p L 0 = q at *
  go_wp2_with fail
  go_ret
  exact ⟨ret_bool HB.out, rfl⟩

theorem canCallOv : ∀ (args : Array Value) (w : World), (callFunc 71 args).run Try.prog w = .ok (.enter 71 args) w :=
  callFunc_run Try.func71 (by kernel_rfl) (by kernel_rfl)
theorem ovClosure_any (x : Int) (w : World) : Calls Try.prog 71 #[.int .i64 x] w fun e w' => e = .returned (.bool (!inR x 0 100)) ∧ w = w' := by
  go_enter Try.func71, Try.ntmps71
  go_wp2_with (go_at_call 52; refine (within_any _ _ _ _).mono ?_; rintro e w' ⟨rfl, rfl⟩)
  go_ret
  exact ⟨rfl, rfl⟩

/-- A matrix of at most 8 rows and n ≤ 8 columns, its entries between 0 and 100. -/
structure Ov (M : List (List Int)) (n : Nat) : Prop where
  rows : M.length ≤ 8
  cols : n ≤ 8
  len : ∀ r ∈ M, r.length = n
  vals : ∀ r ∈ M, ∀ x ∈ r, 0 ≤ x ∧ x ≤ 100

set_option maxHeartbeats 800000 in
theorem isOverlapMatrix_any (M : List (List Int)) (n : Nat) (a : Option Addr) (ca : Nat) (w : World) (ha : IntRows w a M) (hM : Ov M n) :
    Calls Try.prog 61 #[.slice a M.length ca] w fun e w' => e = .returned (.bool true) ∧ w = w' := by
  have hm8 : (M.length : Int) ≤ 8 := by have := hM.rows; omega
  have HM := Lib.hid hM; clear hM
  go_enter Try.func61, Try.ntmps61
  go_wp2_with fail
  go_loop [7] (fun s7 => ∃ k : Nat, k ≤ M.length ∧ s7 = .int .i64 k) (fun i => M.length - (intOf i).toNat)
  case atStart => exact ⟨0, Nat.zero_le _, rfl⟩
  case round =>
    obtain ⟨k, hk, rfl⟩ := hrel
    by_cases hlt : k < M.length
    · obtain ⟨b, o, ai, ci, rfl, hcl, hi⟩ := ha k hlt
      obtain ⟨b0, o0, a0, c0, hbe, hcl0, _⟩ := ha 0 (by omega)
      obtain ⟨rfl, rfl⟩ : b = b0 ∧ o = o0 := by simpa using hbe
      have e1 : M[k].length = n := HM.out.len _ (List.getElem_mem hlt)
      have e0 : M[0].length = n := HM.out.len _ (List.getElem_mem (by omega))
      have hn8 := HM.out.cols
      have hnone : M[k].any (fun x => !inR x 0 100) = false := by
        rw [List.any_eq_false]
        intro x hx
        have := HM.out.vals _ (List.getElem_mem hlt) x hx
        simp [inR, this]
      rw [e1] at hcl
      rw [e0, Nat.add_zero] at hcl0
      have h0n : 0 < M.length := by omega
      generalize M[k] = x at *
      have e2 := Lib.hid e1
      have hx8 : n ≤ 8 := hn8
      have hn8' : ¬ ((8 : Int) < (n : Int)) := by omega
      have htest : ((n : Int) != (n : Int)) = false := by simp
      have HI := Lib.hid hi; have HN := Lib.hid hnone
      clear e1 e0 hbe hi hnone
      go_wp2_with fail
      refine (by have h := containsFunc_ints0 71 (fun x => !inR x 0 100) x ai ci w HI.out (by have := e2.out; omega) canCallOv (fun x wr => ovClosure_any x wr); rw [e2.out, HN.out] at h; exact h : Calls Try.prog 70 #[.slice ai n ci, .func (.func 71) #[] #[]] w fun e w' => e = .returned (.bool false) ∧ w = w').mono ?_
      rintro e w' ⟨rfl, rfl⟩
      go_wp2_with fail
      go_round
      case rel => exact ⟨k + 1, by omega, by go_num⟩
      case measure => (simp [intOf] <;> omega)
    · go_wp2_with fail
      go_ret
      exact ⟨rfl, rfl⟩

set_option maxHeartbeats 800000 in
theorem specIsOverlapMatrix_any (M : List (List Int)) (n : Nat) (a : Option Addr) (ca : Nat) (w : World) (ha : IntRows w a M) (hM : Ov M n) :
    Calls Try.prog 58 #[.slice a M.length ca] w fun e w' => e = .returned (.bool true) ∧ Ext w w' := by
  have hm8 : (M.length : Int) ≤ 8 := by have := hM.rows; omega
  have HM := Lib.hid hM; clear hM
  have HA := Lib.hid ha; clear ha
  go_enter Try.func58, Try.ntmps58
  go_wp2_with fail
  go_loopw [3] (fun s3 wr => ∃ k : Nat, k ≤ M.length ∧ s3 = .int .i64 k ∧ Ext w wr) (fun i _ => M.length - (intOf i).toNat)
  case atStart => exact ⟨0, Nat.zero_le _, rfl, Ext.refl _⟩
  case round =>
    obtain ⟨k, hk, rfl, hE⟩ := hrel
    by_cases hlt : k < M.length
    · obtain ⟨b, o, ai, ci, rfl, hcl, hi⟩ := HA.out k hlt
      obtain ⟨b0, o0, a0, c0, hbe, hcl0, _⟩ := HA.out 0 (by omega)
      obtain ⟨rfl, rfl⟩ : b = b0 ∧ o = o0 := by simpa using hbe
      have e1 : M[k].length = n := HM.out.len _ (List.getElem_mem hlt)
      have e0 : M[0].length = n := HM.out.len _ (List.getElem_mem (by omega))
      have hn8 := HM.out.cols
      have hvals := Lib.hid (HM.out.vals _ (List.getElem_mem hlt))
      rw [e1] at hcl
      rw [e0, Nat.add_zero] at hcl0
      have h0n : 0 < M.length := by omega
      generalize M[k] = x at *
      have e2 := Lib.hid e1
      have hn8' : ¬ ((8 : Int) < (n : Int)) := by omega
      have htest : ((n : Int) != (n : Int)) = false := by simp
      have h0m : (0 : Int) < (M.length : Int) := by omega
      have HI := Lib.hid hi; have HCL := Lib.hid hcl
      have hclr := hE.at hcl; have hclr0 := hE.at hcl0
      clear e1 e0 hbe hi hcl hcl0
      have hd8 : decide ((8 : Int) < (n : Int)) = false := by rw [decide_eq_false_iff_not]; exact hn8'
      go_wp2
      go_quiet (fail)
      go_wp2_with fail
      have hE2 : Ext w (wr.drewN nq) := hE.drewN' nq
      clear hclr hclr0 hn8' htest h0m h0n hd8
      generalize wr.drewN nq = wz at *
      clear hE
      go_loopw [4] (fun s4 wr => ∃ j : Nat, j ≤ n ∧ s4 = .int .i64 j ∧ Ext w wr) (fun i _ => n - (intOf i).toNat)
      case atStart => exact ⟨0, Nat.zero_le _, rfl, hE2⟩
      case round =>
        obtain ⟨j, hj, rfl, hEi⟩ := hrel
        have hcl := hEi.at HCL.out
        by_cases hjl : j < n
        · obtain ⟨b3, o3, rfl, hcx⟩ := HI.out j (by rw [e2.out]; exact hjl)
          have hcx2 := hEi.at hcx
          have hv := hvals.out (x[j]'(by rw [e2.out]; exact hjl)) (List.getElem_mem _)
          generalize x[j]'(by rw [e2.out]; exact hjl) = v at *
          have hin : Hid (inR v 0 100 = true) := by show _ = _; simp [inR, hv]
          clear hcx
          go_wp2_with (go_at_call 51; refine (l1In_any _ _ _ _).mono ?_; rintro e w' ⟨rfl, rfl⟩; rw [hin.out])
          go_roundw
          case rel => exact ⟨j + 1, by omega, by go_num, hEi⟩
          case measure => (simp [intOf] <;> omega)
        · obtain rfl : j = n := by omega
          go_wp2_with fail
          go_roundw
          case rel => exact ⟨k + 1, by omega, by go_num, hEi⟩
          case measure => (simp [intOf] <;> omega)
    · go_wp2_with fail
      go_ret
      exact ⟨rfl, hE⟩
end Go.Proofs.Ytgehpbikkcnecaa
