/- The walks of ExactBlocks of the program and of the reference. -/
import Derived.Test.YtgehpbikkcnecaaRows
import Derived.Test.YtgehpbikkcnecaaLib
import Derived.Test.YtgehpbikkcnecaaRows2
import Derived.Test.YtgehpbikkcnecaaScore
import Derived.Test.YtgehpbikkcnecaaPart
import Derived.Test.YtgehpbikkcnecaaLabels
import Derived.Test.YtgehpbikkcnecaaBlocks
set_option linter.unusedVariables false
set_option linter.unusedSimpArgs false
namespace Go.Proofs.Ytgehpbikkcnecaa
open Go.RowKit Go.Er

def findB {α : Type} (p : α → Bool) : List α → Nat → Int
  | [], _ => -1
  | x :: xs, k => if p x then (k : Int) else findB p xs (k + 1)
theorem findB_any {α : Type} (p : α → Bool) : ∀ (l : List α) (k : Nat), decide (0 ≤ findB p l k) = l.any p
  | [], k => by simp [findB]
  | x :: xs, k => by
    simp only [findB, List.any_cons]
    split
    · rename_i h; simp [h]
    · rename_i h; rw [findB_any p xs (k + 1)]; simp [h]

set_option maxHeartbeats 800000 in
theorem indexFunc_rows (F : FuncId) (pv : Value) (p : List Int → Bool) (L : List (List Int)) (a : Option Addr) (cap : Nat) (w : World) (ha : IntRows w a L) (hl : L.length ≤ 1048576)
    (hcf : ∀ (args : Array Value) (w : World), (callFunc F args).run Try.prog w = .ok (.enter F args) w)
    (hf : ∀ i, (h : i < L.length) → ∀ ai ci wr, Ext w wr → Ints wr ai L[i] → Calls Try.prog F #[.slice ai L[i].length ci, pv] wr fun e w' => e = .returned (.bool (p L[i])) ∧ Ext wr w') :
    Calls Try.prog 57 #[.slice a L.length cap, .func (.func F) #[] #[pv]] w fun e w' => e = .returned (.int .i64 (findB p L 0)) ∧ Ext w w' := by
  have HF := Lib.hid hf; clear hf
  go_enter Try.func57, Try.ntmps57
  go_wp2_with fail
  go_loopw [8] (fun s8 wr => ∃ k : Nat, k ≤ L.length ∧ s8 = .int .i64 k ∧ Ext w wr ∧ Hid (findB p (L.drop k) k = findB p L 0)) (fun i _ => L.length - (intOf i).toNat)
  case atStart => exact ⟨0, Nat.zero_le _, rfl, Ext.refl _, rfl⟩
  case round =>
    obtain ⟨k, hk, rfl, hE, hR⟩ := hrel
    by_cases hlt : k < L.length
    · obtain ⟨b, o, ai, ci, rfl, hc, hi⟩ := ha.ext hE k hlt
      have hcall := Lib.hid (HF.out k hlt ai ci wr hE hi)
      have hR' := Lib.hid (congrArg (fun q => findB p q k) (List.drop_eq_getElem_cons hlt))
      generalize hx : L[k] = x at *
      have Hx := Lib.hid hx; clear hx hi
      cases hp : p x
      · go_wp2_with fail
        refine hcall.out.mono ?_
        rintro e w' ⟨rfl, hE'⟩
        go_wp2_with fail
        go_roundw
        case rel =>
          refine ⟨k + 1, by omega, by go_num, hE.trans hE', ?_⟩
          show _ = _
          rw [← hR.out, hR'.out]; simp only [findB, hp, Bool.false_eq_true, if_false]
        case measure => simp [intOf]; omega
      · go_wp2_with fail
        refine hcall.out.mono ?_
        rintro e w' ⟨rfl, hE'⟩
        go_wp2_with fail
        go_ret
        refine ⟨ret_int ?_, hE.trans hE'⟩
        rw [← hR.out, hR'.out]; simp only [findB, hp, if_true]
    · go_wp2_with fail
      go_ret
      refine ⟨ret_int ?_, hE⟩
      rw [← hR.out, List.drop_eq_nil_of_le (by omega)]; rfl

theorem containsFunc_rows (F : FuncId) (pv : Value) (p : List Int → Bool) (L : List (List Int)) (a : Option Addr) (cap : Nat) (w : World) (ha : IntRows w a L) (hl : L.length ≤ 1048576)
    (hcf : ∀ (args : Array Value) (w : World), (callFunc F args).run Try.prog w = .ok (.enter F args) w)
    (hf : ∀ i, (h : i < L.length) → ∀ ai ci wr, Ext w wr → Ints wr ai L[i] → Calls Try.prog F #[.slice ai L[i].length ci, pv] wr fun e w' => e = .returned (.bool (p L[i])) ∧ Ext wr w') :
    Calls Try.prog 41 #[.slice a L.length cap, .func (.func F) #[] #[pv]] w fun e w' => e = .returned (.bool (L.any p)) ∧ Ext w w' := by
  have hfb := findB_any p L 0
  have HB := Lib.hid hfb; clear hfb
  have HF := Lib.hid hf; have HC := Lib.hid hcf; clear hf hcf
  go_enter Try.func41, Try.ntmps41
  go_wp2_with fail
  refine (indexFunc_rows F pv p L a cap _ ha hl HC.out HF.out).mono ?_
  rintro e w' ⟨rfl, hE'⟩
  generalize findB p L 0 = q at *
  go_wp2_with fail
  go_ret
  exact ⟨ret_bool HB.out, hE'⟩

theorem canCall : ∀ (args : Array Value) (w : World), (callFunc 42 args).run Try.prog w = .ok (.enter 42 args) w :=
  callFunc_run Try.func42 (by kernel_rfl) (by kernel_rfl)

/-- The closure: does the block that is held equal the argument? -/
theorem exactClosure_any (x l : List Int) (ax a : Option Addr) (cx c b : Nat) (w : World) (hb : w.cell? ⟨b, 0, none⟩ = some (.slice ax x.length cx)) (hx : Ints w ax x) (ha : Ints w a l) (hl : l.length ≤ 1048576) (hxl : x.length ≤ 1048576) :
    Calls Try.prog 42 #[.slice a l.length c, .pointer (some ⟨b, 0, none⟩)] w fun e w' => e = .returned (.bool (x == l)) ∧ Ext w w' := by
  go_enter Try.func42, Try.ntmps42
  go_wp2_with fail
  refine (sliceEqual_any x l ax a cx c _ hx ha hxl hl).mono ?_
  rintro e w' ⟨rfl, hE'⟩
  go_wp2_with fail
  go_ret
  exact ⟨rfl, hE'⟩

def cmpI (a b : Int) : Int := if a < b then -1 else if b < a then 1 else 0
theorem l8Int_any (a b : Int) (w : World) :
    Calls Try.prog 56 #[.int .i64 a, .int .i64 b] w fun e w' => e = .returned (.int .i64 (cmpI a b)) ∧ w = w' := by
  by_cases h1 : a < b <;> by_cases h2 : b < a <;> (
  go_enter Try.func56, Try.ntmps56
  go_wp2
  all_goals (go_ret; refine ⟨ret_int ?_, rfl⟩; simp [cmpI, *]; try omega))
def cmpInts : List Int → List Int → Int
  | [], [] => 0
  | [], _ :: _ => -1
  | _ :: _, [] => 1
  | x :: xs, y :: ys => if x == y then cmpInts xs ys else cmpI x y
theorem cmpInts_zero : ∀ (l m : List Int), (cmpInts l m == 0) = (l == m)
  | [], [] => rfl
  | [], _ :: _ => rfl
  | _ :: _, [] => rfl
  | x :: xs, y :: ys => by
    simp only [cmpInts]
    by_cases h : x = y
    · subst h
      simp only [beq_self_eq_true, if_true]
      rw [cmpInts_zero xs ys]
      rw [Bool.eq_iff_iff]; simp
    · have h2 : (x == y) = false := by simpa using h
      simp only [h2, Bool.false_eq_true, if_false]
      have h3 : (x :: xs == y :: ys) = false := by rw [beq_eq_false_iff_ne]; simp [h]
      rw [h3, beq_eq_false_iff_ne]
      unfold cmpI
      split
      · omega
      · split
        · omega
        · omega

/-! ### The reference's comparison of two lists -/
set_option maxHeartbeats 800000 in
theorem l8Ints_any (l m : List Int) (a c : Option Addr) (ca cc : Nat) (w : World) (ha : Ints w a l) (hc : Ints w c m) (hl : l.length ≤ 1048576) (hm : m.length ≤ 1048576) :
    Calls Try.prog 39 #[.slice a l.length ca, .slice c m.length cc] w fun e w' => e = .returned (.int .i64 (cmpInts l m)) ∧ ∃ n, w' = w.drewN n := by
  go_enter Try.func39, Try.ntmps39
  go_wp2
  go_loopw [5] (fun s5 wr => ∃ k : Nat, k ≤ l.length ∧ k ≤ m.length ∧ s5 = .int .i64 k ∧ (∃ n, wr = w.drewN n) ∧ Hid (cmpInts (l.drop k) (m.drop k) = cmpInts l m)) (fun i _ => l.length - (intOf i).toNat)
  case atStart => exact ⟨0, Nat.zero_le _, Nat.zero_le _, rfl, ⟨0, rfl⟩, rfl⟩
  case round =>
    obtain ⟨k, hk, hkm, rfl, ⟨nw, hwn⟩, hR⟩ := hrel
    have hE : Ext w wr := by rw [hwn]; exact (Ext.refl w).drewN' nw
    have HW := Lib.hid hwn; clear hwn
    by_cases hlt : k < l.length
    · by_cases hmt : k < m.length
      · obtain ⟨b, o, rfl, hca⟩ := ha.ext hE k hlt
        obtain ⟨b', o', rfl, hcc⟩ := hc.ext hE k hmt
        have hR' := Lib.hid (show cmpInts (l.drop k) (m.drop k) = cmpInts (l[k] :: l.drop (k + 1)) (m[k] :: m.drop (k + 1)) by rw [← List.drop_eq_getElem_cons hlt, ← List.drop_eq_getElem_cons hmt])
        generalize hx : l[k] = x at *
        generalize hy : m[k] = y at *
        have Hx := Lib.hid hx; have Hy := Lib.hid hy; clear hx hy
        cases hxy : (x == y)
        · have hne : (x != y) = true := by simp [bne, hxy]
          have Hxy := Lib.hid hxy; clear hxy
          go_wp2
          go_quiet (fail)
          have hE2 : Ext wr (wr.drewN nq) := (Ext.refl _).drewN' nq
          have hca2 := hE2.at hca; have hcc2 := hE2.at hcc
          have HW2 : Hid (∃ n, wr.drewN nq = w.drewN n) := ⟨nw + nq, by rw [HW.out, World.drewN_drewN]⟩
          clear hca hcc hE2
          generalize wr.drewN nq = wq at *
          go_wp2
          go_quiet ((go_at_call 56; exact Calls.quiet_of_same ((l8Int_any _ _ _).mono fun _ _ h => ⟨h.1, h.2.symm⟩)))
          go_wp2
          go_ret
          refine ⟨ret_int ?_, ?_⟩
          · rw [← hR.out, hR'.out]; simp only [cmpInts, Hxy.out, Bool.false_eq_true, if_false]
          · obtain ⟨n2, h2⟩ := HW2.out
            exact ⟨_, by rw [h2, World.drewN_drewN]⟩
        · have hne : (x != y) = false := by simp [bne, hxy]
          have Hxy := Lib.hid hxy; clear hxy
          go_wp2
          go_quiet (fail)
          go_wp2
          go_roundw
          case rel =>
            refine ⟨k + 1, by omega, by omega, by go_num, ?_, ?_⟩
            · rw [HW.out]; exact ⟨_, by rw [World.drewN_drewN]⟩
            · show _ = _
              rw [← hR.out, hR'.out]; simp only [cmpInts, Hxy.out, if_true]
          case measure => simp [intOf]; omega
      · obtain rfl : k = m.length := by omega
        have hR' := Lib.hid (show cmpInts (l.drop m.length) (m.drop m.length) = cmpI l.length m.length by
          rw [List.drop_eq_nil_of_le (Nat.le_refl m.length), List.drop_eq_getElem_cons hlt]
          simp only [cmpInts, cmpI]
          rw [if_neg (by omega), if_pos (by omega)])
        go_wp2_with (go_at_call 56; refine (l8Int_any _ _ _).mono ?_; rintro e w' ⟨rfl, rfl⟩)
        go_ret
        refine ⟨ret_int ?_, nw, HW.out⟩
        rw [← hR.out, hR'.out]
    · obtain rfl : k = l.length := by omega
      have hR' := Lib.hid (show cmpInts (l.drop l.length) (m.drop l.length) = cmpI l.length m.length by
        rw [List.drop_eq_nil_of_le (Nat.le_refl l.length)]
        by_cases h : l.length < m.length
        · rw [List.drop_eq_getElem_cons h]
          simp only [cmpInts, cmpI]
          rw [if_pos (by omega)]
        · rw [List.drop_eq_nil_of_le (by omega)]
          simp only [cmpInts, cmpI]
          rw [if_neg (by omega), if_neg (by omega)])
      go_wp2_with (go_at_call 56; refine (l8Int_any _ _ _).mono ?_; rintro e w' ⟨rfl, rfl⟩)
      go_ret
      refine ⟨ret_int ?_, nw, HW.out⟩
      rw [← hR.out, hR'.out]
end Go.Proofs.Ytgehpbikkcnecaa
