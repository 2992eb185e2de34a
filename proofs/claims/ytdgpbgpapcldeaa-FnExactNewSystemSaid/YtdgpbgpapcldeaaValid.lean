/- Valid scorings and survivor rules. -/
import Derived.Test.YtdgpbgpapcldeaaKConfig
set_option linter.unusedVariables false
set_option linter.unusedSimpArgs false
namespace Go.Proofs.Ytdgpbgpapcldeaa
open Go.RowKit Go.Er Go.BigFrame

def inR (x lo hi : Int) : Bool := decide (lo ≤ x) && decide (x ≤ hi)

theorem within_any (x lo hi : Int) (w : World) :
    Calls Try.prog 106 #[.int .i64 x, .int .i64 lo, .int .i64 hi] w fun e w' => e = .returned (.bool (inR x lo hi)) ∧ w' = w := by
  by_cases h1 : lo ≤ x <;> by_cases h2 : x ≤ hi <;> (
  go_enter Try.func106, Try.ntmps106
  go_wp2_with fail
  go_ret
  exact ⟨ret_bool (by simp [inR, h1, h2]), rfl⟩)

theorem l1In_any (x lo hi : Int) (w : World) :
    Calls Try.prog 105 #[.int .i64 x, .int .i64 lo, .int .i64 hi] w fun e w' => e = .returned (.bool (inR x lo hi)) ∧ w' = w := by
  by_cases h1 : lo ≤ x <;> by_cases h2 : x ≤ hi <;> (
  go_enter Try.func105, Try.ntmps105
  go_wp2_with fail
  go_ret
  exact ⟨ret_bool (by simp [inR, h1, h2]), rfl⟩)

theorem isFeature_any (x : Int) (w : World) :
    Calls Try.prog 107 #[.int .i64 x] w fun e w' => e = .returned (.bool (inR x 0 5)) ∧ w' = w := by
  go_enter Try.func107, Try.ntmps107
  go_wp2_with (go_at_call 106; refine (within_any x 0 5 _).mono ?_; rintro e w' ⟨rfl, rfl⟩)
  go_ret
  exact ⟨rfl, rfl⟩

theorem isThreshold_any (x : Int) (w : World) :
    Calls Try.prog 108 #[.int .i64 x] w fun e w' => e = .returned (.bool (inR x 1 1000)) ∧ w' = w := by
  go_enter Try.func108, Try.ntmps108
  go_wp2_with (go_at_call 106; refine (within_any x 1 1000 _).mono ?_; rintro e w' ⟨rfl, rfl⟩)
  go_ret
  exact ⟨rfl, rfl⟩

theorem isSurvivorRule_any (x : Int) (w : World) :
    Calls Try.prog 111 #[.int .i64 x] w fun e w' => e = .returned (.bool (inR x 1 4)) ∧ w' = w := by
  go_enter Try.func111, Try.ntmps111
  go_wp2_with (go_at_call 106; refine (within_any x 1 4 _).mono ?_; rintro e w' ⟨rfl, rfl⟩)
  go_ret
  exact ⟨rfl, rfl⟩

/-! ### Survivor rules -/
def findB {α : Type} (p : α → Bool) : List α → Nat → Int
  | [], _ => -1
  | x :: xs, k => if p x then (k : Int) else findB p xs (k + 1)
theorem findB_any {α : Type} (p : α → Bool) : ∀ (l : List α) (k : Nat), decide (0 ≤ findB p l k) = l.any p
  | [], k => by simp [findB]
  | x :: xs, k => by
    simp only [findB, List.any_cons]
    split
    · rename_i h; simp [h]
    · rename_i h; rw [findB_any p xs (k + 1)]; simp [h]
theorem notSurvivor_any (x : Int) (w : World) :
    Calls Try.prog 110 #[.int .i64 x] w fun e w' => e = .returned (.bool (!inR x 1 4)) ∧ w' = w := by
  go_enter Try.func110, Try.ntmps110
  go_wp2_with (go_at_call 111; refine (isSurvivorRule_any x _).mono ?_; rintro e w' ⟨rfl, rfl⟩)
  go_ret
  exact ⟨rfl, rfl⟩
theorem canCallSurvivor : ∀ (args : Array Value) (w : World), (callFunc 110 args).run Try.prog w = .ok (.enter 110 args) w :=
  callFunc_run Try.func110 (by kernel_rfl) (by kernel_rfl)

set_option maxHeartbeats 800000 in
theorem indexFuncInt_any (F : FuncId) (hcf : ∀ (args : Array Value) (w : World), (callFunc F args).run Try.prog w = .ok (.enter F args) w) (p : Int → Bool)
    (hcl : ∀ (x : Int) (w : World), Calls Try.prog F #[.int .i64 x] w fun e w' => e = .returned (.bool (p x)) ∧ w' = w)
    (l : List Int) (a : Option Addr) (c : Nat) (w : World) (h : RowR 1 IntR 0 w a l) :
    Calls Try.prog 144 #[.slice a l.length c, .func (.func F) #[] #[]] w fun e w' => e = .returned (.int .i64 (findB p l 0)) ∧ Ext w w' := by
  have hl : (l.length : Int) ≤ 9223372036854775807 := by have := h.1; unfold maxLen at this; omega
  have HA := Lib.hid h; have HCL := Lib.hid hcl; clear h hcl
  go_enter Try.func144, Try.ntmps144
  go_wp2_with fail
  go_loopw [8] (fun s8 wr => ∃ k : Nat, k ≤ l.length ∧ s8 = .int .i64 k ∧ Ext w wr ∧ Hid (findB p (l.drop k) k = findB p l 0)) (fun i _ => l.length - (intOf i).toNat)
  case atStart => exact ⟨0, Nat.zero_le _, rfl, Ext.refl _, rfl⟩
  case round =>
    obtain ⟨k, hk, rfl, hE, hR⟩ := hrel
    have HE := Lib.hid hE; clear hE
    by_cases hlt : k < l.length
    · obtain ⟨b, o, vs, rfl, _, _, hc, hR1⟩ := (HA.out.ext good_int HE.out).2 k hlt
      have hR' := hR.out
      rw [List.drop_eq_getElem_cons hlt, findB] at hR'
      obtain ⟨x, hx⟩ : ∃ x, x = l[k] := ⟨_, rfl⟩
      rw [← hx] at hR1 hR'
      obtain rfl := hR1
      have HR' := Lib.hid hR'
      clear hx hR' hR
      have q0 := hc 0 (by simp)
      simp only [List.getElem_cons_zero, List.getElem_cons_succ, Nat.mul_one, Nat.add_zero] at q0
      clear hc
      go_wp2_with fail
      refine (HCL.out x _).mono ?_
      rintro e w1 ⟨rfl, rfl⟩
      cases hp : p x
      · have HR2 : Hid (findB p (l.drop (k + 1)) (k + 1) = findB p l 0) := by have h := HR'.out; rw [hp] at h; show _ = _; simpa using h
        clear hp
        go_wp2_with fail
        go_roundw
        case rel => exact ⟨k + 1, by omega, by go_num, HE.out, HR2⟩
        case measure => (simp [intOf] <;> omega)
      · have HR2 : Hid ((k : Int) = findB p l 0) := by have h := HR'.out; rw [hp] at h; show _ = _; simpa using h
        clear hp
        go_wp2_with fail
        go_ret
        exact ⟨ret_int HR2.out, HE.out⟩
    · obtain rfl : k = l.length := by omega
      have HR2 : Hid ((-1 : Int) = findB p l 0) := by have h := hR.out; rw [List.drop_eq_nil_of_le (Nat.le_refl _)] at h; exact h
      clear hR
      go_wp2_with fail
      go_ret
      exact ⟨ret_int HR2.out, HE.out⟩

def survOk (l : List Int) : Bool := l.all (fun x => inR x 1 4) && decide (l.length = 4)
theorem any_not_all (l : List Int) : (!l.any (fun x => !inR x 1 4)) = l.all (fun x => inR x 1 4) := by
  induction l with
  | nil => rfl
  | cons x xs ih => simp only [List.any_cons, List.all_cons, ← ih]; cases inR x 1 4 <;> simp

theorem containsNot_any (l : List Int) (a : Option Addr) (c : Nat) (w : World) (h : RowR 1 IntR 0 w a l) :
    Calls Try.prog 109 #[.slice a l.length c, .func (.func 110) #[] #[]] w fun e w' => e = .returned (.bool (l.any (fun x => !inR x 1 4))) ∧ Ext w w' := by
  have hfb := Lib.hid (findB_any (fun x => !inR x 1 4) l 0)
  have HA := Lib.hid h; clear h
  go_enter Try.func109, Try.ntmps109
  go_wp2_with fail
  refine (indexFuncInt_any 110 canCallSurvivor (fun x => !inR x 1 4) notSurvivor_any l a c _ HA.out).mono ?_
  rintro e w1 ⟨rfl, hE⟩
  obtain ⟨n, hn⟩ : ∃ n, n = findB (fun x => !inR x 1 4) l 0 := ⟨_, rfl⟩
  have HN := Lib.hid hn
  rw [← hn]
  clear hn
  go_wp2_with fail
  go_ret
  exact ⟨ret_bool (by rw [← hfb.out, ← HN.out]), hE⟩

theorem implSurv_any (l : List Int) (a : Option Addr) (c : Nat) (w : World) (h : RowR 1 IntR 0 w a l) :
    Calls Try.prog 63 #[.slice a l.length c] w fun e w' => e = .returned (.bool (survOk l)) ∧ Ext w w' := by
  have hna := Lib.hid (any_not_all l)
  have HA := Lib.hid h; clear h
  by_cases h4 : l.length = 4
  · have h4' : ((l.length : Int) == 4) = true := by simp [h4]; 
    have H4 := Lib.hid h4; clear h4
    go_enter Try.func63, Try.ntmps63
    go_wp2_with fail
    refine (containsNot_any l a c _ HA.out).mono ?_
    rintro e w1 ⟨rfl, hE⟩
    obtain ⟨q, hq⟩ : ∃ q, q = l.any (fun x => !inR x 1 4) := ⟨_, rfl⟩
    have HQ := Lib.hid hq
    rw [← hq]
    clear hq
    go_wp2_with fail
    go_ret
    exact ⟨ret_bool (by unfold survOk; rw [← hna.out, ← HQ.out, H4.out]; simp), hE⟩
  · have h4' : ((l.length : Int) == 4) = false := by simp; omega
    have H4 := Lib.hid h4; clear h4
    go_enter Try.func63, Try.ntmps63
    go_wp2_with fail
    go_ret
    exact ⟨ret_bool (by unfold survOk; simp [H4.out]), Ext.refl _⟩

set_option maxHeartbeats 800000 in
theorem specSurv_any (l : List Int) (a : Option Addr) (c : Nat) (w : World) (h : RowR 1 IntR 0 w a l) :
    Calls Try.prog 60 #[.slice a l.length c] w fun e w' => e = .returned (.bool (survOk l)) ∧ Ext w w' := by
  have hl : (l.length : Int) ≤ 9223372036854775807 := by have := h.1; unfold maxLen at this; omega
  have HA := Lib.hid h; clear h
  go_enter Try.func60, Try.ntmps60
  go_wp2_with fail
  go_loopw [3] (fun s3 wr => ∃ k : Nat, k ≤ l.length ∧ s3 = .int .i64 k ∧ Ext w wr ∧ Hid ((l.drop k).all (fun x => inR x 1 4) = l.all (fun x => inR x 1 4))) (fun i _ => l.length - (intOf i).toNat)
  case atStart => exact ⟨0, Nat.zero_le _, rfl, Ext.refl _, rfl⟩
  case round =>
    obtain ⟨k, hk, rfl, hE, hR⟩ := hrel
    have HE := Lib.hid hE; clear hE
    by_cases hlt : k < l.length
    · obtain ⟨b, o, vs, rfl, _, _, hc, hR1⟩ := (HA.out.ext good_int HE.out).2 k hlt
      have hR' := hR.out
      rw [List.drop_eq_getElem_cons hlt, List.all_cons] at hR'
      obtain ⟨x, hx⟩ : ∃ x, x = l[k] := ⟨_, rfl⟩
      rw [← hx] at hR1 hR'
      obtain rfl := hR1
      have HR' := Lib.hid hR'
      clear hx hR' hR
      have q0 := hc 0 (by simp)
      simp only [List.getElem_cons_zero, List.getElem_cons_succ, Nat.mul_one, Nat.add_zero] at q0
      clear hc
      go_wp2_with fail
      refine (l1In_any x 1 4 _).mono ?_
      rintro e w1 ⟨rfl, rfl⟩
      cases hp : inR x 1 4
      · have HR2 : Hid (false = l.all (fun x => inR x 1 4)) := by have h := HR'.out; rw [hp, Bool.false_and] at h; exact h
        clear hp
        go_wp2_with fail
        go_ret
        exact ⟨ret_bool (by unfold survOk; rw [← HR2.out]; rfl), HE.out⟩
      · have HR2 : Hid ((l.drop (k + 1)).all (fun x => inR x 1 4) = l.all (fun x => inR x 1 4)) := by have h := HR'.out; rw [hp, Bool.true_and] at h; exact h
        clear hp
        go_wp2_with fail
        go_roundw
        case rel => exact ⟨k + 1, by omega, by go_num, HE.out, HR2⟩
        case measure => (simp [intOf] <;> omega)
    · obtain rfl : k = l.length := by omega
      have HR2 : Hid (true = l.all (fun x => inR x 1 4)) := by have h := hR.out; rw [List.drop_eq_nil_of_le (Nat.le_refl _)] at h; exact h
      clear hR
      by_cases h4 : l.length = 4
      · have h4' : ((l.length : Int) == 4) = true := by simp [h4]
        have H4 := Lib.hid h4; clear h4
        go_wp2_with fail
        go_ret
        exact ⟨ret_bool (by unfold survOk; rw [← HR2.out, H4.out]; simp), HE.out⟩
      · have h4' : ((l.length : Int) == 4) = false := by simp; omega
        have H4 := Lib.hid h4; clear h4
        go_wp2_with fail
        go_ret
        exact ⟨ret_bool (by unfold survOk; rw [← HR2.out]; simp [H4.out]), HE.out⟩

/-! ### Scorings -/
def goW : List Int → Int → Option Int
  | [], s => some s
  | x :: xs, s => if inR x 0 9 then goW xs (s + x) else none
def scoringOk (s : DScoring) : Bool :=
  match goW s.weights 0 with
  | none => false
  | some t => decide (s.weights.length = 6) && decide (0 < t) && inR s.bias 0 1000
theorem inR_iff {x lo hi : Int} (h : inR x lo hi = true) : lo ≤ x ∧ x ≤ hi := by simpa [inR] using h
end Go.Proofs.Ytdgpbgpapcldeaa
