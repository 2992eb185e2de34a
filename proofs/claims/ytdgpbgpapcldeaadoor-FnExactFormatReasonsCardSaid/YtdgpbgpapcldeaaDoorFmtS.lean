/- The reference's FormatInt: the decimal numeral. -/
import Derived.Test.YtdgpbgpapcldeaaDoorRows
import Derived.Test.YtdgpbgpapcldeaaDoorDLib
import Derived.Lib.ItoaNum
set_option linter.unusedVariables false
set_option linter.unusedSimpArgs false
namespace Go.Proofs.YtdgpbgpapcldeaaDoor
open Go.RowKit Go.Er Go.BigFrame

def decE (u : Nat) : List UInt8 := if u = 0 then [] else Lib.decDigits u
theorem decE_step (u : Nat) (h : ¬ u = 0) (out : List UInt8) : decE (u / 10) ++ (UInt8.ofNat (48 + u % 10) :: out) = decE u ++ out := by
  unfold decE
  rw [if_neg h]
  by_cases h10 : u < 10
  · have e : Lib.decDigits u = [UInt8.ofNat (48 + u)] := by rw [Lib.decDigits, dif_pos h10]
    have h2 : u % 10 = u := by omega
    rw [e, if_pos (by omega), h2]; simp
  · have e : Lib.decDigits u = Lib.decDigits (u / 10) ++ [UInt8.ofNat (48 + u % 10)] := by rw [Lib.decDigits, dif_neg h10]
    rw [e, if_neg (by omega)]
    simp

theorem decE_snoc (u : Nat) (h : ¬ u = 0) : decE u = decE (u / 10) ++ [UInt8.ofNat (48 + u % 10)] := by
  have := decE_step u h []
  simpa using this.symm
theorem decE_len : ∀ (k u : Nat), u < 10 ^ k → (decE u).length ≤ k
  | 0, u, h => by
    have : u = 0 := by simp at h; exact h
    subst this; simp [decE]
  | k + 1, u, h => by
    by_cases hu : u = 0
    · subst hu; simp [decE]
    · rw [decE_snoc u hu]
      have := decE_len k (u / 10) (by rw [Nat.pow_succ] at h; omega)
      simp; omega
theorem str_cons (d : Nat) (out : List UInt8) : Value.string (⟨#[48 + UInt8.ofNat d]⟩ ++ ⟨out.toArray⟩) = Value.string ⟨(UInt8.ofNat (48 + d) :: out).toArray⟩ := by
  congr 1
  ext1
  simp
theorem tmod_neg (k : Nat) : (-(k : Int)).tmod 10 = -((k % 10 : Nat) : Int) := by rw [Int.neg_tmod]; rfl

set_option maxHeartbeats 1600000 in
theorem specFormatInt_any (n : Int) (h0 : -9223372036854775808 ≤ n) (h1 : n ≤ 9223372036854775807) (w : World) :
    Calls Tryd.prog 15 #[.int .i64 n] w fun e w' => e = .returned (.string ⟨(Lib.itoa n).toArray⟩) ∧ Ext w w' := by
  by_cases hz : n = 0
  · subst hz
    go_enter Tryd.func15, Tryd.ntmps15
    go_wp2
    go_ret
    exact ⟨by simp [Lib.itoa, Lib.decDigits], Ext.refl _⟩
  · have hzb : (n == 0) = false := by simpa using hz
    go_enter Tryd.func15, Tryd.ntmps15
    go_wp2_with fail
    go_loopw [0, 3] (fun s0 s3 wr => ∃ (m : Int) (out : List UInt8), s0 = .int .i64 m ∧ s3 = .string ⟨out.toArray⟩ ∧ -9223372036854775808 ≤ m ∧ m ≤ 9223372036854775807 ∧ Ext w wr ∧ Hid (decE m.natAbs ++ out = decE n.natAbs)) (fun s0 _ _ => (intOf s0).natAbs)
    case atStart => exact ⟨n, [], rfl, rfl, h0, h1, Ext.refl _, by show _ = _; simp⟩
    case round =>
      obtain ⟨m, out, rfl, rfl, hm0, hm1, hE, hR⟩ := hrel
      have HE := Lib.hid hE; clear hE
      have hol : out.length ≤ 19 := by
        have h2 := congrArg List.length hR.out
        have h3 := decE_len 19 n.natAbs (by omega)
        rw [List.length_append] at h2; omega
      by_cases hmz : m = 0
      · have HR : Hid (out = decE n.natAbs) := by have h := hR.out; subst hmz; show _ = _; rw [← h]; simp [decE]
        have hmb : (m != 0) = false := by simpa using hmz
        clear hR hmz
        by_cases hn0 : n < 0
        · have HI : Hid (Lib.itoa n = 45 :: out) := by
            show _ = _
            rw [HR.out]; unfold Lib.itoa decE; rw [if_pos hn0, if_neg (by omega)]
          go_wp2_with fail
          go_ret
          exact ⟨by rw [HI.out]; rfl, HE.out⟩
        · have HI : Hid (Lib.itoa n = out) := by
            show _ = _
            rw [HR.out]; unfold Lib.itoa decE; rw [if_neg hn0, if_neg (by omega)]
            congr 1; omega
          go_wp2_with fail
          go_ret
          exact ⟨by rw [HI.out]; rfl, HE.out⟩
      · have hmb : (m != 0) = true := by simpa using hmz
        obtain ⟨d, hd10, hdm⟩ : ∃ d : Nat, d < 10 ∧ d = m.natAbs % 10 := ⟨_, Nat.mod_lt _ (by omega), rfl⟩
        have hstep := decE_step m.natAbs (by omega) out
        rw [← hdm] at hstep
        have hb : (48 + (d : Int)) % 256 = 48 + d := by omega
        have hbn : ((UInt8.ofNat (48 + d)).toNat : Int) = 48 + d := by simp; omega
        have HCV : Hid (∀ w2 : World, w2.cell? ⟨wr.heap.size, 0, none⟩ = some (.int .u8 (48 + (d : Int))) → (convert 49 9 (.slice (some ⟨wr.heap.size, 0, none⟩) 1 1)).run Tryd.prog w2 = .ok (.string ⟨#[UInt8.ofNat (48 + d)]⟩) w2) := fun w2 hc =>
          run_convert_bytes_back (P := Tryd.prog) w2 49 9 5 ⟨wr.heap.size, 0, none⟩ 1 [UInt8.ofNat (48 + d)] Tryd.underlying49 Tryd.underlying5 Tryd.underlying9 (fun j hj => by
            have hj0 : j = 0 := by simp at hj; exact hj
            subst hj0
            simpa [Addr.add, hb] using hc)
        have hcv := HCV.out (wr.alloc (.cells #[.int .u8 (48 + (d : Int))] 5)) (by simp [go_sem])
        have hq : (m.tdiv 10).natAbs = m.natAbs / 10 := by rw [Int.natAbs_tdiv]; rfl
        have hm2 : -9223372036854775808 ≤ m.tdiv 10 ∧ m.tdiv 10 ≤ 9223372036854775807 := by omega
        have HR : Hid (decE (m.tdiv 10).natAbs ++ (UInt8.ofNat (48 + d) :: out) = decE n.natAbs) := by show _ = _; rw [hq, hstep]; exact hR.out
        have hlt : (m.tdiv 10).natAbs < m.natAbs := by rw [hq]; omega
        by_cases hneg : m < 0
        · have hr : m.tmod 10 = -(d : Int) := by
            have h1 := tmod_neg m.natAbs
            rw [show -(m.natAbs : Int) = m by omega, ← hdm] at h1
            exact h1
          by_cases hd0 : d = 0
          · have hdneg : ¬ -(d : Int) < 0 := by omega
            have hz0 : -(d : Int) = d := by omega
            rw [hz0] at hr hdneg
            clear hR hstep hdm hz0 hd0
            go_wp2_with fail
            go_roundw
            case rel => exact ⟨m.tdiv 10, UInt8.ofNat (48 + d) :: out, rfl, str_cons d out, hm2.1, hm2.2, by have h8 := HE.out; (repeat' (first | with_reducible assumption | with_reducible exact Below.refl _ _ | (with_reducible refine Ext.alloc' ?_ _) | (with_reducible refine Ext.drew' ?_) | (with_reducible refine Ext.drewN' ?_ _) | (with_reducible refine Ext.set_ ?_ (by first | omega | (simp; done) | (simp; omega)) _ _) | (refine Ext.trans ?_ (by with_reducible assumption)))), HR⟩
            case measure => exact hlt
          · have hdneg : -(d : Int) < 0 := by omega
            clear hR hstep hdm
            go_wp2_with fail
            go_roundw
            case rel => exact ⟨m.tdiv 10, UInt8.ofNat (48 + d) :: out, rfl, str_cons d out, hm2.1, hm2.2, by have h8 := HE.out; (repeat' (first | with_reducible assumption | with_reducible exact Below.refl _ _ | (with_reducible refine Ext.alloc' ?_ _) | (with_reducible refine Ext.drew' ?_) | (with_reducible refine Ext.drewN' ?_ _) | (with_reducible refine Ext.set_ ?_ (by first | omega | (simp; done) | (simp; omega)) _ _) | (refine Ext.trans ?_ (by with_reducible assumption)))), HR⟩
            case measure => exact hlt
        · have hr : m.tmod 10 = (d : Int) := by
            have h1 : ((m.natAbs : Int)).tmod 10 = ((m.natAbs % 10 : Nat) : Int) := rfl
            rw [show (m.natAbs : Int) = m by omega, ← hdm] at h1
            exact h1
          have hdneg : ¬ (d : Int) < 0 := by omega
          clear hR hstep hdm
          go_wp2_with fail
          go_roundw
          case rel => exact ⟨m.tdiv 10, UInt8.ofNat (48 + d) :: out, rfl, str_cons d out, hm2.1, hm2.2, by have h8 := HE.out; (repeat' (first | with_reducible assumption | with_reducible exact Below.refl _ _ | (with_reducible refine Ext.alloc' ?_ _) | (with_reducible refine Ext.drew' ?_) | (with_reducible refine Ext.drewN' ?_ _) | (with_reducible refine Ext.set_ ?_ (by first | omega | (simp; done) | (simp; omega)) _ _) | (refine Ext.trans ?_ (by with_reducible assumption)))), HR⟩
          case measure => exact hlt
end Go.Proofs.YtdgpbgpapcldeaaDoor
