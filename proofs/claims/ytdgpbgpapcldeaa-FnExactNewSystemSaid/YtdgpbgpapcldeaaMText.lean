/- The text that marks a string: the letter m and a decimal numeral. -/
import Derived.Test.YtdgpbgpapcldeaaRows
import Derived.Test.YtdgpbgpapcldeaaMLib
import Derived.Lib.ItoaNum
set_option linter.unusedVariables false
set_option linter.unusedSimpArgs false
namespace Go.Proofs.Ytdgpbgpapcldeaa
open Go.RowKit Go.Er Go.BigFrame

def decE (u : Nat) : List UInt8 := if u = 0 then [] else Lib.decDigits u
theorem decE_step (u : Nat) (h : ¬ u = 0) (out : List UInt8) : decE (u / 10) ++ (UInt8.ofNat (48 + u % 10) :: out) = decE u ++ out := by
  unfold decE
  rw [if_neg h]
  by_cases h10 : u < 10
  · have e : Lib.decDigits u = [UInt8.ofNat (48 + u)] := by rw [Lib.decDigits, dif_pos h10]
    have h2 : u % 10 = u := by omega
    rw [e, if_pos (by omega), h2]; simp
  · have e : Lib.decDigits u = Lib.decDigits (u / 10) ++ [UInt8.ofNat (48 + u % 10)] := by rw [Lib.decDigits, dif_neg h10]
    rw [e, if_neg (by omega)]
    simp

theorem decE_snoc (u : Nat) (h : ¬ u = 0) : decE u = decE (u / 10) ++ [UInt8.ofNat (48 + u % 10)] := by
  have := decE_step u h []
  simpa using this.symm
theorem decE_len : ∀ (k u : Nat), u < 10 ^ k → (decE u).length ≤ k
  | 0, u, h => by
    have : u = 0 := by simp at h; exact h
    subst this; simp [decE]
  | k + 1, u, h => by
    by_cases hu : u = 0
    · subst hu; simp [decE]
    · rw [decE_snoc u hu]
      have := decE_len k (u / 10) (by rw [Nat.pow_succ] at h; omega)
      simp; omega
theorem str_cons (d : Nat) (out : List UInt8) : Value.string (⟨#[48 + UInt8.ofNat d]⟩ ++ ⟨out.toArray⟩) = Value.string ⟨(UInt8.ofNat (48 + d) :: out).toArray⟩ := by
  congr 1
  ext1
  simp

def mtext (k : Int) : ByteArray := ⟨(109 :: decE k.natAbs).toArray⟩
theorem mtext_size (k : Int) (h : k.natAbs < 10 ^ 19) : (mtext k).size ≤ maxLen := by
  have := decE_len 19 k.natAbs h
  have e : (mtext k).size = (decE k.natAbs).length + 1 := by simp [mtext, ByteArray.size]
  rw [e]; unfold maxLen; omega

def markStr (_ : ByteArray) (k : Int) : ByteArray := mtext k
def markInt (_ : Int) (k : Int) : Int := k
def cntOne {α : Type} (_ : α) : Nat := 1

set_option maxHeartbeats 1600000 in
theorem markText_any (k : Int) (h0 : 1 ≤ k) (h1 : k ≤ 9223372036854775807) (w : World) :
    Calls Try.prog 146 #[.int .i64 k] w fun e w' => e = .returned (.string (mtext k)) ∧ Ext w w' := by
  have hk0 : ¬ k ≤ 0 := by omega
  go_enter Try.func146, Try.ntmps146
  go_wp2_with fail
  go_loopw [0, 3] (fun s0 s3 wr => ∃ (m : Int) (out : List UInt8), s0 = .int .i64 m ∧ s3 = .string ⟨out.toArray⟩ ∧ 0 ≤ m ∧ m ≤ 9223372036854775807 ∧ Ext w wr ∧ Hid (decE m.natAbs ++ out = decE k.natAbs)) (fun s0 _ _ => (intOf s0).natAbs)
  case atStart => exact ⟨k, [], rfl, rfl, by omega, by omega, Ext.refl _, by show _ = _; simp⟩
  case round =>
    obtain ⟨m, out, rfl, rfl, hm0, hm1, hE, hR⟩ := hrel
    have HE := Lib.hid hE; clear hE
    have hol : out.length ≤ 19 := by
      have h2 := congrArg List.length hR.out
      have h3 := decE_len 19 k.natAbs (by omega)
      rw [List.length_append] at h2; omega
    by_cases hmz : m = 0
    · have HR : Hid (out = decE k.natAbs) := by have h := hR.out; subst hmz; show _ = _; rw [← h]; simp [decE]
      have hmb : ¬ 0 < m := by omega
      clear hR hmz
      go_wp2_with fail
      go_ret
      refine ⟨?_, HE.out⟩
      unfold mtext
      rw [← HR.out]
      congr 1
      first | done | (ext1; first | done | simp)
    · have hmb : 0 < m := by omega
      obtain ⟨d, hd10, hdm⟩ : ∃ d : Nat, d < 10 ∧ d = m.natAbs % 10 := ⟨_, Nat.mod_lt _ (by omega), rfl⟩
      have hstep := decE_step m.natAbs (by omega) out
      rw [← hdm] at hstep
      have hb : (48 + (d : Int)) % 256 = 48 + d := by omega
      have hbn : ((UInt8.ofNat (48 + d)).toNat : Int) = 48 + d := by simp; omega
      have HCV : Hid (∀ w2 : World, w2.cell? ⟨wr.heap.size, 0, none⟩ = some (.int .u8 (48 + (d : Int))) → (convert 185 9 (.slice (some ⟨wr.heap.size, 0, none⟩) 1 1)).run Try.prog w2 = .ok (.string ⟨#[UInt8.ofNat (48 + d)]⟩) w2) := fun w2 hc =>
        run_convert_bytes_back (P := Try.prog) w2 185 9 5 ⟨wr.heap.size, 0, none⟩ 1 [UInt8.ofNat (48 + d)] Try.underlying185 Try.underlying5 Try.underlying9 (fun j hj => by
          have hj0 : j = 0 := by simp at hj; exact hj
          subst hj0
          simpa [Addr.add, hb] using hc)
      have hcv := HCV.out (wr.alloc (.cells #[.int .u8 (48 + (d : Int))] 5)) (by simp [go_sem])
      have hq : (m.tdiv 10).natAbs = m.natAbs / 10 := by rw [Int.natAbs_tdiv]; rfl
      have hm2 : 0 ≤ m.tdiv 10 ∧ m.tdiv 10 ≤ 9223372036854775807 := by
        have h := Int.tdiv_nonneg hm0 (show (0 : Int) ≤ 10 by decide)
        omega
      have HR : Hid (decE (m.tdiv 10).natAbs ++ (UInt8.ofNat (48 + d) :: out) = decE k.natAbs) := by show _ = _; rw [hq, hstep]; exact hR.out
      have hlt : (m.tdiv 10).natAbs < m.natAbs := by rw [hq]; omega
      have hr : m.tmod 10 = (d : Int) := by
        have h1 : ((m.natAbs : Int)).tmod 10 = ((m.natAbs % 10 : Nat) : Int) := rfl
        rw [show (m.natAbs : Int) = m by omega, ← hdm] at h1
        exact h1
      have hdneg : ¬ (d : Int) < 0 := by omega
      clear hR hstep hdm
      go_wp2_with fail
      go_roundw
      case rel => exact ⟨m.tdiv 10, UInt8.ofNat (48 + d) :: out, rfl, str_cons d out, hm2.1, hm2.2, by have h8 := HE.out; (repeat' (first | with_reducible assumption | with_reducible exact Below.refl _ _ | (with_reducible refine Ext.alloc' ?_ _) | (with_reducible refine Ext.drew' ?_) | (with_reducible refine Ext.drewN' ?_ _) | (with_reducible refine Ext.set_ ?_ (by first | omega | (simp; done) | (simp; omega)) _ _) | (refine Ext.trans ?_ (by with_reducible assumption)))), HR⟩
      case measure => exact hlt
end Go.Proofs.Ytdgpbgpapcldeaa
