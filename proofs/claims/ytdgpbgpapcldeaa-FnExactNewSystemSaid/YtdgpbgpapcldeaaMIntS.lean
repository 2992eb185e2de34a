/- []int as owned data: copies, marks. -/
import Derived.Test.YtdgpbgpapcldeaaMLib
import Derived.Test.YtdgpbgpapcldeaaKIntS
import Derived.Test.YtdgpbgpapcldeaaMText
set_option linter.unusedVariables false
set_option linter.unusedSimpArgs false
namespace Go.Proofs.Ytdgpbgpapcldeaa
open Go.RowKit Go.Er Go.BigFrame

set_option maxHeartbeats 1600000 in
theorem toIntS_own (l : List Int) (hs : SmallL (fun y => True) l) (a : Option Addr) (cap : Nat) (w : World) (ha : RowR 1 IntR 0 w a l) :
    Calls Try.prog 50 #[.slice a l.length cap] w (MadeSO 1 IntO w l) := by
  have hlen := hs.1
  have HA := Lib.hid ha; have HS := Lib.hid hs.2; clear ha hs
  go_enter Try.func50, Try.ntmps50
  go_wp2_with (at_make; refine wpList_make_rowO IntO l rfl _ _ 36 rfl Try.underlying36 info_IntS (by decide) .i64 .i64 rfl rfl hlen (Ext.refl _) ?_; intro w1 hF hE)
  have HF := Lib.hid hF; have HE := Lib.hid hE; clear hF hE
  go_loopw [4] (fun s4 wr => ∃ i : Nat, i ≤ l.length ∧ s4 = .int .i64 i ∧ Ext w wr ∧ FilledO 1 IntO w.heap.size 3 l.length wr l i) (fun i _ => l.length - (intOf i).toNat)
  case atStart => exact ⟨0, Nat.zero_le _, rfl, HE.out, HF.out⟩
  case round =>
    obtain ⟨i, hi, rfl, hE1, hF1⟩ := hrel
    have HE1 := Lib.hid hE1; have HF1 := Lib.hid hF1; clear hE1 hF1
    by_cases hlt : i < l.length
    · obtain ⟨b, o, vs, rfl, _, _, hc, hR⟩ := (HA.out.ext good_int HE1.out).2 i hlt
      have hsm := HS.out l[i] (List.getElem_mem hlt)
      obtain ⟨x, hx⟩ : ∃ x, x = l[i] := ⟨_, rfl⟩
      have HX := Lib.hid hx
      rw [← hx] at hR
      try rw [← hx] at hsm
      have HSM := Lib.hid hsm
      clear hx hsm
      obtain rfl := hR
      have q0 := hc 0 (by simp)
      simp only [List.getElem_cons_zero, List.getElem_cons_succ, Nat.mul_one, Nat.add_zero] at q0
      clear hc
      have hR' : IntO (From wr.heap.size) wr [.int .i64 x] x := rfl
      have hst := HF1.out.step goodO_int (Ext.refl _) hlt (Nat.le_refl _) (us := [.int .i64 x]) rfl (HX.out ▸ hR')
      have HF2 := HF1
      have HST := Lib.hid hst
      clear hst hR'
      obtain ⟨y0, hy0⟩ := HF2.out.cell (m := i * 1) (by omega); have hf0 := HF2.out.free (i * 1)
      simp only [Nat.mul_one] at hy0 hf0
      go_wp2_with fail
      go_roundw
      case rel =>
        refine ⟨i + 1, by omega, by go_num, ?_, ?_⟩
        · have h := ext_setCells (N := w.heap.size) (Nat.le_refl _) [.int .i64 x] (i * 1) HE1.out
          simpa [setCells] using h
        · have h := HST.out
          simpa [setCells] using h
      case measure => (simp [intOf] <;> omega)
    · obtain rfl : i = l.length := by omega
      have hm : l.length ≤ maxLen := by unfold maxLen; omega
      have HD := Lib.hid (HF1.out.done hm (Nat.le_refl _))
      clear hm
      go_wp2_with fail
      go_ret
      exact ⟨_, _, rfl, HD.out, HE1.out⟩

set_option maxRecDepth 4000 in
set_option maxHeartbeats 3200000 in
theorem markIntS_any (l : List Int) (k : Int) (hk : 1 ≤ k) (hb : k + (sumC cntOne l : Nat) ≤ 9223372036854775806) (S : Nat → Prop) (a : Option Addr) (cap : Nat) (w : World) (h : RowO 1 IntO S w a l) :
    Calls Try.prog 90 #[.slice a l.length cap, .int .i64 k] w (MarkedS 1 IntO markInt cntOne S w a l k) := by
  obtain ⟨hm, b, ee, T, h⟩ := h
  have hlen : (l.length : Int) ≤ 9223372036854775807 := by unfold maxLen at hm; omega
  have HA := Lib.hid h; have HM := Lib.hid hm
  clear h hm
  go_enter Try.func90, Try.ntmps90
  go_wp2_with fail
  go_loopw [1, 5] (fun s1 s5 wr => ∃ i : Nat, i ≤ l.length ∧ s5 = .int .i64 i ∧ s1 = .int .i64 (pos cntOne l k i) ∧ Hid (l ≠ [] → RowX 1 IntO b ee T wr (mix markInt cntOne l k i)) ∧ Chg S w wr) (fun _ i _ => l.length - (intOf i).toNat)
  case atStart => exact ⟨0, Nat.zero_le _, rfl, by rw [pos_zero], fun hne => by rw [mix_zero]; exact (HA.out hne).2.2.2, Chg.refl _ _⟩
  case round =>
    obtain ⟨i, hi, rfl, rfl, HX, hC⟩ := hrel
    have HC := Lib.hid hC; clear hC
    by_cases hlt : i < l.length
    · have hne : l ≠ [] := fun e => by subst e; simp at hlt
      obtain ⟨rfl, hSb, hST, -⟩ := HA.out hne
      have hsT : ∀ c, T i c → S c := fun c hc => hST i c hlt hc
      have hlen2 := HX.out hne
      obtain ⟨vs, hC0, hR⟩ := hlen2.openM hlt
      clear hlen2
      have hps := pos_succ cntOne l k hlt
      have hpl := pos_le cntOne l k (i + 1)
      have hpl2 := pos_le cntOne l k i
      have HCM : Hid (∀ vs w, RowC 1 IntO b ee T w (mix markInt cntOne l k i) i vs → IntO (T i) w vs (markInt l[i] (pos cntOne l k i)) → RowX 1 IntO b ee T w (mix markInt cntOne l k (i + 1))) := fun vs w h1 h2 => h1.closeM hlt h2
      obtain ⟨x, hx⟩ : ∃ x, x = l[i] := ⟨_, rfl⟩
      rw [← hx] at hR hps HCM
      clear hx
      obtain ⟨q, hq⟩ : ∃ q, q = pos cntOne l k i := ⟨_, rfl⟩
      rw [← hq] at hps hpl2 HCM ⊢
      clear hq
      obtain ⟨qq, hqq⟩ : ∃ qq, qq = pos cntOne l k (i + 1) := ⟨_, rfl⟩
      have HQQ := Lib.hid hqq
      rw [← hqq] at hps hpl
      clear hqq HX
      simp only [cntOne] at hps
      obtain rfl := hR
      have HC0 := Lib.hid hC0; clear hC0
      have q0 := HC0.out.cell 0 (by simp); have qf0 := HC0.out.free (i * 1 + 0)
      have qlt := HC0.out.lt
      simp only [List.getElem_cons_zero, List.getElem_cons_succ, Nat.mul_one, Nat.add_zero] at q0 qf0
      go_wp2_with fail
      go_roundw
      case rel =>
        refine ⟨i + 1, by omega, by go_num, ?_, fun _ => HCM.out [.int .i64 q] _ (RowC.set_ goodO_int HC0.out (j := 0) (vs' := [.int .i64 q]) (by simp) (by omega) rfl) rfl, ?_⟩
        · rw [← HQQ.out]; congr 1; rw [hps]; first | done | (push_cast; omega)
        · have h := HC.out
          (repeat' (first | with_reducible assumption | with_reducible exact Chg.refl _ _ | (with_reducible refine Chg.alloc_ ?_ _) | (with_reducible refine Chg.drew_ ?_) | (with_reducible refine Chg.drewN_ ?_ _) | (with_reducible refine Chg.set_ ?_ (by assumption) _ _)))
      case measure => (simp [intOf] <;> omega)
    · obtain rfl : i = l.length := by omega
      have hpf := pos_full cntOne l k
      rw [hpf]
      clear hpf
      go_wp2_with fail
      go_ret
      refine ⟨rfl, ⟨marked_len HM.out, b, ee, T, fun hne => ?_⟩, HC.out⟩
      have hne2 := markL_nil hne
      obtain ⟨g1, g2, g3, _⟩ := HA.out hne2
      refine ⟨g1, g2, fun i c hi hc => g3 i c (by rw [markL_length] at hi; exact hi) hc, ?_⟩
      have h := HX.out hne2
      rw [mix_full] at h
      exact h

set_option maxRecDepth 4000 in
set_option maxHeartbeats 3200000 in
theorem heldIntS_any (l : List Int) (k : Int) (hk : 1 ≤ k) (hb : k + (sumC cntOne l : Nat) ≤ 9223372036854775806) (B : Nat) (a : Option Addr) (cap : Nat) (w : World) (h : RowR 1 IntR B w a (markL markInt cntOne l k)) :
    Calls Try.prog 136 #[.slice a l.length cap, .int .i64 k] w (fun e w' => e = .returned (.int .i64 (k + (sumC cntOne l : Nat))) ∧ Ext w w') := by
  have hlen : (l.length : Int) ≤ 9223372036854775807 := by have := h.1; rw [markL_length] at this; unfold maxLen at this; omega
  have HA := Lib.hid h
  clear h
  go_enter Try.func136, Try.ntmps136
  go_wp2_with fail
  go_loopw [1, 5] (fun s1 s5 wr => ∃ i : Nat, i ≤ l.length ∧ s5 = .int .i64 i ∧ s1 = .int .i64 (pos cntOne l k i) ∧ Ext w wr) (fun _ i _ => l.length - (intOf i).toNat)
  case atStart => exact ⟨0, Nat.zero_le _, rfl, by rw [pos_zero], Ext.refl _⟩
  case round =>
    obtain ⟨i, hi, rfl, rfl, hE⟩ := hrel
    have HE := Lib.hid hE; clear hE
    by_cases hlt : i < l.length
    · have hlt2 : i < (markL markInt cntOne l k).length := by rw [markL_length]; exact hlt
      obtain ⟨b, o, vs, rfl, -, hvl, hc, hR⟩ := (HA.out.ext good_int HE.out).2 i hlt2
      rw [markL_get markInt cntOne l k i hlt2] at hR
      have hps := pos_succ cntOne l k hlt
      have hpl := pos_le cntOne l k (i + 1)
      have hpl2 := pos_le cntOne l k i
      obtain ⟨x, hx⟩ : ∃ x, x = l[i] := ⟨_, rfl⟩
      rw [← hx] at hR hps
      clear hx hlt2
      obtain ⟨q, hq⟩ : ∃ q, q = pos cntOne l k i := ⟨_, rfl⟩
      rw [← hq] at hR hps hpl2 ⊢
      clear hq
      obtain ⟨qq, hqq⟩ : ∃ qq, qq = pos cntOne l k (i + 1) := ⟨_, rfl⟩
      have HQQ := Lib.hid hqq
      rw [← hqq] at hps hpl
      clear hqq
      simp only [cntOne] at hps
      simp only [markInt] at hR
      obtain rfl := hR
      have q0 := hc 0 (by simp)
      simp only [List.getElem_cons_zero, List.getElem_cons_succ, Nat.mul_one, Nat.add_zero, markL_length] at q0
      clear hc hvl
      go_wp2_with fail
      go_roundw
      case rel =>
        refine ⟨i + 1, by omega, by go_num, ?_, HE.out⟩
        rw [← HQQ.out]; congr 1; rw [hps]; first | done | (push_cast; omega)
      case measure => (simp [intOf] <;> omega)
    · obtain rfl : i = l.length := by omega
      have hpf := pos_full cntOne l k
      rw [hpf]
      clear hpf
      go_wp2_with fail
      go_ret
      exact ⟨rfl, HE.out⟩
end Go.Proofs.Ytdgpbgpapcldeaa
