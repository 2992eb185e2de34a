/- The type Verdict as owned data: copies, marks. -/
import Derived.Test.YtdgpbgpapcldeaaMLib
import Derived.Test.YtdgpbgpapcldeaaKVerdict
import Derived.Test.YtdgpbgpapcldeaaMText
set_option linter.unusedVariables false
set_option linter.unusedSimpArgs false
namespace Go.Proofs.Ytdgpbgpapcldeaa
open Go.RowKit Go.Er Go.BigFrame
def VerdictO : ORel DVerdict := fun _ w vs x => VerdictR 0 w vs x
theorem goodO_Verdict : GoodO VerdictO VerdictR := ⟨fun _ h => h, fun _ h => h, fun h => h, fun _ h => h⟩

set_option maxHeartbeats 1600000 in
theorem toVerdictS_own (l : List DVerdict) (hs : SmallL (fun y => SmallVerdict y) l) (a : Option Addr) (cap : Nat) (w : World) (ha : RowR 4 VerdictR 0 w a l) :
    Calls Try.prog 79 #[.slice a l.length cap] w (MadeSO 4 VerdictO w l) := by
  have hlen := hs.1
  have HA := Lib.hid ha; have HS := Lib.hid hs.2; clear ha hs
  go_enter Try.func79, Try.ntmps79
  go_wp2_with (at_make; refine wpList_make_rowO VerdictO l rfl _ _ 67 rfl Try.underlying67 info_VerdictS (by decide) .i64 .i64 rfl rfl hlen (Ext.refl _) ?_; intro w1 hF hE)
  have HF := Lib.hid hF; have HE := Lib.hid hE; clear hF hE
  go_loopw [4] (fun s4 wr => ∃ i : Nat, i ≤ l.length ∧ s4 = .int .i64 i ∧ Ext w wr ∧ FilledO 4 VerdictO w.heap.size 29 l.length wr l i) (fun i _ => l.length - (intOf i).toNat)
  case atStart => exact ⟨0, Nat.zero_le _, rfl, HE.out, HF.out⟩
  case round =>
    obtain ⟨i, hi, rfl, hE1, hF1⟩ := hrel
    have HE1 := Lib.hid hE1; have HF1 := Lib.hid hF1; clear hE1 hF1
    by_cases hlt : i < l.length
    · obtain ⟨b, o, vs, rfl, _, _, hc, hR⟩ := (HA.out.ext good_Verdict HE1.out).2 i hlt
      have hsm := HS.out l[i] (List.getElem_mem hlt)
      obtain ⟨x, hx⟩ : ∃ x, x = l[i] := ⟨_, rfl⟩
      have HX := Lib.hid hx
      rw [← hx] at hR
      try rw [← hx] at hsm
      have HSM := Lib.hid hsm
      clear hx hsm
      obtain rfl := hR
      have q0 := hc 0 (by simp)
      have q1 := hc 1 (by simp)
      have q2 := hc 2 (by simp)
      have q3 := hc 3 (by simp)
      simp only [List.getElem_cons_zero, List.getElem_cons_succ, Nat.mul_one, Nat.add_zero] at q0 q1 q2 q3
      clear hc
      have hR : VerdictR 0 wr [.int .i64 x.a, .int .i64 x.b, .bool x.same, .int .i64 x.time] x := rfl
      have HR := Lib.hid hR
      clear hR 
      go_wp2_with fail
      refine (toVerdict_any x HSM.out _ _ HR.out).mono ?_
      rintro e w2 ⟨us, rfl, hR2, hE2⟩
      have HF2 := Lib.hid (HF1.out.ext goodO_Verdict hE2)
      have HE2 := Lib.hid (HE1.out.trans hE2)
      have hR3 : VerdictO (From wr.heap.size) w2 us x := good_Verdict.mono (Nat.zero_le _) hR2
      obtain rfl := hR2
      have hst := HF1.out.step goodO_Verdict hE2 hlt (Nat.le_refl _) (us := [.int .i64 x.a, .int .i64 x.b, .bool x.same, .int .i64 x.time]) rfl (HX.out ▸ hR3)
      have HST := Lib.hid hst
      clear hst hR3 hE2  q0 q1 q2 q3
      obtain ⟨y0, hy0⟩ := HF2.out.cell (m := i * 4) (by omega); have hf0 := HF2.out.free (i * 4)
      obtain ⟨y1, hy1⟩ := HF2.out.cell (m := i * 4 + 1) (by omega); have hf1 := HF2.out.free (i * 4 + 1)
      obtain ⟨y2, hy2⟩ := HF2.out.cell (m := i * 4 + 2) (by omega); have hf2 := HF2.out.free (i * 4 + 2)
      obtain ⟨y3, hy3⟩ := HF2.out.cell (m := i * 4 + 3) (by omega); have hf3 := HF2.out.free (i * 4 + 3)
      go_wp2_with fail
      go_roundw
      case rel =>
        refine ⟨i + 1, by omega, by go_num, ?_, ?_⟩
        · have h := ext_setCells (N := w.heap.size) (Nat.le_refl _) [.int .i64 x.a, .int .i64 x.b, .bool x.same, .int .i64 x.time] (i * 4) HE2.out
          simpa [setCells] using h
        · have h := HST.out
          simpa [setCells] using h
      case measure => (simp [intOf] <;> omega)
    · obtain rfl : i = l.length := by omega
      have hm : l.length ≤ maxLen := by unfold maxLen; omega
      have HD := Lib.hid (HF1.out.done hm (Nat.le_refl _))
      clear hm
      go_wp2_with fail
      go_ret
      exact ⟨_, _, rfl, HD.out, HE1.out⟩
def markE_Verdict (x : DVerdict) (k : Int) : DVerdict := ⟨k, (k + 1), (((k + 1) + 1) % 3 == 0), (((k + 1) + 1) + 1)⟩
def cntE_Verdict (x : DVerdict) : Nat := 1 + 1 + 1 + 1

set_option maxRecDepth 4000 in
set_option maxHeartbeats 3200000 in
theorem markVerdictS_any (l : List DVerdict) (k : Int) (hk : 1 ≤ k) (hb : k + (sumC cntE_Verdict l : Nat) ≤ 9223372036854775806) (S : Nat → Prop) (a : Option Addr) (cap : Nat) (w : World) (h : RowO 4 VerdictO S w a l) :
    Calls Try.prog 93 #[.slice a l.length cap, .int .i64 k] w (MarkedS 4 VerdictO markE_Verdict cntE_Verdict S w a l k) := by
  obtain ⟨hm, b, ee, T, h⟩ := h
  have hlen : (l.length : Int) ≤ 9223372036854775807 := by unfold maxLen at hm; omega
  have HA := Lib.hid h; have HM := Lib.hid hm
  clear h hm
  go_enter Try.func93, Try.ntmps93
  go_wp2_with fail
  go_loopw [1, 5] (fun s1 s5 wr => ∃ i : Nat, i ≤ l.length ∧ s5 = .int .i64 i ∧ s1 = .int .i64 (pos cntE_Verdict l k i) ∧ Hid (l ≠ [] → RowX 4 VerdictO b ee T wr (mix markE_Verdict cntE_Verdict l k i)) ∧ Chg S w wr) (fun _ i _ => l.length - (intOf i).toNat)
  case atStart => exact ⟨0, Nat.zero_le _, rfl, by rw [pos_zero], fun hne => by rw [mix_zero]; exact (HA.out hne).2.2.2, Chg.refl _ _⟩
  case round =>
    obtain ⟨i, hi, rfl, rfl, HX, hC⟩ := hrel
    have HC := Lib.hid hC; clear hC
    by_cases hlt : i < l.length
    · have hne : l ≠ [] := fun e => by subst e; simp at hlt
      obtain ⟨rfl, hSb, hST, -⟩ := HA.out hne
      have hsT : ∀ c, T i c → S c := fun c hc => hST i c hlt hc
      have hlen2 := HX.out hne
      obtain ⟨vs, hC0, hR⟩ := hlen2.openM hlt
      clear hlen2
      have hps := pos_succ cntE_Verdict l k hlt
      have hpl := pos_le cntE_Verdict l k (i + 1)
      have hpl2 := pos_le cntE_Verdict l k i
      have HCM : Hid (∀ vs w, RowC 4 VerdictO b ee T w (mix markE_Verdict cntE_Verdict l k i) i vs → VerdictO (T i) w vs (markE_Verdict l[i] (pos cntE_Verdict l k i)) → RowX 4 VerdictO b ee T w (mix markE_Verdict cntE_Verdict l k (i + 1))) := fun vs w h1 h2 => h1.closeM hlt h2
      obtain ⟨x, hx⟩ : ∃ x, x = l[i] := ⟨_, rfl⟩
      rw [← hx] at hR hps HCM
      clear hx
      obtain ⟨q, hq⟩ : ∃ q, q = pos cntE_Verdict l k i := ⟨_, rfl⟩
      rw [← hq] at hps hpl2 HCM ⊢
      clear hq
      obtain ⟨qq, hqq⟩ : ∃ qq, qq = pos cntE_Verdict l k (i + 1) := ⟨_, rfl⟩
      have HQQ := Lib.hid hqq
      rw [← hqq] at hps hpl
      clear hqq HX
      simp only [cntE_Verdict] at hps
      obtain rfl := hR
      have HC0 := Lib.hid hC0; clear hC0
      have q0 := HC0.out.cell 0 (by simp); have qf0 := HC0.out.free (i * 4 + 0)
      have q1 := HC0.out.cell 1 (by simp); have qf1 := HC0.out.free (i * 4 + 1)
      have q2 := HC0.out.cell 2 (by simp); have qf2 := HC0.out.free (i * 4 + 2)
      have q3 := HC0.out.cell 3 (by simp); have qf3 := HC0.out.free (i * 4 + 3)
      have qlt := HC0.out.lt
      simp only [List.getElem_cons_zero, List.getElem_cons_succ, Nat.add_zero] at q0 qf0 q1 qf1 q2 qf2 q3 qf3
      go_wp2_with fail
      go_roundw
      case rel =>
        refine ⟨i + 1, by omega, by go_num, ?_, fun _ => HCM.out [.int .i64 q, .int .i64 (q + 1), .bool (((q + 1) + 1) % 3 == 0), .int .i64 (((q + 1) + 1) + 1)] _ (RowC.set_ goodO_Verdict (RowC.set_ goodO_Verdict (RowC.set_ goodO_Verdict (RowC.set_ goodO_Verdict HC0.out (j := 0) (vs' := [.int .i64 q, .int .i64 x.b, .bool x.same, .int .i64 x.time]) (by simp) (by omega) rfl) (j := 1) (vs' := [.int .i64 q, .int .i64 (q + 1), .bool x.same, .int .i64 x.time]) (by simp) (by omega) rfl) (j := 2) (vs' := [.int .i64 q, .int .i64 (q + 1), .bool (((q + 1) + 1) % 3 == 0), .int .i64 x.time]) (by simp) (by omega) rfl) (j := 3) (vs' := [.int .i64 q, .int .i64 (q + 1), .bool (((q + 1) + 1) % 3 == 0), .int .i64 (((q + 1) + 1) + 1)]) (by simp) (by omega) rfl) rfl, ?_⟩
        · rw [← HQQ.out]; congr 1; rw [hps]; first | done | (push_cast; omega)
        · have h := HC.out
          (repeat' (first | with_reducible assumption | with_reducible exact Chg.refl _ _ | (with_reducible refine Chg.alloc_ ?_ _) | (with_reducible refine Chg.drew_ ?_) | (with_reducible refine Chg.drewN_ ?_ _) | (with_reducible refine Chg.set_ ?_ (by assumption) _ _)))
      case measure => (simp [intOf] <;> omega)
    · obtain rfl : i = l.length := by omega
      have hpf := pos_full cntE_Verdict l k
      rw [hpf]
      clear hpf
      go_wp2_with fail
      go_ret
      refine ⟨rfl, ⟨marked_len HM.out, b, ee, T, fun hne => ?_⟩, HC.out⟩
      have hne2 := markL_nil hne
      obtain ⟨g1, g2, g3, _⟩ := HA.out hne2
      refine ⟨g1, g2, fun i c hi hc => g3 i c (by rw [markL_length] at hi; exact hi) hc, ?_⟩
      have h := HX.out hne2
      rw [mix_full] at h
      exact h

set_option maxRecDepth 4000 in
set_option maxHeartbeats 3200000 in
theorem heldVerdictS_any (l : List DVerdict) (k : Int) (hk : 1 ≤ k) (hb : k + (sumC cntE_Verdict l : Nat) ≤ 9223372036854775806) (B : Nat) (a : Option Addr) (cap : Nat) (w : World) (h : RowR 4 VerdictR B w a (markL markE_Verdict cntE_Verdict l k)) :
    Calls Try.prog 97 #[.slice a l.length cap, .int .i64 k] w (fun e w' => e = .returned (.int .i64 (k + (sumC cntE_Verdict l : Nat))) ∧ Ext w w') := by
  have hlen : (l.length : Int) ≤ 9223372036854775807 := by have := h.1; rw [markL_length] at this; unfold maxLen at this; omega
  have HA := Lib.hid h
  clear h
  go_enter Try.func97, Try.ntmps97
  go_wp2_with fail
  go_loopw [1, 5] (fun s1 s5 wr => ∃ i : Nat, i ≤ l.length ∧ s5 = .int .i64 i ∧ s1 = .int .i64 (pos cntE_Verdict l k i) ∧ Ext w wr) (fun _ i _ => l.length - (intOf i).toNat)
  case atStart => exact ⟨0, Nat.zero_le _, rfl, by rw [pos_zero], Ext.refl _⟩
  case round =>
    obtain ⟨i, hi, rfl, rfl, hE⟩ := hrel
    have HE := Lib.hid hE; clear hE
    by_cases hlt : i < l.length
    · have hlt2 : i < (markL markE_Verdict cntE_Verdict l k).length := by rw [markL_length]; exact hlt
      obtain ⟨b, o, vs, rfl, -, hvl, hc, hR⟩ := (HA.out.ext good_Verdict HE.out).2 i hlt2
      rw [markL_get markE_Verdict cntE_Verdict l k i hlt2] at hR
      have hps := pos_succ cntE_Verdict l k hlt
      have hpl := pos_le cntE_Verdict l k (i + 1)
      have hpl2 := pos_le cntE_Verdict l k i
      obtain ⟨x, hx⟩ : ∃ x, x = l[i] := ⟨_, rfl⟩
      rw [← hx] at hR hps
      clear hx hlt2
      obtain ⟨q, hq⟩ : ∃ q, q = pos cntE_Verdict l k i := ⟨_, rfl⟩
      rw [← hq] at hR hps hpl2 ⊢
      clear hq
      obtain ⟨qq, hqq⟩ : ∃ qq, qq = pos cntE_Verdict l k (i + 1) := ⟨_, rfl⟩
      have HQQ := Lib.hid hqq
      rw [← hqq] at hps hpl
      clear hqq
      simp only [cntE_Verdict] at hps
      simp only [markE_Verdict] at hR
      obtain rfl := hR
      have q0 := hc 0 (by simp)
      have q1 := hc 1 (by simp)
      have q2 := hc 2 (by simp)
      have q3 := hc 3 (by simp)
      simp only [List.getElem_cons_zero, List.getElem_cons_succ, Nat.add_zero, markL_length] at q0 q1 q2 q3
      clear hc hvl
      go_wp2_with fail
      go_roundw
      case rel =>
        refine ⟨i + 1, by omega, by go_num, ?_, HE.out⟩
        rw [← HQQ.out]; congr 1; rw [hps]; first | done | (push_cast; omega)
      case measure => (simp [intOf] <;> omega)
    · obtain rfl : i = l.length := by omega
      have hpf := pos_full cntE_Verdict l k
      rw [hpf]
      clear hpf
      go_wp2_with fail
      go_ret
      exact ⟨rfl, HE.out⟩
end Go.Proofs.Ytdgpbgpapcldeaa
