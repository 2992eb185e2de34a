/- The type Rule as owned data: copies, marks. -/
import Derived.Test.YtdgpbgpapcldeaaMLib
import Derived.Test.YtdgpbgpapcldeaaKRule
import Derived.Test.YtdgpbgpapcldeaaMText
import Derived.Test.YtdgpbgpapcldeaaMTest
set_option linter.unusedVariables false
set_option linter.unusedSimpArgs false
namespace Go.Proofs.Ytdgpbgpapcldeaa
open Go.RowKit Go.Er Go.BigFrame
def RuleO : ORel DRule := fun S w vs x => ∃ (p0 : Option Addr) (c0 : Nat), vs = [.slice p0 x.tests.length c0] ∧ RowO 3 TestO S w p0 x.tests
theorem goodO_Rule : GoodO RuleO RuleR := ⟨fun hk ⟨p0, c0, h0, r0⟩ => ⟨p0, c0, h0, r0.keep goodO_Test hk⟩, fun hs ⟨p0, c0, h0, r0⟩ => ⟨p0, c0, h0, r0.mono hs⟩, fun ⟨p0, c0, h0, r0⟩ => ⟨p0, c0, h0, r0.trim goodO_Test⟩, fun hs ⟨p0, c0, h0, r0⟩ => ⟨p0, c0, h0, r0.rel goodO_Test hs⟩⟩

set_option maxHeartbeats 1600000 in
theorem toRule_own (x : DRule) (hs : SmallRule x) (vs : List Value) (w : World) (h : RuleR 0 w vs x) :
    Calls Try.prog 142 #[.agg vs.toArray] w (MadeO RuleO w x) := by
  obtain ⟨p0, c0, rfl, r0⟩ := h
  have HS := Lib.hid hs; clear hs
  have R0 := Lib.hid r0
  clear r0
  go_enter Try.func142, Try.ntmps142
  go_wp2_with fail
  refine (toTestS_own x.tests HS.out p0 c0 _ (R0.out.ext good_Test (by (repeat' (first | with_reducible assumption | with_reducible exact Below.refl _ _ | (with_reducible refine Ext.alloc' ?_ _) | (with_reducible refine Ext.drew' ?_) | (with_reducible refine Ext.drewN' ?_ _) | (with_reducible refine Ext.set_ ?_ (by first | omega | (simp; done) | (simp; omega)) _ _) | (refine Ext.trans ?_ (by with_reducible assumption))))))).mono ?_
  rintro e w0 ⟨s0, d0, rfl, hr0, hE0⟩
  have HN1' : Hid (Box w0 w.heap.size 174 #[.slice p0 x.tests.length c0]) := (Box.alloc (Box.alloc (Box.new' _ _ #[.slice p0 x.tests.length c0] _ (by simp)) _) _).ext hE0
  have HN2' : Hid (Box w0 (w.heap.size + 1) 104 #[.slice none 0 0]) := (Box.alloc (Box.new' _ _ #[.slice none 0 0] _ (by simp)) _).ext hE0
  have HN3' : Hid (Box w0 (w.heap.size + 1 + 1) 104 #[.slice none 0 0]) := (Box.new' _ _ #[.slice none 0 0] _ (by simp)).ext hE0
  have S0 := Lib.hid (hr0.monoB (B' := w.heap.size + 3) (by simp))
  clear hr0
  have HE' : Hid (Ext w w0) := (show Ext w w0 from by have h9 := hE0; (repeat' (first | with_reducible assumption | with_reducible exact Below.refl _ _ | (with_reducible refine Ext.alloc' ?_ _) | (with_reducible refine Ext.drew' ?_) | (with_reducible refine Ext.drewN' ?_ _) | (with_reducible refine Ext.set_ ?_ (by first | omega | (simp; done) | (simp; omega)) _ _) | (refine Ext.trans ?_ (by with_reducible assumption)))))
  have HE := HE'; have HN1 := HN1'; have HN2 := HN2'; have HN3 := HN3'
  clear HE' HN1' HN2' HN3' hE0
  have k0 := HN1.out.cell 0
  have klt := HN1.out.lt
  simp only [List.getElem?_toArray, List.getElem?_cons_zero, List.getElem?_cons_succ] at k0
  have m0 := HN3.out.cell 0
  have mf0 := HN3.out.free 0
  have mlt := HN3.out.lt
  simp only [List.getElem?_toArray, List.getElem?_cons_zero, List.getElem?_cons_succ] at m0
  have l0 := HN2.out.cell 0
  have lf0 := HN2.out.free 0
  have llt := HN2.out.lt
  simp only [List.getElem?_toArray, List.getElem?_cons_zero, List.getElem?_cons_succ] at l0
  go_wp2_with fail
  refine bodyPost_ret (v := .agg #[.slice s0 x.tests.length d0]) (by simp [results, Try.results142, go_sem, m0, l0]) rfl ?_
  refine ⟨[.slice s0 x.tests.length d0], rfl, ?_, ?_⟩
  rotate_left
  · have h8 := HE.out; (repeat' (first | with_reducible assumption | with_reducible exact Below.refl _ _ | (with_reducible refine Ext.alloc' ?_ _) | (with_reducible refine Ext.drew' ?_) | (with_reducible refine Ext.drewN' ?_ _) | (with_reducible refine Ext.set_ ?_ (by first | omega | (simp; done) | (simp; omega)) _ _) | (refine Ext.trans ?_ (by with_reducible assumption))))
  exact ⟨s0, d0, rfl, (S0.out.keepB goodO_Test (by (repeat' (first | with_reducible exact Keep.refl _ _ | refine Keep.set_trans ?_ (by omega) _ _)))).monoB (by omega)⟩

set_option maxHeartbeats 1600000 in
theorem toRuleS_own (l : List DRule) (hs : SmallL (fun y => SmallRule y) l) (a : Option Addr) (cap : Nat) (w : World) (ha : RowR 1 RuleR 0 w a l) :
    Calls Try.prog 103 #[.slice a l.length cap] w (MadeSO 1 RuleO w l) := by
  have hlen := hs.1
  have HA := Lib.hid ha; have HS := Lib.hid hs.2; clear ha hs
  go_enter Try.func103, Try.ntmps103
  go_wp2_with (at_make; refine wpList_make_rowO RuleO l rfl _ _ 43 rfl Try.underlying43 info_RuleS (by decide) .i64 .i64 rfl rfl hlen (Ext.refl _) ?_; intro w1 hF hE)
  have HF := Lib.hid hF; have HE := Lib.hid hE; clear hF hE
  go_loopw [4] (fun s4 wr => ∃ i : Nat, i ≤ l.length ∧ s4 = .int .i64 i ∧ Ext w wr ∧ FilledO 1 RuleO w.heap.size 104 l.length wr l i) (fun i _ => l.length - (intOf i).toNat)
  case atStart => exact ⟨0, Nat.zero_le _, rfl, HE.out, HF.out⟩
  case round =>
    obtain ⟨i, hi, rfl, hE1, hF1⟩ := hrel
    have HE1 := Lib.hid hE1; have HF1 := Lib.hid hF1; clear hE1 hF1
    by_cases hlt : i < l.length
    · obtain ⟨b, o, vs, rfl, _, _, hc, hR⟩ := (HA.out.ext good_Rule HE1.out).2 i hlt
      have hsm := HS.out l[i] (List.getElem_mem hlt)
      obtain ⟨x, hx⟩ : ∃ x, x = l[i] := ⟨_, rfl⟩
      have HX := Lib.hid hx
      rw [← hx] at hR
      try rw [← hx] at hsm
      have HSM := Lib.hid hsm
      clear hx hsm
      obtain ⟨p0, c0, rfl, r0⟩ := hR
      have q0 := hc 0 (by simp)
      simp only [List.getElem_cons_zero, List.getElem_cons_succ, Nat.mul_one, Nat.add_zero] at q0
      clear hc
      have hR : RuleR 0 wr [.slice p0 x.tests.length c0] x := ⟨p0, c0, rfl, r0⟩
      have HR := Lib.hid hR
      clear hR r0
      go_wp2_with fail
      refine (toRule_own x HSM.out _ _ HR.out).mono ?_
      rintro e w2 ⟨us, rfl, hR2, hE2⟩
      have HF2 := Lib.hid (HF1.out.ext goodO_Rule hE2)
      have HE2 := Lib.hid (HE1.out.trans hE2)
      have hR3 : RuleO (From wr.heap.size) w2 us x := hR2
      obtain ⟨p0', c0', rfl, r0'⟩ := hR2
      have hst := HF1.out.step goodO_Rule hE2 hlt (Nat.le_refl _) (us := [.slice p0' x.tests.length c0']) rfl (HX.out ▸ hR3)
      have HST := Lib.hid hst
      clear hst hR3 hE2 r0' q0
      obtain ⟨y0, hy0⟩ := HF2.out.cell (m := i * 1) (by omega); have hf0 := HF2.out.free (i * 1)
      simp only [Nat.mul_one] at hy0 hf0
      go_wp2_with fail
      go_roundw
      case rel =>
        refine ⟨i + 1, by omega, by go_num, ?_, ?_⟩
        · have h := ext_setCells (N := w.heap.size) (Nat.le_refl _) [.slice p0' x.tests.length c0'] (i * 1) HE2.out
          simpa [setCells] using h
        · have h := HST.out
          simpa [setCells] using h
      case measure => (simp [intOf] <;> omega)
    · obtain rfl : i = l.length := by omega
      have hm : l.length ≤ maxLen := by unfold maxLen; omega
      have HD := Lib.hid (HF1.out.done hm (Nat.le_refl _))
      clear hm
      go_wp2_with fail
      go_ret
      exact ⟨_, _, rfl, HD.out, HE1.out⟩
def markE_Rule (x : DRule) (k : Int) : DRule := ⟨(markL markE_Test cntE_Test x.tests k)⟩
def cntE_Rule (x : DRule) : Nat := sumC cntE_Test x.tests

set_option maxRecDepth 4000 in
set_option maxHeartbeats 3200000 in
theorem markRuleS_any (l : List DRule) (k : Int) (hk : 1 ≤ k) (hb : k + (sumC cntE_Rule l : Nat) ≤ 9223372036854775806) (S : Nat → Prop) (a : Option Addr) (cap : Nat) (w : World) (h : RowO 1 RuleO S w a l) :
    Calls Try.prog 132 #[.slice a l.length cap, .int .i64 k] w (MarkedS 1 RuleO markE_Rule cntE_Rule S w a l k) := by
  obtain ⟨hm, b, ee, T, h⟩ := h
  have hlen : (l.length : Int) ≤ 9223372036854775807 := by unfold maxLen at hm; omega
  have HA := Lib.hid h; have HM := Lib.hid hm
  clear h hm
  go_enter Try.func132, Try.ntmps132
  go_wp2_with fail
  go_loopw [1, 5] (fun s1 s5 wr => ∃ i : Nat, i ≤ l.length ∧ s5 = .int .i64 i ∧ s1 = .int .i64 (pos cntE_Rule l k i) ∧ Hid (l ≠ [] → RowX 1 RuleO b ee T wr (mix markE_Rule cntE_Rule l k i)) ∧ Chg S w wr) (fun _ i _ => l.length - (intOf i).toNat)
  case atStart => exact ⟨0, Nat.zero_le _, rfl, by rw [pos_zero], fun hne => by rw [mix_zero]; exact (HA.out hne).2.2.2, Chg.refl _ _⟩
  case round =>
    obtain ⟨i, hi, rfl, rfl, HX, hC⟩ := hrel
    have HC := Lib.hid hC; clear hC
    by_cases hlt : i < l.length
    · have hne : l ≠ [] := fun e => by subst e; simp at hlt
      obtain ⟨rfl, hSb, hST, -⟩ := HA.out hne
      have hsT : ∀ c, T i c → S c := fun c hc => hST i c hlt hc
      have hlen2 := HX.out hne
      obtain ⟨vs, hC0, hR⟩ := hlen2.openM hlt
      clear hlen2
      have hps := pos_succ cntE_Rule l k hlt
      have hpl := pos_le cntE_Rule l k (i + 1)
      have hpl2 := pos_le cntE_Rule l k i
      have HCM : Hid (∀ vs w, RowC 1 RuleO b ee T w (mix markE_Rule cntE_Rule l k i) i vs → RuleO (T i) w vs (markE_Rule l[i] (pos cntE_Rule l k i)) → RowX 1 RuleO b ee T w (mix markE_Rule cntE_Rule l k (i + 1))) := fun vs w h1 h2 => h1.closeM hlt h2
      obtain ⟨x, hx⟩ : ∃ x, x = l[i] := ⟨_, rfl⟩
      rw [← hx] at hR hps HCM
      clear hx
      obtain ⟨q, hq⟩ : ∃ q, q = pos cntE_Rule l k i := ⟨_, rfl⟩
      rw [← hq] at hps hpl2 HCM ⊢
      clear hq
      obtain ⟨qq, hqq⟩ : ∃ qq, qq = pos cntE_Rule l k (i + 1) := ⟨_, rfl⟩
      have HQQ := Lib.hid hqq
      rw [← hqq] at hps hpl
      clear hqq HX
      simp only [cntE_Rule] at hps
      obtain ⟨p0, c0, rfl, r0⟩ := hR
      have R0 := Lib.hid r0; clear r0
      have HC0 := Lib.hid hC0; clear hC0
      have hap := HC0.out.apart
      have q0 := HC0.out.cell 0 (by simp); have qf0 := HC0.out.free (i * 1 + 0)
      have qlt := HC0.out.lt
      simp only [List.getElem_cons_zero, List.getElem_cons_succ, Nat.mul_one, Nat.add_zero] at q0 qf0
      go_wp2_with fail
      refine (markTestS_any x.tests q (by omega) (by omega) (T i) p0 c0 _ R0.out).mono ?_
      rintro e w2 ⟨rfl, hRO, hCh⟩
      have HC1' : Hid (RowC 1 RuleO b ee T w2 (mix markE_Rule cntE_Rule l k i) i [.slice p0 x.tests.length c0]) := RowC.chg goodO_Rule HC0.out hCh
      have HCW' : Hid (Chg S w w2) := by
        refine Chg.trans ?_ (hCh.mono hsT)
        have h := HC.out
        (repeat' (first | with_reducible assumption | with_reducible exact Chg.refl _ _ | (with_reducible refine Chg.alloc_ ?_ _) | (with_reducible refine Chg.drew_ ?_) | (with_reducible refine Chg.drewN_ ?_ _) | (with_reducible refine Chg.set_ ?_ (by assumption) _ _)))
      have RO0 := Lib.hid hRO
      clear hRO hCh HC0 HC qlt R0 q0 qf0
      have HC1 := HC1'; have HCW := HCW'; clear HC1' HCW'
      have q0 := HC1.out.cell 0 (by simp); have qf0 := HC1.out.free (i * 1 + 0)
      have qlt := HC1.out.lt
      simp only [List.getElem_cons_zero, List.getElem_cons_succ, Nat.mul_one, Nat.add_zero] at q0 qf0
      go_wp2_with fail
      go_roundw
      case rel =>
        refine ⟨i + 1, by omega, by go_num, ?_, fun _ => HCM.out [.slice p0 x.tests.length c0] _ HC1.out ⟨p0, c0, (by simp only [markE_Rule, markL_length]), RO0.out⟩, ?_⟩
        · rw [← HQQ.out]; congr 1; rw [hps]; first | done | (push_cast; omega)
        · have h := HCW.out
          (repeat' (first | with_reducible assumption | with_reducible exact Chg.refl _ _ | (with_reducible refine Chg.alloc_ ?_ _) | (with_reducible refine Chg.drew_ ?_) | (with_reducible refine Chg.drewN_ ?_ _) | (with_reducible refine Chg.set_ ?_ (by assumption) _ _)))
      case measure => (simp [intOf] <;> omega)
    · obtain rfl : i = l.length := by omega
      have hpf := pos_full cntE_Rule l k
      rw [hpf]
      clear hpf
      go_wp2_with fail
      go_ret
      refine ⟨rfl, ⟨marked_len HM.out, b, ee, T, fun hne => ?_⟩, HC.out⟩
      have hne2 := markL_nil hne
      obtain ⟨g1, g2, g3, _⟩ := HA.out hne2
      refine ⟨g1, g2, fun i c hi hc => g3 i c (by rw [markL_length] at hi; exact hi) hc, ?_⟩
      have h := HX.out hne2
      rw [mix_full] at h
      exact h

set_option maxRecDepth 4000 in
set_option maxHeartbeats 3200000 in
theorem heldRuleS_any (l : List DRule) (k : Int) (hk : 1 ≤ k) (hb : k + (sumC cntE_Rule l : Nat) ≤ 9223372036854775806) (B : Nat) (a : Option Addr) (cap : Nat) (w : World) (h : RowR 1 RuleR B w a (markL markE_Rule cntE_Rule l k)) :
    Calls Try.prog 153 #[.slice a l.length cap, .int .i64 k] w (fun e w' => e = .returned (.int .i64 (k + (sumC cntE_Rule l : Nat))) ∧ Ext w w') := by
  have hlen : (l.length : Int) ≤ 9223372036854775807 := by have := h.1; rw [markL_length] at this; unfold maxLen at this; omega
  have HA := Lib.hid h
  clear h
  go_enter Try.func153, Try.ntmps153
  go_wp2_with fail
  go_loopw [1, 5] (fun s1 s5 wr => ∃ i : Nat, i ≤ l.length ∧ s5 = .int .i64 i ∧ s1 = .int .i64 (pos cntE_Rule l k i) ∧ Ext w wr) (fun _ i _ => l.length - (intOf i).toNat)
  case atStart => exact ⟨0, Nat.zero_le _, rfl, by rw [pos_zero], Ext.refl _⟩
  case round =>
    obtain ⟨i, hi, rfl, rfl, hE⟩ := hrel
    have HE := Lib.hid hE; clear hE
    by_cases hlt : i < l.length
    · have hlt2 : i < (markL markE_Rule cntE_Rule l k).length := by rw [markL_length]; exact hlt
      obtain ⟨b, o, vs, rfl, -, hvl, hc, hR⟩ := (HA.out.ext good_Rule HE.out).2 i hlt2
      rw [markL_get markE_Rule cntE_Rule l k i hlt2] at hR
      have hps := pos_succ cntE_Rule l k hlt
      have hpl := pos_le cntE_Rule l k (i + 1)
      have hpl2 := pos_le cntE_Rule l k i
      obtain ⟨x, hx⟩ : ∃ x, x = l[i] := ⟨_, rfl⟩
      rw [← hx] at hR hps
      clear hx hlt2
      obtain ⟨q, hq⟩ : ∃ q, q = pos cntE_Rule l k i := ⟨_, rfl⟩
      rw [← hq] at hR hps hpl2 ⊢
      clear hq
      obtain ⟨qq, hqq⟩ : ∃ qq, qq = pos cntE_Rule l k (i + 1) := ⟨_, rfl⟩
      have HQQ := Lib.hid hqq
      rw [← hqq] at hps hpl
      clear hqq
      simp only [cntE_Rule] at hps
      simp only [markE_Rule] at hR
      obtain ⟨p0, c0, rfl, r0⟩ := hR
      have R0 := Lib.hid r0; clear r0
      have q0 := hc 0 (by simp)
      simp only [List.getElem_cons_zero, List.getElem_cons_succ, Nat.mul_one, Nat.add_zero, markL_length] at q0
      clear hc hvl
      go_wp2_with fail
      refine (heldTestS_any x.tests q (by omega) (by omega) B p0 c0 _ R0.out).mono ?_
      rintro e w2 ⟨rfl, hE2⟩
      replace q0 := hE2.at q0
      replace R0 := Lib.hid (R0.out.ext good_Test hE2)
      have HE2 := Lib.hid (HE.out.trans hE2)
      clear hE2
      have hge2 : ¬ q + (sumC cntE_Test x.tests : Nat) < 0 := by omega
      go_wp2_with fail
      go_roundw
      case rel =>
        refine ⟨i + 1, by omega, by go_num, ?_, HE2.out⟩
        rw [← HQQ.out]; congr 1; rw [hps]; first | done | (push_cast; omega)
      case measure => (simp [intOf] <;> omega)
    · obtain rfl : i = l.length := by omega
      have hpf := pos_full cntE_Rule l k
      rw [hpf]
      clear hpf
      go_wp2_with fail
      go_ret
      exact ⟨rfl, HE.out⟩
end Go.Proofs.Ytdgpbgpapcldeaa
