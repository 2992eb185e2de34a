/- The type Entity as owned data: copies, marks. -/
import Derived.Test.YtdgpbgpapcldeaaMLib
import Derived.Test.YtdgpbgpapcldeaaKEntity
import Derived.Test.YtdgpbgpapcldeaaMText
import Derived.Test.YtdgpbgpapcldeaaMIntS
set_option linter.unusedVariables false
set_option linter.unusedSimpArgs false
namespace Go.Proofs.Ytdgpbgpapcldeaa
open Go.RowKit Go.Er Go.BigFrame
def EntityO : ORel DEntity := fun S w vs x => ∃ (p0 : Option Addr) (c0 : Nat), vs = [.int .i64 x.id, .slice p0 x.members.length c0] ∧ RowO 1 IntO S w p0 x.members
theorem goodO_Entity : GoodO EntityO EntityR := ⟨fun hk ⟨p0, c0, h0, r0⟩ => ⟨p0, c0, h0, r0.keep goodO_int hk⟩, fun hs ⟨p0, c0, h0, r0⟩ => ⟨p0, c0, h0, r0.mono hs⟩, fun ⟨p0, c0, h0, r0⟩ => ⟨p0, c0, h0, r0.trim goodO_int⟩, fun hs ⟨p0, c0, h0, r0⟩ => ⟨p0, c0, h0, r0.rel goodO_int hs⟩⟩

set_option maxHeartbeats 1600000 in
theorem toEntity_own (x : DEntity) (hs : SmallEntity x) (vs : List Value) (w : World) (h : EntityR 0 w vs x) :
    Calls Try.prog 120 #[.agg vs.toArray] w (MadeO EntityO w x) := by
  obtain ⟨p0, c0, rfl, r0⟩ := h
  have HS := Lib.hid hs; clear hs
  have R0 := Lib.hid r0
  clear r0
  go_enter Try.func120, Try.ntmps120
  go_wp2_with fail
  refine (toIntS_own x.members HS.out p0 c0 _ (R0.out.ext good_int (by (repeat' (first | with_reducible assumption | with_reducible exact Below.refl _ _ | (with_reducible refine Ext.alloc' ?_ _) | (with_reducible refine Ext.drew' ?_) | (with_reducible refine Ext.drewN' ?_ _) | (with_reducible refine Ext.set_ ?_ (by first | omega | (simp; done) | (simp; omega)) _ _) | (refine Ext.trans ?_ (by with_reducible assumption))))))).mono ?_
  rintro e w0 ⟨s0, d0, rfl, hr0, hE0⟩
  have HN1' : Hid (Box w0 w.heap.size 150 #[.int .i64 x.id, .slice p0 x.members.length c0]) := (Box.alloc (Box.alloc (Box.new' _ _ #[.int .i64 x.id, .slice p0 x.members.length c0] _ (by simp)) _) _).ext hE0
  have HN2' : Hid (Box w0 (w.heap.size + 1) 152 #[.int .i64 0, .slice none 0 0]) := (Box.alloc (Box.new' _ _ #[.int .i64 0, .slice none 0 0] _ (by simp)) _).ext hE0
  have HN3' : Hid (Box w0 (w.heap.size + 1 + 1) 152 #[.int .i64 x.id, .slice none 0 0]) := (Box.new' _ _ #[.int .i64 x.id, .slice none 0 0] _ (by simp)).ext hE0
  have S0 := Lib.hid (hr0.monoB (B' := w.heap.size + 3) (by simp))
  clear hr0
  have HE' : Hid (Ext w w0) := (show Ext w w0 from by have h9 := hE0; (repeat' (first | with_reducible assumption | with_reducible exact Below.refl _ _ | (with_reducible refine Ext.alloc' ?_ _) | (with_reducible refine Ext.drew' ?_) | (with_reducible refine Ext.drewN' ?_ _) | (with_reducible refine Ext.set_ ?_ (by first | omega | (simp; done) | (simp; omega)) _ _) | (refine Ext.trans ?_ (by with_reducible assumption)))))
  have HE := HE'; have HN1 := HN1'; have HN2 := HN2'; have HN3 := HN3'
  clear HE' HN1' HN2' HN3' hE0
  have k0 := HN1.out.cell 0
  have k1 := HN1.out.cell 1
  have klt := HN1.out.lt
  simp only [List.getElem?_toArray, List.getElem?_cons_zero, List.getElem?_cons_succ] at k0 k1
  have m0 := HN3.out.cell 0
  have mf0 := HN3.out.free 0
  have m1 := HN3.out.cell 1
  have mf1 := HN3.out.free 1
  have mlt := HN3.out.lt
  simp only [List.getElem?_toArray, List.getElem?_cons_zero, List.getElem?_cons_succ] at m0 m1
  have l0 := HN2.out.cell 0
  have lf0 := HN2.out.free 0
  have l1 := HN2.out.cell 1
  have lf1 := HN2.out.free 1
  have llt := HN2.out.lt
  simp only [List.getElem?_toArray, List.getElem?_cons_zero, List.getElem?_cons_succ] at l0 l1
  go_wp2_with fail
  refine bodyPost_ret (v := .agg #[.int .i64 x.id, .slice s0 x.members.length d0]) (by simp [results, Try.results120, go_sem, m0, m1, l0, l1]) rfl ?_
  refine ⟨[.int .i64 x.id, .slice s0 x.members.length d0], rfl, ?_, ?_⟩
  rotate_left
  · have h8 := HE.out; (repeat' (first | with_reducible assumption | with_reducible exact Below.refl _ _ | (with_reducible refine Ext.alloc' ?_ _) | (with_reducible refine Ext.drew' ?_) | (with_reducible refine Ext.drewN' ?_ _) | (with_reducible refine Ext.set_ ?_ (by first | omega | (simp; done) | (simp; omega)) _ _) | (refine Ext.trans ?_ (by with_reducible assumption))))
  exact ⟨s0, d0, rfl, (S0.out.keepB goodO_int (by (repeat' (first | with_reducible exact Keep.refl _ _ | refine Keep.set_trans ?_ (by omega) _ _)))).monoB (by omega)⟩

set_option maxHeartbeats 1600000 in
theorem toEntityS_own (l : List DEntity) (hs : SmallL (fun y => SmallEntity y) l) (a : Option Addr) (cap : Nat) (w : World) (ha : RowR 2 EntityR 0 w a l) :
    Calls Try.prog 78 #[.slice a l.length cap] w (MadeSO 2 EntityO w l) := by
  have hlen := hs.1
  have HA := Lib.hid ha; have HS := Lib.hid hs.2; clear ha hs
  go_enter Try.func78, Try.ntmps78
  go_wp2_with (at_make; refine wpList_make_rowO EntityO l rfl _ _ 70 rfl Try.underlying70 info_EntityS (by decide) .i64 .i64 rfl rfl hlen (Ext.refl _) ?_; intro w1 hF hE)
  have HF := Lib.hid hF; have HE := Lib.hid hE; clear hF hE
  go_loopw [4] (fun s4 wr => ∃ i : Nat, i ≤ l.length ∧ s4 = .int .i64 i ∧ Ext w wr ∧ FilledO 2 EntityO w.heap.size 152 l.length wr l i) (fun i _ => l.length - (intOf i).toNat)
  case atStart => exact ⟨0, Nat.zero_le _, rfl, HE.out, HF.out⟩
  case round =>
    obtain ⟨i, hi, rfl, hE1, hF1⟩ := hrel
    have HE1 := Lib.hid hE1; have HF1 := Lib.hid hF1; clear hE1 hF1
    by_cases hlt : i < l.length
    · obtain ⟨b, o, vs, rfl, _, _, hc, hR⟩ := (HA.out.ext good_Entity HE1.out).2 i hlt
      have hsm := HS.out l[i] (List.getElem_mem hlt)
      obtain ⟨x, hx⟩ : ∃ x, x = l[i] := ⟨_, rfl⟩
      have HX := Lib.hid hx
      rw [← hx] at hR
      try rw [← hx] at hsm
      have HSM := Lib.hid hsm
      clear hx hsm
      obtain ⟨p0, c0, rfl, r0⟩ := hR
      have q0 := hc 0 (by simp)
      have q1 := hc 1 (by simp)
      simp only [List.getElem_cons_zero, List.getElem_cons_succ, Nat.mul_one, Nat.add_zero] at q0 q1
      clear hc
      have hR : EntityR 0 wr [.int .i64 x.id, .slice p0 x.members.length c0] x := ⟨p0, c0, rfl, r0⟩
      have HR := Lib.hid hR
      clear hR r0
      go_wp2_with fail
      refine (toEntity_own x HSM.out _ _ HR.out).mono ?_
      rintro e w2 ⟨us, rfl, hR2, hE2⟩
      have HF2 := Lib.hid (HF1.out.ext goodO_Entity hE2)
      have HE2 := Lib.hid (HE1.out.trans hE2)
      have hR3 : EntityO (From wr.heap.size) w2 us x := hR2
      obtain ⟨p0', c0', rfl, r0'⟩ := hR2
      have hst := HF1.out.step goodO_Entity hE2 hlt (Nat.le_refl _) (us := [.int .i64 x.id, .slice p0' x.members.length c0']) rfl (HX.out ▸ hR3)
      have HST := Lib.hid hst
      clear hst hR3 hE2 r0' q0 q1
      obtain ⟨y0, hy0⟩ := HF2.out.cell (m := i * 2) (by omega); have hf0 := HF2.out.free (i * 2)
      obtain ⟨y1, hy1⟩ := HF2.out.cell (m := i * 2 + 1) (by omega); have hf1 := HF2.out.free (i * 2 + 1)
      go_wp2_with fail
      go_roundw
      case rel =>
        refine ⟨i + 1, by omega, by go_num, ?_, ?_⟩
        · have h := ext_setCells (N := w.heap.size) (Nat.le_refl _) [.int .i64 x.id, .slice p0' x.members.length c0'] (i * 2) HE2.out
          simpa [setCells] using h
        · have h := HST.out
          simpa [setCells] using h
      case measure => (simp [intOf] <;> omega)
    · obtain rfl : i = l.length := by omega
      have hm : l.length ≤ maxLen := by unfold maxLen; omega
      have HD := Lib.hid (HF1.out.done hm (Nat.le_refl _))
      clear hm
      go_wp2_with fail
      go_ret
      exact ⟨_, _, rfl, HD.out, HE1.out⟩
def markE_Entity (x : DEntity) (k : Int) : DEntity := ⟨k, (markL markInt cntOne x.members (k + 1))⟩
def cntE_Entity (x : DEntity) : Nat := 1 + sumC cntOne x.members

set_option maxRecDepth 4000 in
set_option maxHeartbeats 3200000 in
theorem markEntityS_any (l : List DEntity) (k : Int) (hk : 1 ≤ k) (hb : k + (sumC cntE_Entity l : Nat) ≤ 9223372036854775806) (S : Nat → Prop) (a : Option Addr) (cap : Nat) (w : World) (h : RowO 2 EntityO S w a l) :
    Calls Try.prog 92 #[.slice a l.length cap, .int .i64 k] w (MarkedS 2 EntityO markE_Entity cntE_Entity S w a l k) := by
  obtain ⟨hm, b, ee, T, h⟩ := h
  have hlen : (l.length : Int) ≤ 9223372036854775807 := by unfold maxLen at hm; omega
  have HA := Lib.hid h; have HM := Lib.hid hm
  clear h hm
  go_enter Try.func92, Try.ntmps92
  go_wp2_with fail
  go_loopw [1, 5] (fun s1 s5 wr => ∃ i : Nat, i ≤ l.length ∧ s5 = .int .i64 i ∧ s1 = .int .i64 (pos cntE_Entity l k i) ∧ Hid (l ≠ [] → RowX 2 EntityO b ee T wr (mix markE_Entity cntE_Entity l k i)) ∧ Chg S w wr) (fun _ i _ => l.length - (intOf i).toNat)
  case atStart => exact ⟨0, Nat.zero_le _, rfl, by rw [pos_zero], fun hne => by rw [mix_zero]; exact (HA.out hne).2.2.2, Chg.refl _ _⟩
  case round =>
    obtain ⟨i, hi, rfl, rfl, HX, hC⟩ := hrel
    have HC := Lib.hid hC; clear hC
    by_cases hlt : i < l.length
    · have hne : l ≠ [] := fun e => by subst e; simp at hlt
      obtain ⟨rfl, hSb, hST, -⟩ := HA.out hne
      have hsT : ∀ c, T i c → S c := fun c hc => hST i c hlt hc
      have hlen2 := HX.out hne
      obtain ⟨vs, hC0, hR⟩ := hlen2.openM hlt
      clear hlen2
      have hps := pos_succ cntE_Entity l k hlt
      have hpl := pos_le cntE_Entity l k (i + 1)
      have hpl2 := pos_le cntE_Entity l k i
      have HCM : Hid (∀ vs w, RowC 2 EntityO b ee T w (mix markE_Entity cntE_Entity l k i) i vs → EntityO (T i) w vs (markE_Entity l[i] (pos cntE_Entity l k i)) → RowX 2 EntityO b ee T w (mix markE_Entity cntE_Entity l k (i + 1))) := fun vs w h1 h2 => h1.closeM hlt h2
      obtain ⟨x, hx⟩ : ∃ x, x = l[i] := ⟨_, rfl⟩
      rw [← hx] at hR hps HCM
      clear hx
      obtain ⟨q, hq⟩ : ∃ q, q = pos cntE_Entity l k i := ⟨_, rfl⟩
      rw [← hq] at hps hpl2 HCM ⊢
      clear hq
      obtain ⟨qq, hqq⟩ : ∃ qq, qq = pos cntE_Entity l k (i + 1) := ⟨_, rfl⟩
      have HQQ := Lib.hid hqq
      rw [← hqq] at hps hpl
      clear hqq HX
      simp only [cntE_Entity] at hps
      obtain ⟨p0, c0, rfl, r0⟩ := hR
      have R0 := Lib.hid r0; clear r0
      have HC0 := Lib.hid hC0; clear hC0
      have hap := HC0.out.apart
      have q0 := HC0.out.cell 0 (by simp); have qf0 := HC0.out.free (i * 2 + 0)
      have q1 := HC0.out.cell 1 (by simp); have qf1 := HC0.out.free (i * 2 + 1)
      have qlt := HC0.out.lt
      simp only [List.getElem_cons_zero, List.getElem_cons_succ, Nat.add_zero] at q0 qf0 q1 qf1
      go_wp2_with fail
      refine (markIntS_any x.members (q + 1) (by omega) (by omega) (T i) p0 c0 _ (RowO.setO goodO_int R0.out hap _ _)).mono ?_
      rintro e w2 ⟨rfl, hRO, hCh⟩
      have HC1' : Hid (RowC 2 EntityO b ee T w2 (mix markE_Entity cntE_Entity l k i) i [.int .i64 q, .slice p0 x.members.length c0]) := RowC.chg goodO_Entity (RowC.set_ goodO_Entity HC0.out (j := 0) (vs' := [.int .i64 q, .slice p0 x.members.length c0]) (by simp) (by omega) rfl) hCh
      have HCW' : Hid (Chg S w w2) := by
        refine Chg.trans ?_ (hCh.mono hsT)
        have h := HC.out
        (repeat' (first | with_reducible assumption | with_reducible exact Chg.refl _ _ | (with_reducible refine Chg.alloc_ ?_ _) | (with_reducible refine Chg.drew_ ?_) | (with_reducible refine Chg.drewN_ ?_ _) | (with_reducible refine Chg.set_ ?_ (by assumption) _ _)))
      have RO0 := Lib.hid hRO
      clear hRO hCh HC0 HC qlt R0 q0 qf0 q1 qf1
      have HC1 := HC1'; have HCW := HCW'; clear HC1' HCW'
      have q0 := HC1.out.cell 0 (by simp); have qf0 := HC1.out.free (i * 2 + 0)
      have q1 := HC1.out.cell 1 (by simp); have qf1 := HC1.out.free (i * 2 + 1)
      have qlt := HC1.out.lt
      simp only [List.getElem_cons_zero, List.getElem_cons_succ, Nat.add_zero] at q0 qf0 q1 qf1
      go_wp2_with fail
      go_roundw
      case rel =>
        refine ⟨i + 1, by omega, by go_num, ?_, fun _ => HCM.out [.int .i64 q, .slice p0 x.members.length c0] _ HC1.out ⟨p0, c0, (by simp only [markE_Entity, markL_length]), RO0.out⟩, ?_⟩
        · rw [← HQQ.out]; congr 1; rw [hps]; first | done | (push_cast; omega)
        · have h := HCW.out
          (repeat' (first | with_reducible assumption | with_reducible exact Chg.refl _ _ | (with_reducible refine Chg.alloc_ ?_ _) | (with_reducible refine Chg.drew_ ?_) | (with_reducible refine Chg.drewN_ ?_ _) | (with_reducible refine Chg.set_ ?_ (by assumption) _ _)))
      case measure => (simp [intOf] <;> omega)
    · obtain rfl : i = l.length := by omega
      have hpf := pos_full cntE_Entity l k
      rw [hpf]
      clear hpf
      go_wp2_with fail
      go_ret
      refine ⟨rfl, ⟨marked_len HM.out, b, ee, T, fun hne => ?_⟩, HC.out⟩
      have hne2 := markL_nil hne
      obtain ⟨g1, g2, g3, _⟩ := HA.out hne2
      refine ⟨g1, g2, fun i c hi hc => g3 i c (by rw [markL_length] at hi; exact hi) hc, ?_⟩
      have h := HX.out hne2
      rw [mix_full] at h
      exact h

set_option maxRecDepth 4000 in
set_option maxHeartbeats 3200000 in
theorem heldEntityS_any (l : List DEntity) (k : Int) (hk : 1 ≤ k) (hb : k + (sumC cntE_Entity l : Nat) ≤ 9223372036854775806) (B : Nat) (a : Option Addr) (cap : Nat) (w : World) (h : RowR 2 EntityR B w a (markL markE_Entity cntE_Entity l k)) :
    Calls Try.prog 96 #[.slice a l.length cap, .int .i64 k] w (fun e w' => e = .returned (.int .i64 (k + (sumC cntE_Entity l : Nat))) ∧ Ext w w') := by
  have hlen : (l.length : Int) ≤ 9223372036854775807 := by have := h.1; rw [markL_length] at this; unfold maxLen at this; omega
  have HA := Lib.hid h
  clear h
  go_enter Try.func96, Try.ntmps96
  go_wp2_with fail
  go_loopw [1, 5] (fun s1 s5 wr => ∃ i : Nat, i ≤ l.length ∧ s5 = .int .i64 i ∧ s1 = .int .i64 (pos cntE_Entity l k i) ∧ Ext w wr) (fun _ i _ => l.length - (intOf i).toNat)
  case atStart => exact ⟨0, Nat.zero_le _, rfl, by rw [pos_zero], Ext.refl _⟩
  case round =>
    obtain ⟨i, hi, rfl, rfl, hE⟩ := hrel
    have HE := Lib.hid hE; clear hE
    by_cases hlt : i < l.length
    · have hlt2 : i < (markL markE_Entity cntE_Entity l k).length := by rw [markL_length]; exact hlt
      obtain ⟨b, o, vs, rfl, -, hvl, hc, hR⟩ := (HA.out.ext good_Entity HE.out).2 i hlt2
      rw [markL_get markE_Entity cntE_Entity l k i hlt2] at hR
      have hps := pos_succ cntE_Entity l k hlt
      have hpl := pos_le cntE_Entity l k (i + 1)
      have hpl2 := pos_le cntE_Entity l k i
      obtain ⟨x, hx⟩ : ∃ x, x = l[i] := ⟨_, rfl⟩
      rw [← hx] at hR hps
      clear hx hlt2
      obtain ⟨q, hq⟩ : ∃ q, q = pos cntE_Entity l k i := ⟨_, rfl⟩
      rw [← hq] at hR hps hpl2 ⊢
      clear hq
      obtain ⟨qq, hqq⟩ : ∃ qq, qq = pos cntE_Entity l k (i + 1) := ⟨_, rfl⟩
      have HQQ := Lib.hid hqq
      rw [← hqq] at hps hpl
      clear hqq
      simp only [cntE_Entity] at hps
      simp only [markE_Entity] at hR
      obtain ⟨p0, c0, rfl, r0⟩ := hR
      have R0 := Lib.hid r0; clear r0
      have q0 := hc 0 (by simp)
      have q1 := hc 1 (by simp)
      simp only [List.getElem_cons_zero, List.getElem_cons_succ, Nat.add_zero, markL_length] at q0 q1
      clear hc hvl
      go_wp2_with fail
      refine (heldIntS_any x.members (q + 1) (by omega) (by omega) B p0 c0 _ R0.out).mono ?_
      rintro e w2 ⟨rfl, hE2⟩
      replace q0 := hE2.at q0
      replace q1 := hE2.at q1
      replace R0 := Lib.hid (R0.out.ext good_int hE2)
      have HE2 := Lib.hid (HE.out.trans hE2)
      clear hE2
      have hge2 : ¬ (q + 1) + (sumC cntOne x.members : Nat) < 0 := by omega
      go_wp2_with fail
      go_roundw
      case rel =>
        refine ⟨i + 1, by omega, by go_num, ?_, HE2.out⟩
        rw [← HQQ.out]; congr 1; rw [hps]; first | done | (push_cast; omega)
      case measure => (simp [intOf] <;> omega)
    · obtain rfl : i = l.length := by omega
      have hpf := pos_full cntE_Entity l k
      rw [hpf]
      clear hpf
      go_wp2_with fail
      go_ret
      exact ⟨rfl, HE.out⟩
end Go.Proofs.Ytdgpbgpapcldeaa
