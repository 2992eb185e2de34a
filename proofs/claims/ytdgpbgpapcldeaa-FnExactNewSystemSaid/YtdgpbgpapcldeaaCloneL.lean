/- The reference's copies of configurations. -/
import Derived.Test.YtdgpbgpapcldeaaClone
import Derived.Test.YtdgpbgpapcldeaaNConfig
import Derived.Deep.RegionHeld3
import Derived.Deep.RegionLaw
import Derived.Deep.DeepCutAuto
set_option linter.unusedVariables false
set_option linter.unusedSimpArgs false
namespace Go.Proofs.Ytdgpbgpapcldeaa
open Go.RowKit Go.Er Go.BigFrame

set_option maxRecDepth 8000 in
set_option maxHeartbeats 6400000 in
theorem l32Rules_any (x : DRuleSet) (hs : SmallRuleSet x) (vs : List Value) (w : World) (h : RuleSetR 0 w vs x) :
    Calls Try.prog 128 #[.agg vs.toArray] w (MadeD_RuleSet w x) := by
  obtain ⟨p0, c0, rfl, r0⟩ := h
  have hlen : x.rules.length ≤ 1048576 := hs.1
  have HS := Lib.hid hs.2
  have R0 := Lib.hid r0; clear r0 hs
  obtain ⟨w0, hw0⟩ : ∃ w0, w0 = (w.alloc (.cells #[.slice p0 x.rules.length c0] 45)).alloc (.cells #[.slice none 0 0] 45) := ⟨_, rfl⟩
  have HB1 : Hid (Box w0 w.heap.size 45 #[.slice p0 x.rules.length c0]) := by rw [hw0]; exact Box.alloc (Box.new' _ _ _ _ rfl) _
  have HB2 : Hid (Box w0 (w.heap.size + 1) 45 #[.slice none 0 0]) := by rw [hw0]; exact Box.new' _ _ _ _ (by simp)
  have HE0 : Hid (Ext w w0) := by rw [hw0]; show Ext w _; (repeat' (first | with_reducible assumption | with_reducible exact Below.refl _ _ | (with_reducible refine Ext.alloc' ?_ _) | (with_reducible refine Ext.drew' ?_) | (with_reducible refine Ext.drewN' ?_ _) | (with_reducible refine Ext.set_ ?_ (by first | omega | (simp; done) | (simp; omega)) _ _) | (refine Ext.trans ?_ (by with_reducible assumption))))
  have hsz : Hid (w0.heap.size = w.heap.size + 2) := by show _ = _; rw [hw0]; simp
  go_enter Try.func128, Try.ntmps128
  go_wp2_with fail
  rw [← hw0]
  obtain ⟨w2, hw2⟩ : ∃ w2, w2 = w0.alloc (.cells #[.slice none 0 0] 45) := ⟨_, rfl⟩
  have HB3 : Hid (Box w2 (w.heap.size + 1 + 1) 45 #[.slice none 0 0]) := by rw [hw2]; exact Box.new' _ _ _ _ (by have := hsz.out; omega)
  have HE2 : Hid (Ext w0 w2) := by rw [hw2]; exact Ext.alloc _ _
  have hz2 : Hid (w2.heap.size = w.heap.size + 3) := by show _ = _; rw [hw2]; have := hsz.out; simp; omega
  rw [← hw2]
  clear hw0 hw2
  go_loopw [4] (fun s4 wr => ∃ (i : Nat) (v : Value), i ≤ x.rules.length ∧ s4 = .int .i64 i ∧ Box wr (w.heap.size + 1 + 1) 45 #[v] ∧ AppO 1 RuleO w2.heap.size wr 104 v (x.rules.take i) ∧ Ext w0 wr ∧ w2.heap.size ≤ wr.heap.size) (fun i _ => x.rules.length - (intOf i).toNat)
  case atStart => exact ⟨0, .slice none 0 0, Nat.zero_le _, rfl, HB3.out, by rw [List.take_zero]; exact AppO.nil, HE2.out, Nat.le_refl _⟩
  case round =>
    obtain ⟨i, v, hi, rfl, hb3, hap, hE3, hws⟩ := hrel
    have HBN := Lib.hid hb3; have HAP := Lib.hid hap; have HE3 := Lib.hid hE3; have HWS := Lib.hid hws
    clear hb3 hap hE3 hws
    have b1 := HB1.out.ext HE3.out
    have k0 := b1.cell 0; have kl := b1.lt
    simp only [List.getElem?_toArray, List.getElem?_cons_zero] at k0
    clear b1
    by_cases hlt : i < x.rules.length
    · obtain ⟨b, o, vs, rfl, _, _, hc, hR⟩ := R0.out.2 i hlt
      have hsm := HS.out x.rules[i] (List.getElem_mem hlt)
      have hts : x.rules.take (i + 1) = x.rules.take i ++ [x.rules[i]] := List.take_succ_eq_append_getElem hlt
      obtain ⟨y, hy⟩ : ∃ y, y = x.rules[i] := ⟨_, rfl⟩
      rw [← hy] at hR hsm hts
      have HSM := Lib.hid hsm; have HTS := Lib.hid hts
      have HTL : Hid ((x.rules.take i).length ≤ 1073741824) := by show _ ≤ _; rw [List.length_take]; omega
      obtain ⟨p0k, c0k, rfl, r0k⟩ := hR
      have hEE := HE0.out.trans HE3.out
      have RK := Lib.hid (r0k.ext good_Test hEE)
      clear hy hsm hts r0k
      have q0 := hc 0 (by simp)
      simp only [List.getElem_cons_zero, List.getElem_cons_succ, Nat.mul_one, Nat.add_zero] at q0
      clear hc
      replace q0 := hEE.at q0
      clear hEE
      have nb0 := HBN.out.cell 0; have nbf := HBN.out.free 0; have nbl := HBN.out.lt
      simp only [List.getElem?_toArray, List.getElem?_cons_zero] at nb0
      have ql := lt_of_cell q0
      have hi2 : (i : Int) < x.rules.length := by omega
      go_wp2_with fail
      go_region_law (first
        | (refine isApp (.tmp 15) (.tmp 21) 102 rfl ?_; refine step_append_lit enc_Test (B' := 0) rfl (.tmp 15) (.tmp 21) 102 rfl Try.underlying102 info_TestS (by decide) (by decide) wr.heap.size (by rfl) p0k y.tests c0k (by rfl) (RK.out.ext good_Test (by (repeat' (first | with_reducible assumption | with_reducible exact Below.refl _ _ | (with_reducible refine Ext.alloc' ?_ _) | (with_reducible refine Ext.drew' ?_) | (with_reducible refine Ext.drewN' ?_ _) | (with_reducible refine Ext.set_ ?_ (by first | omega | (simp; done) | (simp; omega)) _ _) | (refine Ext.trans ?_ (by with_reducible assumption)))))) (by have := HSM.out.1; omega) ?_; intro a4 c4 w4 hr4 hE4
           have HF4 : Hid (Ext wr w4) := (show Ext wr w4 from by have h9 := hE4; (repeat' (first | with_reducible assumption | with_reducible exact Below.refl _ _ | (with_reducible refine Ext.alloc' ?_ _) | (with_reducible refine Ext.drew' ?_) | (with_reducible refine Ext.drewN' ?_ _) | (with_reducible refine Ext.set_ ?_ (by first | omega | (simp; done) | (simp; omega)) _ _) | (refine Ext.trans ?_ (by with_reducible assumption)))))
           have HR4 : Hid (RuleO (From wr.heap.size) w4 [.slice a4 y.tests.length c4] y) := ⟨a4, c4, rfl, hr4.monoB (by simp)⟩
           have nb4 := HF4.out.at nb0
           have nl4 := lt_of_cell nb4
           clear hr4 hE4)
        | (refine isApp (.tmp 14) (.tmp 24) 43 rfl ?_; refine step_append_O goodO_Rule (B := w2.heap.size) (w1 := wr) rfl (.tmp 14) (.tmp 24) 43 rfl Try.underlying43 info_RuleS rfl (by decide) (by decide) v (x.rules.take i) rfl HAP.out (by have h8 := HF4.out; (repeat' (first | with_reducible assumption | with_reducible exact Below.refl _ _ | (with_reducible refine Ext.alloc' ?_ _) | (with_reducible refine Ext.drew' ?_) | (with_reducible refine Ext.drewN' ?_ _) | (with_reducible refine Ext.set_ ?_ (by first | omega | (simp; done) | (simp; omega)) _ _) | (refine Ext.trans ?_ (by with_reducible assumption))))) HWS.out HTL.out ⟨_, 0, none⟩ 1 [.slice a4 y.tests.length c4] y (by rfl) (goodO_Rule.ext HR4.out (by (repeat' (first | with_reducible assumption | with_reducible exact Below.refl _ _ | (with_reducible refine Ext.alloc' ?_ _) | (with_reducible refine Ext.drew' ?_) | (with_reducible refine Ext.drewN' ?_ _) | (with_reducible refine Ext.set_ ?_ (by first | omega | (simp; done) | (simp; omega)) _ _) | (refine Ext.trans ?_ (by with_reducible assumption)))))) rfl ((Box.new' _ _ _ _ rfl).cells) (by intro u hu; simp only [List.mem_cons, List.not_mem_nil, or_false] at hu; subst hu; rfl) ?_; intro v' w8 hv hC hB
           obtain ⟨a8, n8, c8, hv8⟩ := hv.form
           subst hv8
           have HV := Lib.hid hv
           have hN8 : ∀ c, v.ownBlock = some c → w2.heap.size ≤ c := fun c hc => (hB c hc).1
           have HC7 : Hid (Ext wr (w4.alloc (.cells #[.slice a4 y.tests.length c4] 104))) := (show Ext wr _ from by have h8 := HF4.out; (repeat' (first | with_reducible assumption | with_reducible exact Below.refl _ _ | (with_reducible refine Ext.alloc' ?_ _) | (with_reducible refine Ext.drew' ?_) | (with_reducible refine Ext.drewN' ?_ _) | (with_reducible refine Ext.set_ ?_ (by first | omega | (simp; done) | (simp; omega)) _ _) | (refine Ext.trans ?_ (by with_reducible assumption)))))
           have HC8 : Hid (Chg (fun c => v.ownBlock = some c) wr w8) := (Chg.of_ext HC7.out).trans hC
           have HB8 : Hid (Box w8 (w.heap.size + 1 + 1) 45 #[v]) := HBN.out.chg HC8.out (fun hc => by have := hN8 _ hc; have := hz2.out; omega)
           have HE8 : Hid (Ext w0 w8) := Chg.ext HE3.out HC8.out (fun c hc => by have := hN8 _ hc; have := hz2.out; have := hsz.out; omega)
           have HS8 : Hid (w2.heap.size ≤ w8.heap.size) := Nat.le_trans HWS.out HC8.out.size
           have nb8 := HB8.out.cell 0; have nbf8 := HB8.out.free 0
           simp only [List.getElem?_toArray, List.getElem?_cons_zero] at nb8
           clear hv hC hB hN8))
      all_goals
        clear nb0 nbf
        go_wp2_with fail
        go_roundw
        case rel =>
          refine ⟨i + 1, .slice a8 n8 c8, by omega, by go_num, Box.set' HB8.out (i := 0) (u := .slice a8 n8 c8) rfl, ?_, ?_, ?_⟩
          · rw [HTS.out]; exact HV.out.setO goodO_Rule (by have := hz2.out; omega) _ _
          · have h8 := HE8.out; exact h8.set_ (by have := hsz.out; omega) _ _
          · have := HS8.out; simpa using this
        case measure => (simp [intOf] <;> omega)
    · obtain rfl : i = x.rules.length := by omega
      have hf := HAP.out
      rw [List.take_length] at hf
      obtain ⟨a2, c2, rfl, hr⟩ := hf.rowOf
      have HR := Lib.hid (hr.span goodO_Rule)
      have nb0 := HBN.out.cell 0; have nbl := HBN.out.lt
      simp only [List.getElem?_toArray, List.getElem?_cons_zero] at nb0
      have b2 := HB2.out.ext HE3.out
      have n0 := b2.cell 0; have nf0 := b2.free 0; have nl := b2.lt
      simp only [List.getElem?_toArray, List.getElem?_cons_zero] at n0
      clear hf hr b2
      go_wp2_with fail
      refine bodyPost_ret (v := .agg #[.slice a2 x.rules.length c2]) (by simp [results, Try.results128, go_sem, n0]) rfl ?_
      have hz := hz2.out; have hw := HWS.out
      refine ⟨a2, c2, oneT (Span w2.heap.size wr.heap.size), rfl, ApartT.one _, span_in.mono (by omega) (by simp), ?_, ?_⟩
      · refine (HR.out.keepS goodO_Rule (B := w.heap.size + 2) (by (repeat' (first | with_reducible exact Keep.refl _ _ | refine Keep.set_trans ?_ (by omega) _ _))) (by omega)).mono (fun c h => ⟨rfl, h⟩)
      · have h8 := HE0.out.trans HE3.out
        (repeat' (first | with_reducible assumption | with_reducible exact Below.refl _ _ | (with_reducible refine Ext.alloc' ?_ _) | (with_reducible refine Ext.drew' ?_) | (with_reducible refine Ext.drewN' ?_ _) | (with_reducible refine Ext.set_ ?_ (by first | omega | (simp; done) | (simp; omega)) _ _) | (refine Ext.trans ?_ (by with_reducible assumption))))
end Go.Proofs.Ytdgpbgpapcldeaa
