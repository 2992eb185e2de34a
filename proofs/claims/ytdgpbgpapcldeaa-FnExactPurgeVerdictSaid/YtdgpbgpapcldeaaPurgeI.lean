/- What the program purges. -/
import Derived.Test.YtdgpbgpapcldeaaPPlain
import Derived.Deep.RegionLaw
set_option linter.unusedVariables false
set_option linter.unusedSimpArgs false
namespace Go.Proofs.Ytdgpbgpapcldeaa
open Go.RowKit Go.Er Go.BigFrame

set_option maxRecDepth 8000 in
set_option maxHeartbeats 6400000 in
theorem purged_any (F : FuncId) (b : Nat) (p : DOp → Bool) (hcf : ∀ (args : Array Value) (w : World), (callFunc F args).run Try.prog w = .ok (.enter F args) w)
    (W0 : World) (hcl : ∀ (x : DOp) (us : List Value) (B : Nat) (w' : World), Ext W0 w' → OpR B w' us x → Calls Try.prog F #[.agg us.toArray, .pointer (some ⟨b, 0, none⟩)] w' fun e w'' => e = .returned (.bool (p x)) ∧ Ext w' w'')
    (l : List DBatch) (hs : SmallL (fun y => SmallBatch y) l) (a : Option Addr) (c : Nat) (w : World) (hE0 : Ext W0 w) (h : RowR 1 BatchR 0 w a l) :
    Calls Try.prog 66 #[.slice a l.length c, .func (.func F) #[] #[.pointer (some ⟨b, 0, none⟩)]] w (MadeSO 1 BatchO w (keepBs p l)) := by
  have hlen := hs.1
  have HA := Lib.hid h; have HS := Lib.hid hs.2; have HE0 := Lib.hid hE0; have HCL := Lib.hid hcl; have HSK := Lib.hid (small_keep p hs); clear h hs hE0 hcl
  go_enter Try.func66, Try.ntmps66
  go_wp2_with (at_make; refine wpList_make_rowZ (w0 := w) BatchO (keepBs p l) l.length rfl _ _ 27 rfl Try.underlying27 info_BatchS rfl (by decide) .i64 .i64 rfl rfl hlen (Ext.refl _) ?_; intro w1 hF hz0 hE)
  have HF := Lib.hid hF
  have HZ : Hid (∀ j, 0 ≤ j → j < l.length → w1.cell? ⟨w.heap.size, j, none⟩ = some (.slice none 0 0)) := fun j _ hj => by
    have h9 := hz0 j (by omega)
    rw [h9, Nat.mod_one]; rfl
  have HE := Lib.hid hE; clear hF hE hz0
  go_loopw [6, 15] (fun s6 s15 wr => ∃ i : Nat, i ≤ l.length ∧ s15 = .int .i64 i ∧ Ext w wr ∧ FilledO 1 BatchO w.heap.size 85 l.length wr (keepBs p l) i ∧ Hid (∀ j, i ≤ j → j < l.length → wr.cell? ⟨w.heap.size, j, none⟩ = some (.slice none 0 0))) (fun _ i _ => l.length - (intOf i).toNat)
  case atStart => exact ⟨0, Nat.zero_le _, rfl, HE.out, HF.out, HZ⟩
  case round =>
    obtain ⟨i, hi, rfl, hE1, hF1, HZ1⟩ := hrel
    have HE1 := Lib.hid hE1; have HF1 := Lib.hid hF1; clear hE1 hF1
    by_cases hlt : i < l.length
    · obtain ⟨ab, o, vs, rfl, _, _, hc, hR⟩ := HA.out.2 i hlt
      have hsm := HS.out l[i] (List.getElem_mem hlt)
      have hkl : i < (keepBs p l).length := by rw [keepBs_length]; exact hlt
      have hkg := keepBs_get p l i hkl
      have HLAST : Hid (∀ (m : Nat) (w' : World) (us : List Value), FilledM 1 BatchO w.heap.size 85 l.length m w' (keepBs p l) i → w.heap.size < m → m ≤ w'.heap.size → us.length = 1 → (∀ j, (hj : j < us.length) → w'.cell? ⟨w.heap.size, i * 1 + j, none⟩ = some us[j]) → BatchO (From m) w' us ⟨keepOps p l[i].ops⟩ → FilledO 1 BatchO w.heap.size 85 l.length w' (keepBs p l) (i + 1)) := fun m w' us h1 h2 h3 h4 h5 h6 => FilledM.last goodO_Batch h1 hkl h2 h3 h4 h5 (by rw [hkg]; exact h6)
      obtain ⟨x, hx⟩ : ∃ x, x = l[i] := ⟨_, rfl⟩
      rw [← hx] at hR hsm HLAST
      clear hkg hkl
      obtain ⟨p0, c0, rfl, r0⟩ := hR
      have hol : x.ops.length ≤ 1048576 := hsm.1
      have HSM := Lib.hid hsm.2
      have HR0 := Lib.hid r0
      have hzi := HZ1.out i (Nat.le_refl _) hlt
      have hNlt := HF1.out.lt
      clear hx r0 hsm
      have q0 := hc 0 (by simp)
      simp only [List.getElem_cons_zero, List.getElem_cons_succ, Nat.mul_one, Nat.add_zero] at q0
      replace q0 := HE1.out.at q0
      clear hc
      go_wp2_with fail
      obtain ⟨wo, hwo⟩ : ∃ wo : World, wo = wr.alloc (.cells #[.slice p0 x.ops.length c0] 85) := ⟨_, rfl⟩
      have HW : Hid (Ext wr wo) := by rw [hwo]; exact Ext.alloc _ _
      have HE2 : Hid (Ext w wo) := HE1.out.trans HW.out
      have HFM : Hid (FilledM 1 BatchO w.heap.size 85 l.length wo.heap.size wo (keepBs p l) i) := (HF1.out.ext goodO_Batch HW.out).toM
      have HZ2 : Hid (wo.cell? ⟨w.heap.size, i, none⟩ = some (.slice none 0 0)) := HW.out.at hzi
      have HZ3 : Hid (∀ j, i + 1 ≤ j → j < l.length → wo.cell? ⟨w.heap.size, j, none⟩ = some (.slice none 0 0)) := fun j h1 h2 => HW.out.at (HZ1.out j (by omega) h2)
      have HNw : Hid (w.heap.size < wo.heap.size) := HFM.out.lt
      have HK0 := Lib.hid (keepOps_zero p x.ops)
      rw [← hwo]
      clear hwo q0 HF1 hzi HZ1 HW hNlt HE1
      go_loopw [23] (fun s23 wr => ∃ (j : Nat) (v : Value), j ≤ x.ops.length ∧ s23 = .int .i64 j ∧ wr.cell? ⟨w.heap.size, i, none⟩ = some v ∧ AppO 9 OpO wo.heap.size wr 90 v (keepOps p (x.ops.take j)) ∧ FilledM 1 BatchO w.heap.size 85 l.length wo.heap.size wr (keepBs p l) i ∧ Hid (∀ j, i + 1 ≤ j → j < l.length → wr.cell? ⟨w.heap.size, j, none⟩ = some (.slice none 0 0)) ∧ Ext w wr ∧ wo.heap.size ≤ wr.heap.size) (fun j _ => x.ops.length - (intOf j).toNat)
      case atStart => exact ⟨0, .slice none 0 0, Nat.zero_le _, rfl, HZ2.out, by rw [HK0.out]; exact AppO.nil, HFM.out, HZ3, HE2.out, Nat.le_refl _⟩
      case round =>
        obtain ⟨j, v, hj, rfl, hcv, hap, hfm, HZ4, hE4, hws⟩ := hrel
        have HAP := Lib.hid hap; have HFM4 := Lib.hid hfm; have HE4 := Lib.hid hE4; have HWS := Lib.hid hws; have HCV := Lib.hid hcv
        clear hap hfm hE4 hws hcv
        by_cases hlt2 : j < x.ops.length
        · obtain ⟨b2, o2, vs2, rfl, _, _, hc2, hR6⟩ := HR0.out.2 j hlt2
          have hsy := HSM.out x.ops[j] (List.getElem_mem hlt2)
          have hk1 := keepOps_no p x.ops j hlt2
          have hk2 := keepOps_yes p x.ops j hlt2
          have hkl := keepOps_len p x.ops j
          obtain ⟨y, hy⟩ : ∃ y, y = x.ops[j] := ⟨_, rfl⟩
          rw [← hy] at hR6 hsy hk1 hk2
          have HSY := Lib.hid hsy; have HK1 := Lib.hid hk1; have HK2 := Lib.hid hk2; have HKL := Lib.hid hkl
          obtain ⟨p0k, c0k, rfl, r0k⟩ := hR6
          have HOR : Hid (OpR 0 w [.int .i64 y.kind, .int .i64 y.record.source, .int .i64 y.record.key, .int .i64 y.record.version, .slice p0k y.record.fields.length c0k, .int .i64 y.verdict.a, .int .i64 y.verdict.b, .bool y.verdict.same, .int .i64 y.verdict.time] y) := ⟨p0k, c0k, rfl, r0k⟩
          clear hy hsy hk1 hk2 hkl r0k
          have q0 := hc2 0 (by simp)
          have q1 := hc2 1 (by simp)
          have q2 := hc2 2 (by simp)
          have q3 := hc2 3 (by simp)
          have q4 := hc2 4 (by simp)
          have q5 := hc2 5 (by simp)
          have q6 := hc2 6 (by simp)
          have q7 := hc2 7 (by simp)
          have q8 := hc2 8 (by simp)
          simp only [List.getElem_cons_zero, List.getElem_cons_succ, Nat.mul_one, Nat.add_zero] at q0 q1 q2 q3 q4 q5 q6 q7 q8
          clear hc2
          replace q0 := HE4.out.at q0; replace q1 := HE4.out.at q1; replace q2 := HE4.out.at q2; replace q3 := HE4.out.at q3; replace q4 := HE4.out.at q4; replace q5 := HE4.out.at q5; replace q6 := HE4.out.at q6; replace q7 := HE4.out.at q7; replace q8 := HE4.out.at q8
          go_wp2_with fail
          refine (HCL.out y [.int .i64 y.kind, .int .i64 y.record.source, .int .i64 y.record.key, .int .i64 y.record.version, .slice p0k y.record.fields.length c0k, .int .i64 y.verdict.a, .int .i64 y.verdict.b, .bool y.verdict.same, .int .i64 y.verdict.time] 0 _ (HE0.out.trans (by have h8 := HE4.out; (repeat' (first | with_reducible assumption | with_reducible exact Below.refl _ _ | (with_reducible refine Ext.alloc' ?_ _) | (with_reducible refine Ext.drew' ?_) | (with_reducible refine Ext.drewN' ?_ _) | (with_reducible refine Ext.set_ ?_ (by first | omega | (simp; done) | (simp; omega)) _ _) | (refine Ext.trans ?_ (by with_reducible assumption)))))) (good_Op.ext HOR.out (by have h8 := HE4.out; (repeat' (first | with_reducible assumption | with_reducible exact Below.refl _ _ | (with_reducible refine Ext.alloc' ?_ _) | (with_reducible refine Ext.drew' ?_) | (with_reducible refine Ext.drewN' ?_ _) | (with_reducible refine Ext.set_ ?_ (by first | omega | (simp; done) | (simp; omega)) _ _) | (refine Ext.trans ?_ (by with_reducible assumption))))))).mono ?_
          rintro e w6 ⟨rfl, hE6⟩
          have HF6 : Hid (Ext wr w6) := (show Ext wr w6 from by have h9 := hE6; (repeat' (first | with_reducible assumption | with_reducible exact Below.refl _ _ | (with_reducible refine Ext.alloc' ?_ _) | (with_reducible refine Ext.drew' ?_) | (with_reducible refine Ext.drewN' ?_ _) | (with_reducible refine Ext.set_ ?_ (by first | omega | (simp; done) | (simp; omega)) _ _) | (refine Ext.trans ?_ (by with_reducible assumption)))))
          have HB6 : Hid (Box w6 wr.heap.size 90 #[.int .i64 y.kind, .int .i64 y.record.source, .int .i64 y.record.key, .int .i64 y.record.version, .slice p0k y.record.fields.length c0k, .int .i64 y.verdict.a, .int .i64 y.verdict.b, .bool y.verdict.same, .int .i64 y.verdict.time]) := (Box.new' _ _ _ _ rfl).ext hE6
          have hcv6 := HF6.out.at HCV.out
          clear hE6 q0 q1 q2 q3 q4 q5 q6 q7 q8
          cases hp : p y
          · have HK2' := Lib.hid (HK2.out hp)
            have b6 := HB6.out
            have k0 := b6.cell 0
            have k1 := b6.cell 1
            have k2 := b6.cell 2
            have k3 := b6.cell 3
            have k4 := b6.cell 4
            have k5 := b6.cell 5
            have k6 := b6.cell 6
            have k7 := b6.cell 7
            have k8 := b6.cell 8
            have klt := b6.lt
            simp only [List.getElem?_toArray, List.getElem?_cons_zero, List.getElem?_cons_succ] at k0 k1 k2 k3 k4 k5 k6 k7 k8
            clear b6 hp
            have hfz := HFM4.out.free (m := wo.heap.size)
            have HFZ : Hid (w6.frozen? ⟨w.heap.size, i, none⟩ = false) := (HFM4.out.chg goodO_Batch (Chg.of_ext (S := fun _ => False) HF6.out) (fun c hc => hc.elim) HNw.out).free i
            have hfz6 := HFZ.out
            have hN6 : w.heap.size < w6.heap.size := lt_of_cell hcv6
            have hi2 : (i : Int) < l.length := by omega
            clear hfz
            go_wp2_with fail
            go_region_law (first
              | (refine step_append_O goodO_Op (B := wo.heap.size) (w1 := w6) rfl (.tmp 37) (.tmp 40) 83 rfl Try.underlying83 info_OpS rfl (by decide) (by decide) v (keepOps p (x.ops.take j)) rfl (HAP.out.ext goodO_Op HF6.out) (by have h8 := HF7.out; (repeat' (first | with_reducible assumption | with_reducible exact Below.refl _ _ | (with_reducible refine Ext.alloc' ?_ _) | (with_reducible refine Ext.drew' ?_) | (with_reducible refine Ext.drewN' ?_ _) | (with_reducible refine Ext.set_ ?_ (by first | omega | (simp; done) | (simp; omega)) _ _) | (refine Ext.trans ?_ (by with_reducible assumption))))) (by have := HF6.out.size; have := HWS.out; omega) (by have := HKL.out; omega) ⟨_, 0, none⟩ 1 [.int .i64 y.kind, .int .i64 y.record.source, .int .i64 y.record.key, .int .i64 y.record.version, .slice p0m y.record.fields.length c0m, .int .i64 y.verdict.a, .int .i64 y.verdict.b, .bool y.verdict.same, .int .i64 y.verdict.time] y (by rfl) (goodO_Op.ext HR7.out (by (repeat' (first | with_reducible assumption | with_reducible exact Below.refl _ _ | (with_reducible refine Ext.alloc' ?_ _) | (with_reducible refine Ext.drew' ?_) | (with_reducible refine Ext.drewN' ?_ _) | (with_reducible refine Ext.set_ ?_ (by first | omega | (simp; done) | (simp; omega)) _ _) | (refine Ext.trans ?_ (by with_reducible assumption)))))) rfl ((Box.new' _ _ _ _ rfl).cells) (by intro u hu; simp only [List.mem_cons, List.not_mem_nil, or_false] at hu; rcases hu with rfl | rfl | rfl | rfl | rfl | rfl | rfl | rfl | rfl <;> rfl) ?_; intro v' w8 hv hC hB
                 obtain ⟨a8, n8, c8, hv8⟩ := hv.form
                 subst hv8
                 have HV := Lib.hid hv
                 have hN8 : ∀ c, v.ownBlock = some c → wo.heap.size ≤ c ∧ w.heap.size < c := fun c hc => ⟨(hB c hc).1, Nat.lt_of_lt_of_le HNw.out (hB c hc).1⟩
                 have HC7 : Hid (Ext w6 (w7.alloc (.cells #[.int .i64 y.kind, .int .i64 y.record.source, .int .i64 y.record.key, .int .i64 y.record.version, .slice p0m y.record.fields.length c0m, .int .i64 y.verdict.a, .int .i64 y.verdict.b, .bool y.verdict.same, .int .i64 y.verdict.time] 90))) := (show Ext w6 _ from by have h8 := HF7.out; (repeat' (first | with_reducible assumption | with_reducible exact Below.refl _ _ | (with_reducible refine Ext.alloc' ?_ _) | (with_reducible refine Ext.drew' ?_) | (with_reducible refine Ext.drewN' ?_ _) | (with_reducible refine Ext.set_ ?_ (by first | omega | (simp; done) | (simp; omega)) _ _) | (refine Ext.trans ?_ (by with_reducible assumption)))))
                 have HC8 : Hid (Chg (fun c => v.ownBlock = some c) w6 w8) := (Chg.of_ext HC7.out).trans hC
                 have hcv8 := HC8.out.at (fun hc => Nat.lt_irrefl _ (hN8 _ hc).2) hcv6
                 have HFM8 : Hid (FilledM 1 BatchO w.heap.size 85 l.length wo.heap.size w8 (keepBs p l) i) := (HFM4.out.chg goodO_Batch (Chg.of_ext (S := fun _ => False) HF6.out) (fun c hc => hc.elim) HNw.out).chg goodO_Batch HC8.out (fun c hc => (hN8 c hc).1) HNw.out
                 have HZ8 : Hid (∀ j, i + 1 ≤ j → j < l.length → w8.cell? ⟨w.heap.size, j, none⟩ = some (.slice none 0 0)) := fun j h1 h2 => HC8.out.at (fun hc => Nat.lt_irrefl _ (hN8 _ hc).2) (HF6.out.at (HZ4.out j h1 h2))
                 have HE8 : Hid (Ext w w8) := Chg.ext (HE4.out.trans HF6.out) HC8.out (fun c hc => Nat.le_of_lt (hN8 c hc).2)
                 have HS8 : Hid (wo.heap.size ≤ w8.heap.size) := Nat.le_trans HWS.out (Nat.le_trans HF6.out.size HC8.out.size)
                 have HFZ8 := Lib.hid (HFM8.out.free i)
                 have hfz8 := HFZ8.out
                 clear hv hC hB hN8)
              | (go_simp; go_at_call 113; refine (cloneOp_any y HSY.out [.int .i64 y.kind, .int .i64 y.record.source, .int .i64 y.record.key, .int .i64 y.record.version, .slice p0k y.record.fields.length c0k, .int .i64 y.verdict.a, .int .i64 y.verdict.b, .bool y.verdict.same, .int .i64 y.verdict.time] 0 _ (good_Op.ext HOR.out (by have h8 := HE4.out; have h9 := HF6.out; (repeat' (first | with_reducible assumption | with_reducible exact Below.refl _ _ | (with_reducible refine Ext.alloc' ?_ _) | (with_reducible refine Ext.drew' ?_) | (with_reducible refine Ext.drewN' ?_ _) | (with_reducible refine Ext.set_ ?_ (by first | omega | (simp; done) | (simp; omega)) _ _) | (refine Ext.trans ?_ (by with_reducible assumption))))))).mono ?_; rintro e w7 ⟨us, rfl, ⟨p0m, c0m, rfl, r0m⟩, hE7⟩
                 have HF7 : Hid (Ext w6 w7) := (show Ext w6 w7 from by have h9 := hE7; (repeat' (first | with_reducible assumption | with_reducible exact Below.refl _ _ | (with_reducible refine Ext.alloc' ?_ _) | (with_reducible refine Ext.drew' ?_) | (with_reducible refine Ext.drewN' ?_ _) | (with_reducible refine Ext.set_ ?_ (by first | omega | (simp; done) | (simp; omega)) _ _) | (refine Ext.trans ?_ (by with_reducible assumption)))))
                 have HR7 : Hid (OpO (From w6.heap.size) w7 [.int .i64 y.kind, .int .i64 y.record.source, .int .i64 y.record.key, .int .i64 y.record.version, .slice p0m y.record.fields.length c0m, .int .i64 y.verdict.a, .int .i64 y.verdict.b, .bool y.verdict.same, .int .i64 y.verdict.time] y) := ⟨p0m, c0m, rfl, by first | exact r0m | (simpa using r0m)⟩
                 have hcv7 := HF7.out.at hcv6
                 have hN7 := lt_of_cell hcv7
                 clear hE7 r0m))
            all_goals
              clear k0 k1 k2 k3 k4 k5 k6 k7 k8 hcv6 hfz6
              go_wp2_with fail
              go_roundw
              case rel =>
                refine ⟨j + 1, .slice a8 n8 c8, by omega, by go_num, HFM8.out.cell_set (by omega) _, ?_, HFM8.out.set_ goodO_Batch (by omega) _, ?_, ?_, ?_⟩
                · rw [HK2'.out]; exact HV.out.setO goodO_Op HNw.out _ _
                · intro jj h1 h2; rw [HFM8.out.cell_set_ne (by omega)]; exact HZ8.out jj h1 h2
                · have h8 := HE8.out; exact h8.set_ (Nat.le_refl _) _ _
                · have := HS8.out; simpa using this
              case measure => (simp [intOf] <;> omega)
          · have HK1' := Lib.hid (HK1.out hp)
            clear hp
            go_wp2_with fail
            go_roundw
            case rel =>
              refine ⟨j + 1, v, by omega, by go_num, hcv6, ?_, HFM4.out.chg goodO_Batch (Chg.of_ext (S := fun _ => False) HF6.out) (fun c hc => hc.elim) HNw.out, ?_, HE4.out.trans HF6.out, Nat.le_trans HWS.out HF6.out.size⟩
              · rw [HK1'.out]; exact HAP.out.ext goodO_Op HF6.out
              · intro jj h1 h2; exact HF6.out.at (HZ4.out jj h1 h2)
            case measure => (simp [intOf] <;> omega)
        · obtain rfl : j = x.ops.length := by omega
          have hf := HAP.out
          rw [keepOps_full] at hf
          obtain ⟨a2, c2, rfl, hr⟩ := hf.rowOf
          have HL := Lib.hid (HLAST.out wo.heap.size wr [.slice a2 (keepOps p x.ops).length c2] HFM4.out HNw.out HWS.out rfl (fun jj hjj => by
            obtain rfl : jj = 0 := by simpa using hjj
            have h9 := HCV.out
            simpa using h9) ⟨a2, c2, rfl, hr⟩)
          clear hf hr
          go_wp2_with fail
          go_roundw
          case rel => exact ⟨i + 1, by omega, by go_num, HE4.out, HL.out, HZ4⟩
          case measure => (simp [intOf] <;> omega)
    · obtain rfl : i = l.length := by omega
      have hm : (keepBs p l).length ≤ maxLen := by rw [keepBs_length]; unfold maxLen; omega
      have hF9 := HF1.out
      rw [← keepBs_length p l] at hF9
      have HD := Lib.hid (FilledO.done (n := (keepBs p l).length) hF9 hm (Nat.le_refl _))
      clear hm hF9
      go_wp2_with fail
      go_ret
      refine ⟨some ⟨w.heap.size, 0, none⟩, l.length, ?_, HD.out, HE1.out⟩
      rw [keepBs_length]; rfl

theorem implPurgeRecord_any (l : List DBatch) (hs : SmallL (fun y => SmallBatch y) l) (id : Int) (a : Option Addr) (c : Nat) (w : World) (h : RowR 1 BatchR 0 w a l) :
    Calls Try.prog 24 #[.slice a l.length c, .int .i64 id] w (MadeSO 1 BatchO w (keepBs (ofRec id) l)) := by
  have HA := Lib.hid h; have HS := Lib.hid hs; clear h hs
  obtain ⟨w0, hw0⟩ : ∃ w0, w0 = w.alloc (.cells #[.int .i64 id] 3) := ⟨_, rfl⟩
  have HC0 : Hid (w0.cell? ⟨w.heap.size, 0, none⟩ = some (.int .i64 id)) := by rw [hw0]; exact (Box.new w _ _).cell 0
  have HE0 : Hid (Ext w w0) := by rw [hw0]; exact Ext.alloc _ _
  go_enter Try.func24, Try.ntmps24
  go_wp2_with fail
  rw [← hw0]
  clear hw0
  go_wp2_with fail
  refine (purged_any 67 w.heap.size (ofRec id) canCallRec w0 (fun x us B w' hE hx => recClosure_any x id us B _ w' (hE.at HC0.out) hx) l HS.out a c _ (Ext.refl _) (HA.out.ext good_Batch HE0.out)).mono ?_
  rintro e w1 ⟨a1, c1, rfl, hr, hE⟩
  have HR := Lib.hid (hr.monoB HE0.out.size); have HE := Lib.hid (HE0.out.trans hE)
  clear hr hE
  go_wp2_with fail
  go_ret
  exact ⟨a1, c1, rfl, HR.out, HE.out⟩
theorem implPurgeVerdict_any (l : List DBatch) (hs : SmallL (fun y => SmallBatch y) l) (v : DVerdict) (a : Option Addr) (c : Nat) (w : World) (h : RowR 1 BatchR 0 w a l) :
    Calls Try.prog 28 #[.slice a l.length c, .agg #[.int .i64 v.a, .int .i64 v.b, .bool v.same, .int .i64 v.time]] w (MadeSO 1 BatchO w (keepBs (fun o => mentionsB o v) l)) := by
  have HA := Lib.hid h; have HS := Lib.hid hs; clear h hs
  obtain ⟨w0, hw0⟩ : ∃ w0, w0 = w.alloc (.cells #[.int .i64 v.a, .int .i64 v.b, .bool v.same, .int .i64 v.time] 29) := ⟨_, rfl⟩
  have HC0 : Hid (Box w0 w.heap.size 29 #[.int .i64 v.a, .int .i64 v.b, .bool v.same, .int .i64 v.time]) := by rw [hw0]; exact Box.new w _ _
  have HE0 : Hid (Ext w w0) := by rw [hw0]; exact Ext.alloc _ _
  go_enter Try.func28, Try.ntmps28
  go_wp2_with fail
  rw [← hw0]
  clear hw0
  go_wp2_with fail
  refine (purged_any 71 w.heap.size (fun o => mentionsB o v) canCallVer w0 (fun x us B w' hE hx => verClosure_any x v us B _ _ w' (HC0.out.ext hE) hx) l HS.out a c _ (Ext.refl _) (HA.out.ext good_Batch HE0.out)).mono ?_
  rintro e w1 ⟨a1, c1, rfl, hr, hE⟩
  have HR := Lib.hid (hr.monoB HE0.out.size); have HE := Lib.hid (HE0.out.trans hE)
  clear hr hE
  go_wp2_with fail
  go_ret
  exact ⟨a1, c1, rfl, HR.out, HE.out⟩
end Go.Proofs.Ytdgpbgpapcldeaa
