/- What the reference purges. -/
import Derived.Test.YtdgpbgpapcldeaaPPlain
import Derived.Deep.RegionLaw
set_option linter.unusedVariables false
set_option linter.unusedSimpArgs false
namespace Go.Proofs.Ytdgpbgpapcldeaa
open Go.RowKit Go.Er Go.BigFrame

theorem verEq_run (x v : DVerdict) : ∀ w : World, (binOp .eql 29 (.agg #[.int .i64 x.a, .int .i64 x.b, .bool x.same, .int .i64 x.time]) (.agg #[.int .i64 v.a, .int .i64 v.b, .bool v.same, .int .i64 v.time])).run Try.prog w = .ok (.bool (verEq x v)) w := by
  intro w
  by_cases h1 : x.a = v.a <;> by_cases h2 : x.b = v.b <;> by_cases h3 : x.same = v.same <;> by_cases h4 : x.time = v.time <;>
    simp [go_sem, verEq, h1, h2, h3, h4]

set_option maxRecDepth 8000 in
set_option maxHeartbeats 12800000 in
theorem specPurgeRecord_any (l : List DBatch) (hs : SmallL (fun y => SmallBatch y) l) (id : Int) (a : Option Addr) (c : Nat) (w : World) (h : RowR 1 BatchR 0 w a l) :
    Calls Try.prog 23 #[.slice a l.length c, .int .i64 id] w (MadeSO 1 BatchO w (keepBs (ofRec id) l)) := by
  have hlen := hs.1
  have HA := Lib.hid h; have HS := Lib.hid hs.2; clear h hs
  go_enter Try.func23, Try.ntmps23
  go_wp2_with fail
  go_loopw [5, 6] (fun s5 s6 wr => ∃ (i : Nat), i ≤ l.length ∧ s6 = .int .i64 i ∧ AppO 1 BatchO (w.heap.size) wr 85 s5 (keepBs (ofRec id) (l.take i)) ∧ Ext w wr ∧ w.heap.size ≤ wr.heap.size) (fun _ i _ => l.length - (intOf i).toNat)
  case atStart =>
    refine ⟨0, Nat.zero_le _, rfl, ?_, ?_, by simp⟩
    · have e : keepBs (ofRec id) (l.take 0) = [] := by simp [keepBs]
      rw [e]
      refine AppO.lit0 (by simp) ?_
      first | exact heap_alloc_new _ _ | exact (Box.new' _ _ #[] _ (by simp))
    · (repeat' (first | with_reducible assumption | with_reducible exact Below.refl _ _ | (with_reducible refine Ext.alloc' ?_ _) | (with_reducible refine Ext.drew' ?_) | (with_reducible refine Ext.drewN' ?_ _) | (with_reducible refine Ext.set_ ?_ (by first | omega | (simp; done) | (simp; omega)) _ _) | (refine Ext.trans ?_ (by with_reducible assumption))))
  case round =>
    obtain ⟨i, hi, rfl, hap5, hE1, hbb⟩ := hrel
    have HAP5 := Lib.hid hap5; have HE1 := Lib.hid hE1; have HBB := Lib.hid hbb; clear hap5 hE1 hbb
    by_cases hlt : i < l.length
    · obtain ⟨ab, o, vs, rfl, _, _, hc, hR⟩ := HA.out.2 i hlt
      have hsm := HS.out l[i] (List.getElem_mem hlt)
      have hkt := keepBs_take (ofRec id) l i hlt
      have hkl : (keepBs (ofRec id) (l.take i)).length ≤ 1073741824 := by rw [keepBs_length, List.length_take]; omega
      obtain ⟨x, hx⟩ : ∃ x, x = l[i] := ⟨_, rfl⟩
      rw [← hx] at hR hsm hkt
      obtain ⟨p0, c0, rfl, r0⟩ := hR
      have hol : x.ops.length ≤ 1048576 := hsm.1
      have HSM := Lib.hid hsm.2; have HR0 := Lib.hid r0; have HKT := Lib.hid hkt; have HKL5 := Lib.hid hkl
      clear hx r0 hsm hkt hkl
      have q0 := hc 0 (by simp)
      simp only [List.getElem_cons_zero, List.getElem_cons_succ, Nat.mul_one, Nat.add_zero] at q0
      have HQ := Lib.hid q0
      clear hc q0
      go_wp2_with fail
      obtain ⟨wo, rfl⟩ : ∃ wo : World, wo = wr := ⟨_, rfl⟩
      have HWN : Hid (Ext wo (wo.alloc (.cells #[.slice none 0 0] 85))) := Ext.alloc _ _
      have HBN0 : Hid (Box (wo.alloc (.cells #[.slice none 0 0] 85)) wo.heap.size 85 #[.slice none 0 0]) := Box.new' _ _ _ _ rfl
      obtain ⟨wn, hwn⟩ : ∃ wn, wn = wo.alloc (.cells #[.slice none 0 0] 85) := ⟨_, rfl⟩
      rw [← hwn] at HWN HBN0 ⊢
      have HNN : Hid (wo.heap.size < wn.heap.size) := HBN0.out.lt
      have HK0 := Lib.hid (keepOps_zero (ofRec id) x.ops)
      clear hwn
      go_loopw [8] (fun s8 wr => ∃ (j : Nat) (sv : Value), j ≤ x.ops.length ∧ s8 = .int .i64 j ∧ Box wr wo.heap.size 85 #[sv] ∧ AppO 9 OpO wn.heap.size wr 90 sv (keepOps (ofRec id) (x.ops.take j)) ∧ Ext wo wr ∧ wn.heap.size ≤ wr.heap.size) (fun j _ => x.ops.length - (intOf j).toNat)
      case atStart => exact ⟨0, .slice none 0 0, Nat.zero_le _, rfl, HBN0.out, by rw [HK0.out]; exact AppO.nil, HWN.out, Nat.le_refl _⟩
      case round =>
        obtain ⟨j, sv, hj, rfl, hbn, hap, hE4, hws⟩ := hrel
        have HBN := Lib.hid hbn; have HAP := Lib.hid hap; have HE4 := Lib.hid hE4; have HWS := Lib.hid hws
        have q0 := (HE1.out.trans hE4).at HQ.out
        clear hbn hap hE4 hws
        by_cases hlt2 : j < x.ops.length
        · obtain ⟨b2, o2, vs2, rfl, _, _, hc2, hR6⟩ := HR0.out.2 j hlt2
          have hsy := HSM.out x.ops[j] (List.getElem_mem hlt2)
          have hk1 := keepOps_no (ofRec id) x.ops j hlt2
          have hk2 := keepOps_yes (ofRec id) x.ops j hlt2
          have hkl := keepOps_len (ofRec id) x.ops j
          obtain ⟨y, hy⟩ : ∃ y, y = x.ops[j] := ⟨_, rfl⟩
          rw [← hy] at hR6 hsy hk1 hk2
          have HSY := Lib.hid hsy; have HK1 := Lib.hid hk1; have HK2 := Lib.hid hk2; have HKL := Lib.hid hkl
          obtain ⟨p0k, c0k, rfl, r0k⟩ := hR6
          have HOR0 : Hid (OpR 0 w [.int .i64 y.kind, .int .i64 y.record.source, .int .i64 y.record.key, .int .i64 y.record.version, .slice p0k y.record.fields.length c0k, .int .i64 y.verdict.a, .int .i64 y.verdict.b, .bool y.verdict.same, .int .i64 y.verdict.time] y) := ⟨p0k, c0k, rfl, r0k⟩
          have HOR := Lib.hid (good_Op.ext HOR0.out HE1.out)
          have RK := Lib.hid ((r0k.ext good_str HE1.out).ext good_str HE4.out)
          clear hy hsy hk1 hk2 hkl r0k
          have t0 := hc2 0 (by simp)
          have t1 := hc2 1 (by simp)
          have t2 := hc2 2 (by simp)
          have t3 := hc2 3 (by simp)
          have t4 := hc2 4 (by simp)
          have t5 := hc2 5 (by simp)
          have t6 := hc2 6 (by simp)
          have t7 := hc2 7 (by simp)
          have t8 := hc2 8 (by simp)
          simp only [List.getElem_cons_zero, List.getElem_cons_succ, Nat.mul_one, Nat.add_zero] at t0 t1 t2 t3 t4 t5 t6 t7 t8
          clear hc2
          have hEE := HE1.out.trans HE4.out
          replace t0 := hEE.at t0; replace t1 := hEE.at t1; replace t2 := hEE.at t2; replace t3 := hEE.at t3; replace t4 := hEE.at t4; replace t5 := hEE.at t5; replace t6 := hEE.at t6; replace t7 := hEE.at t7; replace t8 := hEE.at t8
          clear hEE
          have hOB : Hid (Box (wr.alloc (.cells #[.int .i64 y.kind, .int .i64 y.record.source, .int .i64 y.record.key, .int .i64 y.record.version, .slice p0k y.record.fields.length c0k, .int .i64 y.verdict.a, .int .i64 y.verdict.b, .bool y.verdict.same, .int .i64 y.verdict.time] 90)) wr.heap.size 90 #[.int .i64 y.kind, .int .i64 y.record.source, .int .i64 y.record.key, .int .i64 y.record.version, .slice p0k y.record.fields.length c0k, .int .i64 y.verdict.a, .int .i64 y.verdict.b, .bool y.verdict.same, .int .i64 y.verdict.time]) := Box.new' _ _ _ _ rfl
          have HNE : Hid (Ext wr (wr.alloc (.cells #[.int .i64 y.kind, .int .i64 y.record.source, .int .i64 y.record.key, .int .i64 y.record.version, .slice p0k y.record.fields.length c0k, .int .i64 y.verdict.a, .int .i64 y.verdict.b, .bool y.verdict.same, .int .i64 y.verdict.time] 90))) := Ext.alloc _ _
          have HOF : Hid (ofRec id y = ((y.kind == 1 || y.kind == 2) && recId y.record == id)) := rfl
          have h12 : ((y.kind == 1) = true) ∨ ((y.kind == 1) = false ∧ (y.kind == 2) = true) ∨ ((y.kind == 1) = false ∧ (y.kind == 2) = false) := by
            cases (y.kind == 1) <;> cases (y.kind == 2) <;> simp
          rcases h12 with hb1 | ⟨hb1, hb2⟩ | ⟨hb1, hb2⟩
          · have HP : Hid (ofRec id y = (recId y.record == id)) := by show _ = _; rw [HOF.out]; simp [*]
            go_wp2_with fail
            refine (specRecordID_any y.record [.int .i64 y.record.source, .int .i64 y.record.key, .int .i64 y.record.version, .slice p0k y.record.fields.length c0k] 0 _ ⟨p0k, c0k, rfl, RK.out.ext good_str (by (repeat' (first | with_reducible assumption | with_reducible exact Below.refl _ _ | (with_reducible refine Ext.alloc' ?_ _) | (with_reducible refine Ext.drew' ?_) | (with_reducible refine Ext.drewN' ?_ _) | (with_reducible refine Ext.set_ ?_ (by first | omega | (simp; done) | (simp; omega)) _ _) | (refine Ext.trans ?_ (by with_reducible assumption)))))⟩).mono ?_
            rintro e w6 ⟨rfl, hE6⟩
            have HF6 : Hid (Ext wr w6) := (show Ext wr w6 from by have h9 := hE6; (repeat' (first | with_reducible assumption | with_reducible exact Below.refl _ _ | (with_reducible refine Ext.alloc' ?_ _) | (with_reducible refine Ext.drew' ?_) | (with_reducible refine Ext.drewN' ?_ _) | (with_reducible refine Ext.set_ ?_ (by first | omega | (simp; done) | (simp; omega)) _ _) | (refine Ext.trans ?_ (by with_reducible assumption)))))
            have HB6 : Hid (Box w6 wr.heap.size 90 #[.int .i64 y.kind, .int .i64 y.record.source, .int .i64 y.record.key, .int .i64 y.record.version, .slice p0k y.record.fields.length c0k, .int .i64 y.verdict.a, .int .i64 y.verdict.b, .bool y.verdict.same, .int .i64 y.verdict.time]) := hOB.out.ext hE6
            clear hE6 hOB HNE t0 t1 t2 t3 t4 t5 t6 t7 t8 q0
            cases hid : (recId y.record == id)
            · have HK2' := Lib.hid (HK2.out (by rw [HP.out, hid]))
              clear HP HOF
              have hbn := HBN.out.ext HF6.out
              have nb0 := hbn.cell 0; have nbf := hbn.free 0; have nbl := hbn.lt
              have b6 := HB6.out
              have k0 := b6.cell 0
              have k1 := b6.cell 1
              have k2 := b6.cell 2
              have k3 := b6.cell 3
              have k4 := b6.cell 4
              have k5 := b6.cell 5
              have k6 := b6.cell 6
              have k7 := b6.cell 7
              have k8 := b6.cell 8
              have klt := b6.lt
              simp only [List.getElem?_toArray, List.getElem?_cons_zero, List.getElem?_cons_succ] at k0 k1 k2 k3 k4 k5 k6 k7 k8
              simp only [List.getElem?_toArray, List.getElem?_cons_zero] at nb0
              clear b6 hbn
              go_wp2_with fail
              go_region_law (first
                | (refine step_append_O goodO_Op (B := wn.heap.size) (w1 := w6) rfl (.tmp 52) (.tmp 55) 83 rfl Try.underlying83 info_OpS rfl (by decide) (by decide) sv (keepOps (ofRec id) (x.ops.take j)) rfl (HAP.out.ext goodO_Op HF6.out) (by have h8 := HF7.out; (repeat' (first | with_reducible assumption | with_reducible exact Below.refl _ _ | (with_reducible refine Ext.alloc' ?_ _) | (with_reducible refine Ext.drew' ?_) | (with_reducible refine Ext.drewN' ?_ _) | (with_reducible refine Ext.set_ ?_ (by first | omega | (simp; done) | (simp; omega)) _ _) | (refine Ext.trans ?_ (by with_reducible assumption))))) (by have := HF6.out.size; have := HWS.out; omega) (by have := HKL.out; omega) ⟨_, 0, none⟩ 1 [.int .i64 y.kind, .int .i64 y.record.source, .int .i64 y.record.key, .int .i64 y.record.version, .slice p0m y.record.fields.length c0m, .int .i64 y.verdict.a, .int .i64 y.verdict.b, .bool y.verdict.same, .int .i64 y.verdict.time] y (by rfl) (goodO_Op.ext HR7.out (by (repeat' (first | with_reducible assumption | with_reducible exact Below.refl _ _ | (with_reducible refine Ext.alloc' ?_ _) | (with_reducible refine Ext.drew' ?_) | (with_reducible refine Ext.drewN' ?_ _) | (with_reducible refine Ext.set_ ?_ (by first | omega | (simp; done) | (simp; omega)) _ _) | (refine Ext.trans ?_ (by with_reducible assumption)))))) rfl ((Box.new' _ _ _ _ rfl).cells) (by intro u hu; simp only [List.mem_cons, List.not_mem_nil, or_false] at hu; rcases hu with rfl | rfl | rfl | rfl | rfl | rfl | rfl | rfl | rfl <;> rfl) ?_; intro v' w8 hv hC hB
                   obtain ⟨a8, n8, c8, hv8⟩ := hv.form
                   subst hv8
                   have HV := Lib.hid hv
                   have hN8 : ∀ c, sv.ownBlock = some c → wn.heap.size ≤ c ∧ wo.heap.size < c := fun c hc => ⟨(hB c hc).1, Nat.lt_of_lt_of_le HNN.out (hB c hc).1⟩
                   have HC7 : Hid (Ext w6 (w7.alloc (.cells #[.int .i64 y.kind, .int .i64 y.record.source, .int .i64 y.record.key, .int .i64 y.record.version, .slice p0m y.record.fields.length c0m, .int .i64 y.verdict.a, .int .i64 y.verdict.b, .bool y.verdict.same, .int .i64 y.verdict.time] 90))) := (show Ext w6 _ from by have h8 := HF7.out; (repeat' (first | with_reducible assumption | with_reducible exact Below.refl _ _ | (with_reducible refine Ext.alloc' ?_ _) | (with_reducible refine Ext.drew' ?_) | (with_reducible refine Ext.drewN' ?_ _) | (with_reducible refine Ext.set_ ?_ (by first | omega | (simp; done) | (simp; omega)) _ _) | (refine Ext.trans ?_ (by with_reducible assumption)))))
                   have HC8 : Hid (Chg (fun c => sv.ownBlock = some c) w6 w8) := (Chg.of_ext HC7.out).trans hC
                   have HB8 : Hid (Box w8 wo.heap.size 85 #[sv]) := (HBN.out.ext HF6.out).chg HC8.out (fun hc => Nat.lt_irrefl _ (hN8 _ hc).2)
                   have HE8 : Hid (Ext wo w8) := Chg.ext (HE4.out.trans HF6.out) HC8.out (fun c hc => Nat.le_of_lt (hN8 c hc).2)
                   have HS8 : Hid (wn.heap.size ≤ w8.heap.size) := Nat.le_trans HWS.out (Nat.le_trans HF6.out.size HC8.out.size)
                   have nb8 := HB8.out.cell 0; have nbf8 := HB8.out.free 0
                   simp only [List.getElem?_toArray, List.getElem?_cons_zero] at nb8
                   clear hv hC hB hN8)
                | (go_simp; go_at_call 65; refine (l29Copy_any y HSY.out [.int .i64 y.kind, .int .i64 y.record.source, .int .i64 y.record.key, .int .i64 y.record.version, .slice p0k y.record.fields.length c0k, .int .i64 y.verdict.a, .int .i64 y.verdict.b, .bool y.verdict.same, .int .i64 y.verdict.time] 0 _ (good_Op.ext HOR.out (by have h8 := HE4.out; have h9 := HF6.out; (repeat' (first | with_reducible assumption | with_reducible exact Below.refl _ _ | (with_reducible refine Ext.alloc' ?_ _) | (with_reducible refine Ext.drew' ?_) | (with_reducible refine Ext.drewN' ?_ _) | (with_reducible refine Ext.set_ ?_ (by first | omega | (simp; done) | (simp; omega)) _ _) | (refine Ext.trans ?_ (by with_reducible assumption))))))).mono ?_; rintro e w7 ⟨us, rfl, ⟨p0m, c0m, rfl, r0m⟩, hE7⟩
                   have HF7 : Hid (Ext w6 w7) := (show Ext w6 w7 from by have h9 := hE7; (repeat' (first | with_reducible assumption | with_reducible exact Below.refl _ _ | (with_reducible refine Ext.alloc' ?_ _) | (with_reducible refine Ext.drew' ?_) | (with_reducible refine Ext.drewN' ?_ _) | (with_reducible refine Ext.set_ ?_ (by first | omega | (simp; done) | (simp; omega)) _ _) | (refine Ext.trans ?_ (by with_reducible assumption)))))
                   have HR7 : Hid (OpO (From w6.heap.size) w7 [.int .i64 y.kind, .int .i64 y.record.source, .int .i64 y.record.key, .int .i64 y.record.version, .slice p0m y.record.fields.length c0m, .int .i64 y.verdict.a, .int .i64 y.verdict.b, .bool y.verdict.same, .int .i64 y.verdict.time] y) := ⟨p0m, c0m, rfl, by first | exact r0m | (simpa using r0m)⟩
                   have nb7 := HF7.out.at nb0
                   have nl7 := lt_of_cell nb7
                   clear hE7 r0m))
              all_goals
                clear k0 k1 k2 k3 k4 k5 k6 k7 k8 nb0 nbf
                go_wp2_with fail
                go_roundw
                case rel =>
                  refine ⟨j + 1, .slice a8 n8 c8, by omega, by go_num, Box.set' HB8.out (i := 0) (u := .slice a8 n8 c8) rfl, ?_, ?_, ?_⟩
                  · rw [HK2'.out]; exact HV.out.setO goodO_Op HNN.out _ _
                  · have h8 := HE8.out; exact h8.set_ (Nat.le_refl _) _ _
                  · have := HS8.out; simpa using this
                case measure => (simp [intOf] <;> omega)
            · have HK1' := Lib.hid (HK1.out (by rw [HP.out, hid]))
              clear HP HOF
              go_wp2_with fail
              go_roundw
              case rel => exact ⟨j + 1, sv, by omega, by go_num, HBN.out.ext HF6.out, by rw [HK1'.out]; exact HAP.out.ext goodO_Op HF6.out, HE4.out.trans HF6.out, Nat.le_trans HWS.out HF6.out.size⟩
              case measure => (simp [intOf] <;> omega)
          · have HP : Hid (ofRec id y = (recId y.record == id)) := by show _ = _; rw [HOF.out]; simp [*]
            go_wp2_with fail
            refine (specRecordID_any y.record [.int .i64 y.record.source, .int .i64 y.record.key, .int .i64 y.record.version, .slice p0k y.record.fields.length c0k] 0 _ ⟨p0k, c0k, rfl, RK.out.ext good_str (by (repeat' (first | with_reducible assumption | with_reducible exact Below.refl _ _ | (with_reducible refine Ext.alloc' ?_ _) | (with_reducible refine Ext.drew' ?_) | (with_reducible refine Ext.drewN' ?_ _) | (with_reducible refine Ext.set_ ?_ (by first | omega | (simp; done) | (simp; omega)) _ _) | (refine Ext.trans ?_ (by with_reducible assumption)))))⟩).mono ?_
            rintro e w6 ⟨rfl, hE6⟩
            have HF6 : Hid (Ext wr w6) := (show Ext wr w6 from by have h9 := hE6; (repeat' (first | with_reducible assumption | with_reducible exact Below.refl _ _ | (with_reducible refine Ext.alloc' ?_ _) | (with_reducible refine Ext.drew' ?_) | (with_reducible refine Ext.drewN' ?_ _) | (with_reducible refine Ext.set_ ?_ (by first | omega | (simp; done) | (simp; omega)) _ _) | (refine Ext.trans ?_ (by with_reducible assumption)))))
            have HB6 : Hid (Box w6 wr.heap.size 90 #[.int .i64 y.kind, .int .i64 y.record.source, .int .i64 y.record.key, .int .i64 y.record.version, .slice p0k y.record.fields.length c0k, .int .i64 y.verdict.a, .int .i64 y.verdict.b, .bool y.verdict.same, .int .i64 y.verdict.time]) := hOB.out.ext hE6
            clear hE6 hOB HNE t0 t1 t2 t3 t4 t5 t6 t7 t8 q0
            cases hid : (recId y.record == id)
            · have HK2' := Lib.hid (HK2.out (by rw [HP.out, hid]))
              clear HP HOF
              have hbn := HBN.out.ext HF6.out
              have nb0 := hbn.cell 0; have nbf := hbn.free 0; have nbl := hbn.lt
              have b6 := HB6.out
              have k0 := b6.cell 0
              have k1 := b6.cell 1
              have k2 := b6.cell 2
              have k3 := b6.cell 3
              have k4 := b6.cell 4
              have k5 := b6.cell 5
              have k6 := b6.cell 6
              have k7 := b6.cell 7
              have k8 := b6.cell 8
              have klt := b6.lt
              simp only [List.getElem?_toArray, List.getElem?_cons_zero, List.getElem?_cons_succ] at k0 k1 k2 k3 k4 k5 k6 k7 k8
              simp only [List.getElem?_toArray, List.getElem?_cons_zero] at nb0
              clear b6 hbn
              go_wp2_with fail
              go_region_law (first
                | (refine step_append_O goodO_Op (B := wn.heap.size) (w1 := w6) rfl (.tmp 52) (.tmp 55) 83 rfl Try.underlying83 info_OpS rfl (by decide) (by decide) sv (keepOps (ofRec id) (x.ops.take j)) rfl (HAP.out.ext goodO_Op HF6.out) (by have h8 := HF7.out; (repeat' (first | with_reducible assumption | with_reducible exact Below.refl _ _ | (with_reducible refine Ext.alloc' ?_ _) | (with_reducible refine Ext.drew' ?_) | (with_reducible refine Ext.drewN' ?_ _) | (with_reducible refine Ext.set_ ?_ (by first | omega | (simp; done) | (simp; omega)) _ _) | (refine Ext.trans ?_ (by with_reducible assumption))))) (by have := HF6.out.size; have := HWS.out; omega) (by have := HKL.out; omega) ⟨_, 0, none⟩ 1 [.int .i64 y.kind, .int .i64 y.record.source, .int .i64 y.record.key, .int .i64 y.record.version, .slice p0m y.record.fields.length c0m, .int .i64 y.verdict.a, .int .i64 y.verdict.b, .bool y.verdict.same, .int .i64 y.verdict.time] y (by rfl) (goodO_Op.ext HR7.out (by (repeat' (first | with_reducible assumption | with_reducible exact Below.refl _ _ | (with_reducible refine Ext.alloc' ?_ _) | (with_reducible refine Ext.drew' ?_) | (with_reducible refine Ext.drewN' ?_ _) | (with_reducible refine Ext.set_ ?_ (by first | omega | (simp; done) | (simp; omega)) _ _) | (refine Ext.trans ?_ (by with_reducible assumption)))))) rfl ((Box.new' _ _ _ _ rfl).cells) (by intro u hu; simp only [List.mem_cons, List.not_mem_nil, or_false] at hu; rcases hu with rfl | rfl | rfl | rfl | rfl | rfl | rfl | rfl | rfl <;> rfl) ?_; intro v' w8 hv hC hB
                   obtain ⟨a8, n8, c8, hv8⟩ := hv.form
                   subst hv8
                   have HV := Lib.hid hv
                   have hN8 : ∀ c, sv.ownBlock = some c → wn.heap.size ≤ c ∧ wo.heap.size < c := fun c hc => ⟨(hB c hc).1, Nat.lt_of_lt_of_le HNN.out (hB c hc).1⟩
                   have HC7 : Hid (Ext w6 (w7.alloc (.cells #[.int .i64 y.kind, .int .i64 y.record.source, .int .i64 y.record.key, .int .i64 y.record.version, .slice p0m y.record.fields.length c0m, .int .i64 y.verdict.a, .int .i64 y.verdict.b, .bool y.verdict.same, .int .i64 y.verdict.time] 90))) := (show Ext w6 _ from by have h8 := HF7.out; (repeat' (first | with_reducible assumption | with_reducible exact Below.refl _ _ | (with_reducible refine Ext.alloc' ?_ _) | (with_reducible refine Ext.drew' ?_) | (with_reducible refine Ext.drewN' ?_ _) | (with_reducible refine Ext.set_ ?_ (by first | omega | (simp; done) | (simp; omega)) _ _) | (refine Ext.trans ?_ (by with_reducible assumption)))))
                   have HC8 : Hid (Chg (fun c => sv.ownBlock = some c) w6 w8) := (Chg.of_ext HC7.out).trans hC
                   have HB8 : Hid (Box w8 wo.heap.size 85 #[sv]) := (HBN.out.ext HF6.out).chg HC8.out (fun hc => Nat.lt_irrefl _ (hN8 _ hc).2)
                   have HE8 : Hid (Ext wo w8) := Chg.ext (HE4.out.trans HF6.out) HC8.out (fun c hc => Nat.le_of_lt (hN8 c hc).2)
                   have HS8 : Hid (wn.heap.size ≤ w8.heap.size) := Nat.le_trans HWS.out (Nat.le_trans HF6.out.size HC8.out.size)
                   have nb8 := HB8.out.cell 0; have nbf8 := HB8.out.free 0
                   simp only [List.getElem?_toArray, List.getElem?_cons_zero] at nb8
                   clear hv hC hB hN8)
                | (go_simp; go_at_call 65; refine (l29Copy_any y HSY.out [.int .i64 y.kind, .int .i64 y.record.source, .int .i64 y.record.key, .int .i64 y.record.version, .slice p0k y.record.fields.length c0k, .int .i64 y.verdict.a, .int .i64 y.verdict.b, .bool y.verdict.same, .int .i64 y.verdict.time] 0 _ (good_Op.ext HOR.out (by have h8 := HE4.out; have h9 := HF6.out; (repeat' (first | with_reducible assumption | with_reducible exact Below.refl _ _ | (with_reducible refine Ext.alloc' ?_ _) | (with_reducible refine Ext.drew' ?_) | (with_reducible refine Ext.drewN' ?_ _) | (with_reducible refine Ext.set_ ?_ (by first | omega | (simp; done) | (simp; omega)) _ _) | (refine Ext.trans ?_ (by with_reducible assumption))))))).mono ?_; rintro e w7 ⟨us, rfl, ⟨p0m, c0m, rfl, r0m⟩, hE7⟩
                   have HF7 : Hid (Ext w6 w7) := (show Ext w6 w7 from by have h9 := hE7; (repeat' (first | with_reducible assumption | with_reducible exact Below.refl _ _ | (with_reducible refine Ext.alloc' ?_ _) | (with_reducible refine Ext.drew' ?_) | (with_reducible refine Ext.drewN' ?_ _) | (with_reducible refine Ext.set_ ?_ (by first | omega | (simp; done) | (simp; omega)) _ _) | (refine Ext.trans ?_ (by with_reducible assumption)))))
                   have HR7 : Hid (OpO (From w6.heap.size) w7 [.int .i64 y.kind, .int .i64 y.record.source, .int .i64 y.record.key, .int .i64 y.record.version, .slice p0m y.record.fields.length c0m, .int .i64 y.verdict.a, .int .i64 y.verdict.b, .bool y.verdict.same, .int .i64 y.verdict.time] y) := ⟨p0m, c0m, rfl, by first | exact r0m | (simpa using r0m)⟩
                   have nb7 := HF7.out.at nb0
                   have nl7 := lt_of_cell nb7
                   clear hE7 r0m))
              all_goals
                clear k0 k1 k2 k3 k4 k5 k6 k7 k8 nb0 nbf
                go_wp2_with fail
                go_roundw
                case rel =>
                  refine ⟨j + 1, .slice a8 n8 c8, by omega, by go_num, Box.set' HB8.out (i := 0) (u := .slice a8 n8 c8) rfl, ?_, ?_, ?_⟩
                  · rw [HK2'.out]; exact HV.out.setO goodO_Op HNN.out _ _
                  · have h8 := HE8.out; exact h8.set_ (Nat.le_refl _) _ _
                  · have := HS8.out; simpa using this
                case measure => (simp [intOf] <;> omega)
            · have HK1' := Lib.hid (HK1.out (by rw [HP.out, hid]))
              clear HP HOF
              go_wp2_with fail
              go_roundw
              case rel => exact ⟨j + 1, sv, by omega, by go_num, HBN.out.ext HF6.out, by rw [HK1'.out]; exact HAP.out.ext goodO_Op HF6.out, HE4.out.trans HF6.out, Nat.le_trans HWS.out HF6.out.size⟩
              case measure => (simp [intOf] <;> omega)
          · have HK2' := Lib.hid (HK2.out (by rw [HOF.out, hb1, hb2]; rfl))
            clear HOF
            go_wp2_with fail
            obtain ⟨w6, hw6⟩ : ∃ w6, w6 = wr.alloc (.cells #[.int .i64 y.kind, .int .i64 y.record.source, .int .i64 y.record.key, .int .i64 y.record.version, .slice p0k y.record.fields.length c0k, .int .i64 y.verdict.a, .int .i64 y.verdict.b, .bool y.verdict.same, .int .i64 y.verdict.time] 90) := ⟨_, rfl⟩
            have HF6 : Hid (Ext wr w6) := by rw [hw6]; exact HNE.out
            have HB6 : Hid (Box w6 wr.heap.size 90 #[.int .i64 y.kind, .int .i64 y.record.source, .int .i64 y.record.key, .int .i64 y.record.version, .slice p0k y.record.fields.length c0k, .int .i64 y.verdict.a, .int .i64 y.verdict.b, .bool y.verdict.same, .int .i64 y.verdict.time]) := by rw [hw6]; exact hOB.out
            rw [← hw6]
            clear hw6 hOB HNE t0 t1 t2 t3 t4 t5 t6 t7 t8 q0
            have hbn := HBN.out.ext HF6.out
            have nb0 := hbn.cell 0; have nbf := hbn.free 0; have nbl := hbn.lt
            have b6 := HB6.out
            have k0 := b6.cell 0
            have k1 := b6.cell 1
            have k2 := b6.cell 2
            have k3 := b6.cell 3
            have k4 := b6.cell 4
            have k5 := b6.cell 5
            have k6 := b6.cell 6
            have k7 := b6.cell 7
            have k8 := b6.cell 8
            have klt := b6.lt
            simp only [List.getElem?_toArray, List.getElem?_cons_zero, List.getElem?_cons_succ] at k0 k1 k2 k3 k4 k5 k6 k7 k8
            simp only [List.getElem?_toArray, List.getElem?_cons_zero] at nb0
            clear b6 hbn
            go_wp2_with fail
            go_region_law (first
              | (refine step_append_O goodO_Op (B := wn.heap.size) (w1 := w6) rfl (.tmp 52) (.tmp 55) 83 rfl Try.underlying83 info_OpS rfl (by decide) (by decide) sv (keepOps (ofRec id) (x.ops.take j)) rfl (HAP.out.ext goodO_Op HF6.out) (by have h8 := HF7.out; (repeat' (first | with_reducible assumption | with_reducible exact Below.refl _ _ | (with_reducible refine Ext.alloc' ?_ _) | (with_reducible refine Ext.drew' ?_) | (with_reducible refine Ext.drewN' ?_ _) | (with_reducible refine Ext.set_ ?_ (by first | omega | (simp; done) | (simp; omega)) _ _) | (refine Ext.trans ?_ (by with_reducible assumption))))) (by have := HF6.out.size; have := HWS.out; omega) (by have := HKL.out; omega) ⟨_, 0, none⟩ 1 [.int .i64 y.kind, .int .i64 y.record.source, .int .i64 y.record.key, .int .i64 y.record.version, .slice p0m y.record.fields.length c0m, .int .i64 y.verdict.a, .int .i64 y.verdict.b, .bool y.verdict.same, .int .i64 y.verdict.time] y (by rfl) (goodO_Op.ext HR7.out (by (repeat' (first | with_reducible assumption | with_reducible exact Below.refl _ _ | (with_reducible refine Ext.alloc' ?_ _) | (with_reducible refine Ext.drew' ?_) | (with_reducible refine Ext.drewN' ?_ _) | (with_reducible refine Ext.set_ ?_ (by first | omega | (simp; done) | (simp; omega)) _ _) | (refine Ext.trans ?_ (by with_reducible assumption)))))) rfl ((Box.new' _ _ _ _ rfl).cells) (by intro u hu; simp only [List.mem_cons, List.not_mem_nil, or_false] at hu; rcases hu with rfl | rfl | rfl | rfl | rfl | rfl | rfl | rfl | rfl <;> rfl) ?_; intro v' w8 hv hC hB
                 obtain ⟨a8, n8, c8, hv8⟩ := hv.form
                 subst hv8
                 have HV := Lib.hid hv
                 have hN8 : ∀ c, sv.ownBlock = some c → wn.heap.size ≤ c ∧ wo.heap.size < c := fun c hc => ⟨(hB c hc).1, Nat.lt_of_lt_of_le HNN.out (hB c hc).1⟩
                 have HC7 : Hid (Ext w6 (w7.alloc (.cells #[.int .i64 y.kind, .int .i64 y.record.source, .int .i64 y.record.key, .int .i64 y.record.version, .slice p0m y.record.fields.length c0m, .int .i64 y.verdict.a, .int .i64 y.verdict.b, .bool y.verdict.same, .int .i64 y.verdict.time] 90))) := (show Ext w6 _ from by have h8 := HF7.out; (repeat' (first | with_reducible assumption | with_reducible exact Below.refl _ _ | (with_reducible refine Ext.alloc' ?_ _) | (with_reducible refine Ext.drew' ?_) | (with_reducible refine Ext.drewN' ?_ _) | (with_reducible refine Ext.set_ ?_ (by first | omega | (simp; done) | (simp; omega)) _ _) | (refine Ext.trans ?_ (by with_reducible assumption)))))
                 have HC8 : Hid (Chg (fun c => sv.ownBlock = some c) w6 w8) := (Chg.of_ext HC7.out).trans hC
                 have HB8 : Hid (Box w8 wo.heap.size 85 #[sv]) := (HBN.out.ext HF6.out).chg HC8.out (fun hc => Nat.lt_irrefl _ (hN8 _ hc).2)
                 have HE8 : Hid (Ext wo w8) := Chg.ext (HE4.out.trans HF6.out) HC8.out (fun c hc => Nat.le_of_lt (hN8 c hc).2)
                 have HS8 : Hid (wn.heap.size ≤ w8.heap.size) := Nat.le_trans HWS.out (Nat.le_trans HF6.out.size HC8.out.size)
                 have nb8 := HB8.out.cell 0; have nbf8 := HB8.out.free 0
                 simp only [List.getElem?_toArray, List.getElem?_cons_zero] at nb8
                 clear hv hC hB hN8)
              | (go_simp; go_at_call 65; refine (l29Copy_any y HSY.out [.int .i64 y.kind, .int .i64 y.record.source, .int .i64 y.record.key, .int .i64 y.record.version, .slice p0k y.record.fields.length c0k, .int .i64 y.verdict.a, .int .i64 y.verdict.b, .bool y.verdict.same, .int .i64 y.verdict.time] 0 _ (good_Op.ext HOR.out (by have h8 := HE4.out; have h9 := HF6.out; (repeat' (first | with_reducible assumption | with_reducible exact Below.refl _ _ | (with_reducible refine Ext.alloc' ?_ _) | (with_reducible refine Ext.drew' ?_) | (with_reducible refine Ext.drewN' ?_ _) | (with_reducible refine Ext.set_ ?_ (by first | omega | (simp; done) | (simp; omega)) _ _) | (refine Ext.trans ?_ (by with_reducible assumption))))))).mono ?_; rintro e w7 ⟨us, rfl, ⟨p0m, c0m, rfl, r0m⟩, hE7⟩
                 have HF7 : Hid (Ext w6 w7) := (show Ext w6 w7 from by have h9 := hE7; (repeat' (first | with_reducible assumption | with_reducible exact Below.refl _ _ | (with_reducible refine Ext.alloc' ?_ _) | (with_reducible refine Ext.drew' ?_) | (with_reducible refine Ext.drewN' ?_ _) | (with_reducible refine Ext.set_ ?_ (by first | omega | (simp; done) | (simp; omega)) _ _) | (refine Ext.trans ?_ (by with_reducible assumption)))))
                 have HR7 : Hid (OpO (From w6.heap.size) w7 [.int .i64 y.kind, .int .i64 y.record.source, .int .i64 y.record.key, .int .i64 y.record.version, .slice p0m y.record.fields.length c0m, .int .i64 y.verdict.a, .int .i64 y.verdict.b, .bool y.verdict.same, .int .i64 y.verdict.time] y) := ⟨p0m, c0m, rfl, by first | exact r0m | (simpa using r0m)⟩
                 have nb7 := HF7.out.at nb0
                 have nl7 := lt_of_cell nb7
                 clear hE7 r0m))
            all_goals
              clear k0 k1 k2 k3 k4 k5 k6 k7 k8 nb0 nbf
              go_wp2_with fail
              go_roundw
              case rel =>
                refine ⟨j + 1, .slice a8 n8 c8, by omega, by go_num, Box.set' HB8.out (i := 0) (u := .slice a8 n8 c8) rfl, ?_, ?_, ?_⟩
                · rw [HK2'.out]; exact HV.out.setO goodO_Op HNN.out _ _
                · have h8 := HE8.out; exact h8.set_ (Nat.le_refl _) _ _
                · have := HS8.out; simpa using this
              case measure => (simp [intOf] <;> omega)
        · obtain rfl : j = x.ops.length := by omega
          have hf := HAP.out
          rw [keepOps_full] at hf
          obtain ⟨a2, c2, rfl, hr⟩ := hf.rowOf
          have HR2 : Hid (BatchO (From wo.heap.size) wr [.slice a2 (keepOps (ofRec id) x.ops).length c2] ⟨keepOps (ofRec id) x.ops⟩) := ⟨a2, c2, rfl, hr.monoB (Nat.le_of_lt HNN.out)⟩
          have bn0 := HBN.out.cell 0
          simp only [List.getElem?_toArray, List.getElem?_cons_zero] at bn0
          have hN5 := lt_of_cell bn0
          clear hf hr
          go_wp2_with (at_builtin; refine wpList_append_O goodO_Batch (B := w.heap.size) (w1 := wo) rfl (.tmp 58) (.tmp 60) 27 rfl Try.underlying27 info_BatchS rfl (by decide) (by decide) u5 (keepBs (ofRec id) (l.take i)) rfl HAP5.out (by have h8 := HE4.out; (repeat' (first | with_reducible assumption | with_reducible exact Below.refl _ _ | (with_reducible refine Ext.alloc' ?_ _) | (with_reducible refine Ext.drew' ?_) | (with_reducible refine Ext.drewN' ?_ _) | (with_reducible refine Ext.set_ ?_ (by first | omega | (simp; done) | (simp; omega)) _ _) | (refine Ext.trans ?_ (by with_reducible assumption))))) HBB.out HKL5.out ⟨_, 0, none⟩ 1 [.slice a2 (keepOps (ofRec id) x.ops).length c2] ⟨keepOps (ofRec id) x.ops⟩ (by rfl) (goodO_Batch.ext HR2.out (by (repeat' (first | with_reducible assumption | with_reducible exact Below.refl _ _ | (with_reducible refine Ext.alloc' ?_ _) | (with_reducible refine Ext.drew' ?_) | (with_reducible refine Ext.drewN' ?_ _) | (with_reducible refine Ext.set_ ?_ (by first | omega | (simp; done) | (simp; omega)) _ _) | (refine Ext.trans ?_ (by with_reducible assumption)))))) rfl ((Box.new' _ _ _ _ rfl).cells) (by intro u hu; simp only [List.mem_cons, List.not_mem_nil, or_false] at hu; subst hu; rfl) ?_; intro v' w9 hv hC hB; have HV := Lib.hid hv; have HC := Lib.hid hC; have HB9 := Lib.hid hB; clear hv hC hB)
          go_roundw
          case rel =>
            have hE9 : Ext w w9 := Chg.ext (HE1.out.trans (show Ext wo _ from by have h8 := HE4.out; (repeat' (first | with_reducible assumption | with_reducible exact Below.refl _ _ | (with_reducible refine Ext.alloc' ?_ _) | (with_reducible refine Ext.drew' ?_) | (with_reducible refine Ext.drewN' ?_ _) | (with_reducible refine Ext.set_ ?_ (by first | omega | (simp; done) | (simp; omega)) _ _) | (refine Ext.trans ?_ (by with_reducible assumption)))))) HC.out (fun c hc => by have := (HB9.out c hc).1; omega)
            refine ⟨i + 1, by omega, by go_num, by rw [HKT.out]; exact HV.out, hE9, Nat.le_trans HBB.out (Nat.le_trans (Nat.le_trans HE4.out.size (by simp)) HC.out.size)⟩
          case measure => (simp [intOf] <;> omega)
    · obtain rfl : i = l.length := by omega
      have hf := HAP5.out
      rw [List.take_length] at hf
      obtain ⟨a2, c2, rfl, hr⟩ := hf.rowOf
      have HR := Lib.hid hr
      clear hf hr
      go_wp2_with fail
      go_ret
      exact ⟨a2, c2, rfl, HR.out.monoB (by omega), HE1.out⟩
end Go.Proofs.Ytdgpbgpapcldeaa
