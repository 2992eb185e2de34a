/- The walk of the reference's overlap matrix. -/
import Derived.Test.YtgehpbikkcnecaaOverlap
set_option linter.unusedVariables false
set_option linter.unusedSimpArgs false
namespace Go.Proofs.Ytgehpbikkcnecaa
open Go.RowKit Go.Er

set_option maxHeartbeats 1600000 in
theorem specOverlapMatrix_any (X Y : List (List Int)) (a c : Option Addr) (ca cc : Nat) (w : World) (ha : IntRows w a X) (hc : IntRows w c Y) (hX : X.length ≤ 8) (hY : Y.length ≤ 8)
    (hXr : ∀ r ∈ X, r.length ≤ 1048576) (hYr : ∀ r ∈ Y, r.length ≤ 1048576) :
    Calls Try.prog 45 #[.slice a X.length ca, .slice c Y.length cc] w (MadeRows w (overlaps X Y)) := by
  have HXr := Lib.hid hXr; have HYr := Lib.hid hYr; clear hXr hYr
  have hX' : (X.length : Int) ≤ 8 := by omega
  have hY' : (Y.length : Int) ≤ 8 := by omega
  have hA : Ext w (w.alloc (.cells #[] 28)) := by (repeat' (first | assumption | exact Below.refl _ _ | refine Ext.alloc' ?_ _ | refine Ext.drew' ?_ | refine Ext.drewN' ?_ _ | refine Ext.setCell' ?_ (by first | (simp; done) | (simp; omega)) _ | (refine Ext.trans ?_ (by assumption))))
  have hO : Own1 (w.alloc (.cells #[] 28)) w.heap.size 28 (.slice (some ⟨w.heap.size, 0, none⟩) 0 0) [] := Own1.lit0 (Nat.le_refl _) (heap_alloc_new w _)
  have HO0 := Lib.hid hO; clear hO
  go_enter Try.func45, Try.ntmps45
  go_wp2
  go_loopw [5, 6] (fun s5 s6 wr => ∃ (k : Nat) (vs : List Value), k ≤ X.length ∧ s6 = .int .i64 k ∧ Own2 wr w.heap.size 28 3 s5 vs ((overlaps (X.take k) Y).map (fun r : List Int => r.map (.int .i64))) ∧ Ext w wr) (fun _ i _ => X.length - (intOf i).toNat)
  case atStart => exact ⟨0, [], Nat.zero_le _, rfl, Own2.empty HO0.out, hA⟩
  case round =>
    obtain ⟨k, vs, hk, rfl, hov, hE⟩ := hrel
    have HO := Lib.hid hov; clear hov
    by_cases hlt : k < X.length
    · obtain ⟨b, o, ai, ci, rfl, hcl, hi⟩ := ha k hlt
      have hxl : X[k].length ≤ 1048576 := HXr.out X[k] (List.getElem_mem hlt)
      have htk := Lib.hid (show overlaps (X.take (k + 1)) Y = overlaps (X.take k) Y ++ [Y.map (ovm X[k])] by unfold overlaps; rw [List.take_succ_eq_append_getElem hlt, List.map_append]; rfl)
      generalize hx : X[k] = x at *
      have Hx := Lib.hid hx; have HI := Lib.hid hi; have HCl := Lib.hid hcl; have HA := Lib.hid ha; clear hx hi hcl ha
      obtain ⟨w1, rfl⟩ : ∃ w1 : World, w1 = wr := ⟨_, rfl⟩
      have hr0 : Own1 (w1.alloc (.cells #[] 3)) w1.heap.size 3 (.slice (some ⟨w1.heap.size, 0, none⟩) 0 0) [] := Own1.lit0 (Nat.le_refl _) (heap_alloc_new w1 _)
      have HR0 := Lib.hid hr0; clear hr0
      go_wp2
      go_loopw [7, 8] (fun s7 s8 wr => ∃ j : Nat, j ≤ Y.length ∧ s8 = .int .i64 j ∧ Ext w1 wr ∧ Own1 wr w1.heap.size 3 s7 (((Y.take j).map (ovm x)).map (.int .i64))) (fun _ i _ => Y.length - (intOf i).toNat)
      case atStart => exact ⟨0, Nat.zero_le _, rfl, Ext.alloc _ _, HR0.out⟩
      case round =>
        obtain ⟨j, hj, rfl, hEr, hrw⟩ := hrel
        have HW := Lib.hid hrw; clear hrw
        by_cases hjl : j < Y.length
        · obtain ⟨b2, o2, ay, cy, rfl, hcy, hyi⟩ := hc j hjl
          have hyl : Y[j].length ≤ 1048576 := HYr.out Y[j] (List.getElem_mem hjl)
          have hts := Lib.hid (show (Y.take (j + 1)).map (ovm x) = (Y.take j).map (ovm x) ++ [ovm x Y[j]] by rw [List.take_succ_eq_append_getElem hjl, List.map_append]; rfl)
          generalize hy : Y[j] = y at *
          have Hy := Lib.hid hy; have HYI := Lib.hid hyi; have HCY := Lib.hid hcy; have HC := Lib.hid hc; clear hy hyi hcy hc
          have hEw : Ext w wr := hE.trans hEr
          have hx2 := hEw.at HCl.out
          have hy2 := hEw.at HCY.out
          have hbx := lt_of_cell hx2
          have hby := lt_of_cell hy2
          have HIx := Lib.hid (HI.out.ext hEw); have HIy := Lib.hid (HYI.out.ext hEw)
          have hlr := Lib.hid (show (((Y.take j).map (ovm x)).map (Value.int .i64)).length ≤ 1073741824 by simp; omega)
          have hmin : Hid ((if (ov x y : Int) < 100 then (ov x y : Int) else 100) = ovm x y) := by show _ = _; rfl
          go_wp2
          go_region_law (first
            | (refine step_append_one (w0 := w1) rfl (.tmp 32) (.tmp 43) 28 rfl Try.underlying28 info_int rfl (by decide) u7 _ rfl (by (repeat' (first | assumption | exact Below.refl _ _ | refine Ext.alloc' ?_ _ | refine Ext.drew' ?_ | refine Ext.drewN' ?_ _ | refine Ext.setCell' ?_ (by first | (simp; done) | (simp; omega)) _ | (refine Ext.trans ?_ (by assumption))))) (HW.out.ext (by (repeat' (first | assumption | exact Below.refl _ _ | refine Ext.alloc' ?_ _ | refine Ext.drew' ?_ | refine Ext.drewN' ?_ _ | refine Ext.setCell' ?_ (by first | (simp; done) | (simp; omega)) _ | (refine Ext.trans ?_ (by assumption)))))) hlr.out ⟨wr.heap.size, 0, none⟩ 1 (.int .i64 (ovm x y)) rfl (by rw [← hmin.out]; simp) rfl ?_; intro v' w2 hv2 hE2 hg2 hb2)
            | (go_simp; go_at_call 60; refine (l25Count_any x y ai ay ci cy _ (HIx.out.ext (by (repeat' (first | assumption | exact Below.refl _ _ | refine Ext.alloc' ?_ _ | refine Ext.drew' ?_ | refine Ext.drewN' ?_ _ | refine Ext.setCell' ?_ (by first | (simp; done) | (simp; omega)) _ | (refine Ext.trans ?_ (by assumption)))))) (HIy.out.ext (by (repeat' (first | assumption | exact Below.refl _ _ | refine Ext.alloc' ?_ _ | refine Ext.drew' ?_ | refine Ext.drewN' ?_ _ | refine Ext.setCell' ?_ (by first | (simp; done) | (simp; omega)) _ | (refine Ext.trans ?_ (by assumption)))))) hxl hyl).mono ?_; rintro e w' ⟨rfl, rfl⟩))
          all_goals
            go_wp2
            go_roundw
            case rel => exact ⟨j + 1, by omega, by go_num, hE2, by rw [hts.out, List.map_append]; exact hv2⟩
            case measure => simp [intOf]; omega
        · obtain rfl : j = Y.length := by omega
          have hfull : Hid (Y.take Y.length = Y) := by show _ = _; exact List.take_length
          rw [hfull.out] at HW
          obtain ⟨ra, rc, hre, _, _⟩ := HW.out.slice
          simp only [List.length_map] at hre
          subst hre
          have hvl : vs.length = k := by have h := HO.out.2.1; simp [overlaps] at h; omega
          have HVL := Lib.hid (show vs.length ≤ 1073741824 by omega); clear hvl
          go_wp2_with (at_builtin; refine wpList_append_one (w0 := w) rfl (.tmp 45) (.tmp 47) 44 rfl Try.underlying44 info_ints rfl (by decide) u5 vs rfl (by (repeat' (first | assumption | exact Below.refl _ _ | refine Ext.alloc' ?_ _ | refine Ext.drew' ?_ | refine Ext.drewN' ?_ _ | refine Ext.setCell' ?_ (by first | (simp; done) | (simp; omega)) _ | (refine Ext.trans ?_ (by assumption))))) ((HO.out.1.ext hEr).alloc _) HVL.out ⟨_, 0, none⟩ 1 _ rfl (by simp; rfl) rfl ?_; intro v' w4 hv4 hE4 hg4 hb4; have HV := Lib.hid hv4; have HG := Lib.hid hg4; have HB := Lib.hid hb4; clear hv4 hg4 hb4)
          go_roundw
          case rel =>
            refine ⟨k + 1, vs ++ [.slice ra Y.length rc], by omega, by go_num, ?_, hE4⟩
            have hblk := fun (bb : Nat) (h1 : (Value.slice ra Y.length rc).ownBlock = some bb) => (World.ownsRow.lt HW.out bb h1).1
            have h := Own2.push (w := wr.alloc (.cells #[.slice ra Y.length rc] 28)) ((HO.out.ext hEr).ext (Ext.alloc _ _)) ((HW.out.mono hE.size).alloc _)
              (fun bb h1 h2 => by have := hblk bb h1; have := HO.out.1.lt h2; omega)
              (fun i hi bb h1 h2 => by have := hblk bb h1; have := (HO.out.2.2.1 i hi (by have h5 := HO.out.2.1; omega)).1.lt h2; omega) HV.out HG.out HB.out
            rw [htk.out, List.map_append]
            exact h
          case measure => simp [intOf]; omega
    · obtain rfl : k = X.length := by omega
      go_wp2
      go_ret
      refine ⟨_, vs, rfl, ?_, hE⟩
      have h := HO.out
      rw [List.take_length] at h
      exact h
end Go.Proofs.Ytgehpbikkcnecaa
