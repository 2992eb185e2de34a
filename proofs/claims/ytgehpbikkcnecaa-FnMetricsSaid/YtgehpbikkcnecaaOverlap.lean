/- The walks of the overlap matrices of the program and of the reference. -/
import Derived.Test.YtgehpbikkcnecaaSearch
set_option linter.unusedVariables false
set_option linter.unusedSimpArgs false
namespace Go.Proofs.Ytgehpbikkcnecaa
open Go.RowKit Go.Er

def ovm (x y : List Int) : Int := if (ov x y : Int) < 100 then (ov x y : Int) else 100
def overlaps (X Y : List (List Int)) : List (List Int) := X.map (fun x => Y.map (ovm x))
/-- The row while it is filled: the first k places are done, the place k holds c. -/
def rowK (x : List Int) (Y : List (List Int)) (k : Nat) : List Int := (Y.take k).map (ovm x) ++ List.replicate (Y.length - k) 0
theorem rowK_length (x : List Int) (Y : List (List Int)) (k : Nat) (h : k ≤ Y.length) : (rowK x Y k).length = Y.length := by simp [rowK]; omega
theorem rowK_get (x : List Int) (Y : List (List Int)) (k : Nat) (h : k < Y.length) : (rowK x Y k)[k]'(by rw [rowK_length x Y k (by omega)]; exact h) = 0 := by
  unfold rowK
  rw [List.getElem_append_right (by simp; omega)]; simp
theorem rowK_set (x : List Int) (Y : List (List Int)) (k : Nat) (h : k < Y.length) : (rowK x Y k).set k (ovm x Y[k]) = rowK x Y (k + 1) := by
  unfold rowK
  rw [List.take_succ_eq_append_getElem h, show Y.length - k = (Y.length - (k + 1)) + 1 by omega, List.replicate_succ, List.set_append_right _ _ (by simp; omega), List.map_append, List.append_assoc]
  congr 1
  simp [Nat.min_eq_left (Nat.le_of_lt h)]

set_option maxHeartbeats 1600000 in
theorem overlapMatrix_any (X Y : List (List Int)) (a c : Option Addr) (ca cc : Nat) (w : World) (ha : IntRows w a X) (hc : IntRows w c Y) (hX : X.length ≤ 1000) (hY : Y.length ≤ 1000)
    (hXr : ∀ r ∈ X, r.length ≤ 1048576) (hYr : ∀ r ∈ Y, r.length ≤ 1048576) :
    Calls Try.prog 47 #[.slice a X.length ca, .slice c Y.length cc] w (MadeRows w (overlaps X Y)) := by
  have HXr := Lib.hid hXr; have HYr := Lib.hid hYr; clear hXr hYr
  go_enter Try.func47, Try.ntmps47
  go_wp2
  go_loopw [5, 15] (fun s5 s15 wr => ∃ (k : Nat) (vs : List Value), k ≤ X.length ∧ s15 = .int .i64 k ∧ Own2 wr w.heap.size 28 3 s5 vs ((overlaps (X.take k) Y).map (fun r : List Int => r.map (.int .i64))) ∧ Ext w wr) (fun _ i _ => X.length - (intOf i).toNat)
  case atStart => exact ⟨0, [], Nat.zero_le _, rfl, Own2.empty (Own1.nil _ _ _), Ext.refl _⟩
  case round =>
    obtain ⟨k, vs, hk, rfl, hov, hE⟩ := hrel
    have HO := Lib.hid hov; clear hov
    by_cases hlt : k < X.length
    · obtain ⟨b, o, ai, ci, rfl, hcl, hi⟩ := ha k hlt
      have hcl2 := hE.at hcl
      have hxl : X[k].length ≤ 1048576 := HXr.out X[k] (List.getElem_mem hlt)
      have htk := Lib.hid (show overlaps (X.take (k + 1)) Y = overlaps (X.take k) Y ++ [Y.map (ovm X[k])] by unfold overlaps; rw [List.take_succ_eq_append_getElem hlt, List.map_append]; rfl)
      generalize hx : X[k] = x at *
      have Hx := Lib.hid hx; have HI := Lib.hid hi; have HCl := Lib.hid hcl; clear hx hi hcl
      have HA := Lib.hid ha; clear ha
      obtain ⟨w1, rfl⟩ : ∃ w1 : World, w1 = wr := ⟨_, rfl⟩
      go_wp2_with (at_make; refine wpList_make_one (w0 := w1) rfl _ _ 28 rfl Try.underlying28 info_int rfl (by decide) .i64 .i64 Y.length rfl rfl (by omega) (Ext.refl _) ?_; intro w2 hrow hE2 hg2 hs2; have HR := Lib.hid hrow; clear hrow hg2)
      go_loopw [24] (fun s24 wr => ∃ j : Nat, j ≤ Y.length ∧ s24 = .int .i64 j ∧ Ext w1 wr ∧ w1.heap.size < wr.heap.size ∧
          Own1 wr w1.heap.size 3 (.slice (some ⟨w1.heap.size, 0, none⟩) Y.length Y.length) ((rowK x Y j).map (.int .i64))) (fun i _ => Y.length - (intOf i).toNat)
      case atStart => exact ⟨0, Nat.zero_le _, rfl, hE2, hs2, by simpa [rowK] using HR.out⟩
      case round =>
        obtain ⟨j, hj, rfl, hEr, hsr, hrw⟩ := hrel
        by_cases hjl : j < Y.length
        · obtain ⟨b2, o2, ay, cy, rfl, hcy, hyi⟩ := hc j hjl
          have hcy2 := (hE.trans hEr).at hcy
          have hyl : Y[j].length ≤ 1048576 := HYr.out Y[j] (List.getElem_mem hjl)
          have hset := Lib.hid (rowK_set x Y j hjl)
          have hlen := Lib.hid (rowK_length x Y j (by omega))
          have hget := Lib.hid (rowK_get x Y j hjl)
          generalize hy : Y[j] = y at *
          have Hy := Lib.hid hy; have HYI := Lib.hid hyi; have HCY := Lib.hid hcy; have HC := Lib.hid hc; clear hy hyi hcy hc
          have HW := Lib.hid hrw; clear hrw
          obtain ⟨w3, rfl⟩ : ∃ w3 : World, w3 = wr := ⟨_, rfl⟩
          go_wp2
          go_loopw [31] (fun s31 wr => ∃ i : Nat, i ≤ x.length ∧ s31 = .int .i64 i ∧ Ext w1 wr ∧ w1.heap.size < wr.heap.size ∧
              Own1 wr w1.heap.size 3 (.slice (some ⟨w1.heap.size, 0, none⟩) Y.length Y.length) (((rowK x Y j).map (.int .i64)).set j (.int .i64 ((x.take i).countP (fun n => y.any (fun z => z == n)) : Nat)))) (fun i _ => x.length - (intOf i).toNat)
          case atStart =>
            refine ⟨0, Nat.zero_le _, rfl, hEr, hsr, ?_⟩
            have h := HW.out
            have e : ((rowK x Y j).map (Value.int .i64)).set j (.int .i64 ((x.take 0).countP (fun n => y.any (fun z => z == n)) : Nat)) = (rowK x Y j).map (Value.int .i64) := by
              have hjr : j < (rowK x Y j).length := by rw [hlen.out]; exact hjl
              rw [← List.map_set]
              congr 1
              rw [show (((x.take 0).countP (fun n => y.any (fun z => z == n)) : Nat) : Int) = (rowK x Y j)[j] by rw [hget.out]; simp]
              exact List.set_getElem_self hjr
            rw [e]; exact h
          case round =>
            obtain ⟨i, hi, rfl, hEi, hsi, hri⟩ := hrel
            have hb := countP_take_le (fun n => y.any (fun z => z == n)) x i
            have hjn : j < (((rowK x Y j).map (Value.int .i64)).set j (.int .i64 ((x.take i).countP (fun n => y.any (fun z => z == n)) : Nat))).length := by simp [hlen.out]; exact hjl
            have hcw := (hri.cellAt j hjn).trans (by simp : _ = some (Value.int .i64 ((x.take i).countP (fun n => y.any (fun z => z == n)) : Nat)))
            have hfw := hri.frozenAt j
            by_cases hil : i < x.length
            · obtain ⟨b3, o3, rfl, hcx⟩ := HI.out i hil
              have hcx2 := (hE.trans hEi).at hcx
              have hs := Lib.hid (cntUpto_succ' (fun n => y.any (fun z => z == n)) x i hil)
              have HRI := Lib.hid hri; clear hri hjn
              generalize hq : (x.take i).countP (fun n => y.any (fun z => z == n)) = q at *
              generalize hn : x[i] = n at *
              have Hn := Lib.hid (And.intro hn hq); clear hn hq hcx
              cases hany : y.any (fun z => z == n)
              · go_wp2_with (go_at_call 63; refine (sliceContains_any y n ay cy _ (HYI.out.ext (by (repeat' (first | assumption | exact Below.refl _ _ | refine Ext.alloc' ?_ _ | refine Ext.drew' ?_ | refine Ext.drewN' ?_ _ | refine Ext.setCell' ?_ (by first | (simp; done) | (simp; omega)) _ | (refine Ext.trans ?_ (by assumption)))))) hyl).mono ?_; rintro e w' ⟨rfl, rfl⟩)
                go_roundw
                case rel => exact ⟨i + 1, by omega, by go_num, hEi, hsi, by rw [hs.out, hany]; exact HRI.out⟩
                case measure => simp [intOf]; omega
              · have hst := Lib.hid (HRI.out.set hEi j (.int .i64 ((q : Int) + 1)))
                go_wp2_with (go_at_call 63; refine (sliceContains_any y n ay cy _ (HYI.out.ext (by (repeat' (first | assumption | exact Below.refl _ _ | refine Ext.alloc' ?_ _ | refine Ext.drew' ?_ | refine Ext.drewN' ?_ _ | refine Ext.setCell' ?_ (by first | (simp; done) | (simp; omega)) _ | (refine Ext.trans ?_ (by assumption)))))) hyl).mono ?_; rintro e w' ⟨rfl, rfl⟩)
                go_roundw
                case rel => exact ⟨i + 1, by omega, by go_num, hst.out.2, by simpa using hsi, by rw [hs.out, hany]; simpa using hst.out.1⟩
                case measure => simp [intOf]; omega
            · obtain rfl : i = x.length := by omega
              have HRI := Lib.hid hri; clear hri hjn
              have hov : Hid ((x.take x.length).countP (fun n => y.any (fun z => z == n)) = ov x y) := by show _ = _; rw [List.take_length]; rfl
              rw [hov.out] at HRI hcw hb
              by_cases h100 : (100 : Int) < (ov x y : Int)
              · have hm : Hid (ovm x y = 100) := by show _ = _; unfold ovm; rw [if_neg (by omega)]
                have hst := Lib.hid (HRI.out.set hEi j (.int .i64 100))
                generalize ov x y = q at *
                go_wp2
                go_roundw
                case rel => exact ⟨j + 1, by omega, by go_num, hst.out.2, by simpa using hsi, by rw [← hset.out, hm.out, List.map_set]; simpa using hst.out.1⟩
                case measure => simp [intOf]; omega
              · have hm : Hid (ovm x y = (ov x y : Int)) := by show _ = _; unfold ovm; split <;> omega
                have hst := Lib.hid (HRI.out.set hEi j (.int .i64 (ov x y : Int)))
                generalize ov x y = q at *
                go_wp2
                go_roundw
                case rel => exact ⟨j + 1, by omega, by go_num, hst.out.2, by simpa using hsi, by rw [← hset.out, hm.out, List.map_set]; simpa using hst.out.1⟩
                case measure => simp [intOf]; omega
        · obtain rfl : j = Y.length := by omega
          have HW := Lib.hid hrw; clear hrw
          have hfull : Hid (rowK x Y Y.length = Y.map (ovm x)) := by show _ = _; simp [rowK]
          rw [hfull.out] at HW
          have hvl : vs.length = k := by have h := HO.out.2.1; simp [overlaps] at h; omega
          have HVL := Lib.hid (show vs.length ≤ 1073741824 by omega); clear hvl
          go_wp2_with (at_builtin; refine wpList_append_one (w0 := w) rfl (.tmp 54) (.tmp 56) 44 rfl Try.underlying44 info_ints rfl (by decide) u5 vs rfl (by (repeat' (first | assumption | exact Below.refl _ _ | refine Ext.alloc' ?_ _ | refine Ext.drew' ?_ | refine Ext.drewN' ?_ _ | refine Ext.setCell' ?_ (by first | (simp; done) | (simp; omega)) _ | (refine Ext.trans ?_ (by assumption))))) ((HO.out.1.ext hEr).alloc _) HVL.out ⟨_, 0, none⟩ 1 _ rfl (by simp; rfl) rfl ?_; intro v' w4 hv4 hE4 hg4 hb4; have HV := Lib.hid hv4; have HG := Lib.hid hg4; have HB := Lib.hid hb4; clear hv4 hg4 hb4)
          go_roundw
          case rel =>
            refine ⟨k + 1, vs ++ [.slice (some ⟨w1.heap.size, 0, none⟩) Y.length Y.length], by omega, by go_num, ?_, hE4⟩
            have h := Own2.push (w := wr.alloc (.cells #[.slice (some ⟨w1.heap.size, 0, none⟩) Y.length Y.length] 28)) ((HO.out.ext hEr).ext (Ext.alloc _ _)) ((HW.out.mono hE.size).alloc _)
              (fun bb h1 h2 => by simp only [Value.ownBlock, Option.some.injEq] at h1; have := HO.out.1.lt h2; omega)
              (fun i hi bb h1 h2 => by simp only [Value.ownBlock, Option.some.injEq] at h1; have := (HO.out.2.2.1 i hi (by have h5 := HO.out.2.1; omega)).1.lt h2; omega) HV.out HG.out HB.out
            rw [htk.out, List.map_append]
            exact h
          case measure => simp [intOf]; omega
    · obtain rfl : k = X.length := by omega
      go_wp2
      go_ret
      refine ⟨_, vs, rfl, ?_, hE⟩
      have h := HO.out
      rw [List.take_length] at h
      exact h
end Go.Proofs.Ytgehpbikkcnecaa
