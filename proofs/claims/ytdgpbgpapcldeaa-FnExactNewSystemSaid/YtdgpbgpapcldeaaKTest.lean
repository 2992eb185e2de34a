/- The type Test: its datum, how it lies in memory, its copies, sizes and equality. -/
import Derived.Test.YtdgpbgpapcldeaaRows
import Derived.Test.YtdgpbgpapcldeaaDLib
set_option linter.unusedVariables false
set_option linter.unusedSimpArgs false
namespace Go.Proofs.Ytdgpbgpapcldeaa
open Go.RowKit Go.Er Go.BigFrame
structure DTest where
  feature : Int
  threshold : Int
  below : Bool
def TestR : Rel DTest := fun B w vs x => vs = [.int .i64 x.feature, .int .i64 x.threshold, .bool x.below]
theorem good_Test : GoodR TestR := ⟨fun _ h => h, fun _ h => h⟩
def SmallTest (x : DTest) : Prop := True

set_option maxHeartbeats 1600000 in
theorem toTest_any (x : DTest) (hs : SmallTest x) (vs : List Value) (w : World) (h : TestR 0 w vs x) :
    Calls Try.prog 166 #[.agg vs.toArray] w (Made TestR w x) := by
  obtain rfl := h
  have HS := Lib.hid hs; clear hs
  go_enter Try.func166, Try.ntmps166
  go_wp2_with fail
  refine bodyPost_ret (v := .agg #[.int .i64 x.feature, .int .i64 x.threshold, .bool x.below]) (by simp [results, Try.results166, go_sem]) rfl ?_
  refine ⟨[.int .i64 x.feature, .int .i64 x.threshold, .bool x.below], rfl, ?_, ?_⟩
  rotate_left
  · (repeat' (first | with_reducible assumption | with_reducible exact Below.refl _ _ | (with_reducible refine Ext.alloc' ?_ _) | (with_reducible refine Ext.drew' ?_) | (with_reducible refine Ext.drewN' ?_ _) | (with_reducible refine Ext.set_ ?_ (by first | omega | (simp; done) | (simp; omega)) _ _) | (refine Ext.trans ?_ (by with_reducible assumption))))
  exact rfl

set_option maxHeartbeats 800000 in
theorem eqTest_any (x : DTest) (us vs : List Value) (w : World) (ha : TestR 0 w us x) (hb : TestR 0 w vs x) :
    Calls Try.prog 167 #[.agg us.toArray, .agg vs.toArray] w (Yes w) := by
  obtain rfl := ha
  obtain rfl := hb
  go_enter Try.func167, Try.ntmps167
  go_wp2_with fail
  go_ret
  exact ⟨rfl, by (repeat' (first | with_reducible assumption | with_reducible exact Below.refl _ _ | (with_reducible refine Ext.alloc' ?_ _) | (with_reducible refine Ext.drew' ?_) | (with_reducible refine Ext.drewN' ?_ _) | (with_reducible refine Ext.set_ ?_ (by first | omega | (simp; done) | (simp; omega)) _ _) | (refine Ext.trans ?_ (by with_reducible assumption))))⟩

theorem info_TestS : (Try.prog.info? 107).map (fun i => (i.zero, i.size, i.bytes)) = some (some (.agg #[.int .i64 0, .int .i64 0, .bool false]), 3, 24) := by kernel_rfl

set_option maxHeartbeats 400000 in
theorem szTestS_any (l : List DTest) (left : Int) (h0 : 0 ≤ left) (h9 : left ≤ 1048576) (a : Option Addr) (cap B : Nat) (w : World) (h : RowR 3 TestR B w a l) :
    Calls Try.prog 154 #[.slice a l.length cap, .int .i64 left] w (Sized left (SmallL (fun y => SmallTest y) l) w) := by
  have hlen : (l.length : Int) ≤ 9223372036854775807 := by have := h.1; unfold maxLen at this; omega
  clear h
  by_cases hlt : (l.length : Int) ≤ left
  · go_enter Try.func154, Try.ntmps154
    go_wp2_with fail
    go_ret
    exact ⟨left - l.length, by go_num, by omega, by omega, fun _ => ⟨by omega, fun y _ => trivial⟩, Ext.refl _⟩
  · go_enter Try.func154, Try.ntmps154
    go_wp2_with fail
    go_ret
    exact ⟨-1, rfl, by omega, by omega, fun h => absurd h (by omega), Ext.refl _⟩

set_option maxHeartbeats 1600000 in
theorem toTestS_any (l : List DTest) (hs : SmallL (fun y => SmallTest y) l) (a : Option Addr) (cap : Nat) (w : World) (ha : RowR 3 TestR 0 w a l) :
    Calls Try.prog 155 #[.slice a l.length cap] w (MadeS 3 TestR w l) := by
  have hlen := hs.1
  have HA := Lib.hid ha; have HS := Lib.hid hs.2; clear ha hs
  go_enter Try.func155, Try.ntmps155
  go_wp2_with (at_make; refine wpList_make_row TestR l rfl _ _ 102 rfl Try.underlying102 info_TestS (by decide) .i64 .i64 rfl rfl hlen (Ext.refl _) ?_; intro w1 hF hE)
  have HF := Lib.hid hF; have HE := Lib.hid hE; clear hF hE
  go_loopw [4] (fun s4 wr => ∃ i : Nat, i ≤ l.length ∧ s4 = .int .i64 i ∧ Ext w wr ∧ Filled 3 TestR w.heap.size 107 l.length wr l i) (fun i _ => l.length - (intOf i).toNat)
  case atStart => exact ⟨0, Nat.zero_le _, rfl, HE.out, HF.out⟩
  case round =>
    obtain ⟨i, hi, rfl, hE1, hF1⟩ := hrel
    have HE1 := Lib.hid hE1; have HF1 := Lib.hid hF1; clear hE1 hF1
    by_cases hlt : i < l.length
    · obtain ⟨b, o, vs, rfl, _, _, hc, hR⟩ := (HA.out.ext good_Test HE1.out).2 i hlt
      have hsm := HS.out l[i] (List.getElem_mem hlt)
      obtain ⟨x, hx⟩ : ∃ x, x = l[i] := ⟨_, rfl⟩
      have HX := Lib.hid hx
      rw [← hx] at hR
      try rw [← hx] at hsm
      have HSM := Lib.hid hsm
      clear hx hsm
      obtain rfl := hR
      have q0 := hc 0 (by simp)
      have q1 := hc 1 (by simp)
      have q2 := hc 2 (by simp)
      simp only [List.getElem_cons_zero, List.getElem_cons_succ, Nat.mul_one, Nat.add_zero] at q0 q1 q2
      clear hc
      have hR : TestR 0 wr [.int .i64 x.feature, .int .i64 x.threshold, .bool x.below] x := rfl
      have HR := Lib.hid hR
      clear hR 
      go_wp2_with fail
      refine (toTest_any x HSM.out _ _ HR.out).mono ?_
      rintro e w2 ⟨us, rfl, hR2, hE2⟩
      have HF2 := Lib.hid (HF1.out.ext good_Test hE2)
      have HE2 := Lib.hid (HE1.out.trans hE2)
      have hR3 := good_Test.mono (B' := w.heap.size + 1) HF1.out.lt hR2
      obtain rfl := hR2
      have hst := HF2.out.step good_Test hlt (Nat.le_refl _) (us := [.int .i64 x.feature, .int .i64 x.threshold, .bool x.below]) rfl (HX.out ▸ hR3)
      have HST := Lib.hid hst
      clear hst hR3 hE2  q0 q1 q2
      obtain ⟨y0, hy0⟩ := HF2.out.cell (m := i * 3) (by omega); have hf0 := HF2.out.free (i * 3)
      obtain ⟨y1, hy1⟩ := HF2.out.cell (m := i * 3 + 1) (by omega); have hf1 := HF2.out.free (i * 3 + 1)
      obtain ⟨y2, hy2⟩ := HF2.out.cell (m := i * 3 + 2) (by omega); have hf2 := HF2.out.free (i * 3 + 2)
      go_wp2_with fail
      go_roundw
      case rel =>
        refine ⟨i + 1, by omega, by go_num, ?_, ?_⟩
        · have h := ext_setCells (N := w.heap.size) (Nat.le_refl _) [.int .i64 x.feature, .int .i64 x.threshold, .bool x.below] (i * 3) HE2.out
          simpa [setCells] using h
        · have h := HST.out
          simpa [setCells] using h
      case measure => (simp [intOf] <;> omega)
    · obtain rfl : i = l.length := by omega
      have hm : l.length ≤ maxLen := by unfold maxLen; omega
      have HD := Lib.hid (HF1.out.done good_Test hm)
      clear hm
      go_wp2_with fail
      go_ret
      exact ⟨_, _, rfl, HD.out, HE1.out⟩

set_option maxHeartbeats 1600000 in
theorem eqTestS_any (l : List DTest) (a1 a2 : Option Addr) (c1 c2 : Nat) (w : World) (h1 : RowR 3 TestR 0 w a1 l) (h2 : RowR 3 TestR 0 w a2 l) :
    Calls Try.prog 156 #[.slice a1 l.length c1, .slice a2 l.length c2] w (Yes w) := by
  have hlen : (l.length : Int) ≤ 9223372036854775807 := by have := h1.1; unfold maxLen at this; omega
  have HA := Lib.hid h1; have HB := Lib.hid h2
  clear h1 h2
  go_enter Try.func156, Try.ntmps156
  go_wp2_with fail
  go_loopw [5] (fun s5 wr => ∃ i : Nat, i ≤ l.length ∧ s5 = .int .i64 i ∧ Ext w wr) (fun i _ => l.length - (intOf i).toNat)
  case atStart => exact ⟨0, Nat.zero_le _, rfl, by (repeat' (first | with_reducible assumption | with_reducible exact Below.refl _ _ | (with_reducible refine Ext.alloc' ?_ _) | (with_reducible refine Ext.drew' ?_) | (with_reducible refine Ext.drewN' ?_ _) | (with_reducible refine Ext.set_ ?_ (by first | omega | (simp; done) | (simp; omega)) _ _) | (refine Ext.trans ?_ (by with_reducible assumption))))⟩
  case round =>
    obtain ⟨i, hi, rfl, hE1⟩ := hrel
    have HE1 := Lib.hid hE1; clear hE1
    by_cases hlt : i < l.length
    · obtain ⟨b1, o1, vs1, rfl, _, _, hc1, hR1⟩ := (HA.out.ext good_Test HE1.out).2 i hlt
      obtain ⟨b2, o2, vs2, rfl, _, _, hc2, hR2⟩ := (HB.out.ext good_Test HE1.out).2 i hlt
      obtain ⟨x, hx⟩ : ∃ x, x = l[i] := ⟨_, rfl⟩
      rw [← hx] at hR1 hR2
      clear hx
      obtain rfl := hR1
      obtain rfl := hR2
      have q0 := hc1 0 (by simp)
      have q1 := hc1 1 (by simp)
      have q2 := hc1 2 (by simp)
      simp only [List.getElem_cons_zero, List.getElem_cons_succ, Nat.mul_one, Nat.add_zero] at q0 q1 q2
      have t0 := hc2 0 (by simp)
      have t1 := hc2 1 (by simp)
      have t2 := hc2 2 (by simp)
      simp only [List.getElem_cons_zero, List.getElem_cons_succ, Nat.mul_one, Nat.add_zero] at t0 t1 t2
      clear hc1 hc2
      have HR1 : Hid (TestR 0 wr [.int .i64 x.feature, .int .i64 x.threshold, .bool x.below] x) := rfl
      have HR2 : Hid (TestR 0 wr [.int .i64 x.feature, .int .i64 x.threshold, .bool x.below] x) := rfl
      skip
      have hll : (i : Int) < l.length := by omega
      go_wp2_with fail
      refine wp_region_ext (by kernel_rfl) (by kernel_rfl) ?_
      repeat (first
        | go_big_quiet_skip
        | (go_big_quiet_want; go_big_quiet_op; first
            | go_big_quiet_on
            | (refine ⟨_, fun w' hw' => rfl, ?_⟩; go_big_quiet_on)
            | (refine ⟨.agg #[.int .i64 x.feature, .int .i64 x.threshold, .bool x.below], fun w' hw' => ?_, ?_⟩
               · have u0 := hw'.at q0; have u1 := hw'.at q1; have u2 := hw'.at q2
                 simp [go_sem, u0, u1, u2]; done
               go_big_quiet_on)
            | (refine ⟨.agg #[.int .i64 x.feature, .int .i64 x.threshold, .bool x.below], fun w' hw' => ?_, ?_⟩
               · have u0 := hw'.at t0; have u1 := hw'.at t1; have u2 := hw'.at t2
                 simp [go_sem, u0, u1, u2]; done
               go_big_quiet_on)
            | (refine ⟨.bool true, fun w' hw' => ((eqTest_any x [.int .i64 x.feature, .int .i64 x.threshold, .bool x.below] [.int .i64 x.feature, .int .i64 x.threshold, .bool x.below] w' (good_Test.ext HR1.out hw') (good_Test.ext HR2.out hw')).mono (fun e w'' h => ⟨h.1, hw'.trans h.2⟩)), ?_⟩; go_big_quiet_on)))
      refine wpQuiet_nil ?_
      intro w2 hE2
      have HE2 := Lib.hid (HE1.out.trans hE2)
      clear hE2 q0 t0 q1 t1 q2 t2
      go_wp2_with fail
      go_roundw
      case rel => exact ⟨i + 1, by omega, by go_num, HE2.out⟩
      case measure => (simp [intOf] <;> omega)
    · obtain rfl : i = l.length := by omega
      go_wp2_with fail
      go_ret
      exact ⟨rfl, HE1.out⟩
end Go.Proofs.Ytdgpbgpapcldeaa
