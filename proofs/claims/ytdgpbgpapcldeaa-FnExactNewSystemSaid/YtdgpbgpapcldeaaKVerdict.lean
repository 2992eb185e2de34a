/- The type Verdict: its datum, how it lies in memory, its copies, sizes and equality. -/
import Derived.Test.YtdgpbgpapcldeaaRows
import Derived.Test.YtdgpbgpapcldeaaDLib
set_option linter.unusedVariables false
set_option linter.unusedSimpArgs false
namespace Go.Proofs.Ytdgpbgpapcldeaa
open Go.RowKit Go.Er Go.BigFrame
structure DVerdict where
  a : Int
  b : Int
  same : Bool
  time : Int
def VerdictR : Rel DVerdict := fun B w vs x => vs = [.int .i64 x.a, .int .i64 x.b, .bool x.same, .int .i64 x.time]
theorem good_Verdict : GoodR VerdictR := ⟨fun _ h => h, fun _ h => h⟩
def SmallVerdict (x : DVerdict) : Prop := True

set_option maxHeartbeats 1600000 in
theorem toVerdict_any (x : DVerdict) (hs : SmallVerdict x) (vs : List Value) (w : World) (h : VerdictR 0 w vs x) :
    Calls Try.prog 13 #[.agg vs.toArray] w (Made VerdictR w x) := by
  obtain rfl := h
  have HS := Lib.hid hs; clear hs
  go_enter Try.func13, Try.ntmps13
  go_wp2_with fail
  refine bodyPost_ret (v := .agg #[.int .i64 x.a, .int .i64 x.b, .bool x.same, .int .i64 x.time]) (by simp [results, Try.results13, go_sem]) rfl ?_
  refine ⟨[.int .i64 x.a, .int .i64 x.b, .bool x.same, .int .i64 x.time], rfl, ?_, ?_⟩
  rotate_left
  · (repeat' (first | with_reducible assumption | with_reducible exact Below.refl _ _ | (with_reducible refine Ext.alloc' ?_ _) | (with_reducible refine Ext.drew' ?_) | (with_reducible refine Ext.drewN' ?_ _) | (with_reducible refine Ext.set_ ?_ (by first | omega | (simp; done) | (simp; omega)) _ _) | (refine Ext.trans ?_ (by with_reducible assumption))))
  exact rfl

set_option maxHeartbeats 800000 in
theorem eqVerdict_any (x : DVerdict) (us vs : List Value) (w : World) (ha : VerdictR 0 w us x) (hb : VerdictR 0 w vs x) :
    Calls Try.prog 127 #[.agg us.toArray, .agg vs.toArray] w (Yes w) := by
  obtain rfl := ha
  obtain rfl := hb
  go_enter Try.func127, Try.ntmps127
  go_wp2_with fail
  go_ret
  exact ⟨rfl, by (repeat' (first | with_reducible assumption | with_reducible exact Below.refl _ _ | (with_reducible refine Ext.alloc' ?_ _) | (with_reducible refine Ext.drew' ?_) | (with_reducible refine Ext.drewN' ?_ _) | (with_reducible refine Ext.set_ ?_ (by first | omega | (simp; done) | (simp; omega)) _ _) | (refine Ext.trans ?_ (by with_reducible assumption))))⟩

theorem info_VerdictS : (Try.prog.info? 29).map (fun i => (i.zero, i.size, i.bytes)) = some (some (.agg #[.int .i64 0, .int .i64 0, .bool false, .int .i64 0]), 4, 32) := by kernel_rfl

set_option maxHeartbeats 400000 in
theorem szVerdictS_any (l : List DVerdict) (left : Int) (h0 : 0 ≤ left) (h9 : left ≤ 1048576) (a : Option Addr) (cap B : Nat) (w : World) (h : RowR 4 VerdictR B w a l) :
    Calls Try.prog 74 #[.slice a l.length cap, .int .i64 left] w (Sized left (SmallL (fun y => SmallVerdict y) l) w) := by
  have hlen : (l.length : Int) ≤ 9223372036854775807 := by have := h.1; unfold maxLen at this; omega
  clear h
  by_cases hlt : (l.length : Int) ≤ left
  · go_enter Try.func74, Try.ntmps74
    go_wp2_with fail
    go_ret
    exact ⟨left - l.length, by go_num, by omega, by omega, fun _ => ⟨by omega, fun y _ => trivial⟩, Ext.refl _⟩
  · go_enter Try.func74, Try.ntmps74
    go_wp2_with fail
    go_ret
    exact ⟨-1, rfl, by omega, by omega, fun h => absurd h (by omega), Ext.refl _⟩

set_option maxHeartbeats 1600000 in
theorem toVerdictS_any (l : List DVerdict) (hs : SmallL (fun y => SmallVerdict y) l) (a : Option Addr) (cap : Nat) (w : World) (ha : RowR 4 VerdictR 0 w a l) :
    Calls Try.prog 79 #[.slice a l.length cap] w (MadeS 4 VerdictR w l) := by
  have hlen := hs.1
  have HA := Lib.hid ha; have HS := Lib.hid hs.2; clear ha hs
  go_enter Try.func79, Try.ntmps79
  go_wp2_with (at_make; refine wpList_make_row VerdictR l rfl _ _ 67 rfl Try.underlying67 info_VerdictS (by decide) .i64 .i64 rfl rfl hlen (Ext.refl _) ?_; intro w1 hF hE)
  have HF := Lib.hid hF; have HE := Lib.hid hE; clear hF hE
  go_loopw [4] (fun s4 wr => ∃ i : Nat, i ≤ l.length ∧ s4 = .int .i64 i ∧ Ext w wr ∧ Filled 4 VerdictR w.heap.size 29 l.length wr l i) (fun i _ => l.length - (intOf i).toNat)
  case atStart => exact ⟨0, Nat.zero_le _, rfl, HE.out, HF.out⟩
  case round =>
    obtain ⟨i, hi, rfl, hE1, hF1⟩ := hrel
    have HE1 := Lib.hid hE1; have HF1 := Lib.hid hF1; clear hE1 hF1
    by_cases hlt : i < l.length
    · obtain ⟨b, o, vs, rfl, _, _, hc, hR⟩ := (HA.out.ext good_Verdict HE1.out).2 i hlt
      have hsm := HS.out l[i] (List.getElem_mem hlt)
      obtain ⟨x, hx⟩ : ∃ x, x = l[i] := ⟨_, rfl⟩
      have HX := Lib.hid hx
      rw [← hx] at hR
      try rw [← hx] at hsm
      have HSM := Lib.hid hsm
      clear hx hsm
      obtain rfl := hR
      have q0 := hc 0 (by simp)
      have q1 := hc 1 (by simp)
      have q2 := hc 2 (by simp)
      have q3 := hc 3 (by simp)
      simp only [List.getElem_cons_zero, List.getElem_cons_succ, Nat.mul_one, Nat.add_zero] at q0 q1 q2 q3
      clear hc
      have hR : VerdictR 0 wr [.int .i64 x.a, .int .i64 x.b, .bool x.same, .int .i64 x.time] x := rfl
      have HR := Lib.hid hR
      clear hR 
      go_wp2_with fail
      refine (toVerdict_any x HSM.out _ _ HR.out).mono ?_
      rintro e w2 ⟨us, rfl, hR2, hE2⟩
      have HF2 := Lib.hid (HF1.out.ext good_Verdict hE2)
      have HE2 := Lib.hid (HE1.out.trans hE2)
      have hR3 := good_Verdict.mono (B' := w.heap.size + 1) HF1.out.lt hR2
      obtain rfl := hR2
      have hst := HF2.out.step good_Verdict hlt (Nat.le_refl _) (us := [.int .i64 x.a, .int .i64 x.b, .bool x.same, .int .i64 x.time]) rfl (HX.out ▸ hR3)
      have HST := Lib.hid hst
      clear hst hR3 hE2  q0 q1 q2 q3
      obtain ⟨y0, hy0⟩ := HF2.out.cell (m := i * 4) (by omega); have hf0 := HF2.out.free (i * 4)
      obtain ⟨y1, hy1⟩ := HF2.out.cell (m := i * 4 + 1) (by omega); have hf1 := HF2.out.free (i * 4 + 1)
      obtain ⟨y2, hy2⟩ := HF2.out.cell (m := i * 4 + 2) (by omega); have hf2 := HF2.out.free (i * 4 + 2)
      obtain ⟨y3, hy3⟩ := HF2.out.cell (m := i * 4 + 3) (by omega); have hf3 := HF2.out.free (i * 4 + 3)
      go_wp2_with fail
      go_roundw
      case rel =>
        refine ⟨i + 1, by omega, by go_num, ?_, ?_⟩
        · have h := ext_setCells (N := w.heap.size) (Nat.le_refl _) [.int .i64 x.a, .int .i64 x.b, .bool x.same, .int .i64 x.time] (i * 4) HE2.out
          simpa [setCells] using h
        · have h := HST.out
          simpa [setCells] using h
      case measure => (simp [intOf] <;> omega)
    · obtain rfl : i = l.length := by omega
      have hm : l.length ≤ maxLen := by unfold maxLen; omega
      have HD := Lib.hid (HF1.out.done good_Verdict hm)
      clear hm
      go_wp2_with fail
      go_ret
      exact ⟨_, _, rfl, HD.out, HE1.out⟩

set_option maxHeartbeats 1600000 in
theorem eqVerdictS_any (l : List DVerdict) (a1 a2 : Option Addr) (c1 c2 : Nat) (w : World) (h1 : RowR 4 VerdictR 0 w a1 l) (h2 : RowR 4 VerdictR 0 w a2 l) :
    Calls Try.prog 85 #[.slice a1 l.length c1, .slice a2 l.length c2] w (Yes w) := by
  have hlen : (l.length : Int) ≤ 9223372036854775807 := by have := h1.1; unfold maxLen at this; omega
  have HA := Lib.hid h1; have HB := Lib.hid h2
  clear h1 h2
  go_enter Try.func85, Try.ntmps85
  go_wp2_with fail
  go_loopw [5] (fun s5 wr => ∃ i : Nat, i ≤ l.length ∧ s5 = .int .i64 i ∧ Ext w wr) (fun i _ => l.length - (intOf i).toNat)
  case atStart => exact ⟨0, Nat.zero_le _, rfl, by (repeat' (first | with_reducible assumption | with_reducible exact Below.refl _ _ | (with_reducible refine Ext.alloc' ?_ _) | (with_reducible refine Ext.drew' ?_) | (with_reducible refine Ext.drewN' ?_ _) | (with_reducible refine Ext.set_ ?_ (by first | omega | (simp; done) | (simp; omega)) _ _) | (refine Ext.trans ?_ (by with_reducible assumption))))⟩
  case round =>
    obtain ⟨i, hi, rfl, hE1⟩ := hrel
    have HE1 := Lib.hid hE1; clear hE1
    by_cases hlt : i < l.length
    · obtain ⟨b1, o1, vs1, rfl, _, _, hc1, hR1⟩ := (HA.out.ext good_Verdict HE1.out).2 i hlt
      obtain ⟨b2, o2, vs2, rfl, _, _, hc2, hR2⟩ := (HB.out.ext good_Verdict HE1.out).2 i hlt
      obtain ⟨x, hx⟩ : ∃ x, x = l[i] := ⟨_, rfl⟩
      rw [← hx] at hR1 hR2
      clear hx
      obtain rfl := hR1
      obtain rfl := hR2
      have q0 := hc1 0 (by simp)
      have q1 := hc1 1 (by simp)
      have q2 := hc1 2 (by simp)
      have q3 := hc1 3 (by simp)
      simp only [List.getElem_cons_zero, List.getElem_cons_succ, Nat.mul_one, Nat.add_zero] at q0 q1 q2 q3
      have t0 := hc2 0 (by simp)
      have t1 := hc2 1 (by simp)
      have t2 := hc2 2 (by simp)
      have t3 := hc2 3 (by simp)
      simp only [List.getElem_cons_zero, List.getElem_cons_succ, Nat.mul_one, Nat.add_zero] at t0 t1 t2 t3
      clear hc1 hc2
      have HR1 : Hid (VerdictR 0 wr [.int .i64 x.a, .int .i64 x.b, .bool x.same, .int .i64 x.time] x) := rfl
      have HR2 : Hid (VerdictR 0 wr [.int .i64 x.a, .int .i64 x.b, .bool x.same, .int .i64 x.time] x) := rfl
      skip
      have hll : (i : Int) < l.length := by omega
      go_wp2_with fail
      refine wp_region_ext (by kernel_rfl) (by kernel_rfl) ?_
      repeat (first
        | go_big_quiet_skip
        | (go_big_quiet_want; go_big_quiet_op; first
            | go_big_quiet_on
            | (refine ⟨_, fun w' hw' => rfl, ?_⟩; go_big_quiet_on)
            | (refine ⟨.agg #[.int .i64 x.a, .int .i64 x.b, .bool x.same, .int .i64 x.time], fun w' hw' => ?_, ?_⟩
               · have u0 := hw'.at q0; have u1 := hw'.at q1; have u2 := hw'.at q2; have u3 := hw'.at q3
                 simp [go_sem, u0, u1, u2, u3]; done
               go_big_quiet_on)
            | (refine ⟨.agg #[.int .i64 x.a, .int .i64 x.b, .bool x.same, .int .i64 x.time], fun w' hw' => ?_, ?_⟩
               · have u0 := hw'.at t0; have u1 := hw'.at t1; have u2 := hw'.at t2; have u3 := hw'.at t3
                 simp [go_sem, u0, u1, u2, u3]; done
               go_big_quiet_on)
            | (refine ⟨.bool true, fun w' hw' => ((eqVerdict_any x [.int .i64 x.a, .int .i64 x.b, .bool x.same, .int .i64 x.time] [.int .i64 x.a, .int .i64 x.b, .bool x.same, .int .i64 x.time] w' (good_Verdict.ext HR1.out hw') (good_Verdict.ext HR2.out hw')).mono (fun e w'' h => ⟨h.1, hw'.trans h.2⟩)), ?_⟩; go_big_quiet_on)))
      refine wpQuiet_nil ?_
      intro w2 hE2
      have HE2 := Lib.hid (HE1.out.trans hE2)
      clear hE2 q0 t0 q1 t1 q2 t2 q3 t3
      go_wp2_with fail
      go_roundw
      case rel => exact ⟨i + 1, by omega, by go_num, HE2.out⟩
      case measure => (simp [intOf] <;> omega)
    · obtain rfl : i = l.length := by omega
      go_wp2_with fail
      go_ret
      exact ⟨rfl, HE1.out⟩
end Go.Proofs.Ytdgpbgpapcldeaa
