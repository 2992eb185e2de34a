/- Copies, sizes and equality of []int. -/
import Derived.Test.YtdgpbgpapcldeaaRows
import Derived.Test.YtdgpbgpapcldeaaDLib
set_option linter.unusedVariables false
set_option linter.unusedSimpArgs false
namespace Go.Proofs.Ytdgpbgpapcldeaa
open Go.RowKit Go.Er Go.BigFrame

theorem info_IntS : (Try.prog.info? 3).map (fun i => (i.zero, i.size, i.bytes)) = some (some (.int .i64 0), 1, 8) := by kernel_rfl

set_option maxHeartbeats 400000 in
theorem szIntS_any (l : List Int) (left : Int) (h0 : 0 ≤ left) (h9 : left ≤ 1048576) (a : Option Addr) (cap B : Nat) (w : World) (h : RowR 1 IntR B w a l) :
    Calls Try.prog 45 #[.slice a l.length cap, .int .i64 left] w (Sized left (SmallL (fun y => True) l) w) := by
  have hlen : (l.length : Int) ≤ 9223372036854775807 := by have := h.1; unfold maxLen at this; omega
  clear h
  by_cases hlt : (l.length : Int) ≤ left
  · go_enter Try.func45, Try.ntmps45
    go_wp2_with fail
    go_ret
    exact ⟨left - l.length, by go_num, by omega, by omega, fun _ => ⟨by omega, fun y _ => trivial⟩, Ext.refl _⟩
  · go_enter Try.func45, Try.ntmps45
    go_wp2_with fail
    go_ret
    exact ⟨-1, rfl, by omega, by omega, fun h => absurd h (by omega), Ext.refl _⟩

set_option maxHeartbeats 1600000 in
theorem toIntS_any (l : List Int) (hs : SmallL (fun y => True) l) (a : Option Addr) (cap : Nat) (w : World) (ha : RowR 1 IntR 0 w a l) :
    Calls Try.prog 50 #[.slice a l.length cap] w (MadeS 1 IntR w l) := by
  have hlen := hs.1
  have HA := Lib.hid ha; have HS := Lib.hid hs.2; clear ha hs
  go_enter Try.func50, Try.ntmps50
  go_wp2_with (at_make; refine wpList_make_row IntR l rfl _ _ 36 rfl Try.underlying36 info_IntS (by decide) .i64 .i64 rfl rfl hlen (Ext.refl _) ?_; intro w1 hF hE)
  have HF := Lib.hid hF; have HE := Lib.hid hE; clear hF hE
  go_loopw [4] (fun s4 wr => ∃ i : Nat, i ≤ l.length ∧ s4 = .int .i64 i ∧ Ext w wr ∧ Filled 1 IntR w.heap.size 3 l.length wr l i) (fun i _ => l.length - (intOf i).toNat)
  case atStart => exact ⟨0, Nat.zero_le _, rfl, HE.out, HF.out⟩
  case round =>
    obtain ⟨i, hi, rfl, hE1, hF1⟩ := hrel
    have HE1 := Lib.hid hE1; have HF1 := Lib.hid hF1; clear hE1 hF1
    by_cases hlt : i < l.length
    · obtain ⟨b, o, vs, rfl, _, _, hc, hR⟩ := (HA.out.ext good_int HE1.out).2 i hlt
      have hsm := HS.out l[i] (List.getElem_mem hlt)
      obtain ⟨x, hx⟩ : ∃ x, x = l[i] := ⟨_, rfl⟩
      have HX := Lib.hid hx
      rw [← hx] at hR
      try rw [← hx] at hsm
      have HSM := Lib.hid hsm
      clear hx hsm
      obtain rfl := hR
      have q0 := hc 0 (by simp)
      simp only [List.getElem_cons_zero, List.getElem_cons_succ, Nat.mul_one, Nat.add_zero] at q0
      clear hc
      have hR' : IntR (w.heap.size + 1) wr [.int .i64 x] x := rfl
      have hst := HF1.out.step good_int hlt (Nat.le_refl _) (us := [.int .i64 x]) rfl (HX.out ▸ hR')
      have HF2 := HF1
      have HST := Lib.hid hst
      clear hst hR'
      obtain ⟨y0, hy0⟩ := HF2.out.cell (m := i * 1) (by omega); have hf0 := HF2.out.free (i * 1)
      simp only [Nat.mul_one] at hy0 hf0
      go_wp2_with fail
      go_roundw
      case rel =>
        refine ⟨i + 1, by omega, by go_num, ?_, ?_⟩
        · have h := ext_setCells (N := w.heap.size) (Nat.le_refl _) [.int .i64 x] (i * 1) HE1.out
          simpa [setCells] using h
        · have h := HST.out
          simpa [setCells] using h
      case measure => (simp [intOf] <;> omega)
    · obtain rfl : i = l.length := by omega
      have hm : l.length ≤ maxLen := by unfold maxLen; omega
      have HD := Lib.hid (HF1.out.done good_int hm)
      clear hm
      go_wp2_with fail
      go_ret
      exact ⟨_, _, rfl, HD.out, HE1.out⟩

set_option maxHeartbeats 1600000 in
theorem eqIntS_any (l : List Int) (a1 a2 : Option Addr) (c1 c2 : Nat) (w : World) (h1 : RowR 1 IntR 0 w a1 l) (h2 : RowR 1 IntR 0 w a2 l) :
    Calls Try.prog 57 #[.slice a1 l.length c1, .slice a2 l.length c2] w (Yes w) := by
  have hlen : (l.length : Int) ≤ 9223372036854775807 := by have := h1.1; unfold maxLen at this; omega
  have HA := Lib.hid h1; have HB := Lib.hid h2
  clear h1 h2
  go_enter Try.func57, Try.ntmps57
  go_wp2_with fail
  go_loopw [5] (fun s5 wr => ∃ i : Nat, i ≤ l.length ∧ s5 = .int .i64 i ∧ Ext w wr) (fun i _ => l.length - (intOf i).toNat)
  case atStart => exact ⟨0, Nat.zero_le _, rfl, by (repeat' (first | with_reducible assumption | with_reducible exact Below.refl _ _ | (with_reducible refine Ext.alloc' ?_ _) | (with_reducible refine Ext.drew' ?_) | (with_reducible refine Ext.drewN' ?_ _) | (with_reducible refine Ext.set_ ?_ (by first | omega | (simp; done) | (simp; omega)) _ _) | (refine Ext.trans ?_ (by with_reducible assumption))))⟩
  case round =>
    obtain ⟨i, hi, rfl, hE1⟩ := hrel
    have HE1 := Lib.hid hE1; clear hE1
    by_cases hlt : i < l.length
    · obtain ⟨b1, o1, vs1, rfl, _, _, hc1, hR1⟩ := (HA.out.ext good_int HE1.out).2 i hlt
      obtain ⟨b2, o2, vs2, rfl, _, _, hc2, hR2⟩ := (HB.out.ext good_int HE1.out).2 i hlt
      obtain ⟨x, hx⟩ : ∃ x, x = l[i] := ⟨_, rfl⟩
      rw [← hx] at hR1 hR2
      clear hx
      obtain rfl := hR1
      obtain rfl := hR2
      have q0 := hc1 0 (by simp)
      simp only [List.getElem_cons_zero, List.getElem_cons_succ, Nat.mul_one, Nat.add_zero] at q0
      have t0 := hc2 0 (by simp)
      simp only [List.getElem_cons_zero, List.getElem_cons_succ, Nat.mul_one, Nat.add_zero] at t0
      clear hc1 hc2
      have hll : (i : Int) < l.length := by omega
      go_wp2_with fail
      go_quiet (fail)
      go_wp2_with fail
      go_roundw
      case rel => exact ⟨i + 1, by omega, by go_num, by have h := HE1.out; (repeat' (first | with_reducible assumption | with_reducible exact Below.refl _ _ | (with_reducible refine Ext.alloc' ?_ _) | (with_reducible refine Ext.drew' ?_) | (with_reducible refine Ext.drewN' ?_ _) | (with_reducible refine Ext.set_ ?_ (by first | omega | (simp; done) | (simp; omega)) _ _) | (refine Ext.trans ?_ (by with_reducible assumption))))⟩
      case measure => (simp [intOf] <;> omega)
    · obtain rfl : i = l.length := by omega
      go_wp2_with fail
      go_ret
      exact ⟨rfl, HE1.out⟩
end Go.Proofs.Ytdgpbgpapcldeaa
