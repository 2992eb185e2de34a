/- Copies, sizes and equality of []string. -/
import Derived.Test.YtdgpbgpapcldeaaRows
import Derived.Test.YtdgpbgpapcldeaaDLib
set_option linter.unusedVariables false
set_option linter.unusedSimpArgs false
namespace Go.Proofs.Ytdgpbgpapcldeaa
open Go.RowKit Go.Er Go.BigFrame

theorem info_StringS : (Try.prog.info? 9).map (fun i => (i.zero, i.size, i.bytes)) = some (some (.string ⟨#[]⟩), 1, 16) := by kernel_rfl

set_option maxHeartbeats 800000 in
theorem szStringS_any (l : List ByteArray) (left : Int) (h0 : 0 ≤ left) (h9 : left ≤ 1048576) (a : Option Addr) (cap B : Nat) (w : World) (h : RowR 1 StrR B w a l) :
    Calls Try.prog 158 #[.slice a l.length cap, .int .i64 left] w (Sized left (SmallL (fun y => True) l) w) := by
  have hlen : (l.length : Int) ≤ 9223372036854775807 := by have := h.1; unfold maxLen at this; omega
  have HA := Lib.hid h
  clear h
  by_cases hlt : (l.length : Int) ≤ left
  · go_enter Try.func158, Try.ntmps158
    go_wp2_with fail
    go_loopw [1, 5] (fun s1 s5 wr => ∃ (i : Nat) (v : Int), i ≤ l.length ∧ s5 = .int .i64 i ∧ s1 = .int .i64 v ∧ 0 ≤ v ∧ v ≤ left ∧ (∀ x ∈ l.take i, (fun y => True) x) ∧ Ext w wr) (fun _ i _ => l.length - (intOf i).toNat)
    case atStart => exact ⟨0, left - l.length, Nat.zero_le _, rfl, by go_num, by omega, by omega, fun x hx => by simp at hx, Ext.refl _⟩
    case round =>
    obtain ⟨i, v, hi, rfl, rfl, hv0, hv9, hs1, hE1⟩ := hrel
    have HS1 := Lib.hid hs1; have HE1 := Lib.hid hE1; clear hs1 hE1
    by_cases hlt : i < l.length
    · skip
      obtain ⟨b, o, vs, rfl, _, _, hc, hR⟩ := (HA.out.ext good_str HE1.out).2 i hlt
      obtain ⟨x, hx⟩ : ∃ x, x = l[i] := ⟨_, rfl⟩
      have HX := Lib.hid hx
      rw [← hx] at hR
      clear hx
      obtain ⟨rfl, hz⟩ := hR
      have q0 := hc 0 (by simp)
      simp only [List.getElem_cons_zero, List.getElem_cons_succ, Nat.mul_one, Nat.add_zero] at q0
      clear hc
      have hzz : (x.size : Int) ≤ 9223372036854775807 := by unfold maxLen at hz; omega
      by_cases hn : v - x.size < 0
      · go_wp2_with fail
        go_ret
        exact ⟨-1, rfl, by omega, by omega, fun h => absurd h (by omega), HE1.out⟩
      · go_wp2_with fail
        go_roundw
        case rel => exact ⟨i + 1, v - x.size, by omega, by go_num, by go_num, by omega, by omega, small_step hlt HS1.out trivial, HE1.out⟩
        case measure => (simp [intOf] <;> omega)
    · obtain rfl : i = l.length := by omega
      go_wp2_with fail
      go_ret
      exact ⟨v, rfl, by omega, by omega, fun _ => ⟨by omega, by have h := HS1.out; rw [List.take_length] at h; exact h⟩, HE1.out⟩
  · go_enter Try.func158, Try.ntmps158
    go_wp2_with fail
    go_ret
    exact ⟨-1, rfl, by omega, by omega, fun h => absurd h (by omega), Ext.refl _⟩

set_option maxHeartbeats 1600000 in
theorem toStringS_any (l : List ByteArray) (hs : SmallL (fun y => True) l) (a : Option Addr) (cap : Nat) (w : World) (ha : RowR 1 StrR 0 w a l) :
    Calls Try.prog 159 #[.slice a l.length cap] w (MadeS 1 StrR w l) := by
  have hlen := hs.1
  have HA := Lib.hid ha; have HS := Lib.hid hs.2; clear ha hs
  go_enter Try.func159, Try.ntmps159
  go_wp2_with (at_make; refine wpList_make_row StrR l rfl _ _ 86 rfl Try.underlying86 info_StringS (by decide) .i64 .i64 rfl rfl hlen (Ext.refl _) ?_; intro w1 hF hE)
  have HF := Lib.hid hF; have HE := Lib.hid hE; clear hF hE
  go_loopw [4] (fun s4 wr => ∃ i : Nat, i ≤ l.length ∧ s4 = .int .i64 i ∧ Ext w wr ∧ Filled 1 StrR w.heap.size 9 l.length wr l i) (fun i _ => l.length - (intOf i).toNat)
  case atStart => exact ⟨0, Nat.zero_le _, rfl, HE.out, HF.out⟩
  case round =>
    obtain ⟨i, hi, rfl, hE1, hF1⟩ := hrel
    have HE1 := Lib.hid hE1; have HF1 := Lib.hid hF1; clear hE1 hF1
    by_cases hlt : i < l.length
    · obtain ⟨b, o, vs, rfl, _, _, hc, hR⟩ := (HA.out.ext good_str HE1.out).2 i hlt
      have hsm := HS.out l[i] (List.getElem_mem hlt)
      obtain ⟨x, hx⟩ : ∃ x, x = l[i] := ⟨_, rfl⟩
      have HX := Lib.hid hx
      rw [← hx] at hR
      try rw [← hx] at hsm
      have HSM := Lib.hid hsm
      clear hx hsm
      obtain ⟨rfl, hz⟩ := hR
      have q0 := hc 0 (by simp)
      simp only [List.getElem_cons_zero, List.getElem_cons_succ, Nat.mul_one, Nat.add_zero] at q0
      clear hc
      have hR' : StrR (w.heap.size + 1) wr [.string x] x := ⟨rfl, hz⟩
      have hst := HF1.out.step good_str hlt (Nat.le_refl _) (us := [.string x]) rfl (HX.out ▸ hR')
      have HF2 := HF1
      have HST := Lib.hid hst
      clear hst hR'
      obtain ⟨y0, hy0⟩ := HF2.out.cell (m := i * 1) (by omega); have hf0 := HF2.out.free (i * 1)
      simp only [Nat.mul_one] at hy0 hf0
      go_wp2_with fail
      go_roundw
      case rel =>
        refine ⟨i + 1, by omega, by go_num, ?_, ?_⟩
        · have h := ext_setCells (N := w.heap.size) (Nat.le_refl _) [.string x] (i * 1) HE1.out
          simpa [setCells] using h
        · have h := HST.out
          simpa [setCells] using h
      case measure => (simp [intOf] <;> omega)
    · obtain rfl : i = l.length := by omega
      have hm : l.length ≤ maxLen := by unfold maxLen; omega
      have HD := Lib.hid (HF1.out.done good_str hm)
      clear hm
      go_wp2_with fail
      go_ret
      exact ⟨_, _, rfl, HD.out, HE1.out⟩

set_option maxHeartbeats 1600000 in
theorem eqStringS_any (l : List ByteArray) (a1 a2 : Option Addr) (c1 c2 : Nat) (w : World) (h1 : RowR 1 StrR 0 w a1 l) (h2 : RowR 1 StrR 0 w a2 l) :
    Calls Try.prog 164 #[.slice a1 l.length c1, .slice a2 l.length c2] w (Yes w) := by
  have hlen : (l.length : Int) ≤ 9223372036854775807 := by have := h1.1; unfold maxLen at this; omega
  have HA := Lib.hid h1; have HB := Lib.hid h2
  clear h1 h2
  go_enter Try.func164, Try.ntmps164
  go_wp2_with fail
  go_loopw [5] (fun s5 wr => ∃ i : Nat, i ≤ l.length ∧ s5 = .int .i64 i ∧ Ext w wr) (fun i _ => l.length - (intOf i).toNat)
  case atStart => exact ⟨0, Nat.zero_le _, rfl, by (repeat' (first | with_reducible assumption | with_reducible exact Below.refl _ _ | (with_reducible refine Ext.alloc' ?_ _) | (with_reducible refine Ext.drew' ?_) | (with_reducible refine Ext.drewN' ?_ _) | (with_reducible refine Ext.set_ ?_ (by first | omega | (simp; done) | (simp; omega)) _ _) | (refine Ext.trans ?_ (by with_reducible assumption))))⟩
  case round =>
    obtain ⟨i, hi, rfl, hE1⟩ := hrel
    have HE1 := Lib.hid hE1; clear hE1
    by_cases hlt : i < l.length
    · obtain ⟨b1, o1, vs1, rfl, _, _, hc1, hR1⟩ := (HA.out.ext good_str HE1.out).2 i hlt
      obtain ⟨b2, o2, vs2, rfl, _, _, hc2, hR2⟩ := (HB.out.ext good_str HE1.out).2 i hlt
      obtain ⟨x, hx⟩ : ∃ x, x = l[i] := ⟨_, rfl⟩
      rw [← hx] at hR1 hR2
      clear hx
      obtain ⟨rfl, hz1⟩ := hR1
      obtain ⟨rfl, hz2⟩ := hR2
      have q0 := hc1 0 (by simp)
      simp only [List.getElem_cons_zero, List.getElem_cons_succ, Nat.mul_one, Nat.add_zero] at q0
      have t0 := hc2 0 (by simp)
      simp only [List.getElem_cons_zero, List.getElem_cons_succ, Nat.mul_one, Nat.add_zero] at t0
      clear hc1 hc2
      have hll : (i : Int) < l.length := by omega
      go_wp2_with fail
      go_quiet (fail)
      go_wp2_with fail
      go_roundw
      case rel => exact ⟨i + 1, by omega, by go_num, by have h := HE1.out; (repeat' (first | with_reducible assumption | with_reducible exact Below.refl _ _ | (with_reducible refine Ext.alloc' ?_ _) | (with_reducible refine Ext.drew' ?_) | (with_reducible refine Ext.drewN' ?_ _) | (with_reducible refine Ext.set_ ?_ (by first | omega | (simp; done) | (simp; omega)) _ _) | (refine Ext.trans ?_ (by with_reducible assumption))))⟩
      case measure => (simp [intOf] <;> omega)
    · obtain rfl : i = l.length := by omega
      go_wp2_with fail
      go_ret
      exact ⟨rfl, HE1.out⟩
end Go.Proofs.Ytdgpbgpapcldeaa
