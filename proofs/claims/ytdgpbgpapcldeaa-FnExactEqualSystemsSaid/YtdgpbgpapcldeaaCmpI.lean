/- Comparisons of integers, strings, lists of strings: zero just where the two are equal. -/
import Derived.Test.YtdgpbgpapcldeaaRows
import Derived.Test.YtdgpbgpapcldeaaKStringS
import Derived.Laws.Cover1
import Derived.Sort.Walk0
set_option linter.unusedVariables false
set_option linter.unusedSimpArgs false
namespace Go.Proofs.Ytdgpbgpapcldeaa
open Go.RowKit Go.Er Go.BigFrame

/-- The call gives a number that is 0 just where p holds; no memory is touched. -/
def Zero0 (p : Prop) (w : World) (e : Ending) (w' : World) : Prop := ∃ n : Int, e = .returned (.int .i64 n) ∧ (n = 0 ↔ p) ∧ w' = w
/-- .. nothing old has changed. -/
def ZeroE (p : Prop) (w : World) (e : Ending) (w' : World) : Prop := ∃ n : Int, e = .returned (.int .i64 n) ∧ (n = 0 ↔ p) ∧ Ext w w'

theorem cmpInt_any (x y : Int) (w : World) : Calls Try.prog 162 #[.int .i64 x, .int .i64 y] w (Zero0 (x = y) w) := by
  by_cases h1 : x < y
  · go_enter Try.func162, Try.ntmps162
    go_wp2
    go_ret
    exact (⟨-1, rfl, by omega, rfl⟩ : Zero0 (x = y) w _ _)
  · by_cases h2 : y < x
    · go_enter Try.func162, Try.ntmps162
      go_wp2
      go_ret
      exact (⟨1, rfl, by omega, rfl⟩ : Zero0 (x = y) w _ _)
    · go_enter Try.func162, Try.ntmps162
      go_wp2
      go_ret
      exact (⟨0, rfl, by omega, rfl⟩ : Zero0 (x = y) w _ _)

theorem less_irrefl (l : List UInt8) : Op.bytesLess l l = false := by
  induction l with
  | nil => rfl
  | cons a x ih => simp [Op.bytesLess, ih]
theorem toList_inj {x y : ByteArray} (h : x.toList = y.toList) : x = y := by
  rw [Lib.toList_data, Lib.toList_data] at h
  cases x; cases y
  simp only at h
  congr 1
  exact Array.ext' h
/-- Three ways in which two strings may stand. -/
theorem str_cases (x y : ByteArray) : (x = y ∧ Op.bytesLess x.toList y.toList = false ∧ (x.toList == y.toList) = true) ∨ (¬ x = y ∧ Op.bytesLess x.toList y.toList = true ∧ (x.toList == y.toList) = false) ∨
    (¬ x = y ∧ Op.bytesLess x.toList y.toList = false ∧ (x.toList == y.toList) = false) := by
  by_cases h : x = y
  · subst h
    exact .inl ⟨rfl, less_irrefl _, by simp⟩
  · have h2 : (x.toList == y.toList) = false := by simpa using fun e => h (toList_inj e)
    cases h3 : Op.bytesLess x.toList y.toList
    · exact .inr (.inr ⟨h, rfl, h2⟩)
    · exact .inr (.inl ⟨h, rfl, h2⟩)

theorem cmpStr_any (x y : ByteArray) (w : World) : Calls Try.prog 169 #[.string x, .string y] w (Zero0 (x = y) w) := by
  rcases str_cases x y with ⟨h1, h2, h3⟩ | ⟨h1, h2, h3⟩ | ⟨h1, h2, h3⟩
  · have H1 := Lib.hid h1; clear h1
    go_enter Try.func169, Try.ntmps169
    go_wp2
    go_ret
    exact (⟨0, rfl, ⟨fun _ => H1.out, fun _ => rfl⟩, rfl⟩ : Zero0 (x = y) w _ _)
  · have H1 := Lib.hid h1; clear h1
    go_enter Try.func169, Try.ntmps169
    go_wp2
    go_ret
    exact (⟨-1, rfl, ⟨fun h => by omega, fun h => absurd h H1.out⟩, rfl⟩ : Zero0 (x = y) w _ _)
  · have H1 := Lib.hid h1; clear h1
    go_enter Try.func169, Try.ntmps169
    go_wp2
    go_ret
    exact (⟨1, rfl, ⟨fun h => by omega, fun h => absurd h H1.out⟩, rfl⟩ : Zero0 (x = y) w _ _)

set_option maxHeartbeats 800000 in
theorem cmpOr_any (l : List Int) (a : Option Addr) (c : Nat) (w : World) (h : RowR 1 IntR 0 w a l) :
    Calls Try.prog 160 #[.slice a l.length c] w (ZeroE (∀ x ∈ l, x = 0) w) := by
  have hl : (l.length : Int) ≤ 9223372036854775807 := by have := h.1; unfold maxLen at this; omega
  have HA := Lib.hid h; clear h
  go_enter Try.func160, Try.ntmps160
  go_wp2_with fail
  go_loopw [8] (fun s8 wr => ∃ k : Nat, k ≤ l.length ∧ s8 = .int .i64 k ∧ Ext w wr ∧ Hid (∀ x ∈ l.take k, x = 0)) (fun i _ => l.length - (intOf i).toNat)
  case atStart => exact ⟨0, Nat.zero_le _, rfl, Ext.refl _, fun x hx => by simp at hx⟩
  case round =>
    obtain ⟨k, hk, rfl, hE, hR⟩ := hrel
    have HE := Lib.hid hE; clear hE
    by_cases hlt : k < l.length
    · obtain ⟨b, o, vs, rfl, _, _, hc, hR1⟩ := (HA.out.ext good_int HE.out).2 k hlt
      obtain ⟨x, hx⟩ : ∃ x, x = l[k] := ⟨_, rfl⟩
      have HX := Lib.hid hx
      rw [← hx] at hR1
      obtain rfl := hR1
      clear hx
      have q0 := hc 0 (by simp)
      simp only [List.getElem_cons_zero, List.getElem_cons_succ, Nat.mul_one, Nat.add_zero] at q0
      clear hc
      by_cases h0 : x = 0
      · have hxx : (x != 0) = false := by simp [h0]
        have H0 := Lib.hid h0; clear h0
        go_wp2_with fail
        go_roundw
        case rel => exact ⟨k + 1, by omega, by go_num, HE.out, small_step hlt hR.out (HX.out ▸ H0.out)⟩
        case measure => (simp [intOf] <;> omega)
      · have hxx : (x != 0) = true := by simpa using h0
        have H0 := Lib.hid h0; clear h0
        go_wp2_with fail
        go_ret
        exact (⟨x, rfl, ⟨fun h => absurd h H0.out, fun h => absurd (h x (HX.out ▸ List.getElem_mem hlt)) H0.out⟩, HE.out⟩ : ZeroE (∀ x ∈ l, x = 0) w _ _)
    · obtain rfl : k = l.length := by omega
      have HR := Lib.hid (show ∀ x ∈ l, x = 0 by have h := hR.out; rw [List.take_length] at h; exact h)
      clear hR
      go_wp2_with fail
      go_ret
      exact (⟨0, rfl, ⟨fun _ => HR.out, fun _ => rfl⟩, HE.out⟩ : ZeroE (∀ x ∈ l, x = 0) w _ _)

theorem take_step {α : Type} {l m : List α} {k : Nat} (h1 : k < l.length) (h2 : k < m.length) (h : l.take k = m.take k) (he : l[k] = m[k]) : l.take (k + 1) = m.take (k + 1) := by
  rw [List.take_succ_eq_append_getElem h1, List.take_succ_eq_append_getElem h2, h, he]
set_option maxHeartbeats 1600000 in
theorem cmpStrs_any (l m : List ByteArray) (a1 a2 : Option Addr) (c1 c2 : Nat) (w : World) (h1 : RowR 1 StrR 0 w a1 l) (h2 : RowR 1 StrR 0 w a2 m) :
    Calls Try.prog 163 #[.slice a1 l.length c1, .slice a2 m.length c2] w (ZeroE (l = m) w) := by
  have hl : (l.length : Int) ≤ 9223372036854775807 := by have := h1.1; unfold maxLen at this; omega
  have hm : (m.length : Int) ≤ 9223372036854775807 := by have := h2.1; unfold maxLen at this; omega
  have HA := Lib.hid h1; have HB := Lib.hid h2; clear h1 h2
  go_enter Try.func163, Try.ntmps163
  go_wp2_with fail
  go_loopw [11] (fun s8 wr => ∃ k : Nat, k ≤ l.length ∧ k ≤ m.length ∧ s8 = .int .i64 k ∧ Ext w wr ∧ Hid (l.take k = m.take k)) (fun i _ => l.length - (intOf i).toNat)
  case atStart => exact ⟨0, Nat.zero_le _, Nat.zero_le _, rfl, Ext.refl _, rfl⟩
  case round =>
    obtain ⟨k, hk, hkm, rfl, hE, hR⟩ := hrel
    have HE := Lib.hid hE; clear hE
    by_cases hlt : k < l.length
    · obtain ⟨b1, o1, vs1, rfl, _, _, hc1, hR1⟩ := (HA.out.ext good_str HE.out).2 k hlt
      obtain ⟨x, hx⟩ : ∃ x, x = l[k] := ⟨_, rfl⟩
      have HX := Lib.hid hx
      rw [← hx] at hR1
      obtain ⟨rfl, _⟩ := hR1
      clear hx
      have q0 := hc1 0 (by simp)
      simp only [List.getElem_cons_zero, List.getElem_cons_succ, Nat.mul_one, Nat.add_zero] at q0
      clear hc1
      by_cases hmt : k < m.length
      · obtain ⟨b2, o2, vs2, rfl, _, _, hc2, hR2⟩ := (HB.out.ext good_str HE.out).2 k hmt
        obtain ⟨y, hy⟩ : ∃ y, y = m[k] := ⟨_, rfl⟩
        have HY := Lib.hid hy
        rw [← hy] at hR2
        obtain ⟨rfl, _⟩ := hR2
        clear hy
        have t0 := hc2 0 (by simp)
        simp only [List.getElem_cons_zero, List.getElem_cons_succ, Nat.mul_one, Nat.add_zero] at t0
        clear hc2
        have hlt1 : (k : Int) < l.length := by omega
        have hlt2 : (k : Int) < m.length := by omega
        go_wp2_with fail
        refine (cmpStr_any x y _).mono ?_
        rintro e w1 ⟨n, rfl, hn, rfl⟩
        have HN := Lib.hid hn
        clear hn
        by_cases h0 : n = 0
        · have hxx : (n != 0) = false := by simp [h0]
          have HXY := Lib.hid (HN.out.1 h0)
          clear h0
          go_wp2_with fail
          go_roundw
          case rel => exact ⟨k + 1, by omega, by omega, by go_num, HE.out, take_step hlt hmt hR.out (by rw [← HX.out, ← HY.out]; exact HXY.out)⟩
          case measure => (simp [intOf] <;> omega)
        · have hxx : (n != 0) = true := by simpa using h0
          have H0 := Lib.hid h0
          have HXY := Lib.hid (show ¬ l = m from fun e => h0 (HN.out.2 (by rw [HX.out, HY.out]; subst e; rfl)))
          clear h0
          go_wp2_with fail
          go_ret
          exact (⟨n, rfl, ⟨fun h => absurd h H0.out, fun h => absurd h HXY.out⟩, HE.out⟩ : ZeroE (l = m) w _ _)
      · have hml : (m.length : Int) ≤ k := by omega
        have HXY := Lib.hid (show ¬ l = m from fun e => by subst e; omega)
        go_wp2_with fail
        go_ret
        exact (⟨1, rfl, ⟨fun h => by omega, fun h => absurd h HXY.out⟩, HE.out⟩ : ZeroE (l = m) w _ _)
    · obtain rfl : k = l.length := by omega
      by_cases hlm : l.length < m.length
      · have HXY := Lib.hid (show ¬ l = m from fun e => by subst e; omega)
        clear hR
        go_wp2_with fail
        go_ret
        exact (⟨-1, rfl, ⟨fun h => by omega, fun h => absurd h HXY.out⟩, HE.out⟩ : ZeroE (l = m) w _ _)
      · have HXY := Lib.hid (show l = m by have h := hR.out; rw [List.take_length, List.take_of_length_le (by omega)] at h; exact h)
        clear hR
        go_wp2_with fail
        go_ret
        exact (⟨0, rfl, ⟨fun _ => HXY.out, fun _ => rfl⟩, HE.out⟩ : ZeroE (l = m) w _ _)
end Go.Proofs.Ytdgpbgpapcldeaa
