/- The walks of the drawer: how it is made. -/
import Derived.Test.YtgehpbikkcnecaaDraw2
set_option linter.unusedVariables false
set_option linter.unusedSimpArgs false
namespace Go.Proofs.Ytgehpbikkcnecaa
open Go.RowKit Go.Er

theorem and_boundM (x : Int) : 0 ≤ bits .and .i64 x 1073741823 ∧ bits .and .i64 x 1073741823 ≤ 1073741823 := and_bound x 1073741823 (by omega)
/-- A slice of bytes that came in. -/
def BytesAt (w : World) (a : Option Addr) (n : Nat) : Prop :=
  ∀ i, i < n → ∃ b o x, a = some ⟨b, o, none⟩ ∧ w.cell? ⟨b, o + i, none⟩ = some (.int .u8 x) ∧ 0 ≤ x ∧ x ≤ 255

set_option maxHeartbeats 800000 in
theorem l1New_any (n cap : Nat) (hn : n ≤ 1048576) (a : Option Addr) (w : World) (hb : BytesAt w a n) :
    Calls Try.prog 50 #[.slice a n cap] w fun e w' => e = .returned (.pointer (some ⟨w.heap.size, 0, none⟩)) ∧ Cur w' w.heap.size a n cap ∧ Ext w w' := by
  have HB := Lib.hid hb; clear hb
  go_enter Try.func50, Try.ntmps50
  go_wp2
  go_loopw [3, 4] (fun s3 s4 wr => ∃ (i : Nat) (h : Int), i ≤ n ∧ s4 = .int .i64 i ∧ s3 = .int .i64 h ∧ 0 ≤ h ∧ h ≤ 1073741823 ∧ wr = w) (fun _ i _ => n - (intOf i).toNat)
  case atStart => exact ⟨0, _, Nat.zero_le _, rfl, rfl, by omega, by omega, rfl⟩
  case round =>
    obtain ⟨i, h, hi, rfl, rfl, hh0, hh9, rfl⟩ := hrel
    by_cases hlt : i < n ∧ i < 4000
    · have hl1 : i < n := hlt.1
      have hl2 : i < 4000 := hlt.2
      have hl3 : (i : Int) < (n : Int) := by omega
      have hl4 : (i : Int) < 4000 := by omega
      clear hlt
      obtain ⟨b, o, x, rfl, hcl, hx0, hx9⟩ := HB.out i hl1
      have hM := Lib.hid (and_boundM (h * 131 + x + 7))
      go_wp2
      go_roundw
      case rel => exact ⟨i + 1, _, by omega, by go_num, rfl, hM.out.1, hM.out.2, by trivial⟩
      case measure => (simp [intOf] <;> omega)
    · have hD : ¬ (i : Int) < (n : Int) ∨ ¬ (i : Int) < 4000 := by omega
      have hBx := Lib.hid (Box.new wr 64 #[.slice a n cap, .int .i64 0, .int .i64 h])
      have hfin : Hid (Cur (wr.alloc (.cells #[.slice a n cap, .int .i64 0, .int .i64 h] 64)) wr.heap.size a n cap) := by
        refine ⟨0, h, Nat.zero_le _, hn, hBx.out, ?_⟩
        intro j hj
        obtain ⟨b, o, x, h1, h2, h3⟩ := HB.out j hj
        exact ⟨b, o, x, h1, lt_of_cell h2, ((Ext.alloc wr _).cells b _ (lt_of_cell h2)).trans h2, h3⟩
      clear hlt
      by_cases hl3 : (i : Int) < (n : Int)
      · have hl4 : ¬ (i : Int) < 4000 := by omega
        clear hD
        go_wp2
        go_ret
        exact ⟨rfl, hfin.out, Ext.alloc _ _⟩
      · clear hD
        go_wp2
        go_ret
        exact ⟨rfl, hfin.out, Ext.alloc _ _⟩
end Go.Proofs.Ytgehpbikkcnecaa
