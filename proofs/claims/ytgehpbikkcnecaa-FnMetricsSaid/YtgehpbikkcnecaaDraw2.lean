/- The walks of the drawer: below a number, once in a number, one of a list. -/
import Derived.Test.YtgehpbikkcnecaaDraw
set_option linter.unusedVariables false
set_option linter.unusedSimpArgs false
namespace Go.Proofs.Ytgehpbikkcnecaa
open Go.RowKit Go.Er

theorem grown_refl (w : World) (r : Option Nat) : w.grownBy w r := ⟨rfl, rfl, rfl, Nat.le_refl _, fun _ _ _ => rfl⟩
/-- What a number that was drawn below k is. -/
def BelowK (k v : Int) : Prop := 0 ≤ v ∧ (0 < k → v < k) ∧ (k ≤ 0 → v = 0)

set_option maxHeartbeats 800000 in
theorem l1Below_any (k : Int) (hk : k ≤ 256) (hk0 : -1000000 ≤ k) (d n cap : Nat) (a : Option Addr) (w : World) (hc : Cur w d a n cap) :
    Calls Try.prog 67 #[.pointer (some ⟨d, 0, none⟩), .int .i64 k] w fun e w' => (∃ v : Int, e = .returned (.int .i64 v) ∧ BelowK k v) ∧ Cur w' d a n cap ∧ w.grownBy w' (some d) := by
  have HC := Lib.hid hc; clear hc
  by_cases h1 : k ≤ 0
  · go_enter Try.func67, Try.ntmps67
    go_wp2_with fail
    go_ret
    exact ⟨⟨0, rfl, by omega, by omega, fun _ => rfl⟩, HC.out, grown_refl _ _⟩
  · have h3 : 0 < k := by omega
    go_enter Try.func67, Try.ntmps67
    go_wp2_with fail
    refine (l1Byte_any d n cap a _ HC.out).mono ?_
    rintro e w1 ⟨⟨v, rfl, hv0, hv9⟩, hc1, hg1⟩
    have HC1 := Lib.hid hc1; have HG1 := Lib.hid hg1; clear hc1 hg1
    have hm0 : 0 ≤ v % k := Int.emod_nonneg _ (by omega)
    have hm1 : v % k < k := Int.emod_lt_of_pos _ h3
    have hmt : v.tmod k = v % k := Int.tmod_eq_emod_of_nonneg hv0
    go_wp2_with fail
    go_ret
    exact ⟨⟨v % k, by simp [hmt], hm0, fun _ => hm1, fun h => by omega⟩, HC1.out, HG1.out⟩

theorem l1Once_any (k : Int) (hk : k ≤ 256) (hk0 : -1000000 ≤ k) (d n cap : Nat) (a : Option Addr) (w : World) (hc : Cur w d a n cap) :
    Calls Try.prog 65 #[.pointer (some ⟨d, 0, none⟩), .int .i64 k] w fun e w' => (∃ v : Bool, e = .returned (.bool v)) ∧ Cur w' d a n cap ∧ w.grownBy w' (some d) := by
  have HC := Lib.hid hc; clear hc
  go_enter Try.func65, Try.ntmps65
  go_wp2_with fail
  refine (l1Below_any k hk hk0 d n cap a _ HC.out).mono ?_
  rintro e w1 ⟨⟨v, rfl, hv⟩, hc1, hg1⟩
  have HC1 := Lib.hid hc1; have HG1 := Lib.hid hg1; have HV := Lib.hid hv; clear hc1 hg1 hv
  go_wp2_with fail
  go_ret
  exact ⟨⟨_, rfl⟩, HC1.out, HG1.out⟩

/-- A world of the old size below which the new one has changed nothing (the drawer's block is taken as it is now). -/
theorem anchor {w wr : World} {d : Nat} (h : w.grownBy wr (some d)) (hd : d < w.heap.size) : ∃ w0 : World, w0.heap.size = w.heap.size ∧ Ext w0 wr ∧ w.grownBy w0 (some d) := by
  have hdr : d < wr.heap.size := Nat.lt_of_lt_of_le hd h.size
  refine ⟨{ w with heap := w.heap.setIfInBounds d wr.heap[d] }, by simp, ⟨h.os, h.tape, h.output, by simpa using h.size, ?_⟩, ⟨rfl, rfl, rfl, by simp, ?_⟩⟩
  · intro k hk
    have hk' : k < w.heap.size := by simpa using hk
    by_cases hkd : k = d
    · subst hkd
      simp [hk', hdr]
    · have hne : ¬ d = k := fun h => hkd h.symm
      rw [h.block k hk' (by simpa using hkd)]
      simp [Array.getElem?_setIfInBounds, hne]
  · intro k hk hkd
    have hne : ¬ d = k := fun h => hkd (by rw [h])
    simp [Array.getElem?_setIfInBounds, hne]
end Go.Proofs.Ytgehpbikkcnecaa
