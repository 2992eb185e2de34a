/- The walks of the drawer: one of a list of integers. -/
import Derived.Test.YtgehpbikkcnecaaDraw2
set_option linter.unusedVariables false
set_option linter.unusedSimpArgs false
namespace Go.Proofs.Ytgehpbikkcnecaa
open Go.RowKit Go.Er

theorem ints_grown {w w' : World} {a : Option Addr} {l : List Int} {d : Nat} (h : Ints w a l) (hg : w.grownBy w' (some d)) (hne : ∀ b o, a = some ⟨b, o, none⟩ → b ≠ d) : Ints w' a l := by
  intro i hi
  obtain ⟨b, o, h1, h2⟩ := h i hi
  have h3 := hne b o h1
  exact ⟨b, o, h1, (World.cell?_of_block (a := ⟨b, o + i, none⟩) (hg.block b (lt_of_cell h2) (by simpa using h3))).trans h2⟩

set_option maxHeartbeats 800000 in
theorem l1PickInt_any (l : List Int) (hl0 : 0 < l.length) (hl : l.length ≤ 256) (a2 : Option Addr) (c2 : Nat) (d n cap : Nat) (a : Option Addr) (w : World) (hc : Cur w d a n cap) (h2 : Ints w a2 l) (hne : ∀ b o, a2 = some ⟨b, o, none⟩ → b ≠ d) :
    Calls Try.prog 68 #[.pointer (some ⟨d, 0, none⟩), .slice a2 l.length c2] w fun e w' => (∃ v : Int, e = .returned (.int .i64 v) ∧ v ∈ l) ∧ Cur w' d a n cap ∧ w.grownBy w' (some d) := by
  have HC := Lib.hid hc; have H2 := Lib.hid h2; have HN := Lib.hid hne; clear hc h2 hne
  go_enter Try.func68, Try.ntmps68
  go_wp2_with fail
  refine (l1Below_any l.length (by omega) (by omega) d n cap a _ HC.out).mono ?_
  rintro e w1 ⟨⟨v, rfl, hv⟩, hc1, hg1⟩
  have hv0 := hv.1
  have hv1 := hv.2.1 (by omega)
  obtain ⟨j, rfl⟩ := Int.eq_ofNat_of_zero_le hv0
  have hj : j < l.length := by omega
  obtain ⟨b, o, rfl, hcl⟩ := ints_grown H2.out hg1 HN.out j hj
  have hmem := Lib.hid (List.getElem_mem hj)
  generalize l[j] = x at *
  have HC1 := Lib.hid hc1; have HG1 := Lib.hid hg1
  clear hv hc1 hg1 HN H2 HC
  go_wp2_with fail
  go_ret
  exact ⟨⟨x, rfl, hmem.out⟩, HC1.out, HG1.out⟩
end Go.Proofs.Ytgehpbikkcnecaa
