/- The walks of the drawer: two lists. -/
import Derived.Test.YtgehpbikkcnecaaDraw6
import Derived.Test.YtgehpbikkcnecaaDraw4
set_option linter.unusedVariables false
set_option linter.unusedSimpArgs false
namespace Go.Proofs.Ytgehpbikkcnecaa
open Go.RowKit Go.Er

theorem ext_of_grown {w w1 w2 : World} {d : Nat} (hE : Ext w w1) (hg : w1.grownBy w2 (some d)) (hd : w.heap.size ≤ d) : Ext w w2 :=
  ⟨hg.os.trans hE.os, hg.tape.trans hE.tape, hg.output.trans hE.output, Nat.le_trans hE.size hg.size, fun k hk => (hg.block k (Nat.lt_of_lt_of_le hk hE.size) (by simp; omega)).trans (hE.block k hk)⟩
theorem Cur.lt {w : World} {d n cap : Nat} {a : Option Addr} (h : Cur w d a n cap) : d < w.heap.size := by
  obtain ⟨p, s, _, _, hb, _⟩ := h
  exact hb.lt
theorem _root_.Go.Er.Own1.ints1 {w : World} {B : Nat} {e : TypeId} {a : Option Addr} {n c : Nat} {l : List Int} (h : Own1 w B e (.slice a n c) (l.map (.int .i64))) : Ints w a l := by
  obtain ⟨a', c', h1, h2⟩ := h.ints
  cases h1
  exact h2
/-- Two lists of at most eight integers. -/
def TwoInts (w : World) (e : Ending) (w' : World) : Prop :=
  ∃ (a b : Option Addr) (c1 c2 : Nat) (l m : List Int), e = .returned (.tuple #[.slice a l.length c1, .slice b m.length c2]) ∧ l.length ≤ 8 ∧ m.length ≤ 8 ∧ Ints w' a l ∧ Ints w' b m ∧ Ext w w'

set_option maxHeartbeats 800000 in
theorem l19Two_any (n cap : Nat) (hn : n ≤ 1048576) (a : Option Addr) (w : World) (hb : BytesAt w a n) :
    Calls Try.prog 48 #[.slice a n cap] w (TwoInts w) := by
  have HB := Lib.hid hb; clear hb
  go_enter Try.func48, Try.ntmps48
  go_wp2_with fail
  refine (l1New_any n cap hn a _ HB.out).mono ?_
  rintro e w1 ⟨rfl, hc1, hE1⟩
  have hd1 := hc1.lt
  have HC1 := Lib.hid hc1; have HE1 := Lib.hid hE1
  clear hc1 hE1 HB
  go_wp2_with fail
  refine (l19Any_any w.heap.size n cap a w1 hd1 HC1.out).mono ?_
  rintro e w2 ⟨v, l, rfl, hl, hown, hc2, hg2⟩
  obtain ⟨a1, c1, rfl, _⟩ := hown.ints
  have hb2 := Lib.hid (hown.beyond hd1)
  have HO2 := Lib.hid hown; have HC2 := Lib.hid hc2; have HG2 := Lib.hid hg2
  have hs2 := hc2.lt
  clear hown hc2 hg2 HC1
  go_wp2_with fail
  refine (l1Once_any 8 (by omega) (by omega) w.heap.size n cap a _ HC2.out).mono ?_
  rintro e w3 ⟨⟨b, rfl⟩, hc3, hg3⟩
  have HO3 := Lib.hid (HO2.out.kept (v := .slice (some ⟨w.heap.size, 0, none⟩) 0 0) hg3 hb2.out)
  have HC3 := Lib.hid hc3; have HG3 := Lib.hid (grown_trans HG2.out hg3)
  have hs3 := hc3.lt
  clear hc3 hg3 HO2 HC2 HG2
  cases b
  · go_wp2_with fail
    refine (l19Labels_any l.length hl w.heap.size n cap a _ hs3 HC3.out).mono ?_
    rintro e w4 ⟨v, m, rfl, hm, hown, hc4, hg4⟩
    have HO4 := Lib.hid (HO3.out.kept (v := .slice (some ⟨w.heap.size, 0, none⟩) 0 0) hg4 hb2.out)
    have HG4 := Lib.hid (grown_trans HG3.out hg4)
    obtain ⟨a2, c2, rfl, hi⟩ := hown.ints
    clear hown hc4 hg4 HO3 HG3
    have HI := Lib.hid hi; clear hi
    go_wp2_with fail
    refine bodyPost_ret (v := .tuple #[.slice a1 l.length c1, .slice a2 m.length c2]) (by simp [results, Try.results48, go_sem, hm]) rfl ?_
    exact (⟨a1, a2, c1, c2, l, m, rfl, hl, by omega, HO4.out.ints1, HI.out, ext_of_grown HE1.out HG4.out (Nat.le_refl _)⟩ : TwoInts w _ _)
  · go_wp2_with fail
    refine (l19Any_any w.heap.size n cap a _ hs3 HC3.out).mono ?_
    rintro e w4 ⟨v, m, rfl, hm, hown, hc4, hg4⟩
    have HO4 := Lib.hid (HO3.out.kept (v := .slice (some ⟨w.heap.size, 0, none⟩) 0 0) hg4 hb2.out)
    have HG4 := Lib.hid (grown_trans HG3.out hg4)
    obtain ⟨a2, c2, rfl, hi⟩ := hown.ints
    clear hown hc4 hg4 HO3 HG3
    have HI := Lib.hid hi; clear hi
    go_wp2_with fail
    refine bodyPost_ret (v := .tuple #[.slice a1 l.length c1, .slice a2 m.length c2]) (by simp [results, Try.results48, go_sem]) rfl ?_
    exact (⟨a1, a2, c1, c2, l, m, rfl, hl, by omega, HO4.out.ints1, HI.out, ext_of_grown HE1.out HG4.out (Nat.le_refl _)⟩ : TwoInts w _ _)

set_option maxHeartbeats 800000 in
theorem drawCountPairs_any (n cap : Nat) (hn : n ≤ 1048576) (a : Option Addr) (w : World) (hb : BytesAt w a n) :
    Calls Try.prog 27 #[.slice a n cap] w (TwoInts w) := by
  have HB := Lib.hid hb; clear hb
  go_enter Try.func27, Try.ntmps27
  go_wp2_with fail
  refine (l19Two_any n cap hn a _ HB.out).mono ?_
  rintro e w1 ⟨a1, a2, c1, c2, l, m, rfl, hl, hm, h1, h2, hE⟩
  go_wp2_with fail
  refine bodyPost_ret (v := .tuple #[.slice a1 l.length c1, .slice a2 m.length c2]) (by simp [results, Try.results27, go_sem]) rfl ?_
  exact (⟨a1, a2, c1, c2, l, m, rfl, hl, hm, h1, h2, hE⟩ : TwoInts w _ _)
end Go.Proofs.Ytgehpbikkcnecaa
