/- The walks of the drawer: any list. -/
import Derived.Test.YtgehpbikkcnecaaDraw3
import Derived.Test.YtgehpbikkcnecaaDraw5
set_option linter.unusedVariables false
set_option linter.unusedSimpArgs false
namespace Go.Proofs.Ytgehpbikkcnecaa
open Go.RowKit Go.Er

/-- A list of at most eight integers that the call made, beside the drawer. -/
def DrawnAny (w : World) (d n cap : Nat) (a : Option Addr) (e : Ending) (w' : World) : Prop :=
  ∃ (v : Value) (l : List Int), e = .returned v ∧ l.length ≤ 8 ∧ Own1 w' w.heap.size 3 v (l.map (.int .i64)) ∧ Cur w' d a n cap ∧ w.grownBy w' (some d)

theorem ints_fresh (w : World) (t : TypeId) (l : List Int) : Ints (w.alloc (.cells (l.map (.int .i64)).toArray t)) (some ⟨w.heap.size, 0, none⟩) l := by
  intro i hi
  refine ⟨_, _, rfl, ?_⟩
  have h := (Box.new w t (l.map (.int .i64)).toArray).cell (0 + i)
  rw [h]
  simp [hi]

set_option maxHeartbeats 800000 in
theorem l19Any_any (d n cap : Nat) (a : Option Addr) (w : World) (hd : d < w.heap.size) (hc : Cur w d a n cap) :
    Calls Try.prog 64 #[.pointer (some ⟨d, 0, none⟩)] w (DrawnAny w d n cap a) := by
  have HC := Lib.hid hc; clear hc
  go_enter Try.func64, Try.ntmps64
  go_wp2_with fail
  refine (l1Below_any 6 (by omega) (by omega) d n cap a _ HC.out).mono ?_
  rintro e w1 ⟨⟨v, rfl, hv⟩, hc1, hg1⟩
  obtain ⟨k, rfl⟩ := Int.eq_ofNat_of_zero_le hv.1
  have hk := hv.2.1 (by omega)
  have hs1 := hg1.size
  have HC1 := Lib.hid hc1; have HG1 := Lib.hid hg1
  clear hv hc1 hg1 HC
  go_wp2_with fail
  have hk1 : (1 : Int) + (k : Int) = ((k + 1 : Nat) : Int) := by omega
  rw [hk1]
  refine (l19Labels_any (k + 1) (by omega) d n cap a _ (by omega) HC1.out).mono ?_
  rintro e w2 ⟨s, l, rfl, hl, hown, hc2, hg2⟩
  have hs2 := hg2.size
  have HC2 := Lib.hid hc2; have HG2 := Lib.hid (grown_trans HG1.out hg2); have HO := Lib.hid hown
  clear hown hc2 hg2 HC1 HG1
  go_wp2_with fail
  refine (l1Below_any 14 (by omega) (by omega) d n cap a _ HC2.out).mono ?_
  rintro e w3 ⟨⟨v, rfl, hv⟩, hc3, hg3⟩
  have HO3 := Lib.hid (HO.out.kept (v := .slice (some ⟨d, 0, none⟩) 0 0) hg3 (HO.out.beyond (d := d) (by omega)))
  have HC3 := Lib.hid hc3; have HG3 := Lib.hid (grown_trans HG2.out hg3)
  obtain ⟨q, rfl⟩ := Int.eq_ofNat_of_zero_le hv.1
  have hq := hv.2.1 (by omega)
  clear hv hc3 hg3 HO HC2 HG2
  have hd3 : d < w3.heap.size := Nat.lt_of_lt_of_le hd (HG3.out.size)
  have HB3 := Lib.hid (HO3.out.beyond (d := d) (by omega))
  have HM3 := Lib.hid (HO3.out.mono (B' := w.heap.size) (by omega))
  obtain ⟨w0, hw0, hE0, hgw0⟩ := anchor HG3.out hd
  have HW0 := Lib.hid hw0; have HGW0 := Lib.hid hgw0; have HE0 := Lib.hid hE0
  rw [← hw0] at HM3
  clear hw0 hgw0 hE0 HO3
  by_cases h0 : q = 0
  · subst h0
    obtain ⟨g, cap', hs⟩ := HM3.out.shape (by simp; omega)
    simp only [List.length_map] at hs
    subst hs
    go_wp2_with fail
    refine (l1PickInt_any [1, -1] (by decide) (by decide) _ _ d n cap a _ (HC3.out.grown w3.heap.size hd3 (Ext.alloc w3 _)) (ints_fresh _ _ _) (by rintro b o h; simp at h; omega)).mono ?_
    rintro e w5 ⟨⟨v, rfl, hv⟩, hc5, hg5⟩
    have HO5 := Lib.hid ((HM3.out.alloc _).kept (v := .slice (some ⟨d, 0, none⟩) 0 0) hg5 HB3.out)
    have HC5 := Lib.hid hc5
    have HG5 := Lib.hid (grown_trans (grown_trans HG3.out (grown_of_ext (Ext.alloc w3 _) _)) hg5)
    clear hc5 hg5 hv
    obtain ⟨w0', hw0', hE0', hgw0'⟩ := anchor HG5.out hd
    rw [HW0.out, ← hw0'] at HO5
    have HW0' := Lib.hid hw0'; have HGW0' := Lib.hid hgw0'; have HE0' := Lib.hid hE0'
    clear hw0' hgw0' hE0'
    have c0 := HO5.out.cellAt 0 (by simp; omega)
    have f0 := HO5.out.frozenAt 0
    have hl1 : (0 : Int) < l.length := by omega
    have hset := HO5.out.set HE0'.out 0 (.int .i64 v)
    have HS := Lib.hid hset
    clear hset
    go_wp2_with fail
    go_ret
    refine (⟨.slice (some ⟨g, 0, none⟩) (k + 1) cap', l.set 0 v, rfl, by simp; omega, ?_, ?_, ?_⟩ : DrawnAny w d n cap a _ _)
    · rw [List.map_set, ← HW0'.out, ← hl]; exact HS.out.1
    · exact HC5.out.grown w.heap.size hd (Below.setCell (Below.refl _ _) (by have h9 := (World.ownsRow.lt HO5.out g rfl).1; rw [HW0'.out] at h9; exact h9) _)
    · exact grown_trans HGW0'.out (grown_of_ext HS.out.2 _)
  · by_cases h1 : q = 1
    · subst h1
      go_wp2_with (at_builtin; (refine wpList_append_one (w0 := w0) rfl (.tmp 20) (.tmp 21) 28 rfl Try.underlying28 info_int rfl (by decide) s (l.map (.int .i64)) rfl (HE0.out.alloc' _) (HM3.out.alloc _) (by simp; omega) ⟨_, 0, none⟩ 1 _ rfl (by simp; rfl) rfl ?_); intro v' w5 hv2 hE2 hg2 hb2; have HV := Lib.hid hv2; have HE2 := Lib.hid hE2; have HSZ := Lib.hid hg2.size; clear hv2 hg2 hb2 hE2)
      go_ret
      refine (⟨_, l ++ [7], rfl, by simp; omega, ?_, ?_, ?_⟩ : DrawnAny w d n cap a _ _)
      · rw [List.map_append, ← HW0.out]; exact HV.out
      · have hE2 := HE2.out
        have hE0 := HE0.out
        refine HC3.out.grown w.heap.size hd ⟨hE2.os.trans hE0.os.symm, hE2.tape.trans hE0.tape.symm, hE2.output.trans hE0.output.symm, ?_, ?_⟩
        · have h9 := HSZ.out
          simp at h9; omega
        · intro j hj
          have h9 := HW0.out
          exact (hE2.block j (by omega)).trans (hE0.block j (by omega)).symm
      · exact grown_trans HGW0.out (grown_of_ext HE2.out _)
    · by_cases h2 : q = 2
      · subst h2
        go_wp2_with fail
        go_ret
        exact (⟨_, [], rfl, by simp, Own1.nil _ _ _, HC3.out, HG3.out⟩ : DrawnAny w d n cap a _ _)
      · have t0 : ¬ (q : Int) = 0 := by omega
        have t1 : ¬ (q : Int) = 1 := by omega
        have t2 : ¬ (q : Int) = 2 := by omega
        go_wp2_with fail
        go_ret
        exact (⟨_, l, rfl, by omega, by rw [← HW0.out]; exact HM3.out, HC3.out, HG3.out⟩ : DrawnAny w d n cap a _ _)
end Go.Proofs.Ytgehpbikkcnecaa
