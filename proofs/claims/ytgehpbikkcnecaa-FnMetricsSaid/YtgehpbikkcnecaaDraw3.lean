/- The walks of the drawer: labels. -/
import Derived.Test.YtgehpbikkcnecaaDraw2
import Derived.Test.YtgehpbikkcnecaaLabels
set_option linter.unusedVariables false
set_option linter.unusedSimpArgs false
namespace Go.Proofs.Ytgehpbikkcnecaa
open Go.RowKit Go.Er

/-- A list of at most k small integers that the call made, beside the drawer. -/
def DrawnInts (w : World) (d n cap k : Nat) (a : Option Addr) (e : Ending) (w' : World) : Prop :=
  ∃ (v : Value) (l : List Int), e = .returned v ∧ l.length = k ∧ Own1 w' w.heap.size 3 v (l.map (.int .i64)) ∧ Cur w' d a n cap ∧ w.grownBy w' (some d)
theorem grown_of_ext {w w' : World} (h : Ext w w') (r : Option Nat) : w.grownBy w' r := ⟨h.os, h.tape, h.output, h.size, fun k hk _ => h.block k hk⟩
theorem Cur.grown {w w' : World} {d n cap : Nat} {a : Option Addr} (h : Cur w d a n cap) (B : Nat) (hB : d < B) (hg : Below B w w') : Cur w' d a n cap := by
  obtain ⟨p, s, hp, hn, hb, hy⟩ := h
  refine ⟨p, s, hp, hn, (hg.block d hB).trans hb, ?_⟩
  intro i hi
  obtain ⟨b, o, x, h1, h2, h3, h4⟩ := hy i hi
  exact ⟨b, o, x, h1, h2, (World.cell?_of_block (a := ⟨b, o + i, none⟩) (hg.block b (by omega))).trans h3, h4⟩

theorem _root_.Go.Er.Own1.beyond {w : World} {B : Nat} {e : TypeId} {v : Value} {cs : List Value} {d : Nat} (h : Own1 w B e v cs) (hd : d < B) : v.ownBlock = none ∨ v.ownBlock ≠ some d := by
  rcases h.2 with h1 | ⟨b, c, row, h1, hb, _⟩
  · left; simp [h1, Value.ownBlock]
  · right; simp [h1, Value.ownBlock]; omega

set_option maxHeartbeats 800000 in
theorem l19Labels_any (k : Nat) (hk : k ≤ 8) (d n cap : Nat) (a : Option Addr) (w : World) (hd : d < w.heap.size) (hc : Cur w d a n cap) :
    Calls Try.prog 66 #[.pointer (some ⟨d, 0, none⟩), .int .i64 k] w (DrawnInts w d n cap k a) := by
  have hG0 := grown_of_ext (Ext.alloc w (.cells #[] 3)) (some d)
  have hO : Own1 (w.alloc (.cells #[] 3)) w.heap.size 3 (.slice (some ⟨w.heap.size, 0, none⟩) 0 0) [] := Own1.lit0 (Nat.le_refl _) (heap_alloc_new w _)
  have HO0 := Lib.hid hO; clear hO
  have HC0 : Hid (Cur (w.alloc (.cells #[] 3)) d a n cap) := hc.grown w.heap.size hd (Ext.alloc w _)
  clear hc
  go_enter Try.func66, Try.ntmps66
  go_wp2
  go_loopw [5, 6, 7] (fun s5 s6 s7 wr => ∃ (i : Nat) (t : Int) (l : List Int), i ≤ k ∧ s7 = .int .i64 i ∧ s6 = .int .i64 t ∧ -1 ≤ t ∧ t ≤ 4 ∧ l.length = i ∧ Own1 wr w.heap.size 3 s5 (l.map (.int .i64)) ∧ Cur wr d a n cap ∧ w.grownBy wr (some d)) (fun _ _ i _ => k - (intOf i).toNat)
  case atStart => exact ⟨0, -1, [], Nat.zero_le _, rfl, rfl, by omega, by omega, rfl, HO0.out, HC0.out, hG0⟩
  case round =>
    obtain ⟨i, t, l, hi, rfl, rfl, ht0, ht4, hll, hown, hcur, hgr⟩ := hrel
    have HO := Lib.hid hown; have HC := Lib.hid hcur; have HG := Lib.hid hgr; clear hown hcur hgr
    by_cases hlt : i < k
    · go_wp2_with fail
      refine (l1Below_any (min (t + 2) 4) (by omega) (by omega) d n cap a _ HC.out).mono ?_
      rintro e w1 ⟨⟨v, rfl, hv⟩, hc1, hg1⟩
      have hv0 := hv.1
      have hv1 := hv.2.1 (by omega)
      clear hv
      have hbey := HO.out.beyond hd
      have HO1 := Lib.hid (HO.out.kept (v := .slice (some ⟨d, 0, none⟩) 0 0) hg1 hbey)
      have HC1 := Lib.hid hc1
      obtain ⟨w0, hw0, hE0, hgw0⟩ := anchor (grown_trans HG.out hg1) hd
      rw [← hw0] at HO1
      have HW0 := Lib.hid hw0; have HGW0 := Lib.hid hgw0
      clear hw0 hgw0 hc1 hg1 hbey HO HC HG
      go_wp2_with (at_builtin; (refine wpList_append_one (w0 := w0) rfl (.tmp 20) (.tmp 22) 28 rfl Try.underlying28 info_int rfl (by decide) u5 (l.map (.int .i64)) rfl (by (repeat' (first | assumption | exact Below.refl _ _ | refine Ext.alloc' ?_ _ | refine Ext.drew' ?_ | refine Ext.drewN' ?_ _ | refine Ext.setCell' ?_ (by first | (simp; done) | (simp; omega)) _ | (refine Ext.trans ?_ (by assumption))))) (HO1.out.alloc _) (by simp; omega) ⟨_, 0, none⟩ 1 _ rfl (by simp; rfl) rfl ?_); intro v' w2 hv2 hE2 hg2 hb2; have HV := Lib.hid hv2; have HSZ := Lib.hid hg2.size; clear hv2 hg2 hb2)
      go_roundw
      case rel =>
        refine ⟨i + 1, max t v, l ++ [v], by omega, by go_num, rfl, by omega, by omega, by simp; omega, ?_, ?_, ?_⟩
        · rw [List.map_append, ← HW0.out]; exact HV.out
        · refine HC1.out.grown w.heap.size hd ⟨hE2.os.trans hE0.os.symm, hE2.tape.trans hE0.tape.symm, hE2.output.trans hE0.output.symm, ?_, ?_⟩
          · have h9 := HSZ.out
            simp at h9; omega
          · intro j hj
            have h9 := HW0.out
            exact (hE2.block j (by omega)).trans (hE0.block j (by omega)).symm
        · exact grown_trans HGW0.out (grown_of_ext hE2 _)
      case measure => (simp [intOf] <;> omega)
    · go_wp2_with fail
      go_ret
      exact (⟨_, l, rfl, by omega, HO.out, HC.out, HG.out⟩ : DrawnInts w d n cap k a _ _)
end Go.Proofs.Ytgehpbikkcnecaa
