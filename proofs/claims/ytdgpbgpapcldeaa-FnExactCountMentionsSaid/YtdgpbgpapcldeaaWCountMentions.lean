/- The walk of the law FnExactCountMentions. -/
import Derived.Test.YtdgpbgpapcldeaaCount
import Derived.Deep.RegionHeld3
set_option linter.unusedVariables false
set_option linter.unusedSimpArgs false
namespace Go.Proofs.Ytdgpbgpapcldeaa
open Go.RowKit Go.Er Go.BigFrame

set_option maxHeartbeats 3200000 in
theorem lawCountMentions_any (l : List DBatch) (v : DVerdict) (a : Option Addr) (c : Nat) (vs : List Value) (w : World) (h : RowR 1 BatchR 0 w a l) (hv : VerdictR 0 w vs v) :
    Calls Try.prog 3 #[.slice a l.length c, .agg vs.toArray] w (Yes w) := by
  obtain rfl := hv
  have HA := Lib.hid h; clear h
  have HB := Lib.hid (Box.new w 24 #[.int .i64 v.a, .int .i64 v.b, .bool v.same, .int .i64 v.time])
  have HE := Lib.hid (Ext.alloc w (.cells #[.int .i64 v.a, .int .i64 v.b, .bool v.same, .int .i64 v.time] 24))
  go_enter Try.func3, Try.ntmps3
  go_wp2_with fail
  refine (szBatchS_any l 1048576 (by omega) (by omega) a c 0 _ (HA.out.ext good_Batch (by (repeat' (first | with_reducible assumption | with_reducible exact Below.refl _ _ | (with_reducible refine Ext.alloc' ?_ _) | (with_reducible refine Ext.drew' ?_) | (with_reducible refine Ext.drewN' ?_ _) | (with_reducible refine Ext.set_ ?_ (by first | omega | (simp; done) | (simp; omega)) _ _) | (refine Ext.trans ?_ (by with_reducible assumption))))))).mono ?_
  rintro e w1 ⟨v1, rfl, h1, h2, hp1, hE1⟩
  have HB1 := Lib.hid (HB.out.ext hE1)
  have HE1 := Lib.hid (HE.out.trans hE1)
  have HP := Lib.hid hp1
  clear hE1 HB HE hp1
  by_cases hn : v1 < 0
  · go_wp2_with fail
    go_ret
    exact ⟨rfl, HE1.out⟩
  · have HS := Lib.hid (HP.out (by omega))
    have HB2 := HB1.out
    have k0 := HB2.cell 0
    have k1 := HB2.cell 1
    have k2 := HB2.cell 2
    have k3 := HB2.cell 3
    have klt := HB2.lt
    simp only [List.getElem?_toArray, List.getElem?_cons_zero, List.getElem?_cons_succ] at k0 k1 k2 k3
    clear HB2
    go_wp2_with fail
    go_region_held3 (fun w' => w'.cell? ⟨w.heap.size, 0, none⟩ = some (.int .i64 v.a) ∧ w'.cell? ⟨w.heap.size, 1, none⟩ = some (.int .i64 v.b) ∧ w'.cell? ⟨w.heap.size, 2, none⟩ = some (.bool v.same) ∧ w'.cell? ⟨w.heap.size, 3, none⟩ = some (.int .i64 v.time)) (go_keep)
      (first
        | (go_at_call 12; refine (toBatchS_any l HS.out a c _ (HA.out.ext good_Batch (by have h9 := HE1.out; (repeat' (first | with_reducible assumption | with_reducible exact Below.refl _ _ | (with_reducible refine Ext.alloc' ?_ _) | (with_reducible refine Ext.drew' ?_) | (with_reducible refine Ext.drewN' ?_ _) | (with_reducible refine Ext.set_ ?_ (by first | omega | (simp; done) | (simp; omega)) _ _) | (refine Ext.trans ?_ (by with_reducible assumption))))))).mono ?_; rintro e w2 ⟨a2, c2, rfl, hr2, hE2⟩
           have HR2 := Lib.hid hr2; have HE2 := Lib.hid (show Ext w w2 from by have h8 := HE1.out; have h9 := hE2; (repeat' (first | with_reducible assumption | with_reducible exact Below.refl _ _ | (with_reducible refine Ext.alloc' ?_ _) | (with_reducible refine Ext.drew' ?_) | (with_reducible refine Ext.drewN' ?_ _) | (with_reducible refine Ext.set_ ?_ (by first | omega | (simp; done) | (simp; omega)) _ _) | (refine Ext.trans ?_ (by with_reducible assumption))))); have g0 := hE2.at k0; have g1 := hE2.at k1; have g2 := hE2.at k2; have g3 := hE2.at k3
           clear hr2 hE2 k0 k1 k2 k3 klt)
        | (go_at_call 13; refine (toVerdict_any v trivial [.int .i64 v.a, .int .i64 v.b, .bool v.same, .int .i64 v.time] _ rfl).mono ?_; rintro e w3 ⟨us, rfl, rfl, hE3⟩
           have HR3 := Lib.hid (HR2.out.ext good_Batch hE3); have HE3 := Lib.hid (HE2.out.trans hE3); have i0 := hE3.at g0; have i1 := hE3.at g1; have i2 := hE3.at g2; have i3 := hE3.at g3
           clear hE3 g0 g1 g2 g3 HR2 HE2)
        | (go_at_call 11; refine (specCountMentions_any l HS.out v a2 c2 _ (HR3.out.mono good_Batch (Nat.zero_le _))).mono ?_; rintro e w4 ⟨rfl, hE4⟩
           have HE4 := Lib.hid (HE3.out.trans hE4); have k0 := hE4.at i0; have k1 := hE4.at i1; have k2 := hE4.at i2; have k3 := hE4.at i3
           clear hE4 i0 i1 i2 i3 HR3 HE3))
    go_wp2_with fail
    refine (toBatchS_any l HS.out a c _ (HA.out.ext good_Batch (by have h9 := HE4.out; (repeat' (first | with_reducible assumption | with_reducible exact Below.refl _ _ | (with_reducible refine Ext.alloc' ?_ _) | (with_reducible refine Ext.drew' ?_) | (with_reducible refine Ext.drewN' ?_ _) | (with_reducible refine Ext.set_ ?_ (by first | omega | (simp; done) | (simp; omega)) _ _) | (refine Ext.trans ?_ (by with_reducible assumption))))))).mono ?_
    rintro e w5 ⟨a5, c5, rfl, hr5, hE5⟩
    have HR5 := Lib.hid (hr5.mono good_Batch (Nat.zero_le _)); have HE5 := Lib.hid (HE4.out.trans hE5)
    have g0 := hE5.at k0; have g1 := hE5.at k1; have g2 := hE5.at k2; have g3 := hE5.at k3
    clear hr5 hE5 k0 k1 k2 k3 HE4
    go_wp2_with fail
    refine (toVerdict_any v trivial [.int .i64 v.a, .int .i64 v.b, .bool v.same, .int .i64 v.time] _ rfl).mono ?_
    rintro e w6 ⟨us, rfl, rfl, hE6⟩
    have HR6 := Lib.hid (HR5.out.ext good_Batch hE6); have HE6 := Lib.hid (HE5.out.trans hE6)
    clear hE6 HR5 HE5 g0 g1 g2 g3
    go_wp2_with fail
    refine (implCountMentions_any l HS.out v a5 c5 _ HR6.out).mono ?_
    rintro e w7 ⟨rfl, hE7⟩
    have HR7 := Lib.hid (HR6.out.ext good_Batch hE7); have HE7 := Lib.hid (HE6.out.trans hE7)
    clear hE7 HR6 HE6
    go_wp2_with fail
    refine (toBatchS_any l HS.out a c _ (HA.out.ext good_Batch (by have h9 := HE7.out; (repeat' (first | with_reducible assumption | with_reducible exact Below.refl _ _ | (with_reducible refine Ext.alloc' ?_ _) | (with_reducible refine Ext.drew' ?_) | (with_reducible refine Ext.drewN' ?_ _) | (with_reducible refine Ext.set_ ?_ (by first | omega | (simp; done) | (simp; omega)) _ _) | (refine Ext.trans ?_ (by with_reducible assumption))))))).mono ?_
    rintro e w8 ⟨a8, c8, rfl, hr8, hE8⟩
    have HR8 := Lib.hid (HR7.out.ext good_Batch hE8); have HQ8 := Lib.hid (hr8.mono good_Batch (Nat.zero_le _)); have HE8 := Lib.hid (HE7.out.trans hE8)
    clear hr8 hE8 HR7 HE7
    go_wp2_with fail
    refine (eqBatchS_any l a5 a8 c5 c8 _ HR8.out HQ8.out).mono ?_
    rintro e w9 ⟨rfl, hE9⟩
    have HE9 := Lib.hid (HE8.out.trans hE9)
    clear hE9 HR8 HQ8 HE8
    go_wp2_with fail
    go_ret
    exact ⟨rfl, HE9.out⟩
end Go.Proofs.Ytdgpbgpapcldeaa
