/- New systems. -/
import Derived.Test.YtdgpbgpapcldeaaCloneC
import Derived.Test.YtdgpbgpapcldeaaCloneM
import Derived.Test.YtdgpbgpapcldeaaValidC
import Derived.Test.YtdgpbgpapcldeaaNSystem
set_option linter.unusedVariables false
set_option linter.unusedSimpArgs false
namespace Go.Proofs.Ytdgpbgpapcldeaa
open Go.RowKit Go.Er Go.BigFrame

/-- What NewSystem returns. -/
def newSys (x : DConfig) : DSystem × Bool := if configOk x then (⟨x, ⟨0, [], []⟩, [], 1, []⟩, true) else (⟨⟨⟨[]⟩, ⟨[], 0⟩, []⟩, ⟨0, [], []⟩, [], 0, []⟩, false)
theorem newSys_no {x : DConfig} (h : configOk x = false) : newSys x = (⟨⟨⟨[]⟩, ⟨[], 0⟩, []⟩, ⟨0, [], []⟩, [], 0, []⟩, false) := by simp [newSys, h]
theorem newSys_yes {x : DConfig} (h : configOk x = true) : newSys x = (⟨x, ⟨0, [], []⟩, [], 1, []⟩, true) := by simp [newSys, h]
theorem newSys_cases (x : DConfig) : newSys x = (⟨x, ⟨0, [], []⟩, [], 1, []⟩, true) ∨ newSys x = (⟨⟨⟨[]⟩, ⟨[], 0⟩, []⟩, ⟨0, [], []⟩, [], 0, []⟩, false) := by unfold newSys; split <;> simp
/-- A system and a bool, in new memory. -/
def MadeSB (Y : DSystem) (b : Bool) (w : World) (e : Ending) (w' : World) : Prop := ∃ (p0 : Option Addr) (c0 : Nat) (p1 : Option Addr) (c1 : Nat) (p2 : Option Addr) (c2 : Nat) (p3 : Option Addr) (c3 : Nat) (p4 : Option Addr) (c4 : Nat) (p5 : Option Addr) (c5 : Nat) (p6 : Option Addr) (c6 : Nat) (T : Nat → Nat → Prop),
  e = .returned (.tuple #[.agg #[.slice p0 Y.config.rules.rules.length c0, .slice p1 Y.config.scoring.weights.length c1, .int .i64 Y.config.scoring.bias, .slice p2 Y.config.survivors.length c2, .int .i64 Y.store.version, .slice p3 Y.store.records.length c3, .slice p4 Y.store.verdicts.length c4, .slice p5 Y.entities.length c5, .int .i64 Y.next, .slice p6 Y.refused.length c6], .bool b]) ∧ ApartT T ∧ InT T w.heap.size w'.heap.size ∧ RowsSystem Y T p0 p1 p2 p3 p4 p5 p6 w' ∧ Ext w w'

set_option maxRecDepth 8000 in
set_option maxHeartbeats 3200000 in
theorem implNewSystem_any (x : DConfig) (hs : SmallConfig x) (vs : List Value) (w : World) (h : ConfigR 0 w vs x) :
    Calls Try.prog 35 #[.agg vs.toArray] w (MadeSB (newSys x).1 (newSys x).2 w) := by
  obtain ⟨p0, c0, p1, c1, p2, c2, rfl, r0, r1, r2⟩ := h
  have HS := Lib.hid hs
  have HC : Hid (ConfigR 0 w [.slice p0 x.rules.rules.length c0, .slice p1 x.scoring.weights.length c1, .int .i64 x.scoring.bias, .slice p2 x.survivors.length c2] x) := ⟨p0, c0, p1, c1, p2, c2, rfl, r0, r1, r2⟩
  clear r0 r1 r2 hs
  obtain ⟨w0, hw0⟩ : ∃ w0, w0 = (w.alloc (.cells #[.slice p0 x.rules.rules.length c0, .slice p1 x.scoring.weights.length c1, .int .i64 x.scoring.bias, .slice p2 x.survivors.length c2] 48)).alloc (.cells #[.slice none 0 0, .slice none 0 0, .int .i64 0, .slice none 0 0, .int .i64 0, .slice none 0 0, .slice none 0 0, .slice none 0 0, .int .i64 0, .slice none 0 0] 72) := ⟨_, rfl⟩
  have HB1 : Hid (Box w0 w.heap.size 48 #[.slice p0 x.rules.rules.length c0, .slice p1 x.scoring.weights.length c1, .int .i64 x.scoring.bias, .slice p2 x.survivors.length c2]) := by rw [hw0]; exact Box.alloc (Box.new' _ _ _ _ rfl) _
  have HB2 : Hid (Box w0 (w.heap.size + 1) 72 #[.slice none 0 0, .slice none 0 0, .int .i64 0, .slice none 0 0, .int .i64 0, .slice none 0 0, .slice none 0 0, .slice none 0 0, .int .i64 0, .slice none 0 0]) := by rw [hw0]; exact Box.new' _ _ _ _ (by simp)
  have HE0 : Hid (Ext w w0) := by rw [hw0]; show Ext w _; (repeat' (first | with_reducible assumption | with_reducible exact Below.refl _ _ | (with_reducible refine Ext.alloc' ?_ _) | (with_reducible refine Ext.drew' ?_) | (with_reducible refine Ext.drewN' ?_ _) | (with_reducible refine Ext.set_ ?_ (by first | omega | (simp; done) | (simp; omega)) _ _) | (refine Ext.trans ?_ (by with_reducible assumption))))
  have hsz : Hid (w0.heap.size = w.heap.size + 2) := by show _ = _; rw [hw0]; simp
  go_enter Try.func35, Try.ntmps35
  go_wp2_with fail
  rw [← hw0]
  clear hw0
  have b1 := HB1.out
  have k0 := b1.cell 0
  have k1 := b1.cell 1
  have k2 := b1.cell 2
  have k3 := b1.cell 3
  have klt := b1.lt
  simp only [List.getElem?_toArray, List.getElem?_cons_zero, List.getElem?_cons_succ] at k0 k1 k2 k3
  clear b1
  go_wp2_with fail
  refine (implValidConfig_any x HS.out [.slice p0 x.rules.rules.length c0, .slice p1 x.scoring.weights.length c1, .int .i64 x.scoring.bias, .slice p2 x.survivors.length c2] _ (good_Config.ext HC.out (by have h8 := HE0.out; (repeat' (first | with_reducible assumption | with_reducible exact Below.refl _ _ | (with_reducible refine Ext.alloc' ?_ _) | (with_reducible refine Ext.drew' ?_) | (with_reducible refine Ext.drewN' ?_ _) | (with_reducible refine Ext.set_ ?_ (by first | omega | (simp; done) | (simp; omega)) _ _) | (refine Ext.trans ?_ (by with_reducible assumption))))))).mono ?_
  rintro e w1 ⟨rfl, hE1⟩
  have HE1 : Hid (Ext w0 w1) := (show Ext w0 w1 from by have h9 := hE1; (repeat' (first | with_reducible assumption | with_reducible exact Below.refl _ _ | (with_reducible refine Ext.alloc' ?_ _) | (with_reducible refine Ext.drew' ?_) | (with_reducible refine Ext.drewN' ?_ _) | (with_reducible refine Ext.set_ ?_ (by first | omega | (simp; done) | (simp; omega)) _ _) | (refine Ext.trans ?_ (by with_reducible assumption)))))
  clear hE1 k0 k1 k2 k3 klt
  have HB1' := Lib.hid (HB1.out.ext HE1.out); have HB2' := Lib.hid (HB2.out.ext HE1.out)
  obtain ⟨cc, hcc⟩ : ∃ q, q = configOk x := ⟨_, rfl⟩
  have HCC := Lib.hid hcc
  rw [← hcc]
  clear hcc HB1 HB2
  have b2 := HB2'.out
  have m0 := b2.cell 0
  have mf0 := b2.free 0
  have m1 := b2.cell 1
  have mf1 := b2.free 1
  have m2 := b2.cell 2
  have mf2 := b2.free 2
  have m3 := b2.cell 3
  have mf3 := b2.free 3
  have m4 := b2.cell 4
  have mf4 := b2.free 4
  have m5 := b2.cell 5
  have mf5 := b2.free 5
  have m6 := b2.cell 6
  have mf6 := b2.free 6
  have m7 := b2.cell 7
  have mf7 := b2.free 7
  have m8 := b2.cell 8
  have mf8 := b2.free 8
  have m9 := b2.cell 9
  have mf9 := b2.free 9
  have mlt := b2.lt
  simp only [List.getElem?_toArray, List.getElem?_cons_zero, List.getElem?_cons_succ] at m0 m1 m2 m3 m4 m5 m6 m7 m8 m9
  clear b2
  cases cc
  · go_wp2_with fail
    refine bodyPost_ret (v := .tuple #[.agg #[.slice none 0 0, .slice none 0 0, .int .i64 0, .slice none 0 0, .int .i64 0, .slice none 0 0, .slice none 0 0, .slice none 0 0, .int .i64 0, .slice none 0 0], .bool false]) (by simp [results, Try.results35, go_sem, m0, m1, m2, m3, m4, m5, m6, m7, m8, m9]) rfl ?_
    rw [newSys_no HCC.out.symm]
    refine ⟨none, 0, none, 0, none, 0, none, 0, none, 0, none, 0, none, 0, oneT (fun _ => False), rfl, ApartT.one _, InT.one (fun _ h => h.elim), ⟨RowO.nil, RowO.nil, RowO.nil, RowO.nil, RowO.nil, RowO.nil, RowO.nil⟩, ?_⟩
    have h8 := HE0.out.trans HE1.out; (repeat' (first | with_reducible assumption | with_reducible exact Below.refl _ _ | (with_reducible refine Ext.alloc' ?_ _) | (with_reducible refine Ext.drew' ?_) | (with_reducible refine Ext.drewN' ?_ _) | (with_reducible refine Ext.set_ ?_ (by first | omega | (simp; done) | (simp; omega)) _ _) | (refine Ext.trans ?_ (by with_reducible assumption))))
  · have b1 := HB1'.out
    have k0 := b1.cell 0
    have k1 := b1.cell 1
    have k2 := b1.cell 2
    have k3 := b1.cell 3
    have klt := b1.lt
    simp only [List.getElem?_toArray, List.getElem?_cons_zero, List.getElem?_cons_succ] at k0 k1 k2 k3
    clear b1
    go_wp2_with fail
    refine (cloneConfig_any x HS.out [.slice p0 x.rules.rules.length c0, .slice p1 x.scoring.weights.length c1, .int .i64 x.scoring.bias, .slice p2 x.survivors.length c2] _ (good_Config.ext HC.out (by have h8 := HE0.out; have h9 := HE1.out; (repeat' (first | with_reducible assumption | with_reducible exact Below.refl _ _ | (with_reducible refine Ext.alloc' ?_ _) | (with_reducible refine Ext.drew' ?_) | (with_reducible refine Ext.drewN' ?_ _) | (with_reducible refine Ext.set_ ?_ (by first | omega | (simp; done) | (simp; omega)) _ _) | (refine Ext.trans ?_ (by with_reducible assumption))))))).mono ?_
    rintro e w2 ⟨p0n, c0n, p1n, c1n, p2n, c2n, T, rfl, hA, hI, r0n, r1n, r2n, hE2⟩
    have HE2 := Lib.hid hE2; have HA := Lib.hid hA; have HI := Lib.hid hI; have S0 := Lib.hid r0n; have S1 := Lib.hid r1n; have S2 := Lib.hid r2n
    have b2 := HB2'.out.ext hE2
    clear m0 m1 m2 m3 m4 m5 m6 m7 m8 m9 mf0 mf1 mf2 mf3 mf4 mf5 mf6 mf7 mf8 mf9 mlt k0 k1 k2 k3 klt
    have m0 := b2.cell 0
    have mf0 := b2.free 0
    have m1 := b2.cell 1
    have mf1 := b2.free 1
    have m2 := b2.cell 2
    have mf2 := b2.free 2
    have m3 := b2.cell 3
    have mf3 := b2.free 3
    have m4 := b2.cell 4
    have mf4 := b2.free 4
    have m5 := b2.cell 5
    have mf5 := b2.free 5
    have m6 := b2.cell 6
    have mf6 := b2.free 6
    have m7 := b2.cell 7
    have mf7 := b2.free 7
    have m8 := b2.cell 8
    have mf8 := b2.free 8
    have m9 := b2.cell 9
    have mf9 := b2.free 9
    have mlt := b2.lt
    simp only [List.getElem?_toArray, List.getElem?_cons_zero, List.getElem?_cons_succ] at m0 m1 m2 m3 m4 m5 m6 m7 m8 m9
    clear b2 hA hI r0n r1n r2n hE2
    go_wp2_with fail
    refine bodyPost_ret (v := .tuple #[.agg #[.slice p0n x.rules.rules.length c0n, .slice p1n x.scoring.weights.length c1n, .int .i64 x.scoring.bias, .slice p2n x.survivors.length c2n, .int .i64 0, .slice none 0 0, .slice none 0 0, .slice none 0 0, .int .i64 1, .slice none 0 0], .bool true]) (by simp [results, Try.results35, go_sem, m0, m1, m2, m3, m4, m5, m6, m7, m8, m9]) rfl ?_
    have hw := hsz.out; have h1 := HE1.out.size; have h2 := HE2.out.size
    rw [newSys_yes HCC.out.symm]
    refine ⟨p0n, c0n, p1n, c1n, p2n, c2n, none, 0, none, 0, none, 0, none, 0, T, rfl, HA.out, HI.out.mono (by omega) (by simp), ⟨?_, ?_, ?_, RowO.nil, RowO.nil, RowO.nil, RowO.nil⟩, ?_⟩
    · exact RowO.keepT goodO_Rule S0.out HI.out (B := w.heap.size + 2) (by (repeat' (first | with_reducible exact Keep.refl _ _ | refine Keep.set_trans ?_ (by omega) _ _))) (by omega)
    · exact RowO.keepT goodO_int S1.out HI.out (B := w.heap.size + 2) (by (repeat' (first | with_reducible exact Keep.refl _ _ | refine Keep.set_trans ?_ (by omega) _ _))) (by omega)
    · exact RowO.keepT goodO_int S2.out HI.out (B := w.heap.size + 2) (by (repeat' (first | with_reducible exact Keep.refl _ _ | refine Keep.set_trans ?_ (by omega) _ _))) (by omega)
    · have h8 := HE0.out.trans (HE1.out.trans HE2.out); (repeat' (first | with_reducible assumption | with_reducible exact Below.refl _ _ | (with_reducible refine Ext.alloc' ?_ _) | (with_reducible refine Ext.drew' ?_) | (with_reducible refine Ext.drewN' ?_ _) | (with_reducible refine Ext.set_ ?_ (by first | omega | (simp; done) | (simp; omega)) _ _) | (refine Ext.trans ?_ (by with_reducible assumption))))

set_option maxRecDepth 8000 in
set_option maxHeartbeats 3200000 in
theorem specNewSystem_any (x : DConfig) (hs : SmallConfig x) (vs : List Value) (w : World) (h : ConfigR 0 w vs x) :
    Calls Try.prog 34 #[.agg vs.toArray] w (MadeSB (newSys x).1 (newSys x).2 w) := by
  obtain ⟨p0, c0, p1, c1, p2, c2, rfl, r0, r1, r2⟩ := h
  have HS := Lib.hid hs
  have HC : Hid (ConfigR 0 w [.slice p0 x.rules.rules.length c0, .slice p1 x.scoring.weights.length c1, .int .i64 x.scoring.bias, .slice p2 x.survivors.length c2] x) := ⟨p0, c0, p1, c1, p2, c2, rfl, r0, r1, r2⟩
  clear r0 r1 r2 hs
  obtain ⟨w0, hw0⟩ : ∃ w0, w0 = (w.alloc (.cells #[.slice p0 x.rules.rules.length c0, .slice p1 x.scoring.weights.length c1, .int .i64 x.scoring.bias, .slice p2 x.survivors.length c2] 48)).alloc (.cells #[.slice none 0 0, .slice none 0 0, .int .i64 0, .slice none 0 0, .int .i64 0, .slice none 0 0, .slice none 0 0, .slice none 0 0, .int .i64 0, .slice none 0 0] 72) := ⟨_, rfl⟩
  have HB1 : Hid (Box w0 w.heap.size 48 #[.slice p0 x.rules.rules.length c0, .slice p1 x.scoring.weights.length c1, .int .i64 x.scoring.bias, .slice p2 x.survivors.length c2]) := by rw [hw0]; exact Box.alloc (Box.new' _ _ _ _ rfl) _
  have HB2 : Hid (Box w0 (w.heap.size + 1) 72 #[.slice none 0 0, .slice none 0 0, .int .i64 0, .slice none 0 0, .int .i64 0, .slice none 0 0, .slice none 0 0, .slice none 0 0, .int .i64 0, .slice none 0 0]) := by rw [hw0]; exact Box.new' _ _ _ _ (by simp)
  have HE0 : Hid (Ext w w0) := by rw [hw0]; show Ext w _; (repeat' (first | with_reducible assumption | with_reducible exact Below.refl _ _ | (with_reducible refine Ext.alloc' ?_ _) | (with_reducible refine Ext.drew' ?_) | (with_reducible refine Ext.drewN' ?_ _) | (with_reducible refine Ext.set_ ?_ (by first | omega | (simp; done) | (simp; omega)) _ _) | (refine Ext.trans ?_ (by with_reducible assumption))))
  have hsz : Hid (w0.heap.size = w.heap.size + 2) := by show _ = _; rw [hw0]; simp
  go_enter Try.func34, Try.ntmps34
  go_wp2_with fail
  rw [← hw0]
  clear hw0
  have b1 := HB1.out
  have k0 := b1.cell 0
  have k1 := b1.cell 1
  have k2 := b1.cell 2
  have k3 := b1.cell 3
  have klt := b1.lt
  simp only [List.getElem?_toArray, List.getElem?_cons_zero, List.getElem?_cons_succ] at k0 k1 k2 k3
  clear b1
  go_wp2_with fail
  refine (specValidConfig_any x HS.out [.slice p0 x.rules.rules.length c0, .slice p1 x.scoring.weights.length c1, .int .i64 x.scoring.bias, .slice p2 x.survivors.length c2] _ (good_Config.ext HC.out (by have h8 := HE0.out; (repeat' (first | with_reducible assumption | with_reducible exact Below.refl _ _ | (with_reducible refine Ext.alloc' ?_ _) | (with_reducible refine Ext.drew' ?_) | (with_reducible refine Ext.drewN' ?_ _) | (with_reducible refine Ext.set_ ?_ (by first | omega | (simp; done) | (simp; omega)) _ _) | (refine Ext.trans ?_ (by with_reducible assumption))))))).mono ?_
  rintro e w1 ⟨rfl, hE1⟩
  have HE1 : Hid (Ext w0 w1) := (show Ext w0 w1 from by have h9 := hE1; (repeat' (first | with_reducible assumption | with_reducible exact Below.refl _ _ | (with_reducible refine Ext.alloc' ?_ _) | (with_reducible refine Ext.drew' ?_) | (with_reducible refine Ext.drewN' ?_ _) | (with_reducible refine Ext.set_ ?_ (by first | omega | (simp; done) | (simp; omega)) _ _) | (refine Ext.trans ?_ (by with_reducible assumption)))))
  clear hE1 k0 k1 k2 k3 klt
  have HB1' := Lib.hid (HB1.out.ext HE1.out); have HB2' := Lib.hid (HB2.out.ext HE1.out)
  obtain ⟨cc, hcc⟩ : ∃ q, q = configOk x := ⟨_, rfl⟩
  have HCC := Lib.hid hcc
  rw [← hcc]
  clear hcc HB1 HB2
  have b2 := HB2'.out
  have m0 := b2.cell 0
  have mf0 := b2.free 0
  have m1 := b2.cell 1
  have mf1 := b2.free 1
  have m2 := b2.cell 2
  have mf2 := b2.free 2
  have m3 := b2.cell 3
  have mf3 := b2.free 3
  have m4 := b2.cell 4
  have mf4 := b2.free 4
  have m5 := b2.cell 5
  have mf5 := b2.free 5
  have m6 := b2.cell 6
  have mf6 := b2.free 6
  have m7 := b2.cell 7
  have mf7 := b2.free 7
  have m8 := b2.cell 8
  have mf8 := b2.free 8
  have m9 := b2.cell 9
  have mf9 := b2.free 9
  have mlt := b2.lt
  simp only [List.getElem?_toArray, List.getElem?_cons_zero, List.getElem?_cons_succ] at m0 m1 m2 m3 m4 m5 m6 m7 m8 m9
  clear b2
  cases cc
  · go_wp2_with fail
    refine bodyPost_ret (v := .tuple #[.agg #[.slice none 0 0, .slice none 0 0, .int .i64 0, .slice none 0 0, .int .i64 0, .slice none 0 0, .slice none 0 0, .slice none 0 0, .int .i64 0, .slice none 0 0], .bool false]) (by simp [results, Try.results34, go_sem, m0, m1, m2, m3, m4, m5, m6, m7, m8, m9]) rfl ?_
    rw [newSys_no HCC.out.symm]
    refine ⟨none, 0, none, 0, none, 0, none, 0, none, 0, none, 0, none, 0, oneT (fun _ => False), rfl, ApartT.one _, InT.one (fun _ h => h.elim), ⟨RowO.nil, RowO.nil, RowO.nil, RowO.nil, RowO.nil, RowO.nil, RowO.nil⟩, ?_⟩
    have h8 := HE0.out.trans HE1.out; (repeat' (first | with_reducible assumption | with_reducible exact Below.refl _ _ | (with_reducible refine Ext.alloc' ?_ _) | (with_reducible refine Ext.drew' ?_) | (with_reducible refine Ext.drewN' ?_ _) | (with_reducible refine Ext.set_ ?_ (by first | omega | (simp; done) | (simp; omega)) _ _) | (refine Ext.trans ?_ (by with_reducible assumption))))
  · have b1 := HB1'.out
    have k0 := b1.cell 0
    have k1 := b1.cell 1
    have k2 := b1.cell 2
    have k3 := b1.cell 3
    have klt := b1.lt
    simp only [List.getElem?_toArray, List.getElem?_cons_zero, List.getElem?_cons_succ] at k0 k1 k2 k3
    clear b1
    go_wp2_with fail
    refine (l32Config_any x HS.out [.slice p0 x.rules.rules.length c0, .slice p1 x.scoring.weights.length c1, .int .i64 x.scoring.bias, .slice p2 x.survivors.length c2] _ (good_Config.ext HC.out (by have h8 := HE0.out; have h9 := HE1.out; (repeat' (first | with_reducible assumption | with_reducible exact Below.refl _ _ | (with_reducible refine Ext.alloc' ?_ _) | (with_reducible refine Ext.drew' ?_) | (with_reducible refine Ext.drewN' ?_ _) | (with_reducible refine Ext.set_ ?_ (by first | omega | (simp; done) | (simp; omega)) _ _) | (refine Ext.trans ?_ (by with_reducible assumption))))))).mono ?_
    rintro e w2 ⟨p0n, c0n, p1n, c1n, p2n, c2n, T, rfl, hA, hI, r0n, r1n, r2n, hE2⟩
    have HE2 := Lib.hid hE2; have HA := Lib.hid hA; have HI := Lib.hid hI; have S0 := Lib.hid r0n; have S1 := Lib.hid r1n; have S2 := Lib.hid r2n
    have b2 := HB2'.out.ext hE2
    clear m0 m1 m2 m3 m4 m5 m6 m7 m8 m9 mf0 mf1 mf2 mf3 mf4 mf5 mf6 mf7 mf8 mf9 mlt k0 k1 k2 k3 klt
    have m0 := b2.cell 0
    have mf0 := b2.free 0
    have m1 := b2.cell 1
    have mf1 := b2.free 1
    have m2 := b2.cell 2
    have mf2 := b2.free 2
    have m3 := b2.cell 3
    have mf3 := b2.free 3
    have m4 := b2.cell 4
    have mf4 := b2.free 4
    have m5 := b2.cell 5
    have mf5 := b2.free 5
    have m6 := b2.cell 6
    have mf6 := b2.free 6
    have m7 := b2.cell 7
    have mf7 := b2.free 7
    have m8 := b2.cell 8
    have mf8 := b2.free 8
    have m9 := b2.cell 9
    have mf9 := b2.free 9
    have mlt := b2.lt
    simp only [List.getElem?_toArray, List.getElem?_cons_zero, List.getElem?_cons_succ] at m0 m1 m2 m3 m4 m5 m6 m7 m8 m9
    clear b2 hA hI r0n r1n r2n hE2
    go_wp2_with fail
    refine bodyPost_ret (v := .tuple #[.agg #[.slice p0n x.rules.rules.length c0n, .slice p1n x.scoring.weights.length c1n, .int .i64 x.scoring.bias, .slice p2n x.survivors.length c2n, .int .i64 0, .slice none 0 0, .slice none 0 0, .slice none 0 0, .int .i64 1, .slice none 0 0], .bool true]) (by simp [results, Try.results34, go_sem, m0, m1, m2, m3, m4, m5, m6, m7, m8, m9]) rfl ?_
    have hw := hsz.out; have h1 := HE1.out.size; have h2 := HE2.out.size
    rw [newSys_yes HCC.out.symm]
    refine ⟨p0n, c0n, p1n, c1n, p2n, c2n, none, 0, none, 0, none, 0, none, 0, T, rfl, HA.out, HI.out.mono (by omega) (by simp), ⟨?_, ?_, ?_, RowO.nil, RowO.nil, RowO.nil, RowO.nil⟩, ?_⟩
    · exact RowO.keepT goodO_Rule S0.out HI.out (B := w.heap.size + 2) (by (repeat' (first | with_reducible exact Keep.refl _ _ | refine Keep.set_trans ?_ (by omega) _ _))) (by omega)
    · exact RowO.keepT goodO_int S1.out HI.out (B := w.heap.size + 2) (by (repeat' (first | with_reducible exact Keep.refl _ _ | refine Keep.set_trans ?_ (by omega) _ _))) (by omega)
    · exact RowO.keepT goodO_int S2.out HI.out (B := w.heap.size + 2) (by (repeat' (first | with_reducible exact Keep.refl _ _ | refine Keep.set_trans ?_ (by omega) _ _))) (by omega)
    · have h8 := HE0.out.trans (HE1.out.trans HE2.out); (repeat' (first | with_reducible assumption | with_reducible exact Below.refl _ _ | (with_reducible refine Ext.alloc' ?_ _) | (with_reducible refine Ext.drew' ?_) | (with_reducible refine Ext.drewN' ?_ _) | (with_reducible refine Ext.set_ ?_ (by first | omega | (simp; done) | (simp; omega)) _ _) | (refine Ext.trans ?_ (by with_reducible assumption))))
end Go.Proofs.Ytdgpbgpapcldeaa
