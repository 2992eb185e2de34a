/- The walks of the drawer. -/
import Derived.Test.YtgehpbikkcnecaaBest
set_option linter.unusedVariables false
set_option linter.unusedSimpArgs false
namespace Go.Proofs.Ytgehpbikkcnecaa
open Go.RowKit Go.Er

theorem and_bound (x : Int) (m : Nat) (hm : m < 4611686018427387904) : 0 ≤ bits .and .i64 x (m : Int) ∧ bits .and .i64 x (m : Int) ≤ (m : Int) := by
  simp only [bits]
  rw [BitVec.toNat_and, show (IntKind.i64.bits) = 64 from rfl, toNat_ofInt64 m (by omega)]
  have h := @Nat.and_le_right (BitVec.ofInt 64 x).toNat m
  generalize (BitVec.ofInt 64 x).toNat &&& m = q at *
  rw [IntWalk.i64_in _ (by omega)]
  omega
theorem and_bound255 (x : Int) : 0 ≤ bits .and .i64 x 255 ∧ bits .and .i64 x 255 ≤ 255 := and_bound x 255 (by omega)
theorem grown_trans {a b c : World} {r : Option Nat} (h : a.grownBy b r) (k : b.grownBy c r) : a.grownBy c r :=
  ⟨k.os.trans h.os, k.tape.trans h.tape, k.output.trans h.output, Nat.le_trans h.size k.size, fun i hi hr => (k.block i (Nat.lt_of_lt_of_le hi h.size) hr).trans (h.block i hi hr)⟩
theorem grown_setCell (w : World) (a : Addr) (u : Value) : w.grownBy (w.setCell a u) (some a.block) :=
  ⟨rfl, rfl, rfl, by simp, fun k _ hk => heap_setCell_other w a k u (fun e => hk (by rw [e]))⟩

/-- The drawer at d: a slice of bytes that lies before it, the place, the state. -/
def CurAt (w : World) (d : Nat) (a : Option Addr) (n cap pos : Nat) (h : Int) : Prop :=
  Box w d 64 #[.slice a n cap, .int .i64 pos, .int .i64 h] ∧
    ∀ i, i < n → ∃ b o x, a = some ⟨b, o, none⟩ ∧ b < d ∧ w.cell? ⟨b, o + i, none⟩ = some (.int .u8 x) ∧ 0 ≤ x ∧ x ≤ 255
def Cur (w : World) (d : Nat) (a : Option Addr) (n cap : Nat) : Prop := ∃ (pos : Nat) (h : Int), pos ≤ n ∧ n ≤ 1048576 ∧ CurAt w d a n cap pos h
theorem CurAt.drew {w : World} {d : Nat} {a : Option Addr} {n cap pos : Nat} {h : Int} (hc : CurAt w d a n cap pos h) (k : Nat) : CurAt (w.drewN k) d a n cap pos h := by
  refine ⟨hc.1.drewN k, ?_⟩
  intro i hi
  obtain ⟨b, o, x, h1, h2, h3, h4⟩ := hc.2 i hi
  exact ⟨b, o, x, h1, h2, ((Ext.refl w).drewN' k).at h3, h4⟩
theorem grown_drewN (w : World) (k : Nat) (r : Option Nat) : w.grownBy (w.drewN k) r :=
  have e := (Ext.refl w).drewN' k
  ⟨e.os, e.tape, e.output, e.size, fun i hi _ => e.block i hi⟩
theorem CurAt.bytes {w : World} {d : Nat} {a : Option Addr} {n cap pos : Nat} {h : Int} (hc : CurAt w d a n cap pos h) (j : Nat) (u : Value) :
    ∀ i, i < n → ∃ b o x, a = some ⟨b, o, none⟩ ∧ b < d ∧ (w.setCell ⟨d, j, none⟩ u).cell? ⟨b, o + i, none⟩ = some (.int .u8 x) ∧ 0 ≤ x ∧ x ≤ 255 := by
  intro i hi
  have hs := hc.1.lt
  obtain ⟨b, o, x, h1, hbd, hcl, hx⟩ := hc.2 i hi
  exact ⟨b, o, x, h1, hbd, (World.cell?_of_block (a := ⟨b, o + i, none⟩) ((grown_setCell w ⟨d, j, none⟩ u).block b (by omega) (by simp; omega))).trans hcl, hx⟩
theorem CurAt.set1 {w : World} {d : Nat} {a : Option Addr} {n cap pos : Nat} {h : Int} (hc : CurAt w d a n cap pos h) (p : Nat) : CurAt (w.setCell ⟨d, 1, none⟩ (.int .i64 p)) d a n cap p h :=
  ⟨Box.cast (hc.1.set 1 (.int .i64 p)) (by simp), hc.bytes 1 _⟩
theorem CurAt.set2 {w : World} {d : Nat} {a : Option Addr} {n cap pos : Nat} {h : Int} (hc : CurAt w d a n cap pos h) (h' : Int) : CurAt (w.setCell ⟨d, 2, none⟩ (.int .i64 h')) d a n cap pos h' :=
  ⟨Box.cast (hc.1.set 2 (.int .i64 h')) (by simp), hc.bytes 2 _⟩

set_option maxHeartbeats 800000 in
theorem l1Byte_any (d n cap : Nat) (a : Option Addr) (w : World) (hc : Cur w d a n cap) :
    Calls Try.prog 73 #[.pointer (some ⟨d, 0, none⟩)] w fun e w' => (∃ v : Int, e = .returned (.int .i64 v) ∧ 0 ≤ v ∧ v ≤ 255) ∧ Cur w' d a n cap ∧ w.grownBy w' (some d) := by
  obtain ⟨pos, h, hp, hn, hc⟩ := hc
  have HC := Lib.hid hc; clear hc
  have k0 := HC.out.1.cell 0; have k1 := HC.out.1.cell 1; have k2 := HC.out.1.cell 2
  have g0 := HC.out.1.free 0; have g1 := HC.out.1.free 1; have g2 := HC.out.1.free 2
  simp only [List.getElem?_toArray, List.getElem?_cons_zero, List.getElem?_cons_succ] at k0 k1 k2
  have hs := HC.out.1.lt
  go_enter Try.func73, Try.ntmps73
  go_wp2
  generalize wrap64 (wrap64 (h * 6364136223846793005) + 1442695040888963407) = h1 at *
  have HG := Lib.hid (grown_setCell w ⟨d, 2, none⟩ (.int .i64 h1))
  have HC' := Lib.hid (HC.out.set2 h1)
  generalize w.setCell ⟨d, 2, none⟩ (.int .i64 h1) = w1 at *
  clear k0 k1 k2 g0 g1 g2 hs HC
  have HC := HC'; clear HC'
  have k0 := HC.out.1.cell 0; have k1 := HC.out.1.cell 1; have k2 := HC.out.1.cell 2
  have g0 := HC.out.1.free 0; have g1 := HC.out.1.free 1; have g2 := HC.out.1.free 2
  simp only [List.getElem?_toArray, List.getElem?_cons_zero, List.getElem?_cons_succ] at k0 k1 k2
  have hs := HC.out.1.lt
  go_wp2
  go_quiet (fail)
  have hx1 := and_bound255 (bits BinOp.xor IntKind.i64 (h1 / 8589934592) (h1 / 35184372088832))
  generalize bits BinOp.and IntKind.i64 (bits BinOp.xor IntKind.i64 (h1 / 8589934592) (h1 / 35184372088832)) 255 = x1 at *
  have HG' := Lib.hid (grown_trans HG.out (grown_drewN _ nq (some d)))
  have HC' := Lib.hid (HC.out.drew nq)
  generalize World.drewN _ nq = w2 at *
  clear k0 k1 k2 g0 g1 g2 hs HG HC
  have HG := HG'; have HC := HC'; clear HG' HC'
  have k0 := HC.out.1.cell 0; have k1 := HC.out.1.cell 1; have k2 := HC.out.1.cell 2
  have g0 := HC.out.1.free 0; have g1 := HC.out.1.free 1; have g2 := HC.out.1.free 2
  simp only [List.getElem?_toArray, List.getElem?_cons_zero, List.getElem?_cons_succ] at k0 k1 k2
  have hs := HC.out.1.lt
  by_cases hlt : pos < n
  · have hltz : (pos : Int) < (n : Int) := by omega
    go_wp2
    go_quiet (fail)
    have HG' := Lib.hid (grown_trans HG.out (grown_drewN _ nq (some d)))
    have HC' := Lib.hid (HC.out.drew nq)
    generalize World.drewN _ nq = w3 at *
    clear k0 k1 k2 g0 g1 g2 hs HG HC
    have HG := HG'; have HC := HC'; clear HG' HC'
    have k0 := HC.out.1.cell 0; have k1 := HC.out.1.cell 1; have k2 := HC.out.1.cell 2
    have g0 := HC.out.1.free 0; have g1 := HC.out.1.free 1; have g2 := HC.out.1.free 2
    simp only [List.getElem?_toArray, List.getElem?_cons_zero, List.getElem?_cons_succ] at k0 k1 k2
    have hs := HC.out.1.lt
    obtain ⟨b, o, x, rfl, hbd, hcl, hx0, hx9⟩ := HC.out.2 pos hlt
    go_wp2
    go_quiet (fail)
    have hx2 := and_bound255 (x1 + x)
    generalize bits BinOp.and IntKind.i64 (x1 + x) 255 = x2 at *
    clear hcl
    have HG' := Lib.hid (grown_trans HG.out (grown_drewN _ nq (some d)))
    have HC' := Lib.hid (HC.out.drew nq)
    generalize World.drewN _ nq = w4 at *
    clear k0 k1 k2 g0 g1 g2 hs HG HC
    have HG := HG'; have HC := HC'; clear HG' HC'
    have k0 := HC.out.1.cell 0; have k1 := HC.out.1.cell 1; have k2 := HC.out.1.cell 2
    have g0 := HC.out.1.free 0; have g1 := HC.out.1.free 1; have g2 := HC.out.1.free 2
    simp only [List.getElem?_toArray, List.getElem?_cons_zero, List.getElem?_cons_succ] at k0 k1 k2
    have hs := HC.out.1.lt
    go_wp2
    go_ret
    refine ⟨⟨x2, rfl, hx2.1, hx2.2⟩, ⟨pos + 1, h1, by omega, hn, ?_⟩, ?_⟩
    · have h9 := HC.out.set1 (pos + 1)
      simpa using h9
    · exact grown_trans HG.out (grown_setCell _ _ _)
  · have hltz : ¬ (pos : Int) < (n : Int) := by omega
    go_wp2
    go_quiet (fail)
    have HG' := Lib.hid (grown_trans HG.out (grown_drewN _ nq (some d)))
    have HC' := Lib.hid (HC.out.drew nq)
    generalize World.drewN _ nq = w3 at *
    clear k0 k1 k2 g0 g1 g2 hs HG HC
    have HG := HG'; have HC := HC'; clear HG' HC'
    have k0 := HC.out.1.cell 0; have k1 := HC.out.1.cell 1; have k2 := HC.out.1.cell 2
    have g0 := HC.out.1.free 0; have g1 := HC.out.1.free 1; have g2 := HC.out.1.free 2
    simp only [List.getElem?_toArray, List.getElem?_cons_zero, List.getElem?_cons_succ] at k0 k1 k2
    have hs := HC.out.1.lt
    go_wp2
    go_ret
    exact ⟨⟨x1, rfl, hx1.1, hx1.2⟩, ⟨pos, h1, hp, hn, HC.out⟩, HG.out⟩
end Go.Proofs.Ytgehpbikkcnecaa
