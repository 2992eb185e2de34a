/- Equality of configurations. -/
import Derived.Test.YtdgpbgpapcldeaaEqInts
import Derived.Test.YtdgpbgpapcldeaaEqTests
import Derived.Test.YtdgpbgpapcldeaaKConfig
set_option linter.unusedVariables false
set_option linter.unusedSimpArgs false
namespace Go.Proofs.Ytdgpbgpapcldeaa
open Go.RowKit Go.Er Go.BigFrame

def ruleEq (x y : DRule) : Bool := eqL testEq x.tests y.tests
def configEq (x y : DConfig) : Bool := eqL ruleEq x.rules.rules y.rules.rules && x.scoring.weights == y.scoring.weights && x.scoring.bias == y.scoring.bias && x.survivors == y.survivors

theorem ruleClosure_any (x y : DRule) (us vs : List Value) (w : World) (h1 : RuleR 0 w us x) (h2 : RuleR 0 w vs y) :
    Calls Try.prog 51 #[.agg us.toArray, .agg vs.toArray] w fun e w' => e = .returned (.bool (ruleEq x y)) ∧ Ext w w' := by
  obtain ⟨p0a, c0a, rfl, r0a⟩ := h1
  obtain ⟨p0b, c0b, rfl, r0b⟩ := h2
  have HA := Lib.hid r0a; have HB := Lib.hid r0b; clear r0a r0b
  go_enter Try.func51, Try.ntmps51
  go_wp2_with fail
  refine (equalTests_any x.tests y.tests p0a p0b c0a c0b _ (HA.out.ext good_Test (by (repeat' (first | with_reducible assumption | with_reducible exact Below.refl _ _ | (with_reducible refine Ext.alloc' ?_ _) | (with_reducible refine Ext.drew' ?_) | (with_reducible refine Ext.drewN' ?_ _) | (with_reducible refine Ext.set_ ?_ (by first | omega | (simp; done) | (simp; omega)) _ _) | (refine Ext.trans ?_ (by with_reducible assumption)))))) (HB.out.ext good_Test (by (repeat' (first | with_reducible assumption | with_reducible exact Below.refl _ _ | (with_reducible refine Ext.alloc' ?_ _) | (with_reducible refine Ext.drew' ?_) | (with_reducible refine Ext.drewN' ?_ _) | (with_reducible refine Ext.set_ ?_ (by first | omega | (simp; done) | (simp; omega)) _ _) | (refine Ext.trans ?_ (by with_reducible assumption))))))).mono ?_
  rintro e w1 ⟨rfl, hE1⟩
  have HE1 := Lib.hid (show Ext w w1 from by (repeat' (first | with_reducible assumption | with_reducible exact Below.refl _ _ | (with_reducible refine Ext.alloc' ?_ _) | (with_reducible refine Ext.drew' ?_) | (with_reducible refine Ext.drewN' ?_ _) | (with_reducible refine Ext.set_ ?_ (by first | omega | (simp; done) | (simp; omega)) _ _) | (refine Ext.trans ?_ (by with_reducible assumption)))))
  clear hE1
  go_wp2_with fail
  go_ret
  exact ⟨rfl, HE1.out⟩
theorem canCallRule : ∀ (args : Array Value) (w : World), (callFunc 51 args).run Try.prog w = .ok (.enter 51 args) w :=
  callFunc_run Try.func51 (by kernel_rfl) (by kernel_rfl)

set_option maxHeartbeats 1600000 in
theorem equalRules_any (F : FuncId) (hcf : ∀ (args : Array Value) (w : World), (callFunc F args).run Try.prog w = .ok (.enter F args) w)
    (hcl : ∀ (x y : DRule) (us vs : List Value) (w : World), RuleR 0 w us x → RuleR 0 w vs y → Calls Try.prog F #[.agg us.toArray, .agg vs.toArray] w fun e w' => e = .returned (.bool (ruleEq x y)) ∧ Ext w w')
    (l m : List DRule) (a1 a2 : Option Addr) (c1 c2 : Nat) (w : World) (h1 : RowR 1 RuleR 0 w a1 l) (h2 : RowR 1 RuleR 0 w a2 m) :
    Calls Try.prog 53 #[.slice a1 l.length c1, .slice a2 m.length c2, .func (.func F) #[] #[]] w fun e w' => e = .returned (.bool (eqL ruleEq l m)) ∧ Ext w w' := by
  have hl : (l.length : Int) ≤ 9223372036854775807 := by have := h1.1; unfold maxLen at this; omega
  have hm : (m.length : Int) ≤ 9223372036854775807 := by have := h2.1; unfold maxLen at this; omega
  have HA := Lib.hid h1; have HB := Lib.hid h2; clear h1 h2
  have HCL := Lib.hid hcl; clear hcl
  by_cases hlen : l.length = m.length
  · have Hlen := Lib.hid hlen
    have htest : ((l.length : Int) != m.length) = false := by simp [hlen]
    clear hlen
    go_enter Try.func53, Try.ntmps53
    go_wp2_with fail
    clear htest
    go_loopw [17] (fun s5 wr => ∃ k : Nat, k ≤ l.length ∧ s5 = .int .i64 k ∧ Ext w wr ∧ Hid (eqL ruleEq (l.drop k) (m.drop k) = eqL ruleEq l m)) (fun i _ => l.length - (intOf i).toNat)
    case atStart => exact ⟨0, Nat.zero_le _, rfl, Ext.refl _, rfl⟩
    case round =>
      obtain ⟨k, hk, rfl, hE, hR⟩ := hrel
      have HE := Lib.hid hE; clear hE
      by_cases hlt : k < l.length
      · have hkm : k < m.length := by have := Hlen.out; omega
        obtain ⟨b1, o1, vs1, rfl, _, _, hc1, hR1⟩ := (HA.out.ext good_Rule HE.out).2 k hlt
        obtain ⟨b2, o2, vs2, rfl, _, _, hc2, hR2⟩ := (HB.out.ext good_Rule HE.out).2 k hkm
        have hR' := eqL_drop ruleEq l m k hlt hkm
        obtain ⟨x, hx⟩ : ∃ x, x = l[k] := ⟨_, rfl⟩
        obtain ⟨y, hy⟩ : ∃ y, y = m[k] := ⟨_, rfl⟩
        rw [← hx] at hR1 hR'
        rw [← hy] at hR2 hR'
        have HR' := Lib.hid (hR'.symm.trans hR.out)
        clear hx hy hR' hR
        obtain ⟨p0a, c0a, rfl, r0a⟩ := hR1
        obtain ⟨p0b, c0b, rfl, r0b⟩ := hR2
        have HX : Hid (RuleR 0 wr [.slice p0a x.tests.length c0a] x) := ⟨p0a, c0a, rfl, r0a⟩
        have HY : Hid (RuleR 0 wr [.slice p0b y.tests.length c0b] y) := ⟨p0b, c0b, rfl, r0b⟩
        clear r0a r0b
        have q0 := hc1 0 (by simp)
        simp only [List.getElem_cons_zero, List.getElem_cons_succ, Nat.mul_one, Nat.add_zero] at q0
        have t0 := hc2 0 (by simp)
        simp only [List.getElem_cons_zero, List.getElem_cons_succ, Nat.mul_one, Nat.add_zero] at t0
        clear hc1 hc2
        have hlt1 : (k : Int) < l.length := by omega
        have hlt2 : (k : Int) < m.length := by omega
        have ql := lt_of_cell q0; have tl := lt_of_cell t0
        go_wp2_with fail
        refine (HCL.out x y [.slice p0a x.tests.length c0a] [.slice p0b y.tests.length c0b] _ (good_Rule.ext HX.out (by (repeat' (first | with_reducible assumption | with_reducible exact Below.refl _ _ | (with_reducible refine Ext.alloc' ?_ _) | (with_reducible refine Ext.drew' ?_) | (with_reducible refine Ext.drewN' ?_ _) | (with_reducible refine Ext.set_ ?_ (by first | omega | (simp; done) | (simp; omega)) _ _) | (refine Ext.trans ?_ (by with_reducible assumption)))))) (good_Rule.ext HY.out (by (repeat' (first | with_reducible assumption | with_reducible exact Below.refl _ _ | (with_reducible refine Ext.alloc' ?_ _) | (with_reducible refine Ext.drew' ?_) | (with_reducible refine Ext.drewN' ?_ _) | (with_reducible refine Ext.set_ ?_ (by first | omega | (simp; done) | (simp; omega)) _ _) | (refine Ext.trans ?_ (by with_reducible assumption))))))).mono ?_
        rintro e w1 ⟨rfl, hE1⟩
        have HE1 : Hid (Ext w w1) := (show Ext w w1 from by have h8 := HE.out; have h9 := hE1; (repeat' (first | with_reducible assumption | with_reducible exact Below.refl _ _ | (with_reducible refine Ext.alloc' ?_ _) | (with_reducible refine Ext.drew' ?_) | (with_reducible refine Ext.drewN' ?_ _) | (with_reducible refine Ext.set_ ?_ (by first | omega | (simp; done) | (simp; omega)) _ _) | (refine Ext.trans ?_ (by with_reducible assumption)))))
        clear hE1 q0 t0 ql tl
        cases hp : ruleEq x y
        · rw [hp, Bool.false_and] at HR'
          clear hp
          go_wp2_with fail
          go_ret
          exact ⟨ret_bool HR'.out, HE1.out⟩
        · rw [hp, Bool.true_and] at HR'
          clear hp
          go_wp2_with fail
          go_roundw
          case rel => exact ⟨k + 1, by omega, by go_num, HE1.out, HR'⟩
          case measure => (simp [intOf] <;> omega)
      · obtain rfl : k = l.length := by omega
        have hR' := Lib.hid ((eqL_end ruleEq l m Hlen.out).symm.trans hR.out)
        clear hR
        go_wp2_with fail
        go_ret
        exact ⟨ret_bool hR'.out, HE.out⟩
  · have htest : ((l.length : Int) != m.length) = true := by simp; omega
    have hf := Lib.hid (eqL_len ruleEq l m hlen)
    go_enter Try.func53, Try.ntmps53
    go_wp2_with fail
    go_ret
    exact ⟨ret_bool hf.out.symm, Ext.refl _⟩

set_option maxHeartbeats 1600000 in
theorem implEqualConfigs_any (x y : DConfig) (hx : SmallConfig x) (hy : SmallConfig y) (us vs : List Value) (w : World) (h1 : ConfigR 0 w us x) (h2 : ConfigR 0 w vs y) :
    Calls Try.prog 19 #[.agg us.toArray, .agg vs.toArray] w fun e w' => e = .returned (.bool (configEq x y)) ∧ Ext w w' := by
  obtain ⟨p0a, c0a, p1a, c1a, p2a, c2a, rfl, r0a, r1a, r2a⟩ := h1
  obtain ⟨p0b, c0b, p1b, c1b, p2b, c2b, rfl, r0b, r1b, r2b⟩ := h2
  have hw1 : x.scoring.weights.length ≤ 1048576 := hx.2.1.1
  have hw2 : y.scoring.weights.length ≤ 1048576 := hy.2.1.1
  have hs1 : x.survivors.length ≤ 1048576 := hx.2.2.1
  have hs2 : y.survivors.length ≤ 1048576 := hy.2.2.1
  have A0 := Lib.hid r0a; have A1 := Lib.hid r1a; have A2 := Lib.hid r2a; have B0 := Lib.hid r0b; have B1 := Lib.hid r1b; have B2 := Lib.hid r2b
  clear r0a r1a r2a r0b r1b r2b hx hy
  obtain ⟨cA, hA⟩ : ∃ q, q = eqL ruleEq x.rules.rules y.rules.rules := ⟨_, rfl⟩
  obtain ⟨cB, hB⟩ : ∃ q, q = (x.scoring.weights == y.scoring.weights) := ⟨_, rfl⟩
  obtain ⟨cD, hD⟩ : ∃ q, q = (x.survivors == y.survivors) := ⟨_, rfl⟩
  have hcc : configEq x y = (cA && cB && (x.scoring.bias == y.scoring.bias) && cD) := by rw [hA, hB, hD]; rfl
  have HCC := Lib.hid hcc; have HA := Lib.hid hA; have HB := Lib.hid hB; have HD := Lib.hid hD
  clear hcc hA hB hD
  go_enter Try.func19, Try.ntmps19
  go_wp2_with fail
  refine (equalRules_any 51 canCallRule ruleClosure_any x.rules.rules y.rules.rules p0a p0b c0a c0b _ (A0.out.ext good_Rule (by (repeat' (first | with_reducible assumption | with_reducible exact Below.refl _ _ | (with_reducible refine Ext.alloc' ?_ _) | (with_reducible refine Ext.drew' ?_) | (with_reducible refine Ext.drewN' ?_ _) | (with_reducible refine Ext.set_ ?_ (by first | omega | (simp; done) | (simp; omega)) _ _) | (refine Ext.trans ?_ (by with_reducible assumption)))))) (B0.out.ext good_Rule (by (repeat' (first | with_reducible assumption | with_reducible exact Below.refl _ _ | (with_reducible refine Ext.alloc' ?_ _) | (with_reducible refine Ext.drew' ?_) | (with_reducible refine Ext.drewN' ?_ _) | (with_reducible refine Ext.set_ ?_ (by first | omega | (simp; done) | (simp; omega)) _ _) | (refine Ext.trans ?_ (by with_reducible assumption))))))).mono ?_
  rintro e w1 ⟨rfl, hE1⟩
  rw [← HA.out]
  have HX : Hid (Box w1 w.heap.size 48 #[.slice p0a x.rules.rules.length c0a, .slice p1a x.scoring.weights.length c1a, .int .i64 x.scoring.bias, .slice p2a x.survivors.length c2a]) := (Box.alloc (Box.new' _ _ _ _ rfl) _).ext hE1
  have HY : Hid (Box w1 (w.heap.size + 1) 48 #[.slice p0b y.rules.rules.length c0b, .slice p1b y.scoring.weights.length c1b, .int .i64 y.scoring.bias, .slice p2b y.survivors.length c2b]) := (Box.new' _ _ _ _ (by simp)).ext hE1
  have HE1 := Lib.hid (show Ext w w1 from by (repeat' (first | with_reducible assumption | with_reducible exact Below.refl _ _ | (with_reducible refine Ext.alloc' ?_ _) | (with_reducible refine Ext.drew' ?_) | (with_reducible refine Ext.drewN' ?_ _) | (with_reducible refine Ext.set_ ?_ (by first | omega | (simp; done) | (simp; omega)) _ _) | (refine Ext.trans ?_ (by with_reducible assumption)))))
  clear hE1
  cases cA
  · go_wp2_with fail
    go_ret
    exact ⟨ret_bool (by rw [HCC.out]; rfl), HE1.out⟩
  · have bx := HX.out; have bY := HY.out
    have k0 := bx.cell 0
    have k1 := bx.cell 1
    have k2 := bx.cell 2
    have k3 := bx.cell 3
    have klt := bx.lt
    simp only [List.getElem?_toArray, List.getElem?_cons_zero, List.getElem?_cons_succ] at k0 k1 k2 k3
    have m0 := bY.cell 0
    have m1 := bY.cell 1
    have m2 := bY.cell 2
    have m3 := bY.cell 3
    have mlt := bY.lt
    simp only [List.getElem?_toArray, List.getElem?_cons_zero, List.getElem?_cons_succ] at m0 m1 m2 m3
    clear bx bY
    go_wp2_with fail
    refine (sliceEqual_any x.scoring.weights y.scoring.weights p1a p1b c1a c1b _ ((A1.out.ext good_int (by have h8 := HE1.out; (repeat' (first | with_reducible assumption | with_reducible exact Below.refl _ _ | (with_reducible refine Ext.alloc' ?_ _) | (with_reducible refine Ext.drew' ?_) | (with_reducible refine Ext.drewN' ?_ _) | (with_reducible refine Ext.set_ ?_ (by first | omega | (simp; done) | (simp; omega)) _ _) | (refine Ext.trans ?_ (by with_reducible assumption)))))).ints) ((B1.out.ext good_int (by have h8 := HE1.out; (repeat' (first | with_reducible assumption | with_reducible exact Below.refl _ _ | (with_reducible refine Ext.alloc' ?_ _) | (with_reducible refine Ext.drew' ?_) | (with_reducible refine Ext.drewN' ?_ _) | (with_reducible refine Ext.set_ ?_ (by first | omega | (simp; done) | (simp; omega)) _ _) | (refine Ext.trans ?_ (by with_reducible assumption)))))).ints) hw1 hw2).mono ?_
    rintro e w2 ⟨rfl, hE2⟩
    rw [← HB.out]
    have HX2 := Lib.hid (HX.out.ext hE2); have HY2 := Lib.hid (HY.out.ext hE2); have HE2 := Lib.hid (HE1.out.trans hE2)
    clear hE2 k0 k1 k2 k3 m0 m1 m2 m3 klt mlt HX HY HE1
    cases cB
    · go_wp2_with fail
      go_ret
      exact ⟨ret_bool (by rw [HCC.out]; rfl), HE2.out⟩
    · have bx := HX2.out; have bY := HY2.out
      have k0 := bx.cell 0
      have k1 := bx.cell 1
      have k2 := bx.cell 2
      have k3 := bx.cell 3
      have klt := bx.lt
      simp only [List.getElem?_toArray, List.getElem?_cons_zero, List.getElem?_cons_succ] at k0 k1 k2 k3
      have m0 := bY.cell 0
      have m1 := bY.cell 1
      have m2 := bY.cell 2
      have m3 := bY.cell 3
      have mlt := bY.lt
      simp only [List.getElem?_toArray, List.getElem?_cons_zero, List.getElem?_cons_succ] at m0 m1 m2 m3
      clear bx bY
      by_cases hb : x.scoring.bias = y.scoring.bias
      · go_wp2_with fail
        refine (sliceEqual_any x.survivors y.survivors p2a p2b c2a c2b _ ((A2.out.ext good_int (by have h8 := HE2.out; (repeat' (first | with_reducible assumption | with_reducible exact Below.refl _ _ | (with_reducible refine Ext.alloc' ?_ _) | (with_reducible refine Ext.drew' ?_) | (with_reducible refine Ext.drewN' ?_ _) | (with_reducible refine Ext.set_ ?_ (by first | omega | (simp; done) | (simp; omega)) _ _) | (refine Ext.trans ?_ (by with_reducible assumption)))))).ints) ((B2.out.ext good_int (by have h8 := HE2.out; (repeat' (first | with_reducible assumption | with_reducible exact Below.refl _ _ | (with_reducible refine Ext.alloc' ?_ _) | (with_reducible refine Ext.drew' ?_) | (with_reducible refine Ext.drewN' ?_ _) | (with_reducible refine Ext.set_ ?_ (by first | omega | (simp; done) | (simp; omega)) _ _) | (refine Ext.trans ?_ (by with_reducible assumption)))))).ints) hs1 hs2).mono ?_
        rintro e w3 ⟨rfl, hE3⟩
        rw [← HD.out]
        have HE3 := Lib.hid (HE2.out.trans hE3)
        clear hE3 k0 k1 k2 k3 m0 m1 m2 m3 klt mlt
        go_wp2_with fail
        go_ret
        exact ⟨ret_bool (by rw [HCC.out, hb]; simp), HE3.out⟩
      · go_wp2_with fail
        go_ret
        have hb2 : (x.scoring.bias == y.scoring.bias) = false := by simpa using hb
        exact ⟨ret_bool (by rw [HCC.out, hb2]; simp), HE2.out⟩
end Go.Proofs.Ytdgpbgpapcldeaa
