/- The walk of the law FnMetrics. -/
import Derived.Test.YtgehpbikkcnecaaDraw8
import Derived.Test.YtgehpbikkcnecaaDistLaw
import Derived.Test.YtgehpbikkcnecaaDist0
import Derived.Test.YtgehpbikkcnecaaScore0
import Derived.Test.YtgehpbikkcnecaaExactLaw
import Derived.Test.YtgehpbikkcnecaaPart
import Derived.BigQuiet
set_option linter.unusedVariables false
set_option linter.unusedSimpArgs false
namespace Go.Proofs.Ytgehpbikkcnecaa
open Go.RowKit Go.Er Go.BigFrame

theorem wp_region_ext {P : Program} {id : Nat} {Q : Exit → Act → World → Prop} {a : Act} {w : World} {l : List Oper} (hm : P.follows .mixedOrders = true) (hB : Region.lexB .any l.toArray = true)
    (h : wpQuiet P l.toArray (fun w' => Ext w w') (fun a' => ∀ w', Ext w w' → Q .normal a' w') l a) : (Code.region id l.toArray true).wp P Q a w :=
  wp_region_quiet (C := fun w' => Ext w w') hm hB (Ext.drew' (Ext.refl w)) (by simpa using h)

theorem big_any (n cap : Nat) (a : Option Addr) (w : World) :
    Calls Try.prog 26 #[.slice a n cap] w fun e w' => e = .returned (.bool (decide (1048576 < n))) ∧ w = w' := by
  go_enter Try.func26, Try.ntmps26
  go_wp2_with fail
  go_ret
  exact ⟨by simp [Int.ofNat_lt] <;> omega, rfl⟩

/-- What the law says of two lists of at most eight integers, in plain words. -/
theorem counts_facts (l m : List Int) (hl : l.length ≤ 8) : ∃ x y z, countsOf l m = .tuple #[.agg #[.int .i64 x, .int .i64 y, .int .i64 z], .bool (pairB l m)] ∧
    (pairB l m = true → min (precision x y z) (recall x y z) ≤ fScore x y z ∧ fScore x y z ≤ max (precision x y z) (recall x y z)) ∧
    (pairB l m = true → l = m → fScore x y z = 1000) := by
  cases hp : pairB l m
  · exact ⟨0, 0, 0, by simp [countsOf, hp], by simp, by simp⟩
  · refine ⟨_, _, _, by simp only [countsOf, hp, if_true]; rfl, fun _ => fScore_mid _ _ _ (counts_good hl), fun _ h => ?_⟩
    subst h
    have hg := counts_good (l := l) (m := l) hl
    rw [both_self] at *
    exact fScore_same _ hg

set_option maxRecDepth 100000 in
set_option maxHeartbeats 6400000 in
theorem metrics_any (n cap : Nat) (a : Option Addr) (w : World) (hb : BytesAt w a n) :
    Calls Try.prog 9 #[.slice a n cap] w fun e w' => e = .returned (.bool true) ∧ Ext w w' := by
  have HB := Lib.hid hb; clear hb
  by_cases hn : n ≤ 1048576
  · have hbig : decide (1048576 < n) = false := by simp; omega
    go_enter Try.func9, Try.ntmps9
    go_wp2_with fail
    refine (big_any n cap a _).mono ?_
    rintro e w' ⟨rfl, rfl⟩
    rw [hbig]
    go_wp2_with fail
    refine (drawCountPairs_any n cap hn a _ HB.out).mono ?_
    rintro e w1 ⟨a1, a2, c1, c2, l, m, rfl, hl, hm, h1, h2, hE1⟩
    have H1 := Lib.hid h1; have H2 := Lib.hid h2; have HE1 := Lib.hid hE1
    clear h1 h2 hE1 hbig
    obtain ⟨x, y, z, hcf, hF1, hF2⟩ := counts_facts l m hl
    have HCF := Lib.hid hcf; have HF1 := Lib.hid hF1; have HF2 := Lib.hid hF2
    clear hcf hF1 hF2
    go_wp2_with fail
    refine (implCountPairs_all l m a1 a2 c1 c2 _ H1.out H2.out (by omega) (by omega)).mono ?_
    rintro e w2 ⟨rfl, hE2⟩
    rw [HCF.out]
    have HE2 := Lib.hid (HE1.out.trans hE2)
    have HE12 := Lib.hid hE2
    have HX2 := Lib.hid (Box.new w2 25 (three x y z))
    clear hE2
    go_wp2_with fail
    have H1a := Lib.hid (((H1.out.ext HE12.out)).ext (Ext.alloc w2 (.cells (three x y z) 25)))
    have H2a := Lib.hid (((H2.out.ext HE12.out)).ext (Ext.alloc w2 (.cells (three x y z) 25)))
    refine (specCountPairs_any l m a1 a2 c1 c2 _ H1a.out H2a.out (by omega) (by omega)).mono ?_
    rintro e w3 ⟨rfl, hE3⟩
    rw [HCF.out]
    have H1b := Lib.hid (((H1a.out.ext hE3)).ext (Ext.alloc w3 (.cells (three x y z) 25)))
    have H2b := Lib.hid (((H2a.out.ext hE3)).ext (Ext.alloc w3 (.cells (three x y z) 25)))
    have HX3 := Lib.hid ((HX2.out.ext hE3).alloc (.cells (three x y z) 25))
    have HY3 := Lib.hid (Box.new w3 25 (three x y z))
    have HE3 := Lib.hid (((HE2.out.trans (Ext.alloc w2 (.cells (three x y z) 25))).trans hE3).trans (Ext.alloc w3 (.cells (three x y z) 25)))
    clear hE3 H1 H2 H1a H2a HE2 HE12 HX2
    go_wp2_with fail
    refine (implPartitionDistance_any l m a1 a2 c1 c2 _ H1b.out H2b.out (by omega) (by omega)).mono ?_
    rintro e w4 ⟨rfl, hE4⟩
    have H1 := Lib.hid (H1b.out.ext hE4); have H2 := Lib.hid (H2b.out.ext hE4)
    have HX := Lib.hid (HX3.out.ext hE4); have HY := Lib.hid (HY3.out.ext hE4); have HE := Lib.hid (HE3.out.trans hE4)
    clear hE4 H1b H2b HX3 HY3 HE3
    have k1 := HX.out.cell 0; have k2 := HX.out.cell 1; have k3 := HX.out.cell 2; have hx := HX.out.lt
    have j1 := HY.out.cell 0; have j2 := HY.out.cell 1; have j3 := HY.out.cell 2; have hy := HY.out.lt
    simp only [three, List.getElem?_toArray, List.getElem?_cons_zero, List.getElem?_cons_succ] at k1 k2 k3 j1 j2 j3
    have hpp : (pairB l m != pairB l m) = false := by simp
    go_wp2_with fail
    refine (specPartitionDistance_any l m a1 a2 c1 c2 _ H1.out H2.out (by omega) (by omega)).mono ?_
    rintro e w5 ⟨rfl, hE5⟩
    have H1a := Lib.hid (H1.out.ext hE5); have H2a := Lib.hid (H2.out.ext hE5)
    have HXa := Lib.hid (HX.out.ext hE5); have HEa := Lib.hid (HE.out.trans hE5)
    clear hE5 H1 H2 HX HY HE k1 k2 k3 j1 j2 j3 hpp hy
    have hnn : (distOf l m != distOf l m) = false := by simp
    go_wp2_with fail
    refine (implPartitionDistance_any m l a2 a1 c2 c1 _ H2a.out H1a.out (by omega) (by omega)).mono ?_
    rintro e w6 ⟨rfl, hE6⟩
    rw [distOf_swap m l]
    have H1 := Lib.hid (H1a.out.ext hE6); have H2 := Lib.hid (H2a.out.ext hE6)
    have HX := Lib.hid (HXa.out.ext hE6); have HE := Lib.hid (HEa.out.trans hE6)
    clear hE6 H1a H2a HXa HEa
    go_wp2_with fail
    refine (implExactBlocks_any l m a1 a2 c1 c2 _ H1.out H2.out (by omega) (by omega)).mono ?_
    rintro e w7 ⟨rfl, hE7⟩
    have H1a := Lib.hid (H1.out.ext hE7); have H2a := Lib.hid (H2.out.ext hE7)
    have HXa := Lib.hid (HX.out.ext hE7); have HEa := Lib.hid (HE.out.trans hE7)
    clear hE7 H1 H2 HX HE
    go_wp2_with fail
    refine (specExactBlocks_any l m a1 a2 c1 c2 _ H1a.out H2a.out (by omega) (by omega)).mono ?_
    rintro e w8 ⟨rfl, hE8⟩
    have H1 := Lib.hid (H1a.out.ext hE8); have H2 := Lib.hid (H2a.out.ext hE8)
    have HX := Lib.hid (HXa.out.ext hE8); have HE := Lib.hid (HEa.out.trans hE8)
    clear hE8 H1a H2a HXa HEa
    have hxx : (exactOf l m != exactOf l m) = false := by simp
    have HB8 := Lib.hid (show BytesAt w8 a n from fun i hi => by
      obtain ⟨b, o, x, h1, h2, h3⟩ := HB.out i hi
      exact ⟨b, o, x, h1, HE.out.at h2, h3⟩)
    go_wp2_with fail
    refine (drawPrecision_any n cap hn a _ HB8.out).mono ?_
    rintro e w9 ⟨x', y', z', rfl, hE9⟩
    have H1a := Lib.hid ((H1.out.ext hE9).ext (Ext.alloc w9 (.cells (three x' y' z') 25))); have H2a := Lib.hid ((H2.out.ext hE9).ext (Ext.alloc w9 (.cells (three x' y' z') 25)))
    have HXa := Lib.hid ((HX.out.ext hE9).ext (Ext.alloc w9 (.cells (three x' y' z') 25))); have HEa := Lib.hid ((HE.out.trans hE9).trans (Ext.alloc w9 (.cells (three x' y' z') 25)))
    have HZ := Lib.hid (Box.new w9 25 (three x' y' z'))
    clear hE9 H1 H2 HX HE HB8 hxx hnn
    go_wp2_with fail
    have k1 := HZ.out.cell 0; have k2 := HZ.out.cell 1; have k3 := HZ.out.cell 2; have hx := HZ.out.lt
    simp only [three, List.getElem?_toArray, List.getElem?_cons_zero, List.getElem?_cons_succ] at k1 k2 k3
    refine wp_region_ext (by kernel_rfl) (by kernel_rfl) ?_
    repeat (first
      | go_big_quiet_skip
      | (go_big_quiet_want; go_big_quiet_op; first
          | go_big_quiet_on
          | (refine ⟨_, fun w' hw' => rfl, ?_⟩; go_big_quiet_on)
          | (refine ⟨.agg #[.int .i64 x', .int .i64 y', .int .i64 z'], fun w' hw' => ?_, ?_⟩
             · have q1 := hw'.at k1; have q2 := hw'.at k2; have q3 := hw'.at k3
               simp [go_sem, q1, q2, q3]; done
             go_big_quiet_on)
          | (refine ⟨_, fun w' hw' => ((implPrecision_any x' y' z' w').mono (fun e w'' h => ⟨h.1, hw'.trans h.2⟩)), ?_⟩; go_big_quiet_on)
          | (refine ⟨_, fun w' hw' => ((specPrecision_any x' y' z' w').mono (fun e w'' h => ⟨h.1, hw'.trans h.2⟩)), ?_⟩; go_big_quiet_on)
          | (refine ⟨_, fun w' hw' => ((implRecall_any x' y' z' w').mono (fun e w'' h => ⟨h.1, hw'.trans h.2⟩)), ?_⟩; go_big_quiet_on)
          | (refine ⟨_, fun w' hw' => ((specRecall_any x' y' z' w').mono (fun e w'' h => ⟨h.1, hw'.trans h.2⟩)), ?_⟩; go_big_quiet_on)
          | (refine ⟨_, fun w' hw' => ((implFScore_any x' y' z' w').mono (fun e w'' h => ⟨h.1, hw'.trans h.2⟩)), ?_⟩; go_big_quiet_on)
          | (refine ⟨_, fun w' hw' => ((specFScore_any x' y' z' w').mono (fun e w'' h => ⟨h.1, hw'.trans h.2⟩)), ?_⟩; go_big_quiet_on)))
    refine wpQuiet_nil ?_
    intro w10 hE10
    have H1 := Lib.hid (H1a.out.ext hE10); have H2 := Lib.hid (H2a.out.ext hE10)
    have HX := Lib.hid (HXa.out.ext hE10); have HE := Lib.hid (HEa.out.trans hE10)
    clear hE10 H1a H2a HXa HEa k1 k2 k3 hx
    obtain ⟨p, hp⟩ : ∃ p, p = pairB l m := ⟨_, rfl⟩
    have HP := Lib.hid hp
    rw [← hp]
    clear hp
    cases p
    · have hd : distOf l m = -1 := by simp [distOf, ← HP.out]
      go_wp2_with fail
      go_ret
      have hE := HE.out
      exact ⟨rfl, by (repeat' (first | assumption | exact Below.refl _ _ | refine Ext.alloc' ?_ _ | refine Ext.drew' ?_ | refine Ext.drewN' ?_ _ | refine Ext.setCell' ?_ (by first | (simp; done) | (simp; omega)) _ | (refine Ext.trans ?_ (by assumption))))⟩
    · have k1 := HX.out.cell 0; have k2 := HX.out.cell 1; have k3 := HX.out.cell 2; have hx := HX.out.lt
      simp only [three, List.getElem?_toArray, List.getElem?_cons_zero, List.getElem?_cons_succ] at k1 k2 k3
      go_wp2_with fail
      refine (implFScore_any x y z _).mono ?_
      rintro e w11 ⟨rfl, hE11⟩
      have H1a := Lib.hid (H1.out.ext hE11); have H2a := Lib.hid (H2.out.ext hE11)
      have HXa := Lib.hid (HX.out.ext hE11); have HEa := Lib.hid (HE.out.trans hE11)
      clear hE11 H1 H2 HX HE k1 k2 k3 hx
      have k1 := HXa.out.cell 0; have k2 := HXa.out.cell 1; have k3 := HXa.out.cell 2; have hx := HXa.out.lt
      simp only [three, List.getElem?_toArray, List.getElem?_cons_zero, List.getElem?_cons_succ] at k1 k2 k3
      obtain ⟨hf1, hf2⟩ := HF1.out HP.out.symm
      have hmin : ¬ fScore x y z < min (precision x y z) (recall x y z) := by omega
      have hmax : ¬ max (precision x y z) (recall x y z) < fScore x y z := by omega
      go_wp2_with fail
      refine wp_region_ext (by kernel_rfl) (by kernel_rfl) ?_
      repeat (first
        | go_big_quiet_skip
        | (go_big_quiet_want; go_big_quiet_op; first
            | go_big_quiet_on
            | (refine ⟨.bool false, fun w' hw' => ?_, ?_⟩
               · first | (simp [hmin]; done) | (simp [hmax]; done) | (simp; omega)
               go_big_quiet_on)
            | (refine ⟨_, fun w' hw' => rfl, ?_⟩; go_big_quiet_on)
            | (refine ⟨.agg #[.int .i64 x, .int .i64 y, .int .i64 z], fun w' hw' => ?_, ?_⟩
               · have q1 := hw'.at k1; have q2 := hw'.at k2; have q3 := hw'.at k3
                 simp [go_sem, q1, q2, q3]; done
               go_big_quiet_on)
            | (refine ⟨_, fun w' hw' => ((implPrecision_any x y z w').mono (fun e w'' h => ⟨h.1, hw'.trans h.2⟩)), ?_⟩; go_big_quiet_on)
            | (refine ⟨_, fun w' hw' => ((implRecall_any x y z w').mono (fun e w'' h => ⟨h.1, hw'.trans h.2⟩)), ?_⟩; go_big_quiet_on)))
      refine wpQuiet_nil ?_
      intro w12 hE12
      have H1 := Lib.hid (H1a.out.ext hE12); have H2 := Lib.hid (H2a.out.ext hE12)
      have HE := Lib.hid (HEa.out.trans hE12)
      clear hE12 H1a H2a HXa HEa k1 k2 k3 hx
      obtain ⟨hd0, hdz⟩ := distOf_zero HP.out.symm
      have HDZ := Lib.hid hdz; clear hdz
      go_wp2_with fail
      refine (sameInts_any l m a1 a2 c1 c2 _ H1.out H2.out (by omega) (by omega)).mono ?_
      rintro e w13 ⟨rfl, hE13⟩
      have HE13 := Lib.hid (HE.out.trans hE13)
      clear hE13
      cases hlm : (l == m)
      · have hne : ¬ distOf l m = 0 := fun h => by have h2 := HDZ.out.1 h; subst h2; simp at hlm
        clear hlm
        go_wp2_with fail
        go_ret
        have hE := HE13.out
        exact ⟨ret_bool (by simp [hne]), by (repeat' (first | assumption | exact Below.refl _ _ | refine Ext.alloc' ?_ _ | refine Ext.drew' ?_ | refine Ext.drewN' ?_ _ | refine Ext.setCell' ?_ (by first | (simp; done) | (simp; omega)) _ | (refine Ext.trans ?_ (by assumption))))⟩
      · have he : l = m := by simpa using hlm
        have hz : distOf l m = 0 := HDZ.out.2 he
        have h1000 : fScore x y z = 1000 := HF2.out HP.out.symm he
        clear hlm he
        go_wp2_with fail
        go_ret
        have hE := HE13.out
        exact ⟨rfl, by (repeat' (first | assumption | exact Below.refl _ _ | refine Ext.alloc' ?_ _ | refine Ext.drew' ?_ | refine Ext.drewN' ?_ _ | refine Ext.setCell' ?_ (by first | (simp; done) | (simp; omega)) _ | (refine Ext.trans ?_ (by assumption))))⟩
  · have hbig : decide (1048576 < n) = true := by simp; omega
    go_enter Try.func9, Try.ntmps9
    go_wp2_with fail
    refine (big_any n cap a _).mono ?_
    rintro e w' ⟨rfl, rfl⟩
    rw [hbig]
    go_wp2_with fail
    go_ret
    exact ⟨rfl, by (repeat' (first | assumption | exact Below.refl _ _ | refine Ext.alloc' ?_ _ | refine Ext.drew' ?_ | refine Ext.drewN' ?_ _ | refine Ext.setCell' ?_ (by first | (simp; done) | (simp; omega)) _ | (refine Ext.trans ?_ (by assumption))))⟩
end Go.Proofs.Ytgehpbikkcnecaa
