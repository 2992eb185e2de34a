/- The walks of CountPairs of the program and of the reference. -/
import Derived.Test.YtgehpbikkcnecaaRows
import Derived.Test.YtgehpbikkcnecaaLib
import Derived.Test.YtgehpbikkcnecaaScore
import Derived.Test.YtgehpbikkcnecaaPart
import Derived.Test.YtgehpbikkcnecaaLabels
set_option linter.unusedVariables false
set_option linter.unusedSimpArgs false
namespace Go.Proofs.Ytgehpbikkcnecaa
open Go.RowKit Go.Er

def cntTo (p : Nat → Nat → Bool) (i : Nat) : Nat → Nat
  | 0 => 0
  | j + 1 => cntTo p i j + if p i j then 1 else 0
def pairsP (p : Nat → Nat → Bool) : Nat → Nat
  | 0 => 0
  | i + 1 => pairsP p i + cntTo p i i
def eqAt (l : List Int) (i k : Nat) : Bool := l.getD i 0 == l.getD k 0
theorem cntTo_le (p : Nat → Nat → Bool) (i : Nat) : ∀ j, cntTo p i j ≤ j
  | 0 => Nat.le_refl _
  | j + 1 => by have := cntTo_le p i j; simp only [cntTo]; split <;> omega
theorem pairsP_le (p : Nat → Nat → Bool) : ∀ n, n ≤ 1048576 → pairsP p n ≤ 1048576 * n
  | 0, _ => by simp [pairsP]
  | n + 1, h => by have := pairsP_le p n (by omega); have := cntTo_le p n n; simp only [pairsP]; omega
theorem cntTo_congr (p q : Nat → Nat → Bool) (i : Nat) : ∀ j, (∀ k, k < j → p i k = q i k) → cntTo p i j = cntTo q i j
  | 0, _ => rfl
  | j + 1, h => by simp only [cntTo]; rw [cntTo_congr p q i j (fun k hk => h k (by omega)), h j (by omega)]
theorem pairsP_congr (p q : Nat → Nat → Bool) : ∀ n, (∀ i k, i < n → k < i → p i k = q i k) → pairsP p n = pairsP q n
  | 0, _ => rfl
  | n + 1, h => by simp only [pairsP]; rw [pairsP_congr p q n (fun i k hi hk => h i k (by omega) hk), cntTo_congr p q n n (fun k hk => h n k (by omega) hk)]

set_option maxHeartbeats 800000 in
theorem l37Pairs_any (l : List Int) (a : Option Addr) (cap : Nat) (w : World) (ha : Ints w a l) (hl : l.length ≤ 1048576) :
    Calls Try.prog 35 #[.slice a l.length cap] w fun e w' => e = .returned (.int .i64 (pairsP (eqAt l) l.length)) ∧ Ext w w' := by
  go_enter Try.func35, Try.ntmps35
  go_wp2
  go_loopw [3, 4] (fun s3 s4 wr => ∃ i : Nat, i ≤ l.length ∧ s4 = .int .i64 i ∧ s3 = .int .i64 (pairsP (eqAt l) i) ∧ Ext w wr) (fun _ i _ => l.length - (intOf i).toNat)
  case atStart => exact ⟨0, Nat.zero_le _, rfl, rfl, Ext.refl _⟩
  case round =>
    obtain ⟨i, hi, rfl, rfl, hE⟩ := hrel
    by_cases hlt : i < l.length
    · obtain ⟨b, o, rfl, hc⟩ := ha.ext hE i hlt
      have hxg := Lib.hid (show l.getD i 0 = l[i] by simp [List.getD, hlt])
      generalize hx : l[i] = x at *
      have Hx := Lib.hid hx; clear hx
      have hpb := pairsP_le (eqAt l) i (by omega)
      have hpe := Lib.hid (show pairsP (eqAt l) (i + 1) = pairsP (eqAt l) i + cntTo (eqAt l) i i from rfl)
      generalize hn : pairsP (eqAt l) i = n at *
      have Hn := Lib.hid hn; clear hn
      go_wp2
      obtain ⟨wo, rfl⟩ : ∃ wo : World, wo = wr := ⟨_, rfl⟩
      go_loopw [3, 5] (fun s3 s5 wr => ∃ j : Nat, j ≤ i ∧ s5 = .int .i64 j ∧ s3 = .int .i64 ((n + cntTo (eqAt l) i j : Nat) : Int) ∧ Ext wo wr) (fun _ j _ => i - (intOf j).toNat)
      case atStart => exact ⟨0, Nat.zero_le _, rfl, rfl, Ext.refl _⟩
      case round =>
        obtain ⟨j, hj, rfl, rfl, hEi⟩ := hrel
        have hcb := cntTo_le (eqAt l) i j
        by_cases hjl : j < i
        · obtain ⟨b2, o2, hbe, hc2⟩ := ha.ext (hE.trans hEi) j (by omega)
          obtain ⟨rfl, rfl⟩ : b = b2 ∧ o = o2 := by simpa using hbe
          have hc1 := hEi.at hc
          have hyg := Lib.hid (show l.getD j 0 = l[j] by simp [List.getD, show j < l.length by omega])
          generalize hy : l[j] = y at *
          have Hy := Lib.hid hy; clear hy hc hbe
          have hce := Lib.hid (show cntTo (eqAt l) i (j + 1) = cntTo (eqAt l) i j + (if eqAt l i j then 1 else 0) from rfl)
          generalize hq : cntTo (eqAt l) i j = q at *
          have Hq := Lib.hid hq; clear hq
          go_wp2
          go_quiet (fail)
          go_wp2
          · have h : (x == y) = true := by assumption
            go_roundw
            case rel =>
              have he : eqAt l i j = true := by unfold eqAt; rw [hxg.out, hyg.out]; exact h
              refine ⟨j + 1, by omega, by go_num, ?_, hEi.drewN' _⟩
              rw [hce.out, he]; go_num
            case measure => simp [intOf]; omega
          · have h : (x == y) = false := by assumption
            go_roundw
            case rel =>
              have he : eqAt l i j = false := by unfold eqAt; rw [hxg.out, hyg.out]; exact h
              refine ⟨j + 1, by omega, by go_num, ?_, hEi.drewN' _⟩
              rw [hce.out, he]; go_num
            case measure => simp [intOf]; omega
        · obtain rfl : j = i := by omega
          go_wp2
          go_roundw
          case rel => exact ⟨j + 1, by omega, by go_num, by rw [hpe.out], hE.trans hEi⟩
          case measure => simp [intOf]; omega
    · obtain rfl : i = l.length := by omega
      go_wp2
      go_ret
      exact ⟨rfl, hE⟩

/-! ### CountPairs of the program -/
def three (x y z : Int) : Array Value := #[.int .i64 x, .int .i64 y, .int .i64 z]
def both (l m : List Int) (i k : Nat) : Bool := eqAt l i k && eqAt m i k

set_option maxHeartbeats 800000 in
theorem implCountPairs_any (l m : List Int) (a c : Option Addr) (ca cc : Nat) (w : World) (ha : Ints w a l) (hc : Ints w c m) (hl : l.length ≤ 1048576) (hm : m.length ≤ 1048576) (hp : pairB l m = true) :
    Calls Try.prog 19 #[.slice a l.length ca, .slice c m.length cc] w fun e w' =>
      e = .returned (.tuple #[.agg #[.int .i64 (pairsP (both l m) l.length), .int .i64 (pairsP (eqAt m) l.length), .int .i64 (pairsP (eqAt l) l.length)], .bool true]) ∧ Ext w w' := by
  have hlen : l.length ≤ m.length := by simp only [pairB, Bool.and_eq_true, decide_eq_true_eq] at hp; omega
  have hA : Ext w ((w.alloc (.cells (three 0 0 0) 25)).alloc (.cells (three 0 0 0) 25)) := by (repeat' (first | assumption | exact Below.refl _ _ | refine Ext.alloc' ?_ _ | refine Ext.drew' ?_ | refine Ext.drewN' ?_ _ | refine Ext.setCell' ?_ (by first | (simp; done) | (simp; omega)) _ | (refine Ext.trans ?_ (by assumption))))
  have hB := Box.new (w.alloc (.cells (three 0 0 0) 25)) 25 (three 0 0 0)
  have hB0 := (Box.new w 25 (three 0 0 0)).alloc (.cells (three 0 0 0) 25)
  have HP := Lib.hid hp; clear hp
  go_enter Try.func19, Try.ntmps19
  go_wp2_with (go_at_call 37; refine (arePartitions_any l m a c ca cc _ (ha.ext (by (repeat' (first | assumption | exact Below.refl _ _ | refine Ext.alloc' ?_ _ | refine Ext.drew' ?_ | refine Ext.drewN' ?_ _ | refine Ext.setCell' ?_ (by first | (simp; done) | (simp; omega)) _ | (refine Ext.trans ?_ (by assumption)))))) (hc.ext (by (repeat' (first | assumption | exact Below.refl _ _ | refine Ext.alloc' ?_ _ | refine Ext.drew' ?_ | refine Ext.drewN' ?_ _ | refine Ext.setCell' ?_ (by first | (simp; done) | (simp; omega)) _ | (refine Ext.trans ?_ (by assumption)))))) hl hm).mono ?_; rintro e w' ⟨rfl, rfl⟩; rw [HP.out])
  have HB := Lib.hid hB; have HB0 := Lib.hid hB0; clear hB hB0
  go_loopw [18] (fun s18 wr => ∃ i : Nat, i ≤ l.length ∧ s18 = .int .i64 i ∧ Ext w wr ∧ Box wr (w.heap.size + 1) 25 (three (pairsP (both l m) i) (pairsP (eqAt m) i) (pairsP (eqAt l) i)) ∧
      Box wr w.heap.size 25 (three 0 0 0)) (fun i _ => l.length - (intOf i).toNat)
  case atStart => exact ⟨0, Nat.zero_le _, rfl, hA, by simpa [three, pairsP] using HB.out, HB0.out⟩
  case round =>
    obtain ⟨i, hi, rfl, hE, hbx, hbx0⟩ := hrel
    by_cases hlt : i < l.length
    · obtain ⟨b, o, rfl, hca⟩ := ha.ext hE i hlt
      obtain ⟨b', o', rfl, hcc⟩ := hc.ext hE i (by omega)
      have hxg := Lib.hid (show l.getD i 0 = l[i] by simp [List.getD, hlt])
      have hzg := Lib.hid (show m.getD i 0 = m[i]'(by omega) by simp [List.getD, show i < m.length by omega])
      generalize hx : l[i] = x at *
      generalize hz : m[i]'(by omega) = z at *
      have Hx := Lib.hid hx; have Hz := Lib.hid hz; clear hx hz
      have hp1 := pairsP_le (both l m) i (by omega)
      have hp2 := pairsP_le (eqAt m) i (by omega)
      have hp3 := pairsP_le (eqAt l) i (by omega)
      have e1 := Lib.hid (show pairsP (both l m) (i + 1) = pairsP (both l m) i + cntTo (both l m) i i from rfl)
      have e2 := Lib.hid (show pairsP (eqAt m) (i + 1) = pairsP (eqAt m) i + cntTo (eqAt m) i i from rfl)
      have e3 := Lib.hid (show pairsP (eqAt l) (i + 1) = pairsP (eqAt l) i + cntTo (eqAt l) i i from rfl)
      generalize hn1 : pairsP (both l m) i = n1 at *
      generalize hn2 : pairsP (eqAt m) i = n2 at *
      generalize hn3 : pairsP (eqAt l) i = n3 at *
      have Hn := Lib.hid (And.intro hn1 (And.intro hn2 hn3)); clear hn1 hn2 hn3
      have HB := Lib.hid hbx; have HB0 := Lib.hid hbx0; clear hbx hbx0
      go_wp2
      obtain ⟨wo, rfl⟩ : ∃ wo : World, wo = wr := ⟨_, rfl⟩
      have hcaw := Lib.hid hca; have hccw := Lib.hid hcc; clear hca hcc
      go_loopw [22] (fun s22 wr => ∃ j : Nat, j ≤ i ∧ s22 = .int .i64 j ∧ Ext w wr ∧
          Box wr (w.heap.size + 1) 25 (three ((n1 + cntTo (both l m) i j : Nat) : Int) ((n2 + cntTo (eqAt m) i j : Nat) : Int) ((n3 + cntTo (eqAt l) i j : Nat) : Int)) ∧
          Box wr w.heap.size 25 (three 0 0 0)) (fun j _ => i - (intOf j).toNat)
      case atStart => exact ⟨0, Nat.zero_le _, rfl, hE, HB.out, HB0.out⟩
      case round =>
        obtain ⟨j, hj, rfl, hEi, hbx, hbx0⟩ := hrel
        have hcb1 := cntTo_le (both l m) i j
        have hcb2 := cntTo_le (eqAt m) i j
        have hcb3 := cntTo_le (eqAt l) i j
        by_cases hjl : j < i
        · obtain ⟨b2, o2, hbe, hc2⟩ := ha.ext hEi j (by omega)
          obtain ⟨b3, o3, hbe3, hc3⟩ := hc.ext hEi j (by omega)
          obtain ⟨b4, o4, hbe4, hc4⟩ := ha.ext hEi i (by omega)
          obtain ⟨b5, o5, hbe5, hc5⟩ := hc.ext hEi i (by omega)
          obtain ⟨rfl, rfl⟩ : b = b2 ∧ o = o2 := by simpa using hbe
          obtain ⟨rfl, rfl⟩ : b = b4 ∧ o = o4 := by simpa using hbe4
          obtain ⟨rfl, rfl⟩ : b' = b3 ∧ o' = o3 := by simpa using hbe3
          obtain ⟨rfl, rfl⟩ : b' = b5 ∧ o' = o5 := by simpa using hbe5
          rw [Hx.out] at hc4
          rw [Hz.out] at hc5
          have hyg := Lib.hid (show l.getD j 0 = l[j] by simp [List.getD, show j < l.length by omega])
          have hug := Lib.hid (show m.getD j 0 = m[j]'(by omega) by simp [List.getD, show j < m.length by omega])
          generalize hy : l[j] = y at *
          generalize hu : m[j]'(by omega) = u at *
          have Hy := Lib.hid hy; have Hu := Lib.hid hu; clear hy hu hbe hbe3 hbe4 hbe5
          have f1 := Lib.hid (show cntTo (both l m) i (j + 1) = cntTo (both l m) i j + (if both l m i j then 1 else 0) from rfl)
          have f2 := Lib.hid (show cntTo (eqAt m) i (j + 1) = cntTo (eqAt m) i j + (if eqAt m i j then 1 else 0) from rfl)
          have f3 := Lib.hid (show cntTo (eqAt l) i (j + 1) = cntTo (eqAt l) i j + (if eqAt l i j then 1 else 0) from rfl)
          generalize hq1 : cntTo (both l m) i j = q1 at *
          generalize hq2 : cntTo (eqAt m) i j = q2 at *
          generalize hq3 : cntTo (eqAt l) i j = q3 at *
          have Hq := Lib.hid (And.intro hq1 (And.intro hq2 hq3)); clear hq1 hq2 hq3
          have k1 := hbx.cell 0; have k2 := hbx.cell 1; have k3 := hbx.cell 2
          have g1 := hbx.free 0; have g2 := hbx.free 1; have g3 := hbx.free 2
          simp only [three, List.getElem?_toArray, List.getElem?_cons_zero, List.getElem?_cons_succ] at k1 k2 k3
          have HB := Lib.hid hbx; have HB0 := Lib.hid hbx0; clear hbx hbx0
          have hs1 := HB.out.lt
          have hkl : j < l.length := by omega
          have hkm : j < m.length := by omega
          have hil : i < m.length := by omega
          have he1 : eqAt l i j = (x == y) := by unfold eqAt; rw [hxg.out, hyg.out]
          have he2 : eqAt m i j = (z == u) := by unfold eqAt; rw [hzg.out, hug.out]
          have He1 := Lib.hid he1; have He2 := Lib.hid he2; clear he1 he2
          cases hxy : (x == y) <;> cases hzu : (z == u)
          · go_wp2
            go_quiet (fail)
            go_wp2
            go_roundw
            case rel =>
              refine ⟨j + 1, by omega, by go_num, by (repeat' (first | assumption | exact Below.refl _ _ | refine Ext.alloc' ?_ _ | refine Ext.drew' ?_ | refine Ext.drewN' ?_ _ | refine Ext.setCell' ?_ (by first | (simp; done) | (simp; omega)) _ | (refine Ext.trans ?_ (by assumption)))), ?_, ?_⟩
              · rw [f1.out, f2.out, f3.out]
                unfold both
                rw [He1.out, He2.out, hxy, hzu]
                exact Box.cast (HB.out.drewN _) (by simp [three])
              · exact HB0.out.drewN _
            case measure => simp [intOf]; omega
          · go_wp2
            go_quiet (fail)
            go_wp2
            go_roundw
            case rel =>
              refine ⟨j + 1, by omega, by go_num, by (repeat' (first | assumption | exact Below.refl _ _ | refine Ext.alloc' ?_ _ | refine Ext.drew' ?_ | refine Ext.drewN' ?_ _ | refine Ext.setCell' ?_ (by first | (simp; done) | (simp; omega)) _ | (refine Ext.trans ?_ (by assumption)))), ?_, ?_⟩
              · rw [f1.out, f2.out, f3.out]
                unfold both
                rw [He1.out, He2.out, hxy, hzu]
                exact Box.cast ((HB.out.drewN _).set _ _) (by simp [three]; try omega)
              · exact (HB0.out.drewN _).setOther (by omega) _
            case measure => simp [intOf]; omega
          · go_wp2
            go_quiet (fail)
            go_wp2
            go_roundw
            case rel =>
              refine ⟨j + 1, by omega, by go_num, by (repeat' (first | assumption | exact Below.refl _ _ | refine Ext.alloc' ?_ _ | refine Ext.drew' ?_ | refine Ext.drewN' ?_ _ | refine Ext.setCell' ?_ (by first | (simp; done) | (simp; omega)) _ | (refine Ext.trans ?_ (by assumption)))), ?_, ?_⟩
              · rw [f1.out, f2.out, f3.out]
                unfold both
                rw [He1.out, He2.out, hxy, hzu]
                exact Box.cast ((HB.out.drewN _).set _ _) (by simp [three]; try omega)
              · exact (HB0.out.drewN _).setOther (by omega) _
            case measure => simp [intOf]; omega
          · go_wp2
            go_quiet (fail)
            go_wp2
            go_roundw
            case rel =>
              refine ⟨j + 1, by omega, by go_num, by (repeat' (first | assumption | exact Below.refl _ _ | refine Ext.alloc' ?_ _ | refine Ext.drew' ?_ | refine Ext.drewN' ?_ _ | refine Ext.setCell' ?_ (by first | (simp; done) | (simp; omega)) _ | (refine Ext.trans ?_ (by assumption)))), ?_, ?_⟩
              · rw [f1.out, f2.out, f3.out]
                unfold both
                rw [He1.out, He2.out, hxy, hzu]
                exact Box.cast ((((HB.out.drewN _).set _ _).set _ _).set _ _) (by simp [three]; try omega)
              · exact (((HB0.out.drewN _).setOther (by omega) _).setOther (by omega) _).setOther (by omega) _
            case measure => simp [intOf]; omega
        · obtain rfl : j = i := by omega
          have HB := Lib.hid hbx; have HB0 := Lib.hid hbx0; clear hbx hbx0
          go_wp2
          go_roundw
          case rel => exact ⟨j + 1, by omega, by go_num, hEi, HB.out.cast (by rw [e1.out, e2.out, e3.out]), HB0.out⟩
          case measure => simp [intOf]; omega
    · obtain rfl : i = l.length := by omega
      have k1 := hbx.cell 0; have k2 := hbx.cell 1; have k3 := hbx.cell 2
      have j1 := hbx0.cell 0; have j2 := hbx0.cell 1; have j3 := hbx0.cell 2
      have g1 := hbx0.free 0; have g2 := hbx0.free 1; have g3 := hbx0.free 2
      simp only [three, List.getElem?_toArray, List.getElem?_cons_zero, List.getElem?_cons_succ] at k1 k2 k3 j1 j2 j3
      have hs0 := hbx0.lt; have hs1 := hbx.lt
      clear hbx hbx0
      go_wp2
      refine bodyPost_ret (v := .tuple #[.agg #[.int .i64 (pairsP (both l m) l.length), .int .i64 (pairsP (eqAt m) l.length), .int .i64 (pairsP (eqAt l) l.length)], .bool true]) (by simp [results, Try.results19, go_sem, j1, j2, j3]) rfl ⟨rfl, by (repeat' (first | assumption | exact Below.refl _ _ | refine Ext.alloc' ?_ _ | refine Ext.drew' ?_ | refine Ext.drewN' ?_ _ | refine Ext.setCell' ?_ (by first | (simp; done) | (simp; omega)) _ | (refine Ext.trans ?_ (by assumption))))⟩

/-! ### The labels tell the values apart, and nothing else -/
theorem lastAt_not (x : Int) : ∀ (s : List Int) (k : Nat) (a : Int), x ∉ s → lastAt x s k a = a
  | [], _, _, _ => rfl
  | y :: ys, k, a, h => by
    have h1 : (y == x) = false := by
      rw [beq_eq_false_iff_ne]; rintro rfl; exact h List.mem_cons_self
    simp only [lastAt, h1, Bool.false_eq_true, if_false]
    exact lastAt_not x ys (k + 1) a (fun h2 => h (List.mem_cons_of_mem _ h2))
theorem lastAt_append (x : Int) : ∀ (s t : List Int) (k : Nat) (a : Int), lastAt x (s ++ t) k a = lastAt x t (k + s.length) (lastAt x s k a)
  | [], t, k, a => by simp [lastAt]
  | y :: ys, t, k, a => by
    simp only [List.cons_append, lastAt]
    rw [lastAt_append x ys t (k + 1) _]
    congr 1
    simp only [List.length_cons]; omega
theorem lastAt_mem (x : Int) : ∀ (s : List Int) (k : Nat) (a : Int), x ∈ s → ∃ j, ∃ h : j < s.length, s[j] = x ∧ lastAt x s k a = ((k + j : Nat) : Int)
  | [], _, _, h => by simp at h
  | y :: ys, k, a, h => by
    by_cases hm : x ∈ ys
    · obtain ⟨j, hj, h1, h2⟩ := lastAt_mem x ys (k + 1) (if y == x then (k : Int) else a) hm
      refine ⟨j + 1, by simp; omega, by simpa using h1, ?_⟩
      simp only [lastAt]; rw [h2]; congr 1; omega
    · have hy : y = x := by
        rcases List.mem_cons.1 h with h | h
        · exact h.symm
        · exact absurd h hm
      subst hy
      refine ⟨0, by simp, rfl, ?_⟩
      simp only [lastAt, beq_self_eq_true, if_true]
      rw [lastAt_not _ _ _ _ hm]; rfl
theorem lastAt_neg {x : Int} {s : List Int} (h : lastAt x s 0 (-1) < 0) : x ∉ s := by
  intro hm
  obtain ⟨j, _, _, h2⟩ := lastAt_mem x s 0 (-1) hm
  omega
theorem lastAt_pos {x : Int} {s : List Int} (h : ¬ lastAt x s 0 (-1) < 0) : x ∈ s := by
  by_cases hm : x ∈ s
  · exact hm
  · rw [lastAt_not x s 0 (-1) hm] at h; omega
theorem labelsFrom_map : ∀ (l seen out : List Int), seen.Nodup →
    ∃ F : List Int, (∃ t, F = seen ++ t) ∧ F.Nodup ∧ (∀ x ∈ l, x ∈ F) ∧ labelsFrom l seen out = out ++ l.map (fun x => lastAt x F 0 (-1))
  | [], seen, out, h => ⟨seen, ⟨[], by simp⟩, h, by simp, by simp [labelsFrom]⟩
  | x :: xs, seen, out, h => by
    by_cases hneg : lastAt x seen 0 (-1) < 0
    · have hx := lastAt_neg hneg
      obtain ⟨F, ⟨t, hF⟩, hnd, hmem, heq⟩ := labelsFrom_map xs (seen ++ [x]) (out ++ [(seen.length : Int)])
        (by rw [List.nodup_append]; exact ⟨h, by simp, by intro a ha b hb; simp at hb; subst hb; rintro rfl; exact hx ha⟩)
      refine ⟨F, ⟨[x] ++ t, by rw [hF, List.append_assoc]⟩, hnd, ?_, ?_⟩
      · intro y hy
        rcases List.mem_cons.1 hy with rfl | hy
        · rw [hF]; simp
        · exact hmem y hy
      · have hxt : x ∉ t := by
          intro hxt
          rw [hF, List.nodup_append] at hnd
          exact hnd.2.2 x (by simp) x hxt rfl
        have hl : lastAt x F 0 (-1) = (seen.length : Int) := by
          rw [hF, lastAt_append, lastAt_not x t _ _ hxt, lastAt_append]
          simp [lastAt]
        simp only [labelsFrom, if_pos hneg, heq, List.map_cons, hl]
        simp
    · have hx := lastAt_pos hneg
      obtain ⟨F, ⟨t, hF⟩, hnd, hmem, heq⟩ := labelsFrom_map xs seen (out ++ [lastAt x seen 0 (-1)]) h
      refine ⟨F, ⟨t, hF⟩, hnd, ?_, ?_⟩
      · intro y hy
        rcases List.mem_cons.1 hy with rfl | hy
        · rw [hF]; simp [hx]
        · exact hmem y hy
      · have hxt : x ∉ t := by
          intro hxt
          rw [hF, List.nodup_append] at hnd
          exact hnd.2.2 x hx x hxt rfl
        have hl : lastAt x F 0 (-1) = lastAt x seen 0 (-1) := by
          rw [hF, lastAt_append, lastAt_not x t _ _ hxt]
        simp only [labelsFrom, if_neg hneg, heq, List.map_cons, hl]
        simp
theorem lastAt_inj {x y : Int} {F : List Int} (hx : x ∈ F) (hy : y ∈ F) (h : lastAt x F 0 (-1) = lastAt y F 0 (-1)) : x = y := by
  obtain ⟨j, hj, h1, h2⟩ := lastAt_mem x F 0 (-1) hx
  obtain ⟨k, hk, h3, h4⟩ := lastAt_mem y F 0 (-1) hy
  have : j = k := by omega
  subst this
  exact h1.symm.trans h3
theorem labels_length (l : List Int) : (labelsFrom l [] []).length = l.length := by
  obtain ⟨F, _, _, _, h⟩ := labelsFrom_map l [] [] List.nodup_nil
  rw [h]; simp
theorem labels_eqAt (l : List Int) (i k : Nat) (hi : i < l.length) (hk : k < l.length) : eqAt (labelsFrom l [] []) i k = eqAt l i k := by
  obtain ⟨F, _, _, hm, h⟩ := labelsFrom_map l [] [] List.nodup_nil
  rw [h]
  simp only [eqAt, List.nil_append, List.getD, List.getElem?_map, List.getElem?_eq_getElem hi, List.getElem?_eq_getElem hk, Option.map_some, Option.getD_some]
  rw [Bool.eq_iff_iff, beq_iff_eq, beq_iff_eq]
  exact ⟨fun h2 => lastAt_inj (hm _ (List.getElem_mem hi)) (hm _ (List.getElem_mem hk)) h2, fun h2 => by rw [h2]⟩

theorem zipWith8_length : ∀ (l m : List Int), l.length = m.length → (zipWith8 l m).length = l.length
  | [], [], _ => rfl
  | x :: xs, y :: ys, h => by simp [zipWith8, zipWith8_length xs ys (by simpa using h)]
theorem zipWith8_get : ∀ (l m : List Int) (i : Nat), l.length = m.length → i < l.length → (zipWith8 l m).getD i 0 = l.getD i 0 * 8 + m.getD i 0
  | x :: xs, y :: ys, 0, _, _ => by simp [zipWith8]
  | x :: xs, y :: ys, i + 1, h, hi => by
    have := zipWith8_get xs ys i (by simpa using h) (by simpa using hi)
    simpa [zipWith8] using this
theorem meet_length {l m : List Int} (h : pairB l m = true) : (meet l m).length = l.length := by
  simp only [pairB, Bool.and_eq_true, decide_eq_true_eq] at h
  rw [meet, labels_length, zipWith8_length l m h.2]
theorem meet_eqAt {l m : List Int} (h : pairB l m = true) (i k : Nat) (hi : i < l.length) (hk : k < l.length) : eqAt (meet l m) i k = both l m i k := by
  simp only [pairB, Bool.and_eq_true, decide_eq_true_eq] at h
  obtain ⟨⟨hl, hm⟩, hlen⟩ := h
  have hz := zipWith8_length l m hlen
  rw [meet, labels_eqAt _ _ _ (by omega) (by omega)]
  have b1 := isPart_bound hm i (by omega)
  have b2 := isPart_bound hm k (by omega)
  have g1 : m.getD i 0 = m[i]'(by omega) := by simp [List.getD, show i < m.length by omega]
  have g2 : m.getD k 0 = m[k]'(by omega) := by simp [List.getD, show k < m.length by omega]
  simp only [eqAt, both, zipWith8_get l m i hlen hi, zipWith8_get l m k hlen hk, g1, g2]
  rw [Bool.eq_iff_iff, Bool.and_eq_true, beq_iff_eq, beq_iff_eq, beq_iff_eq]
  omega
theorem meet_pairs {l m : List Int} (h : pairB l m = true) : pairsP (eqAt (meet l m)) l.length = pairsP (both l m) l.length :=
  pairsP_congr _ _ _ fun i k hi hk => meet_eqAt h i k hi (by omega)
end Go.Proofs.Ytgehpbikkcnecaa
