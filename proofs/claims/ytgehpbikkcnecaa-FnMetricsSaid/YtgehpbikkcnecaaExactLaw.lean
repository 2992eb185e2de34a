/- The walks of ExactBlocks of the program and of the reference, and of the law. -/
import Derived.Test.YtgehpbikkcnecaaExact
import Derived.Test.YtgehpbikkcnecaaBPlain
import Derived.Test.YtgehpbikkcnecaaPBlocks
set_option linter.unusedVariables false
set_option linter.unusedSimpArgs false
namespace Go.Proofs.Ytgehpbikkcnecaa
open Go.RowKit Go.Er

/-- How many of the first k elements fulfil p. -/
def cntUpto {α : Type} (p : α → Bool) (l : List α) (k : Nat) : Nat := (l.take k).countP p
theorem cntUpto_succ {α : Type} (p : α → Bool) (l : List α) (k : Nat) (h : k < l.length) : cntUpto p l (k + 1) = cntUpto p l k + if p l[k] then 1 else 0 := by
  unfold cntUpto
  rw [List.take_succ_eq_append_getElem h, List.countP_append, List.countP_singleton]
theorem cntUpto_le {α : Type} (p : α → Bool) (l : List α) (k : Nat) : cntUpto p l k ≤ k :=
  Nat.le_trans List.countP_le_length (by simp; omega)
theorem cntUpto_all {α : Type} (p : α → Bool) (l : List α) : cntUpto p l l.length = l.countP p := by unfold cntUpto; rw [List.take_length]
/-- The sum of f over the first k elements. -/
def sumUpto {α : Type} (f : α → Nat) (l : List α) (k : Nat) : Nat := ((l.take k).map f).sum
theorem sumUpto_succ {α : Type} (f : α → Nat) (l : List α) (k : Nat) (h : k < l.length) : sumUpto f l (k + 1) = sumUpto f l k + f l[k] := by
  unfold sumUpto
  rw [List.take_succ_eq_append_getElem h, List.map_append, List.sum_append]; simp
theorem count_once {α : Type} [BEq α] [LawfulBEq α] (x : α) (l : List α) (h : l.Nodup) : l.countP (fun y => x == y) = if l.any (fun y => x == y) then 1 else 0 := by
  induction l with
  | nil => rfl
  | cons y ys ih =>
    obtain ⟨h1, h2⟩ := List.nodup_cons.1 h
    rw [List.countP_cons, ih h2, List.any_cons]
    by_cases hxy : x = y
    · subst hxy
      have hn : ys.any (fun y => x == y) = false := by
        rw [List.any_eq_false]; intro z hz; simp only [beq_iff_eq]; rintro rfl; exact h1 hz
      simp [hn]
    · have : (x == y) = false := by simpa using hxy
      simp [this]
theorem exact_counts {α : Type} [BEq α] [LawfulBEq α] (X Y : List α) (h : Y.Nodup) : (X.map (fun x => Y.countP (fun y => x == y))).sum = X.countP (fun x => Y.any (fun y => x == y)) := by
  induction X with
  | nil => rfl
  | cons x xs ih => rw [List.map_cons, List.sum_cons, ih, List.countP_cons, count_once x Y h]; omega

def exactOf (l m : List Int) : Int := if pairB l m then ((blocksOf l).countP (fun x => (blocksOf m).any (fun y => x == y)) : Nat) else -1

set_option maxHeartbeats 1600000 in
theorem implExactBlocks_any (l m : List Int) (a c : Option Addr) (ca cc : Nat) (w : World) (ha : Ints w a l) (hc : Ints w c m) (hl : l.length ≤ 1048576) (hm : m.length ≤ 1048576) :
    Calls Try.prog 23 #[.slice a l.length ca, .slice c m.length cc] w fun e w' => e = .returned (.int .i64 (exactOf l m)) ∧ Ext w w' := by
  cases hp : pairB l m
  · have hf := Lib.hid (show exactOf l m = -1 by simp [exactOf, hp])
    go_enter Try.func23, Try.ntmps23
    go_wp2_with (go_at_call 37; refine (arePartitions_any l m a c ca cc _ ha hc hl hm).mono ?_; rintro e w' ⟨rfl, rfl⟩)
    go_ret
    exact ⟨ret_int hf.out.symm, Ext.refl _⟩
  · have hf := Lib.hid (show exactOf l m = ((blocksOf l).countP (fun x => (blocksOf m).any (fun y => x == y)) : Nat) by simp [exactOf, hp])
    have hpl : isPart l = true := by simp only [pairB, Bool.and_eq_true] at hp; exact hp.1.1
    have hpm : isPart m = true := by simp only [pairB, Bool.and_eq_true] at hp; exact hp.1.2
    have hXn : (blocksOf l).length ≤ 8 := Nat.le_trans (blocksOf_length hpl) (isPart_len hpl).2
    have hYn : (blocksOf m).length ≤ 8 := Nat.le_trans (blocksOf_length hpm) (isPart_len hpm).2
    have hXr := Lib.hid (blocksOf_row_length hpl); have hYr := Lib.hid (blocksOf_row_length hpm)
    have HP := Lib.hid hp; have HL := Lib.hid hpl; have HM := Lib.hid hpm; clear hp hpl hpm
    go_enter Try.func23, Try.ntmps23
    go_wp2_with fail
    refine (arePartitions_any l m a c ca cc _ ha hc hl hm).mono ?_
    rintro e w' ⟨rfl, rfl⟩
    rw [HP.out]
    go_wp2_with fail
    refine (blocks_any l a ca _ ha HL.out).mono ?_
    rintro e w1 ⟨v, vs, rfl, hv, hE1⟩
    obtain ⟨ax, cx, rfl, hX⟩ := hv.rows
    clear hv
    generalize hXe : blocksOf l = X at *
    generalize hYe : blocksOf m = Y at *
    have HXe := Lib.hid hXe; have HYe := Lib.hid hYe; clear hXe hYe
    go_wp2_with fail
    go_loopw [5, 15] (fun s5 s15 wr => ∃ k : Nat, k ≤ X.length ∧ s15 = .int .i64 k ∧ s5 = .int .i64 (cntUpto (fun x => Y.any (fun y => x == y)) X k) ∧ Ext w1 wr) (fun _ i _ => X.length - (intOf i).toNat)
    case atStart => exact ⟨0, Nat.zero_le _, rfl, rfl, Ext.refl _⟩
    case round =>
      obtain ⟨k, hk, rfl, rfl, hE⟩ := hrel
      have hcb := cntUpto_le (fun x => Y.any (fun y => x == y)) X k
      by_cases hlt : k < X.length
      · obtain ⟨b, o, ai, ci, rfl, hcl, hi⟩ := hX.ext hE k hlt
        have hcs := Lib.hid (cntUpto_succ (fun x => Y.any (fun y => x == y)) X k hlt)
        have hxl : X[k].length ≤ 1048576 := Nat.le_trans (hXr.out X[k] (List.getElem_mem hlt)) hl
        generalize hx : X[k] = x at *
        generalize hq : cntUpto (fun x => Y.any (fun y => x == y)) X k = q at *
        have Hx := Lib.hid (And.intro hx hq); clear hx hq
        have HI := Lib.hid hi; clear hi
        have hbx := Box.new wr 28 #[.slice ai x.length ci]
        have HBX := Lib.hid hbx; clear hbx
        go_wp2_with fail
        refine (blocks_any m c cc _ (hc.ext (by (repeat' (first | assumption | exact Below.refl _ _ | refine Ext.alloc' ?_ _ | refine Ext.drew' ?_ | refine Ext.drewN' ?_ _ | refine Ext.setCell' ?_ (by first | (simp; done) | (simp; omega)) _ | (refine Ext.trans ?_ (by assumption)))))) HM.out).mono ?_
        rintro e w3 ⟨v, vs, rfl, hv, hE3⟩
        rw [HYe.out] at hv
        obtain ⟨ay, cy, rfl, hY⟩ := hv.rows
        clear hv
        have hb3 := HBX.out.ext hE3
        have hcell : w3.cell? ⟨wr.heap.size, 0, none⟩ = some (.slice ai x.length ci) := by have := hb3.cell 0; simpa using this
        have hxi : Ints w3 ai x := HI.out.ext (by (repeat' (first | assumption | exact Below.refl _ _ | refine Ext.alloc' ?_ _ | refine Ext.drew' ?_ | refine Ext.drewN' ?_ _ | refine Ext.setCell' ?_ (by first | (simp; done) | (simp; omega)) _ | (refine Ext.trans ?_ (by assumption)))))
        clear hb3
        have HCl := Lib.hid hcell; have HXi := Lib.hid hxi; have HY := Lib.hid hY; clear hcell hxi hY
        have hcall : ∀ i, (h : i < Y.length) → ∀ ai' ci' wr', Ext w3 wr' → Ints wr' ai' Y[i] → Calls Try.prog 42 #[.slice ai' Y[i].length ci', .pointer (some ⟨wr.heap.size, 0, none⟩)] wr' fun e w' => e = .returned (.bool (x == Y[i])) ∧ Ext wr' w' := by
          intro i hi' ai' ci' wr' hEw hIn
          exact exactClosure_any x Y[i] ai ai' ci ci' wr.heap.size wr' (hEw.at HCl.out) (HXi.out.ext hEw) hIn (Nat.le_trans (hYr.out Y[i] (List.getElem_mem hi')) hm) hxl
        have HCall := Lib.hid hcall; clear hcall
        go_wp2_with fail
        refine (containsFunc_rows 42 _ (fun y => x == y) Y ay cy _ HY.out (by omega) canCall HCall.out).mono ?_
        rintro e w4 ⟨rfl, hE4⟩
        have hEE : Ext w1 w4 := by (repeat' (first | assumption | exact Below.refl _ _ | refine Ext.alloc' ?_ _ | refine Ext.drew' ?_ | refine Ext.drewN' ?_ _ | refine Ext.setCell' ?_ (by first | (simp; done) | (simp; omega)) _ | (refine Ext.trans ?_ (by assumption))))
        cases hb : Y.any (fun y => x == y)
        · go_wp2_with fail
          go_roundw
          case rel => exact ⟨k + 1, by omega, by go_num, by rw [hcs.out, hb]; go_num, hEE⟩
          case measure => simp [intOf]; omega
        · go_wp2_with fail
          go_roundw
          case rel => exact ⟨k + 1, by omega, by go_num, by rw [hcs.out, hb]; go_num, hEE⟩
          case measure => simp [intOf]; omega
      · obtain rfl : k = X.length := by omega
        have hall := Lib.hid (cntUpto_all (fun x => Y.any (fun y => x == y)) X)
        go_wp2_with fail
        go_ret
        exact ⟨ret_int (by rw [hall.out, hf.out]), by (repeat' (first | assumption | exact Below.refl _ _ | refine Ext.alloc' ?_ _ | refine Ext.drew' ?_ | refine Ext.drewN' ?_ _ | refine Ext.setCell' ?_ (by first | (simp; done) | (simp; omega)) _ | (refine Ext.trans ?_ (by assumption))))⟩

set_option maxHeartbeats 1600000 in
theorem specExactBlocks_any (l m : List Int) (a c : Option Addr) (ca cc : Nat) (w : World) (ha : Ints w a l) (hc : Ints w c m) (hl : l.length ≤ 1048576) (hm : m.length ≤ 1048576) :
    Calls Try.prog 22 #[.slice a l.length ca, .slice c m.length cc] w fun e w' => e = .returned (.int .i64 (exactOf l m)) ∧ Ext w w' := by
  cases hp : pairB l m
  · have hf := Lib.hid (show exactOf l m = -1 by simp [exactOf, hp])
    go_enter Try.func22, Try.ntmps22
    go_wp2_with (go_at_call 34; refine (l19Pair_any l m a c ca cc _ ha hc hl hm).mono ?_; rintro e w' ⟨rfl, rfl⟩)
    go_ret
    exact ⟨ret_int hf.out.symm, Ext.refl _⟩
  · have hpl : isPart l = true := by simp only [pairB, Bool.and_eq_true] at hp; exact hp.1.1
    have hpm : isPart m = true := by simp only [pairB, Bool.and_eq_true] at hp; exact hp.1.2
    have hf := Lib.hid (show exactOf l m = (((blocksOf l).map (fun x => (blocksOf m).countP (fun y => x == y))).sum : Nat) by
      simp only [exactOf, hp, if_true]; rw [exact_counts _ _ (blocksOf_nodup hpm)])
    have hXn : (blocksOf l).length ≤ 8 := Nat.le_trans (blocksOf_length hpl) (isPart_len hpl).2
    have hYn : (blocksOf m).length ≤ 8 := Nat.le_trans (blocksOf_length hpm) (isPart_len hpm).2
    have hXr := Lib.hid (blocksOf_row_length hpl); have hYr := Lib.hid (blocksOf_row_length hpm)
    have HP := Lib.hid hp; have HL := Lib.hid hpl; have HM := Lib.hid hpm; clear hp hpl hpm
    go_enter Try.func22, Try.ntmps22
    go_wp2_with fail
    refine (l19Pair_any l m a c ca cc _ ha hc hl hm).mono ?_
    rintro e w' ⟨rfl, rfl⟩
    rw [HP.out]
    go_wp2_with fail
    refine (partitionBlocks_any l a ca _ ha hl HL.out).mono ?_
    rintro e w1 ⟨v, vs, rfl, hv, hE1⟩
    obtain ⟨ax, cx, rfl, hX1⟩ := hv.rows
    clear hv
    go_wp2_with fail
    refine (partitionBlocks_any m c cc _ (hc.ext (by (repeat' (first | assumption | exact Below.refl _ _ | refine Ext.alloc' ?_ _ | refine Ext.drew' ?_ | refine Ext.drewN' ?_ _ | refine Ext.setCell' ?_ (by first | (simp; done) | (simp; omega)) _ | (refine Ext.trans ?_ (by assumption)))))) hm HM.out).mono ?_
    rintro e w2 ⟨v, vs, rfl, hv, hE2⟩
    obtain ⟨ay, cy, rfl, hY⟩ := hv.rows
    clear hv
    have hX := hX1.ext hE2
    clear hX1
    generalize hXe : blocksOf l = X at *
    generalize hYe : blocksOf m = Y at *
    have HXe := Lib.hid hXe; have HYe := Lib.hid hYe; clear hXe hYe
    have HX := Lib.hid hX; have HY := Lib.hid hY; clear hX hY
    have hsb : ∀ k, k ≤ X.length → sumUpto (fun x => Y.countP (fun y => x == y)) X k ≤ 8 * k := by
      intro k
      induction k with
      | zero => intro _; simp [sumUpto]
      | succ k ih =>
        intro hk
        rw [sumUpto_succ _ _ _ (by omega)]
        have h1 := ih (by omega)
        have h2 : Y.countP (fun y => X[k] == y) ≤ Y.length := List.countP_le_length
        omega
    have HSB := Lib.hid hsb; clear hsb
    go_wp2_with fail
    go_loopw [7, 8] (fun s7 s8 wr => ∃ k : Nat, k ≤ X.length ∧ s8 = .int .i64 k ∧ s7 = .int .i64 (sumUpto (fun x => Y.countP (fun y => x == y)) X k) ∧ Ext w2 wr) (fun _ i _ => X.length - (intOf i).toNat)
    case atStart => exact ⟨0, Nat.zero_le _, rfl, rfl, Ext.refl _⟩
    case round =>
      obtain ⟨k, hk, rfl, rfl, hE⟩ := hrel
      have hcb := HSB.out k hk
      by_cases hlt : k < X.length
      · obtain ⟨b, o, ai, ci, rfl, hcl, hi⟩ := HX.out k hlt
        have hcs := Lib.hid (sumUpto_succ (fun x => Y.countP (fun y => x == y)) X k hlt)
        have hxl : X[k].length ≤ 1048576 := Nat.le_trans (hXr.out X[k] (List.getElem_mem hlt)) hl
        generalize hx : X[k] = x at *
        generalize hq : sumUpto (fun x => Y.countP (fun y => x == y)) X k = q at *
        have Hx := Lib.hid (And.intro hx hq); clear hx hq
        have HI := Lib.hid hi; clear hi
        have HCl := Lib.hid hcl; clear hcl
        go_wp2_with fail
        obtain ⟨wo, rfl⟩ : ∃ wo : World, wo = wr := ⟨_, rfl⟩
        go_loopw [7, 9] (fun s7 s9 wr => ∃ j : Nat, j ≤ Y.length ∧ s9 = .int .i64 j ∧ s7 = .int .i64 ((q + cntUpto (fun y => x == y) Y j : Nat) : Int) ∧ Ext wo wr) (fun _ i _ => Y.length - (intOf i).toNat)
        case atStart => exact ⟨0, Nat.zero_le _, rfl, rfl, Ext.refl _⟩
        case round =>
          obtain ⟨j, hj, rfl, rfl, hEi⟩ := hrel
          have hcj := cntUpto_le (fun y => x == y) Y j
          by_cases hjl : j < Y.length
          · obtain ⟨b2, o2, ai2, ci2, rfl, hcl2, hi2⟩ := HY.out j hjl
            have hce := Lib.hid (cntUpto_succ (fun y => x == y) Y j hjl)
            have hyl : Y[j].length ≤ 1048576 := Nat.le_trans (hYr.out Y[j] (List.getElem_mem hjl)) hm
            generalize hy : Y[j] = y at *
            generalize hr : cntUpto (fun y => x == y) Y j = r at *
            have Hy := Lib.hid (And.intro hy hr); clear hy hr
            have hEw : Ext w2 wr := hE.trans hEi
            have hA := hEw.at HCl.out
            have hB := hEw.at hcl2
            have HI1 := Lib.hid (HI.out.ext hEw); have HI2 := Lib.hid (hi2.ext hEw)
            clear hi2 hcl2
            have hz := Lib.hid (cmpInts_zero x y)
            go_wp2_with fail
            go_quiet ((go_at_call 39; exact Calls.quiet_of (l8Ints_any x y ai ai2 ci ci2 _ (HI1.out.ext ((Ext.refl _).drewN' _)) (HI2.out.ext ((Ext.refl _).drewN' _)) hxl hyl)))
            have hz1 := hz.out
            generalize cmpInts x y = cv at *
            cases hxy : (x == y)
            · rw [hxy] at hz1
              go_wp2
              go_roundw
              case rel => exact ⟨j + 1, by omega, by go_num, by rw [hce.out, hxy]; go_num, hEi.drewN' _⟩
              case measure => simp [intOf]; omega
            · rw [hxy] at hz1
              go_wp2
              go_roundw
              case rel => exact ⟨j + 1, by omega, by go_num, by rw [hce.out, hxy]; go_num, hEi.drewN' _⟩
              case measure => simp [intOf]; omega
          · obtain rfl : j = Y.length := by omega
            have hall := Lib.hid (cntUpto_all (fun y => x == y) Y)
            go_wp2_with fail
            go_roundw
            case rel => exact ⟨k + 1, by omega, by go_num, by rw [hcs.out, hall.out], hE.trans hEi⟩
            case measure => simp [intOf]; omega
      · obtain rfl : k = X.length := by omega
        go_wp2_with fail
        go_ret
        exact ⟨ret_int (by rw [hf.out]; simp [sumUpto]), by (repeat' (first | assumption | exact Below.refl _ _ | refine Ext.alloc' ?_ _ | refine Ext.drew' ?_ | refine Ext.drewN' ?_ _ | refine Ext.setCell' ?_ (by first | (simp; done) | (simp; omega)) _ | (refine Ext.trans ?_ (by assumption))))⟩
end Go.Proofs.Ytgehpbikkcnecaa
