/- The walks of functions that make a slice of integers: a copy, the canonical labels, the meet of two partitions. -/
import Derived.Test.YtgehpbikkcnecaaRows
import Derived.Test.YtgehpbikkcnecaaLib
import Derived.Test.YtgehpbikkcnecaaScore
import Derived.Test.YtgehpbikkcnecaaPart
import Derived.StillTailTactics
set_option linter.unusedVariables false
set_option linter.unusedSimpArgs false
namespace Go.Proofs.Ytgehpbikkcnecaa
open Go.RowKit Go.Er

theorem info_int : (Try.prog.info? 3).map (fun i => (i.zero, i.size, i.bytes)) = some (some (.int .i64 0), 1, 8) := by kernel_rfl

theorem set_fill {α : Type} (l : List α) (k : Nat) (z : α) (h : k < l.length) : (l.take k ++ List.replicate (l.length - k) z).set k l[k] = l.take (k + 1) ++ List.replicate (l.length - (k + 1)) z := by
  rw [List.take_succ_eq_append_getElem h, show l.length - k = (l.length - (k + 1)) + 1 by omega, List.replicate_succ]
  rw [List.set_append_right _ _ (by simp; omega), List.append_assoc]
  congr 1
  simp [Nat.min_eq_left (Nat.le_of_lt h)]

/-- What a function that makes a slice of integers leaves: it reads as l, in new memory. -/
def MadeInts (w : World) (l : List Int) (e : Ending) (w' : World) : Prop := ∃ v, e = .returned v ∧ Own1 w' w.heap.size 3 v (l.map (.int .i64)) ∧ Ext w w'

set_option maxHeartbeats 400000 in
theorem toIntS_any (l : List Int) (a : Option Addr) (cap : Nat) (w : World) (ha : Ints w a l) (hl : l.length ≤ 1048576) :
    Calls Try.prog 18 #[.slice a l.length cap] w (MadeInts w l) := by
  go_enter Try.func18, Try.ntmps18
  go_wp2_with (at_make; refine wpList_make_one rfl _ _ 28 rfl Try.underlying28 info_int rfl (by decide) .i64 .i64 l.length rfl rfl (by omega) (Ext.refl _) ?_; intro w1 hown hE hgrow hsz)
  have H2 := Lib.hid hown; have Hg := hgrow; clear hgrow hown
  go_loopw [4] (fun s4 wr => ∃ k : Nat, k ≤ l.length ∧ s4 = .int .i64 k ∧ Ext w wr ∧ w.heap.size < wr.heap.size ∧
      Own1 wr w.heap.size 3 (.slice (some ⟨w.heap.size, 0, none⟩) l.length l.length) ((l.take k ++ List.replicate (l.length - k) 0).map (.int .i64))) (fun i _ => l.length - (intOf i).toNat)
  case atStart => exact ⟨0, Nat.zero_le _, rfl, hE, hsz, by simpa using H2.out⟩
  case round =>
    obtain ⟨k, hk, rfl, hE1, hsz1, hown1⟩ := hrel
    by_cases hlt : k < l.length
    · obtain ⟨b, o, rfl, hc⟩ := ha.ext hE1 k hlt
      have hcell := hown1.cellAt k (by simp; omega)
      have hfr := hown1.frozenAt k
      have hst := hown1.set hE1 k (.int .i64 l[k])
      generalize hy : ((l.take k ++ List.replicate (l.length - k) 0).map (Value.int .i64))[k]'(by simp; omega) = y at *
      have hq : (((l.take k ++ List.replicate (l.length - k) 0).map (Value.int .i64)).set k (.int .i64 l[k])) = ((l.take (k + 1) ++ List.replicate (l.length - (k + 1)) 0).map (Value.int .i64)) := by
        rw [← List.map_set, set_fill l k 0 hlt]
      have Hq := Lib.hid hq; have Hy := Lib.hid hy; have HS := Lib.hid hst; clear hq hy hst
      generalize hv : l[k] = v at *
      have Hv := Lib.hid hv; clear hv
      clear hown1
      go_wp2
      go_roundw
      case rel =>
        refine ⟨k + 1, by omega, by go_num, HS.out.2, by simpa using hsz1, ?_⟩
        rw [← Hq.out]; exact HS.out.1
      case measure => simp [intOf]; omega
    · obtain rfl : k = l.length := by omega
      have H3 := Lib.hid hown1; clear hown1
      go_wp2
      go_ret
      exact ⟨_, rfl, by simpa using H3.out, hE1⟩

/-! ### Canonical labels -/
def lastAt (x : Int) : List Int → Nat → Int → Int
  | [], _, a => a
  | y :: ys, k, a => lastAt x ys (k + 1) (if y == x then (k : Int) else a)
def labelsFrom : List Int → List Int → List Int → List Int
  | [], _, out => out
  | x :: xs, seen, out => if lastAt x seen 0 (-1) < 0 then labelsFrom xs (seen ++ [x]) (out ++ [(seen.length : Int)]) else labelsFrom xs seen (out ++ [lastAt x seen 0 (-1)])

set_option maxHeartbeats 800000 in
theorem canonicalLabels_any (l : List Int) (a : Option Addr) (cap : Nat) (w : World) (ha : Ints w a l) (hl : l.length ≤ 1048576) :
    Calls Try.prog 54 #[.slice a l.length cap] w (MadeInts w (labelsFrom l [] [])) := by
  have hA : Ext w ((w.alloc (.cells #[] 3)).alloc (.cells #[] 3)) := by (repeat' (first | assumption | exact Below.refl _ _ | refine Ext.alloc' ?_ _ | refine Ext.drew' ?_ | refine Ext.drewN' ?_ _ | refine Ext.setCell' ?_ (by first | (simp; done) | (simp; omega)) _ | (refine Ext.trans ?_ (by assumption))))
  have h0 : Own1 ((w.alloc (.cells #[] 3)).alloc (.cells #[] 3)) w.heap.size 3 (.slice (some ⟨w.heap.size, 0, none⟩) 0 0) [] := (Own1.lit0 (Nat.le_refl _) (heap_alloc_new w _)).alloc _
  have h1 : Own1 ((w.alloc (.cells #[] 3)).alloc (.cells #[] 3)) w.heap.size 3 (.slice (some ⟨w.heap.size + 1, 0, none⟩) 0 0) [] := Own1.lit0 (by omega) (by simpa using heap_alloc_new (w.alloc (.cells #[] 3)) (.cells #[] 3))
  go_enter Try.func54, Try.ntmps54
  go_wp2
  go_loopw [3, 4, 5] (fun s3 s4 s5 wr => ∃ (k : Nat) (out seen : List Int), k ≤ l.length ∧ s5 = .int .i64 k ∧ Own1 wr w.heap.size 3 s3 (out.map (.int .i64)) ∧ Own1 wr w.heap.size 3 s4 (seen.map (.int .i64)) ∧
      Apart s3 s4 ∧ Ext w wr ∧ seen.length ≤ k ∧ out.length ≤ k ∧ Hid (labelsFrom (l.drop k) seen out = labelsFrom l [] [])) (fun _ _ i _ => l.length - (intOf i).toNat)
  case atStart => exact ⟨0, [], [], Nat.zero_le _, rfl, h0, h1, by simp [Apart, Value.ownBlock], hA, Nat.le_refl _, Nat.le_refl _, rfl⟩
  case round =>
    obtain ⟨k, out, seen, hk, rfl, hvo, hvs, hap, hE, hls, hlo, hR⟩ := hrel
    by_cases hlt : k < l.length
    · obtain ⟨b, o, rfl, hc⟩ := ha.ext hE k hlt
      obtain ⟨sa, caps, rfl, hsi⟩ := hvs.ints
      have hR' := Lib.hid (congrArg (fun q => labelsFrom q seen out) (List.drop_eq_getElem_cons hlt))
      generalize hx : l[k] = x at *
      have Hx := Lib.hid hx; clear hx
      go_wp2
      obtain ⟨wo, rfl⟩ : ∃ wo : World, wo = wr := ⟨_, rfl⟩
      have HO := Lib.hid hvo; have HS := Lib.hid hvs; have HP := Lib.hid hap; clear hvo hvs hap
      go_loopw [6, 7] (fun s6 s7 wr => ∃ (j : Nat) (t : Int), j ≤ seen.length ∧ s7 = .int .i64 j ∧ s6 = .int .i64 t ∧ -1 ≤ t ∧ t < seen.length ∧ Ext wo wr ∧ Hid (lastAt x (seen.drop j) j t = lastAt x seen 0 (-1))) (fun _ j _ => seen.length - (intOf j).toNat)
      case atStart => exact ⟨0, -1, Nat.zero_le _, rfl, rfl, by omega, by omega, Ext.refl _, rfl⟩
      case round =>
        obtain ⟨j, t, hj, rfl, rfl, ht0, ht1, hEi, hRi⟩ := hrel
        by_cases hjl : j < seen.length
        · obtain ⟨b2, o2, rfl, hc2⟩ := hsi.ext hEi j hjl
          have hc1 := (hEi.cells b (o + k) (lt_of_cell hc)).trans hc
          have hRi' := Lib.hid (congrArg (fun q => lastAt x q j t) (List.drop_eq_getElem_cons hjl))
          generalize hy : seen[j] = y at *
          have Hy := Lib.hid hy; clear hy hc
          go_wp2
          go_quiet (fail)
          go_wp2
          · have h : (y == x) = true := by assumption
            go_roundw
            case rel =>
              refine ⟨j + 1, (j : Int), by omega, by go_num, rfl, by omega, by omega, hEi.drewN' _, ?_⟩
              show _ = _
              rw [← hRi.out, hRi'.out]; simp only [lastAt, h, if_true]
            case measure => simp [intOf]; omega
          · have h : (y == x) = false := by assumption
            go_roundw
            case rel =>
              refine ⟨j + 1, t, by omega, by go_num, rfl, by omega, by omega, hEi.drewN' _, ?_⟩
              show _ = _
              rw [← hRi.out, hRi'.out]; simp only [lastAt, h, Bool.false_eq_true, if_false]
            case measure => simp [intOf]; omega
        · have hlast : Hid (lastAt x seen 0 (-1) = t) := by
            show _ = _
            rw [← hRi.out, List.drop_eq_nil_of_le (by omega)]; rfl
          have hc1 := (hEi.cells b (o + k) (lt_of_cell hc)).trans hc
          clear hc
          have hEw : Ext w wr := hE.trans hEi
          have HO := Lib.hid (HO.out.ext hEi); have HS := Lib.hid (HS.out.ext hEi)
          by_cases htn : t < 0
          · go_wp2_with (first | (at_builtin; refine wpList_append_one (w0 := w) rfl (.tmp 36) (.tmp 41) 28 rfl Try.underlying28 info_int rfl (by decide) _ (seen.map (.int .i64)) rfl (by (repeat' (first | assumption | exact Below.refl _ _ | refine Ext.alloc' ?_ _ | refine Ext.drew' ?_ | refine Ext.drewN' ?_ _ | refine Ext.setCell' ?_ (by first | (simp; done) | (simp; omega)) _ | (refine Ext.trans ?_ (by assumption))))) (HS.out.alloc _) (by simp; omega) ⟨wr.heap.size, 0, none⟩ 1 (.int .i64 x) rfl (by simp) rfl ?_; intro vs' w1 hvs1 hE1 hg1 hb1; have hbs := (HO.out.alloc _).beside HP.out.symm hg1 hb1; have HO2 := Lib.hid hbs.1; have HP2 := Lib.hid hbs.2; have HG := Lib.hid hvs1; have HB := Lib.hid hb1; clear hbs hg1 hb1 hvs1) | (at_builtin; go_loud (refine wpList_append_one (w0 := w) rfl (.tmp 43) (.tmp 45) 28 rfl Try.underlying28 info_int rfl (by decide) _ (out.map (.int .i64)) rfl (by (repeat' (first | assumption | exact Below.refl _ _ | refine Ext.alloc' ?_ _ | refine Ext.drew' ?_ | refine Ext.drewN' ?_ _ | refine Ext.setCell' ?_ (by first | (simp; done) | (simp; omega)) _ | (refine Ext.trans ?_ (by assumption))))) (HO2.out.alloc _) (by simp; omega) ⟨_, 0, none⟩ 1 _ rfl (by simp; rfl) rfl ?_); intro vo' w2 hvo2 hE2 hg2 hb2))
            have hbs2 := (HG.out.alloc _).beside HP2.out.symm hg2 hb2
            go_roundw
            case rel =>
              refine ⟨k + 1, out ++ [(seen.length : Int)], seen ++ [x], by omega, by go_num, by simpa using hvo2, by simpa using hbs2.1, hbs2.2, hE2, by simp; omega, by simp; omega, ?_⟩
              show _ = _
              rw [← hR.out, hR'.out]; simp only [labelsFrom, hlast.out, if_pos htn]
            case measure => simp [intOf]; omega
          · have HO2 := HO
            go_wp2_with (first | (at_builtin; go_loud (refine wpList_append_one (w0 := w) rfl (.tmp 43) (.tmp 45) 28 rfl Try.underlying28 info_int rfl (by decide) _ (out.map (.int .i64)) rfl (by (repeat' (first | assumption | exact Below.refl _ _ | refine Ext.alloc' ?_ _ | refine Ext.drew' ?_ | refine Ext.drewN' ?_ _ | refine Ext.setCell' ?_ (by first | (simp; done) | (simp; omega)) _ | (refine Ext.trans ?_ (by assumption))))) (HO2.out.alloc _) (by simp; omega) ⟨_, 0, none⟩ 1 _ rfl (by simp; rfl) rfl ?_); intro vo' w2 hvo2 hE2 hg2 hb2))
            have hbs2 := (HS.out.alloc _).beside HP.out hg2 hb2
            go_roundw
            case rel =>
              refine ⟨k + 1, out ++ [t], seen, by omega, by go_num, by simpa using hvo2, hbs2.1, hbs2.2, hE2, by omega, by simp; omega, ?_⟩
              show _ = _
              rw [← hR.out, hR'.out]; simp only [labelsFrom, hlast.out, if_neg htn]
            case measure => simp [intOf]; omega
    · go_wp2
      go_ret
      refine ⟨_, rfl, ?_, hE⟩
      rw [← hR.out, List.drop_eq_nil_of_le (by omega)]
      exact hvo

/-! ### The meet of two partitions -/
def zipWith8 : List Int → List Int → List Int
  | x :: xs, y :: ys => (x * 8 + y) :: zipWith8 xs ys
  | _, _ => []
theorem zipWith8_take (l m : List Int) (k : Nat) (h1 : k < l.length) (h2 : k < m.length) : zipWith8 (l.take (k + 1)) (m.take (k + 1)) = zipWith8 (l.take k) (m.take k) ++ [l[k] * 8 + m[k]] := by
  induction k generalizing l m with
  | zero =>
    match l, m, h1, h2 with
    | x :: xs, y :: ys, _, _ => simp [zipWith8]
  | succ k ih =>
    match l, m, h1, h2 with
    | x :: xs, y :: ys, h1, h2 =>
      have := ih xs ys (by simpa using h1) (by simpa using h2)
      simp only [List.take_succ_cons, zipWith8, this, List.cons_append, List.getElem_cons_succ]
def meet (l m : List Int) : List Int := labelsFrom (zipWith8 l m) [] []

theorem partFrom_bound (n : Int) : ∀ (l : List Int) (next : Int), partFrom n l next = true → ∀ x ∈ l, 0 ≤ x ∧ x + 1 ≤ next + l.length := by
  intro l
  induction l with
  | nil => intro next _ x hx; cases hx
  | cons y ys ih =>
    intro next h x hx
    simp only [partFrom] at h
    split at h
    · rename_i hy
      have hy' := (inR_iff _ _ _).1 hy
      simp only [List.length_cons]
      rcases List.mem_cons.1 hx with rfl | hx
      · omega
      · have := ih _ h x hx
        split at this <;> omega
    · cases h
theorem partFrom_len (n : Int) : ∀ (l : List Int) (next : Int), partFrom n l next = true → inR n 1 8 = true := by
  intro l
  induction l with
  | nil => intro next h; simpa [partFrom] using h
  | cons y ys ih =>
    intro next h
    simp only [partFrom] at h
    split at h
    · exact ih _ h
    · cases h
theorem isPart_len {l : List Int} (h : isPart l = true) : 1 ≤ l.length ∧ l.length ≤ 8 := by
  have := (inR_iff _ _ _).1 (partFrom_len _ _ _ h)
  omega
theorem isPart_bound {l : List Int} (h : isPart l = true) (k : Nat) (hk : k < l.length) : 0 ≤ l[k] ∧ l[k] ≤ 7 := by
  have h8 := (isPart_len h).2
  have := partFrom_bound _ l 0 h l[k] (List.getElem_mem hk)
  omega

set_option maxHeartbeats 800000 in
theorem meetPartitions_any (l m : List Int) (a c : Option Addr) (ca cc : Nat) (w : World) (ha : Ints w a l) (hc : Ints w c m) (hl : l.length ≤ 1048576) (hm : m.length ≤ 1048576) (hp : pairB l m = true) :
    Calls Try.prog 36 #[.slice a l.length ca, .slice c m.length cc] w (MadeInts w (meet l m)) := by
  have hA : Ext w (w.alloc (.cells #[] 3)) := by (repeat' (first | assumption | exact Below.refl _ _ | refine Ext.alloc' ?_ _ | refine Ext.drew' ?_ | refine Ext.drewN' ?_ _ | refine Ext.setCell' ?_ (by first | (simp; done) | (simp; omega)) _ | (refine Ext.trans ?_ (by assumption))))
  have h0 : Own1 (w.alloc (.cells #[] 3)) w.heap.size 3 (.slice (some ⟨w.heap.size, 0, none⟩) 0 0) [] := Own1.lit0 (Nat.le_refl _) (heap_alloc_new w _)
  have hlm : l.length = m.length ∧ isPart l = true ∧ isPart m = true := by
    simp only [pairB, Bool.and_eq_true, decide_eq_true_eq] at hp; exact ⟨hp.2, hp.1.1, hp.1.2⟩
  obtain ⟨hlen, hpl, hpm⟩ := hlm
  have hlen' : l.length ≤ m.length := by omega
  have hlen2 : m.length ≤ l.length := by omega
  have HLl := Lib.hid hpl; have HLm := Lib.hid hpm; have HP := Lib.hid hp
  clear hpl hpm hp hlen
  go_enter Try.func36, Try.ntmps36
  go_wp2
  go_loopw [5, 6] (fun s5 s6 wr => ∃ k : Nat, k ≤ l.length ∧ s6 = .int .i64 k ∧ Own1 wr w.heap.size 3 s5 ((zipWith8 (l.take k) (m.take k)).map (.int .i64)) ∧ Ext w wr ∧ Hid ((zipWith8 (l.take k) (m.take k)).length = k)) (fun _ i _ => l.length - (intOf i).toNat)
  case atStart => exact ⟨0, Nat.zero_le _, rfl, h0, hA, rfl⟩
  case round =>
    obtain ⟨k, hk, rfl, hvo, hE, hzl⟩ := hrel
    have HO := Lib.hid hvo; clear hvo
    by_cases hlt : k < l.length
    · obtain ⟨b, o, rfl, hca⟩ := ha.ext hE k hlt
      obtain ⟨b', o', rfl, hcc⟩ := hc.ext hE k (by omega)
      have hb1 := isPart_bound HLl.out k hlt
      have hb2 := isPart_bound HLm.out k (by omega)
      have hz := Lib.hid (zipWith8_take l m k hlt (by omega))
      generalize hx : l[k] = x at *
      generalize hy : m[k]'(by omega) = y at *
      have Hx := Lib.hid hx; have Hy := Lib.hid hy; clear hx hy
      have hkm : k < m.length := by omega
      go_wp2_with (go_at_call 34; refine (l19Pair_any l m _ _ _ _ _ (ha.ext hE) (hc.ext hE) hl hm).mono ?_; rintro e w' ⟨rfl, rfl⟩; rw [HP.out])
      have hw1 : IntKind.i64.wrap (x * 8) = x * 8 := IntWalk.i64_in _ (by omega)
      have hw2 : IntKind.i64.wrap (x * 8 + y) = x * 8 + y := IntWalk.i64_in _ (by omega)
      have HZ := hzl
      clear hzl
      go_region_law (refine step_append_one (w0 := w) rfl (.tmp 19) (.tmp 30) 28 rfl Try.underlying28 info_int rfl (by decide) _ _ rfl (by (repeat' (first | assumption | exact Below.refl _ _ | refine Ext.alloc' ?_ _ | refine Ext.drew' ?_ | refine Ext.drewN' ?_ _ | refine Ext.setCell' ?_ (by first | (simp; done) | (simp; omega)) _ | (refine Ext.trans ?_ (by assumption))))) (HO.out.ext (by (repeat' (first | assumption | exact Below.refl _ _ | refine Ext.alloc' ?_ _ | refine Ext.drew' ?_ | refine Ext.drewN' ?_ _ | refine Ext.setCell' ?_ (by first | (simp; done) | (simp; omega)) _ | (refine Ext.trans ?_ (by assumption)))))) (by rw [List.length_map, HZ.out]; omega) ⟨wr.heap.size, 0, none⟩ 1 (.int .i64 (x * 8 + y)) rfl (by simp) rfl ?_; intro vo' w3 hvo3 hE3 hg3 hb3)
      all_goals
        clear hw1 hw2
        go_wp2
        go_roundw
        case rel =>
          refine ⟨k + 1, by omega, by go_num, ?_, hE3, ?_⟩
          · rw [hz.out, List.map_append]; exact hvo3
          · show _ = _
            rw [hz.out, List.length_append, HZ.out]; rfl
        case measure => simp [intOf]; omega
    · have hkl : k = l.length := by omega
      have hfull : zipWith8 (l.take k) (m.take k) = zipWith8 l m := by
        rw [List.take_of_length_le (by omega), List.take_of_length_le (by omega)]
      rw [hfull] at HO hzl
      obtain ⟨sa, cap, rfl, hsi⟩ := HO.out.ints
      have Hz2 : Hid ((zipWith8 l m).length ≤ 1048576) := by show _ ≤ _; have := hzl.out; omega
      clear hkl hfull hzl
      go_wp2_with (go_at_call 54; refine (canonicalLabels_any _ _ _ _ hsi Hz2.out).mono ?_; rintro e w' ⟨v, rfl, hv, hE4⟩)
      go_ret
      exact ⟨_, rfl, hv.mono hE.size, hE.trans hE4⟩
end Go.Proofs.Ytgehpbikkcnecaa
