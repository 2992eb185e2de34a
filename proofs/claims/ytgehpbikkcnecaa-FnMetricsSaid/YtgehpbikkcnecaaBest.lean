/- The walk of the program's table of best values. -/
import Derived.Test.YtgehpbikkcnecaaBestPlain
import Derived.Test.YtgehpbikkcnecaaRows3
import Derived.BigRegion
import Derived.Lib.RabinKarpLaws
import Derived.Laws.BitsAllLaws
set_option linter.unusedVariables false
set_option linter.unusedSimpArgs false
namespace Go.Proofs.Ytgehpbikkcnecaa
open Go.RowKit Go.Er

theorem _root_.Go.Er.Ext.of_grown {w w' : World} (h : w.grownBy w' none) : Ext w w' := ⟨h.os, h.tape, h.output, h.size, fun k hk => h.block k hk (by simp)⟩

theorem toNat_ofInt64 (a : Nat) (ha : a < 18446744073709551616) : (BitVec.ofInt 64 (a : Int)).toNat = a := Go.ofInt_u64 a ha
theorem or_i64 (a b : Nat) (ha : a < 4611686018427387904) (hb : b < 4611686018427387904) : bits .or .i64 (a : Int) (b : Int) = ((a ||| b : Nat) : Int) := by
  have h : a ||| b < 2 ^ 62 := Nat.or_lt_two_pow (by omega) (by omega)
  simp only [bits]
  rw [BitVec.toNat_or, show (IntKind.i64.bits) = 64 from rfl, toNat_ofInt64 a (by omega), toNat_ofInt64 b (by omega)]
  exact IntWalk.i64_in _ (by omega)
theorem bit_test (t k : Nat) (ht : t < 4611686018427387904) : (bits .and .i64 ((t : Int) / 2 ^ k) 1 == 0) = !t.testBit k := by
  have h1 : ((t : Int) / 2 ^ k) = ((t / 2 ^ k : Nat) : Int) := by rw [Int.natCast_ediv]; simp
  have h2 : t / 2 ^ k < 4611686018427387904 := Nat.lt_of_le_of_lt (Nat.div_le_self _ _) ht
  rw [h1, Go.Proofs.and_one _ (by omega), Nat.testBit_eq_decide_div_mod_eq]
  by_cases h : t / 2 ^ k % 2 = 1
  · simp [h]
  · have h0 : t / 2 ^ k % 2 = 0 := by omega
    simp [h0]

def zeros (N : Nat) : List Int := List.replicate N 0
theorem zeros_tab (N : Nat) (f : Nat → Nat → Int) (hf : ∀ r u, f r u = 0) (m : Nat) : List.replicate m (zeros N) = tabF m N f := by
  unfold tabF zeros
  refine List.ext_getElem (by simp) ?_
  intro r h1 h2
  simp only [List.getElem_replicate, List.getElem_map]
  refine List.ext_getElem (by simp) ?_
  intro u h3 h4
  simp [hf]
theorem fill_set {α : Type} (m k : Nat) (z y : α) (h : k < m) : (List.replicate k z ++ List.replicate (m - k) y).set k z = List.replicate (k + 1) z ++ List.replicate (m - (k + 1)) y := by
  rw [List.set_append_right _ _ (by simp), show m - k = (m - (k + 1)) + 1 by omega, List.replicate_succ]
  simp [List.replicate_succ']

def BestPost (M : List (List Int)) (w : World) (e : Ending) (w' : World) : Prop :=
  ∃ v vs f, e = .returned v ∧ Own2 w' w.heap.size 28 3 v vs ((tabF (M.length + 1) 256 f).map (fun r : List Int => r.map (.int .i64))) ∧ Ext w w' ∧ f 0 0 = bestV M 0

set_option maxRecDepth 100000 in
set_option maxHeartbeats 1600000 in
theorem bestValues_any (M : List (List Int)) (n : Nat) (a : Option Addr) (ca : Nat) (w : World) (ha : IntRows w a M) (hM : Ov M n) :
    Calls Try.prog 62 #[.slice a M.length ca] w (BestPost M w) := by
  have hm8 : (M.length : Int) ≤ 8 := by have := hM.rows; omega
  have hm9 : M.length ≤ 8 := hM.rows
  have HM := Lib.hid hM; clear hM
  have HA := Lib.hid ha; clear ha
  obtain ⟨N, hN⟩ : ∃ N : Nat, N = 256 := ⟨_, rfl⟩
  have hNl : N ≤ 256 := by omega
  have hNg : 256 ≤ N := by omega
  have HN := Lib.hid hN; clear hN
  go_enter Try.func62, Try.ntmps62
  go_wp2_with (at_make; refine wpList_make_one (w0 := w) rfl _ _ 44 rfl Try.underlying44 info_ints rfl (by decide) .i64 .i64 (M.length + 1) (by rfl) (by rfl) (by omega) (Ext.refl _) ?_; intro w2 hrow hE2 hg2 hs2; have HR := Lib.hid hrow; clear hrow hg2)
  go_loopw [15] (fun s15 wr => ∃ (k : Nat) (vs : List Value), k ≤ M.length + 1 ∧ s15 = .int .i64 k ∧ vs.length = M.length + 1 ∧ Own2 wr w.heap.size 28 3 (.slice (some ⟨w.heap.size, 0, none⟩) (M.length + 1) (M.length + 1)) vs ((List.replicate k (zeros N) ++ List.replicate (M.length + 1 - k) []).map (fun r : List Int => r.map (.int .i64))) ∧ Ext w wr) (fun i _ => M.length + 1 - (intOf i).toNat)
  case atStart =>
    refine ⟨0, List.replicate (M.length + 1) (.slice none 0 0), Nat.zero_le _, rfl, by simp, ⟨HR.out, by simp, ?_, ?_⟩, hE2⟩
    · intro i h1 h2
      simp only [List.getElem_replicate, List.replicate_zero, List.nil_append, List.map_replicate, Nat.sub_zero]
      exact ⟨Own1.nil _ _ _, Apart.nil _⟩
    · intro i j h1 h2 _
      simp only [List.getElem_replicate]
      exact Apart.nil _
  case round =>
    obtain ⟨k, vs, hk, rfl, hvl, hov, hE⟩ := hrel
    have HO := Lib.hid hov; have HVL := Lib.hid hvl; clear hov hvl
    by_cases hlt : k < M.length + 1
    · have hcell := HO.out.1.cellAt k (by rw [HVL.out]; exact hlt)
      have hfr := HO.out.1.frozenAt k
      have hlt2 : (k : Int) < (M.length : Int) + 1 := by omega
      have hbl : w.heap.size < wr.heap.size := HO.out.1.lt rfl
      have hz := Lib.hid (show ((List.replicate k (zeros N) ++ List.replicate (M.length + 1 - k) []).map (fun r : List Int => r.map (Value.int .i64))).set k ((zeros N).map (Value.int .i64)) = (List.replicate (k + 1) (zeros N) ++ List.replicate (M.length + 1 - (k + 1)) []).map (fun r : List Int => r.map (Value.int .i64)) by
        rw [← fill_set (M.length + 1) k (zeros N) [] hlt, List.map_set])
      generalize hy : vs[k]'(by rw [HVL.out]; exact hlt) = y at *
      clear hy
      go_wp2_with (at_make; refine wpList_make_one (w0 := w) rfl _ _ 28 rfl Try.underlying28 info_int rfl (by decide) .i64 .i64 N (by rw [HN.out]; rfl) (by rw [HN.out]; rfl) (by omega) hE ?_; intro w3 hrow hE3 hg3 hs3; have hO3 := HO.out.1.kept (v := .slice none 0 0) hg3 (Or.inr (by simp [Value.ownBlock])); have hcell3 := hO3.cellAt k (by rw [HVL.out]; exact hlt); have hfr3 := hO3.frozenAt k; have hbl3 := hO3.lt rfl; have HR3 := Lib.hid hrow; have HG3 := Lib.hid hg3; clear hrow hg3 hO3 hcell hfr)
      have hex := Ext.of_grown HG3.out
      have hO3 := HO.out.ext hex
      have hrp := Lib.hid (Own2.replace (w0 := w) hO3 hE3 (by rw [HVL.out]; exact hlt) (by simpa [zeros] using HR3.out : Own1 w3 w.heap.size 3 (.slice (some ⟨wr.heap.size, 0, none⟩) N N) ((zeros N).map (.int .i64)))
        (fun bb h1 h2 => by simp only [Value.ownBlock, Option.some.injEq] at h1 h2; omega)
        (fun i hi bb h1 h2 => by simp only [Value.ownBlock, Option.some.injEq] at h1; have := (HO.out.2.2.1 i hi (by have h5 := HO.out.2.1; omega)).1.lt h2; omega))
      clear hO3 hcell3 hfr3
      go_roundw
      case rel =>
        refine ⟨k + 1, vs.set k (.slice (some ⟨wr.heap.size, 0, none⟩) N N), by omega, by go_num, by simp [HVL.out], ?_, hrp.out.2⟩
        have h := hrp.out.1
        rw [hz.out] at h
        exact h
      case measure => (simp [intOf] <;> omega)
    · have hkM : k = M.length + 1 := by omega
      rw [hkM] at HO
      clear hkM
      have htab : Hid (List.replicate (M.length + 1) (zeros N) ++ List.replicate (M.length + 1 - (M.length + 1)) [] = tabF (M.length + 1) N (fun _ _ => 0)) := by
        show _ = _
        rw [← zeros_tab N (fun _ _ => 0) (fun _ _ => rfl)]; simp
      rw [htab.out] at HO
      go_wp2
      go_loopw [5] (fun s5 wr => ∃ (i : Int) (f : Nat → Nat → Int), -1 ≤ i ∧ i < M.length ∧ s5 = .int .i64 i ∧ Own2 wr w.heap.size 28 3 (.slice (some ⟨w.heap.size, 0, none⟩) (M.length + 1) (M.length + 1)) vs ((tabF (M.length + 1) N f).map (fun r : List Int => r.map (.int .i64))) ∧ Ext w wr ∧
          Hid (∀ r u : Nat, i < (r : Int) → u < N → f r u = bestV (M.drop r) u)) (fun i _ => (intOf i + 1).toNat)
      case atStart => exact ⟨(M.length : Int) - 1, fun _ _ => 0, by omega, by omega, rfl, HO.out, hE, fun r u hr hu => by rw [List.drop_eq_nil_of_le (by omega)]; rfl⟩
      case round =>
        obtain ⟨ii, f, hi0, hi1, rfl, hov, hE5, hf⟩ := hrel
        have HO5 := Lib.hid hov; clear hov
        by_cases hneg : 0 ≤ ii
        · obtain ⟨i, rfl⟩ := Int.eq_ofNat_of_zero_le hneg
          have hil : i < M.length := by omega
          have hiv : i < vs.length := by rw [HVL.out]; omega
          have hiv1 : i + 1 < vs.length := by rw [HVL.out]; omega
          have hin := (HO5.out.2.2.1 i hiv (by simp [tabF]; omega)).1
          have hin1 := (HO5.out.2.2.1 (i + 1) hiv1 (by simp [tabF]; omega)).1
          have e1 : ((tabF (M.length + 1) N f).map (fun r : List Int => r.map (Value.int .i64)))[i]'(by simp [tabF]; omega) = ((List.range N).map (f i)).map (.int .i64) := by rw [List.getElem_map, tabF_get _ _ _ _ (by omega)]
          have e2 : ((tabF (M.length + 1) N f).map (fun r : List Int => r.map (Value.int .i64)))[i + 1]'(by simp [tabF]; omega) = ((List.range N).map (f (i + 1))).map (.int .i64) := by rw [List.getElem_map, tabF_get _ _ _ _ (by omega)]
          rw [e1] at hin
          rw [e2] at hin1
          obtain ⟨g, cg, hg⟩ := hin.shape (by simp; omega)
          obtain ⟨g1, cg1, hg1⟩ := hin1.shape (by simp; omega)
          simp only [List.length_map, List.length_range] at hg hg1
          have Hg := Lib.hid hg; have Hg1 := Lib.hid hg1
          have hcell := (HO5.out.1.cellAt i hiv).trans (congrArg some hg)
          clear hin hin1 e1 e2 hg hg1
          have hilz : (i : Int) < (M.length : Int) + 1 := by omega
          have hilz1 : (i : Int) + 1 < (M.length : Int) + 1 := by omega
          obtain ⟨b, o, ai, ci, rfl, hcm, hmi⟩ := HA.out i hil
          have hxl : M[i].length = n := HM.out.len _ (List.getElem_mem hil)
          have hxv := Lib.hid (HM.out.vals _ (List.getElem_mem hil))
          have hdr := Lib.hid (show ∀ u, bestV (M.drop i) u = rowBest (bestV (M.drop (i + 1))) M[i] 0 u (bestV (M.drop (i + 1)) u) by intro u; rw [List.drop_eq_getElem_cons hil]; rfl)
          have hbd := Lib.hid (show ∀ u, 0 ≤ bestV (M.drop (i + 1)) u ∧ bestV (M.drop (i + 1)) u ≤ 800 by
            intro u
            have h := bestV_bound (M.drop (i + 1)) (fun r hr x hx => (HM.out.vals r (List.mem_of_mem_drop hr) x hx).2) u
            simp only [List.length_drop] at h
            omega)
          generalize hx : M[i] = x at *
          have Hx := Lib.hid hx; clear hx
          have HMI := Lib.hid hmi; have HCM := Lib.hid hcm; have HXL := Lib.hid hxl; clear hmi hcm hxl
          have hn8 := HM.out.cols
          go_wp2
          go_loopw [35] (fun s35 wr => ∃ (t : Nat) (f : Nat → Nat → Int), t ≤ N ∧ s35 = .int .i64 t ∧ Own2 wr w.heap.size 28 3 (.slice (some ⟨w.heap.size, 0, none⟩) (M.length + 1) (M.length + 1)) vs ((tabF (M.length + 1) N f).map (fun r : List Int => r.map (.int .i64))) ∧ Ext w wr ∧
              Hid ((∀ r u : Nat, i < r → u < N → f r u = bestV (M.drop r) u) ∧ ∀ u : Nat, u < t → f i u = bestV (M.drop i) u)) (fun t _ => N - (intOf t).toNat)
          case atStart => exact ⟨0, f, Nat.zero_le _, rfl, HO5.out, hE5, fun r u hr hu => hf.out r u (by omega) hu, fun u hu => by omega⟩
          case round =>
            obtain ⟨t, f, ht, rfl, hov, hE6, hf⟩ := hrel
            have HO6 := Lib.hid hov; clear hov hcell
            by_cases htl : t < N
            · have hcell := (HO6.out.1.cellAt i hiv).trans (congrArg some Hg.out)
              have hcell1 := (HO6.out.1.cellAt (i + 1) hiv1).trans (congrArg some Hg1.out)
              have hin := (HO6.out.2.2.1 i hiv (by simp [tabF]; omega)).1
              have hin1 := (HO6.out.2.2.1 (i + 1) hiv1 (by simp [tabF]; omega)).1
              have e1 : ((tabF (M.length + 1) N f).map (fun r : List Int => r.map (Value.int .i64)))[i]'(by simp [tabF]; omega) = ((List.range N).map (f i)).map (.int .i64) := by rw [List.getElem_map, tabF_get _ _ _ _ (by omega)]
              have e2 : ((tabF (M.length + 1) N f).map (fun r : List Int => r.map (Value.int .i64)))[i + 1]'(by simp [tabF]; omega) = ((List.range N).map (f (i + 1))).map (.int .i64) := by rw [List.getElem_map, tabF_get _ _ _ _ (by omega)]
              rw [e1, Hg.out] at hin
              rw [e2, Hg1.out] at hin1
              have hr0 := (hin.cellAt t (by simp; exact htl)).trans (by simp : _ = some (Value.int .i64 (f i t)))
              have hr1 := (hin1.cellAt t (by simp; exact htl)).trans (by simp : _ = some (Value.int .i64 (f (i + 1) t)))
              have hfr := hin.frozenAt t
              have hst := Own2.setIn (w0 := w) (t := t) HO6.out hE6 hiv (by simp [tabF]; omega) Hg.out (.int .i64 (f (i + 1) t))
              rw [e1, ← List.map_set, ← List.map_set (f := fun r : List Int => r.map (Value.int .i64)), tabF_set _ _ _ _ _ _ (by omega)] at hst
              have HST := Lib.hid hst
              clear hin hin1 e1 e2 hst
              have htz : (t : Int) < (N : Int) := by omega
              go_wp2
              refine region_tail 14 (by kernel_rfl) (by kernel_rfl) ?_
              rintro w7 hE7 -
              have hcell' := hE7.at hcell; have hcell1' := hE7.at hcell1; have hr0' := hE7.at hr0; have hr1' := hE7.at hr1
              have hfr' := (hE7.frozens g t (lt_of_cell hr0)).trans hfr
              have HO7 := Lib.hid (HO6.out.ext hE7)
              have hEw := hE6.trans hE7
              have hst := Own2.setIn (w0 := w) (t := t) HO7.out hEw hiv (by simp [tabF]; omega) Hg.out (.int .i64 (f (i + 1) t))
              rw [List.getElem_map, tabF_get _ _ _ _ (by omega), ← List.map_set, ← List.map_set (f := fun r : List Int => r.map (Value.int .i64)), tabF_set _ _ _ _ _ _ (by omega)] at hst
              have HST7 := Lib.hid hst
              have hw1 : IntKind.i64.wrap ((i : Int) + 1) = (i : Int) + 1 := IntWalk.i64_in _ (by omega)
              have hw2 : ((i : Int) + 1).toNat = i + 1 := by omega
              have hw3 : 0 ≤ (i : Int) + 1 := by omega
              have hin1 : i < M.length + 1 := by omega
              have hin2 : i + 1 < M.length + 1 := by omega
              clear hst hcell hcell1 hr0 hr1 hfr
              simp only [List.take_succ_cons, List.take_zero, List.drop_succ_cons, List.drop_zero]
              iterate 14 still_step
              refine wpStill_nil ?_
              clear hw1 hw2
              have hgB : w.heap.size ≤ g := (World.ownsRow.lt (by have h := (HO7.out.2.2.1 i hiv (by simp [tabF]; omega)).1; rw [Hg.out] at h; exact h) g rfl).1
              have hbB := lt_of_cell HCM.out
              have hcm7 := hEw.at HCM.out
              have hbg : b ≠ g := by omega
              go_wp2
              obtain ⟨wt, rfl⟩ : ∃ wt : World, wt = wr := ⟨_, rfl⟩
              have hfi := Lib.hid (show f (i + 1) t = bestV (M.drop (i + 1)) t from hf.out.1 (i + 1) t (by omega) htl)
              have hbt := hbd.out t
              clear hcell' hcell1' hr0' hr1' hfr' hcm7
              go_loopw [57] (fun s57 wr => ∃ (k : Nat) (acc : Int), k ≤ x.length ∧ s57 = .int .i64 k ∧ 0 ≤ acc ∧ acc ≤ 900 ∧ Own2 wr w.heap.size 28 3 (.slice (some ⟨w.heap.size, 0, none⟩) (M.length + 1) (M.length + 1)) vs ((tabF (M.length + 1) N (upd f i t acc)).map (fun r : List Int => r.map (.int .i64))) ∧ Ext w wr ∧
                  Hid (rowBest (bestV (M.drop (i + 1))) (x.drop k) k t acc = bestV (M.drop i) t)) (fun k _ => x.length - (intOf k).toNat)
              case atStart => exact ⟨0, f (i + 1) t, Nat.zero_le _, rfl, by rw [hfi.out]; exact hbt.1, by rw [hfi.out]; omega, HST7.out.1, HST7.out.2, by rw [hfi.out, hdr.out]; rfl⟩
              case round =>
                obtain ⟨k, acc, hk, rfl, ha0, ha9, hov, hEk, hR⟩ := hrel
                have HOk := Lib.hid hov; clear hov
                by_cases hkl : k < x.length
                · obtain ⟨bx, ox, rfl, hcx⟩ := HMI.out k hkl
                  have hcx2 := hEk.at hcx
                  have hv := hxv.out x[k] (List.getElem_mem hkl)
                  have hR' := Lib.hid (congrArg (fun q => rowBest (bestV (M.drop (i + 1))) q k t acc) (List.drop_eq_getElem_cons hkl))
                  generalize hxk : x[k] = v at *
                  have Hxk := Lib.hid hxk; clear hxk hcx
                  have hk8 : k < 8 := by have := HXL.out; omega
                  obtain ⟨hv0, hv1⟩ := hv
                  go_wp2
                  · have htest : (bits BinOp.and IntKind.i64 ((t : Int) / 2 ^ k) 1 == 0) = true := by assumption
                    have hpos : 0 < v := by assumption
                    refine region_tail 27 (by kernel_rfl) (by kernel_rfl) ?_
                    rintro w9 hE9 -
                    have HO9 := Lib.hid (HOk.out.ext hE9)
                    have hEw9 := hEk.trans hE9
                    have hcell := (HO9.out.1.cellAt i hiv).trans (congrArg some Hg.out)
                    have hcell1 := (HO9.out.1.cellAt (i + 1) hiv1).trans (congrArg some Hg1.out)
                    have hin := (HO9.out.2.2.1 i hiv (by simp [tabF]; omega)).1
                    have hinb := (HO9.out.2.2.1 (i + 1) hiv1 (by simp [tabF]; omega)).1
                    rw [List.getElem_map, tabF_get _ _ _ _ (by omega), Hg.out] at hin
                    rw [List.getElem_map, tabF_get _ _ _ _ (by omega), Hg1.out] at hinb
                    have hu' : t ||| 2 ^ k < N := by
                      have h1 : 2 ^ k < 2 ^ 8 := Nat.pow_lt_pow_right (by omega) hk8
                      have h2 : t ||| 2 ^ k < 2 ^ 8 := Nat.or_lt_two_pow (by omega) h1
                      omega
                    obtain ⟨p, hp⟩ : ∃ p : Nat, p = 2 ^ k := ⟨_, rfl⟩
                    obtain ⟨q, hq⟩ : ∃ q : Nat, q = t ||| 2 ^ k := ⟨_, rfl⟩
                    have hp8 : p < 256 := by
                      have h1 : 2 ^ k < 2 ^ 8 := Nat.pow_lt_pow_right (by omega) hk8
                      omega
                    have hsh : IntKind.i64.wrap ((2 : Int) ^ k) = (p : Int) := by
                      have e : (2 : Int) ^ k = (p : Int) := by rw [hp]; simp
                      rw [e]; exact IntWalk.i64_in _ (by omega)
                    have hor : bits .or .i64 (t : Int) (p : Int) = (q : Int) := by
                      rw [or_i64 t p (by omega) (by omega), hq, hp]
                    rw [← hq] at hu'
                    have Hq := Lib.hid hq; clear hq hp
                    have hr0 := (hin.cellAt t (by simp; exact htl)).trans (by simp [upd] : _ = some (Value.int .i64 acc))
                    have hr1 := (hinb.cellAt q (by simp; exact hu')).trans (by simp [upd] : _ = some (Value.int .i64 (f (i + 1) q)))
                    have hfr := hin.frozenAt t
                    have hbq := hbd.out q
                    have hfq := Lib.hid (show f (i + 1) q = bestV (M.drop (i + 1)) q from hf.out.1 (i + 1) q (by omega) hu')
                    rw [hfq.out] at hr1
                    have hst := Own2.setIn (w0 := w) (t := t) HO9.out hEw9 hiv (by simp [tabF]; omega) Hg.out (.int .i64 (mx acc (v + bestV (M.drop (i + 1)) q)))
                    rw [List.getElem_map, tabF_get _ _ _ _ (by omega), ← List.map_set, ← List.map_set (f := fun r : List Int => r.map (Value.int .i64)), tabF_set _ _ _ _ _ _ (by omega)] at hst
                    have HST9 := Lib.hid hst
                    have hupd : Hid (upd (upd f i t acc) i t (mx acc (v + bestV (M.drop (i + 1)) q)) = upd f i t (mx acc (v + bestV (M.drop (i + 1)) q))) := by
                      show _ = _
                      funext r u; simp only [upd]; split <;> rfl
                    have hnext : Hid (rowBest (bestV (M.drop (i + 1))) (x.drop (k + 1)) (k + 1) t (mx acc (v + bestV (M.drop (i + 1)) q)) = bestV (M.drop i) t) := by
                      show _ = _
                      rw [← hR.out, hR'.out, Hq.out]
                      simp only [rowBest]
                      have hb := bit_test t k (by omega)
                      rw [htest] at hb
                      rw [if_pos ⟨hpos, by simpa using hb.symm⟩]
                    have hmxb : 0 ≤ mx acc (v + bestV (M.drop (i + 1)) q) ∧ mx acc (v + bestV (M.drop (i + 1)) q) ≤ 900 := by unfold mx; split <;> omega
                    have HMX := Lib.hid hmxb; clear hmxb hst
                    have hmxe : Hid (mx acc (v + bestV (M.drop (i + 1)) q) = if acc < v + bestV (M.drop (i + 1)) q then v + bestV (M.drop (i + 1)) q else acc) := rfl
                    generalize bestV (M.drop (i + 1)) q = fq at *
                    have hw1 : IntKind.i64.wrap ((i : Int) + 1) = (i : Int) + 1 := IntWalk.i64_in _ (by omega)
                    have hw2 : IntKind.i64.wrap (v + fq) = v + fq := IntWalk.i64_in _ (by omega)
                    have hw3 : ((i : Int) + 1).toNat = i + 1 := by omega
                    have hw4 : 0 ≤ (i : Int) + 1 := by omega
                    clear hin hinb
                    simp only [List.take_succ_cons, List.take_zero, List.drop_succ_cons, List.drop_zero]
                    iterate 27 still_step
                    refine wpStill_nil ?_
                    clear hw1 hw2 hw3 hsh hor htest
                    go_wp2
                    go_roundw
                    case rel =>
                      have hmm : max acc (v + fq) = mx acc (v + fq) := by unfold mx; split <;> omega
                      refine ⟨k + 1, mx acc (v + fq), by omega, by go_num, HMX.out.1, HMX.out.2, ?_, ?_, hnext.out⟩
                      · have h := HST9.out.1
                        rw [hupd.out] at h
                        rw [hmm]; exact h
                      · rw [hmm]; exact HST9.out.2
                    case measure => (simp [intOf] <;> omega)
                  · have htest : (bits BinOp.and IntKind.i64 ((t : Int) / 2 ^ k) 1 == 0) = false := by assumption
                    go_roundw
                    case rel =>
                      refine ⟨k + 1, acc, by omega, by go_num, ha0, ha9, HOk.out, hEk, ?_⟩
                      show _ = _
                      rw [← hR.out, hR'.out]
                      simp only [rowBest]
                      have hb := bit_test t k (by omega)
                      rw [htest] at hb
                      rw [if_neg (by intro h; rw [h.2] at hb; cases hb)]
                    case measure => (simp [intOf] <;> omega)
                  · have hneg : ¬ 0 < v := by first | assumption | omega
                    go_roundw
                    case rel =>
                      refine ⟨k + 1, acc, by omega, by go_num, ha0, ha9, HOk.out, hEk, ?_⟩
                      show _ = _
                      rw [← hR.out, hR'.out]
                      simp only [rowBest]
                      rw [if_neg (by intro h; exact hneg h.1)]
                    case measure => (simp [intOf] <;> omega)
                · obtain rfl : k = x.length := by omega
                  have hfin : Hid (acc = bestV (M.drop i) t) := by
                    show _ = _
                    rw [← hR.out, List.drop_eq_nil_of_le (Nat.le_refl _)]; rfl
                  go_wp2
                  go_roundw
                  case rel =>
                    refine ⟨t + 1, upd f i t acc, by omega, by go_num, HOk.out, hEk, ?_, ?_⟩
                    · intro r u hr hu
                      rw [upd_row _ _ _ _ _ _ (by omega)]
                      exact hf.out.1 r u hr hu
                    · intro u hu
                      by_cases hut : u = t
                      · subst hut; rw [upd_same, hfin.out]
                      · rw [upd_col _ _ _ _ _ _ hut]; exact hf.out.2 u (by omega)
                  case measure => (simp [intOf] <;> omega)
            · obtain rfl : t = N := by omega
              go_wp2
              go_roundw
              case rel =>
                refine ⟨(i : Int) - 1, f, by omega, by omega, rfl, HO6.out, hE6, ?_⟩
                intro r u hr hu
                by_cases hri : r = i
                · subst hri; exact hf.out.2 u hu
                · exact hf.out.1 r u (by omega) hu
              case measure => (simp [intOf] <;> omega)
        · go_wp2
          go_ret
          refine (⟨_, vs, f, rfl, ?_, hE5, ?_⟩ : BestPost M w _ _)
          · have h := HO5.out
            rw [HN.out] at h
            exact h
          · have h0 : ii < ((0 : Nat) : Int) := by omega
            have h1 : 0 < N := by omega
            exact hf.out 0 0 h0 h1
end Go.Proofs.Ytgehpbikkcnecaa
