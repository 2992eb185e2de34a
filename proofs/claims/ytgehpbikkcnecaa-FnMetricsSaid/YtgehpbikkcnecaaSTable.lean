/- The walk of the reference's table of best values. -/
import Derived.Test.YtgehpbikkcnecaaBest
import Derived.Test.YtgehpbikkcnecaaSOverlap
set_option linter.unusedVariables false
set_option linter.unusedSimpArgs false
namespace Go.Proofs.Ytgehpbikkcnecaa
open Go.RowKit Go.Er

def TabPost (M : List (List Int)) (N : Nat) (w : World) (e : Ending) (w' : World) : Prop :=
  ∃ v vs f, e = .returned v ∧ Own2 w' w.heap.size 28 3 v vs ((tabF (M.length + 1) N f).map (fun r : List Int => r.map (.int .i64))) ∧ Ext w w' ∧ f 0 0 = bestV M 0 ∧ 0 < N
theorem tabF_succ (m N : Nat) (f : Nat → Nat → Int) (hf : ∀ r u, f r u = 0) : tabF (m + 1) N f = tabF m N f ++ [zeros N] := by
  rw [← zeros_tab N f hf, ← zeros_tab N f hf, List.replicate_succ']

set_option maxRecDepth 100000 in
set_option maxHeartbeats 1600000 in
theorem l25Table_any (M : List (List Int)) (n : Nat) (a : Option Addr) (ca : Nat) (w : World) (ha : IntRows w a M) (hM : Ov M n) (hmp2 : 0 < M.length) :
    Calls Try.prog 59 #[.slice a M.length ca] w (TabPost M (2 ^ n) w) := by
  have hm8 : (M.length : Int) ≤ 8 := by have := hM.rows; omega
  have hm9 : M.length ≤ 8 := hM.rows
  have hn8 := hM.cols
  obtain ⟨N, hN⟩ : ∃ N : Nat, N = 2 ^ n := ⟨_, rfl⟩
  have hN0 : 0 < N := by rw [hN]; exact Nat.two_pow_pos n
  have hN8 : N ≤ 256 := by rw [hN]; exact Nat.pow_le_pow_right (by omega) hn8
  have hsh : IntKind.i64.wrap ((2 : Int) ^ n) = (N : Int) := by
    have e : (2 : Int) ^ n = (N : Int) := by rw [hN]; simp
    rw [e]; exact IntWalk.i64_in _ (by omega)
  have HSH := Lib.hid hsh
  have HN := Lib.hid hN; have HM := Lib.hid hM; have HA := Lib.hid ha
  rw [← hN]
  clear hN ha hM
  · obtain ⟨b0, o0, a0, c0, rfl, hcl0, hi0⟩ := HA.out 0 (by omega)
    rw [HM.out.len _ (List.getElem_mem (by omega)), Nat.add_zero] at hcl0
    have hmp : (0 : Int) < (M.length : Int) := by omega
    clear hi0
    have hA0 : Ext w (w.alloc (.cells #[] 28)) := by (repeat' (first | assumption | exact Below.refl _ _ | refine Ext.alloc' ?_ _ | refine Ext.drew' ?_ | refine Ext.drewN' ?_ _ | refine Ext.setCell' ?_ (by first | (simp; done) | (simp; omega)) _ | (refine Ext.trans ?_ (by assumption))))
    have hO : Own1 (w.alloc (.cells #[] 28)) w.heap.size 28 (.slice (some ⟨w.heap.size, 0, none⟩) 0 0) [] := Own1.lit0 (Nat.le_refl _) (heap_alloc_new w _)
    have HO0 := Lib.hid hO; clear hO
    go_enter Try.func59, Try.ntmps59
    go_wp2
    go_loopw [4, 5] (fun s4 s5 wr => ∃ (k : Nat) (vs : List Value), k ≤ M.length + 1 ∧ s5 = .int .i64 k ∧ Own2 wr w.heap.size 28 3 s4 vs ((List.replicate k (zeros N)).map (fun r : List Int => r.map (.int .i64))) ∧ Ext w wr) (fun _ i _ => M.length + 1 - (intOf i).toNat)
    case atStart => exact ⟨0, [], Nat.zero_le _, rfl, Own2.empty HO0.out, hA0⟩
    case round =>
      obtain ⟨k, vs, hk, rfl, hov, hE⟩ := hrel
      have HO := Lib.hid hov; clear hov
      have hvl : vs.length = k := by have h := HO.out.2.1; simpa using h
      by_cases hlt : k < M.length + 1
      · have HVL := Lib.hid (show vs.length ≤ 1073741824 by omega); have HVK := Lib.hid hvl; clear hvl
        go_wp2_with (first
          | (at_make; refine wpList_make_one (w0 := w) rfl _ _ 28 rfl Try.underlying28 info_int rfl (by decide) .i64 .i64 N rfl rfl (by omega) hE ?_; intro w3 hrow hE3 hg3 hs3; have HR3 := Lib.hid hrow; have HG3 := Lib.hid hg3; clear hrow hg3)
          | (at_builtin; refine wpList_append_one (w0 := w) rfl (.tmp 24) (.tmp 28) 44 rfl Try.underlying44 info_ints rfl (by decide) u4 vs rfl (by (repeat' (first | assumption | exact Below.refl _ _ | refine Ext.alloc' ?_ _ | refine Ext.drew' ?_ | refine Ext.drewN' ?_ _ | refine Ext.setCell' ?_ (by first | (simp; done) | (simp; omega)) _ | (refine Ext.trans ?_ (by assumption))))) ((HO.out.1.ext (Ext.of_grown HG3.out)).alloc _) HVL.out ⟨_, 0, none⟩ 1 _ rfl (by simp; rfl) rfl ?_; intro v' w4 hv4 hE4 hg4 hb4; have HV := Lib.hid hv4; have HG := Lib.hid hg4; have HB := Lib.hid hb4; clear hv4 hg4 hb4))
        go_roundw
        case rel =>
          refine ⟨k + 1, vs ++ [.slice (some ⟨wr.heap.size, 0, none⟩) N N], by omega, by go_num, ?_, hE4⟩
          have h := Own2.push (w := w3.alloc (.cells #[.slice (some ⟨wr.heap.size, 0, none⟩) N N] 28)) ((HO.out.ext (Ext.of_grown HG3.out)).ext (Ext.alloc _ _)) ((by simpa [zeros] using HR3.out : Own1 w3 w.heap.size 3 (.slice (some ⟨wr.heap.size, 0, none⟩) N N) ((zeros N).map (.int .i64))).alloc _)
            (fun bb h1 h2 => by simp only [Value.ownBlock, Option.some.injEq] at h1; have := HO.out.1.lt h2; omega)
            (fun i hi bb h1 h2 => by simp only [Value.ownBlock, Option.some.injEq] at h1; have := (HO.out.2.2.1 i hi (by have h5 := HO.out.2.1; omega)).1.lt h2; omega) HV.out HG.out HB.out
          rw [List.replicate_succ', List.map_append]
          exact h
        case measure => (simp [intOf] <;> omega)
      · have hkM : k = M.length + 1 := by omega
        have htab : Hid (List.replicate (M.length + 1) (zeros N) = tabF (M.length + 1) N (fun _ _ => 0)) := by
          show _ = _
          rw [← zeros_tab N (fun _ _ => 0) (fun _ _ => rfl)]
        rw [hkM, htab.out] at HO
        have HVL := Lib.hid (hvl.trans hkM)
        obtain ⟨gv, cv, hsh⟩ := HO.out.1.shape (by rw [HVL.out]; omega)
        rw [HVL.out] at hsh
        subst hsh
        clear hkM hvl
        go_wp2
        go_loopw [6] (fun s6 wr => ∃ (i : Int) (f : Nat → Nat → Int), -1 ≤ i ∧ i < M.length ∧ s6 = .int .i64 i ∧ Own2 wr w.heap.size 28 3 (.slice (some ⟨gv, 0, none⟩) (M.length + 1) cv) vs ((tabF (M.length + 1) N f).map (fun r : List Int => r.map (.int .i64))) ∧ Ext w wr ∧
            Hid (∀ r u : Nat, i < (r : Int) → u < N → f r u = bestV (M.drop r) u)) (fun i _ => (intOf i + 1).toNat)
        case atStart => exact ⟨(M.length : Int) - 1, fun _ _ => 0, by omega, by omega, rfl, HO.out, hE, fun r u hr hu => by rw [List.drop_eq_nil_of_le (by omega)]; rfl⟩
        case round =>
          obtain ⟨ii, f, hi0, hi1, rfl, hov, hE5, hf⟩ := hrel
          have HO5 := Lib.hid hov; clear hov
          by_cases hneg : 0 ≤ ii
          · obtain ⟨i, rfl⟩ := Int.eq_ofNat_of_zero_le hneg
            have hil : i < M.length := by omega
            have hiv : i < vs.length := by rw [HVL.out]; omega
            have hiv1 : i + 1 < vs.length := by rw [HVL.out]; omega
            have hin := (HO5.out.2.2.1 i hiv (by simp [tabF]; omega)).1
            have hin1 := (HO5.out.2.2.1 (i + 1) hiv1 (by simp [tabF]; omega)).1
            rw [List.getElem_map, tabF_get _ _ _ _ (by omega)] at hin hin1
            obtain ⟨g, cg, hg⟩ := hin.shape (by simp; omega)
            obtain ⟨g1, cg1, hg1⟩ := hin1.shape (by simp; omega)
            simp only [List.length_map, List.length_range] at hg hg1
            have Hg := Lib.hid hg; have Hg1 := Lib.hid hg1
            clear hin hin1 hg hg1
            have hilz : (i : Int) < (M.length : Int) + 1 := by omega
            have hilz1 : (i : Int) + 1 < (M.length : Int) + 1 := by omega
            obtain ⟨b, o, ai, ci, hbe, hcm, hmi⟩ := HA.out i hil
            obtain ⟨rfl, rfl⟩ : b0 = b ∧ o0 = o := by simpa using hbe
            have hxl : M[i].length = n := HM.out.len _ (List.getElem_mem hil)
            have hxv := Lib.hid (HM.out.vals _ (List.getElem_mem hil))
            have hdr := Lib.hid (show ∀ u, bestV (M.drop i) u = rowBest (bestV (M.drop (i + 1))) M[i] 0 u (bestV (M.drop (i + 1)) u) by intro u; rw [List.drop_eq_getElem_cons hil]; rfl)
            have hbd := Lib.hid (show ∀ u, 0 ≤ bestV (M.drop (i + 1)) u ∧ bestV (M.drop (i + 1)) u ≤ 800 by
              intro u
              have h := bestV_bound (M.drop (i + 1)) (fun r hr x hx => (HM.out.vals r (List.mem_of_mem_drop hr) x hx).2) u
              simp only [List.length_drop] at h
              omega)
            generalize hx : M[i] = x at *
            have Hx := Lib.hid hx; clear hx hbe
            have HMI := Lib.hid hmi; have HCM := Lib.hid hcm; have HXL := Lib.hid hxl; clear hmi hcm hxl hcl0
            go_wp2
            go_loopw [7] (fun s7 wr => ∃ (t : Nat) (f : Nat → Nat → Int), t ≤ N ∧ s7 = .int .i64 t ∧ Own2 wr w.heap.size 28 3 (.slice (some ⟨gv, 0, none⟩) (M.length + 1) cv) vs ((tabF (M.length + 1) N f).map (fun r : List Int => r.map (.int .i64))) ∧ Ext w wr ∧
                Hid ((∀ r u : Nat, i < r → u < N → f r u = bestV (M.drop r) u) ∧ ∀ u : Nat, u < t → f i u = bestV (M.drop i) u)) (fun t _ => N - (intOf t).toNat)
            case atStart => exact ⟨0, f, Nat.zero_le _, rfl, HO5.out, hE5, fun r u hr hu => hf.out r u (by omega) hu, fun u hu => by omega⟩
            case round =>
              obtain ⟨t, f, ht, rfl, hov, hE6, hf⟩ := hrel
              have HO6 := Lib.hid hov; clear hov
              by_cases htl : t < N
              · have hcell := (HO6.out.1.cellAt i hiv).trans (congrArg some Hg.out)
                have hcell1 := (HO6.out.1.cellAt (i + 1) hiv1).trans (congrArg some Hg1.out)
                have hin1 := (HO6.out.2.2.1 (i + 1) hiv1 (by simp [tabF]; omega)).1
                rw [List.getElem_map, tabF_get _ _ _ _ (by omega), Hg1.out] at hin1
                have hr1 := (hin1.cellAt t (by simp; exact htl)).trans (by simp : _ = some (Value.int .i64 (f (i + 1) t)))
                have hfi := Lib.hid (show f (i + 1) t = bestV (M.drop (i + 1)) t from hf.out.1 (i + 1) t (by omega) htl)
                have hbt := hbd.out t
                have htz : (t : Int) < (N : Int) := by omega
                clear hin1
                go_wp2
                obtain ⟨wt, rfl⟩ : ∃ wt : World, wt = wr := ⟨_, rfl⟩
                clear hcell hcell1 hr1
                go_loopw [8, 9] (fun s8 s9 wr => ∃ (k : Nat) (acc : Int), k ≤ n ∧ s9 = .int .i64 k ∧ s8 = .int .i64 acc ∧ 0 ≤ acc ∧ acc ≤ 900 ∧ Ext wt wr ∧
                    Hid (rowBest (bestV (M.drop (i + 1))) (x.drop k) k t acc = bestV (M.drop i) t)) (fun _ k _ => n - (intOf k).toNat)
                case atStart => exact ⟨0, f (i + 1) t, Nat.zero_le _, rfl, rfl, by rw [hfi.out]; exact hbt.1, by rw [hfi.out]; omega, Ext.refl _, by rw [hfi.out, hdr.out]; rfl⟩
                case round =>
                  obtain ⟨k, acc, hk, rfl, rfl, ha0, ha9, hEk, hR⟩ := hrel
                  by_cases hkl : k < n
                  · have hkx : k < x.length := by rw [HXL.out]; exact hkl
                    obtain ⟨bx, ox, rfl, hcx⟩ := HMI.out k hkx
                    have hEw := hE6.trans hEk
                    have hcx2 := hEw.at hcx
                    have hcm2 := hEw.at HCM.out
                    have hv := hxv.out x[k] (List.getElem_mem hkx)
                    have hR' := Lib.hid (congrArg (fun q => rowBest (bestV (M.drop (i + 1))) q k t acc) (List.drop_eq_getElem_cons hkx))
                    have hxln := HXL.out
                    generalize hxk : x[k] = v at *
                    have Hxk := Lib.hid hxk
                    rw [hxln] at hcm2
                    clear hxk hcx hxln
                    have hk8 : k < 8 := by omega
                    obtain ⟨hv0, hv1⟩ := hv
                    have hcell := hEk.at ((HO6.out.1.cellAt (i + 1) hiv1).trans (congrArg some Hg1.out))
                    have hinb := (HO6.out.2.2.1 (i + 1) hiv1 (by simp [tabF]; omega)).1
                    rw [List.getElem_map, tabF_get _ _ _ _ (by omega), Hg1.out] at hinb
                    have hu' : t ||| 2 ^ k < N := by
                      have h1 : 2 ^ k < 2 ^ n := Nat.pow_lt_pow_right (by omega) hkl
                      have h2 : t ||| 2 ^ k < 2 ^ n := Nat.or_lt_two_pow (by rw [← HN.out]; exact htl) h1
                      rw [HN.out]; exact h2
                    obtain ⟨p, hp⟩ : ∃ p : Nat, p = 2 ^ k := ⟨_, rfl⟩
                    obtain ⟨q, hq⟩ : ∃ q : Nat, q = t ||| 2 ^ k := ⟨_, rfl⟩
                    have hp8 : p < 256 := by
                      have h1 : 2 ^ k < 2 ^ 8 := Nat.pow_lt_pow_right (by omega) hk8
                      omega
                    have hsh2 : IntKind.i64.wrap ((2 : Int) ^ k) = (p : Int) := by
                      have e : (2 : Int) ^ k = (p : Int) := by rw [hp]; simp
                      rw [e]; exact IntWalk.i64_in _ (by omega)
                    have hor : bits .or .i64 (t : Int) (p : Int) = (q : Int) := by
                      rw [or_i64 t p (by omega) (by omega), hq, hp]
                    rw [← hq] at hu'
                    have Hq := Lib.hid hq; clear hq hp
                    have hr1 := hEk.at ((hinb.cellAt q (by simp; exact hu')).trans (by simp : _ = some (Value.int .i64 (f (i + 1) q))))
                    have hbq := hbd.out q
                    have hfq := Lib.hid (show f (i + 1) q = bestV (M.drop (i + 1)) q from hf.out.1 (i + 1) q (by omega) hu')
                    rw [hfq.out] at hr1
                    clear hinb
                    cases hbit : (bits BinOp.and IntKind.i64 ((t : Int) / 2 ^ k) 1 == 0)
                    · go_wp2
                      go_roundw
                      case rel =>
                        refine ⟨k + 1, acc, by omega, by go_num, rfl, ha0, ha9, hEk, ?_⟩
                        show _ = _
                        rw [← hR.out, hR'.out]
                        simp only [rowBest]
                        have hb := bit_test t k (by omega)
                        rw [hbit] at hb
                        rw [if_neg (by intro h; rw [h.2] at hb; cases hb)]
                      case measure => (simp [intOf] <;> omega)
                    · by_cases hpos : 0 < v
                      · have hnext : Hid (rowBest (bestV (M.drop (i + 1))) (x.drop (k + 1)) (k + 1) t (mx acc (v + bestV (M.drop (i + 1)) q)) = bestV (M.drop i) t) := by
                          show _ = _
                          rw [← hR.out, hR'.out, Hq.out]
                          simp only [rowBest]
                          have hb := bit_test t k (by omega)
                          rw [hbit] at hb
                          rw [if_pos ⟨hpos, by simpa using hb.symm⟩]
                        have hmxb : 0 ≤ mx acc (v + bestV (M.drop (i + 1)) q) ∧ mx acc (v + bestV (M.drop (i + 1)) q) ≤ 900 := by unfold mx; split <;> omega
                        have HMX := Lib.hid hmxb; clear hmxb
                        generalize bestV (M.drop (i + 1)) q = fq at *
                        have hw1 : IntKind.i64.wrap ((i : Int) + 1) = (i : Int) + 1 := IntWalk.i64_in _ (by omega)
                        have hw2 : IntKind.i64.wrap (v + fq) = v + fq := IntWalk.i64_in _ (by omega)
                        have hw3 : ((i : Int) + 1).toNat = i + 1 := by omega
                        have hw4 : 0 ≤ (i : Int) + 1 := by omega
                        go_wp2
                        go_quiet (fail)
                        clear hw1 hw2 hw3
                        go_wp2
                        go_roundw
                        case rel =>
                          refine ⟨k + 1, mx acc (v + fq), by omega, by go_num, ?_, HMX.out.1, HMX.out.2, hEk.drewN' _, hnext.out⟩
                          have hmm : max acc (v + fq) = mx acc (v + fq) := by unfold mx; split <;> omega
                          first | rw [hmm] | rfl
                        case measure => (simp [intOf] <;> omega)
                      · go_wp2
                        go_roundw
                        case rel =>
                          refine ⟨k + 1, acc, by omega, by go_num, rfl, ha0, ha9, hEk, ?_⟩
                          show _ = _
                          rw [← hR.out, hR'.out]
                          simp only [rowBest]
                          rw [if_neg (by intro h; exact hpos h.1)]
                        case measure => (simp [intOf] <;> omega)
                  · have hkn : k = n := by omega
                    have hfin : Hid (acc = bestV (M.drop i) t) := by
                      show _ = _
                      have eN : x.drop k = [] := List.drop_eq_nil_of_le (by rw [HXL.out]; omega)
                      rw [← hR.out, eN]; rfl
                    have HK := Lib.hid hkn; clear hkn
                    have HOk := Lib.hid (HO6.out.ext hEk)
                    have hEw := hE6.trans hEk
                    have hcell := (HOk.out.1.cellAt i hiv).trans (congrArg some Hg.out)
                    have hin := (HOk.out.2.2.1 i hiv (by simp [tabF]; omega)).1
                    rw [List.getElem_map, tabF_get _ _ _ _ (by omega), Hg.out] at hin
                    have hr0 := (hin.cellAt t (by simp; exact htl)).trans (by simp : _ = some (Value.int .i64 (f i t)))
                    have hfr := hin.frozenAt t
                    have hst := Own2.setIn (w0 := w) (t := t) HOk.out hEw hiv (by simp [tabF]; omega) Hg.out (.int .i64 acc)
                    rw [List.getElem_map, tabF_get _ _ _ _ (by omega), ← List.map_set, ← List.map_set (f := fun r : List Int => r.map (Value.int .i64)), tabF_set _ _ _ _ _ _ (by omega)] at hst
                    have HST := Lib.hid hst
                    clear hin hst
                    go_wp2
                    go_roundw
                    case rel =>
                      refine ⟨t + 1, upd f i t acc, by omega, by go_num, HST.out.1, HST.out.2, ?_, ?_⟩
                      · intro r u hr hu
                        rw [upd_row _ _ _ _ _ _ (by omega)]
                        exact hf.out.1 r u hr hu
                      · intro u hu
                        by_cases hut : u = t
                        · subst hut; rw [upd_same, hfin.out]
                        · rw [upd_col _ _ _ _ _ _ hut]; exact hf.out.2 u (by omega)
                    case measure => (simp [intOf] <;> omega)
              · have htN : t = N := by omega
                have HT := Lib.hid htN; clear htN
                go_wp2
                go_roundw
                case rel =>
                  refine ⟨(i : Int) - 1, f, by omega, by omega, rfl, HO6.out, hE6, ?_⟩
                  intro r u hr hu
                  by_cases hri : r = i
                  · subst hri; exact hf.out.2 u (by rw [HT.out]; exact hu)
                  · exact hf.out.1 r u (by omega) hu
                case measure => (simp [intOf] <;> omega)
          · go_wp2
            go_ret
            refine (⟨_, vs, f, rfl, HO5.out, hE5, ?_, hN0⟩ : TabPost M N w _ _)
            have h0 : ii < ((0 : Nat) : Int) := by omega
            exact hf.out 0 0 h0 hN0
end Go.Proofs.Ytgehpbikkcnecaa
