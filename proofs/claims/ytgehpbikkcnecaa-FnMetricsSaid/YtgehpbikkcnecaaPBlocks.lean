/- The walk of the reference's PartitionBlocks. -/
import Derived.Test.YtgehpbikkcnecaaBlocks
set_option linter.unusedVariables false
set_option linter.unusedSimpArgs false
namespace Go.Proofs.Ytgehpbikkcnecaa
open Go.RowKit Go.Er

set_option maxHeartbeats 1600000 in
theorem partitionBlocks_any (l : List Int) (a : Option Addr) (cap : Nat) (w : World) (ha : Ints w a l) (hl : l.length ≤ 1048576) (hp : isPart l = true) :
    Calls Try.prog 38 #[.slice a l.length cap] w (MadeRows w (blocksOf l)) := by
  have hl8 := (isPart_len hp).2
  have HP := Lib.hid hp; clear hp
  have hA : Ext w (w.alloc (.cells #[] 28)) := by (repeat' (first | assumption | exact Below.refl _ _ | refine Ext.alloc' ?_ _ | refine Ext.drew' ?_ | refine Ext.drewN' ?_ _ | refine Ext.setCell' ?_ (by first | (simp; done) | (simp; omega)) _ | (refine Ext.trans ?_ (by assumption))))
  have hO : Own1 (w.alloc (.cells #[] 28)) w.heap.size 28 (.slice (some ⟨w.heap.size, 0, none⟩) 0 0) [] := Own1.lit0 (Nat.le_refl _) (heap_alloc_new w _)
  have HO0 := Lib.hid hO; clear hO
  go_enter Try.func38, Try.ntmps38
  go_wp2
  go_loopw [3, 4] (fun s3 s4 wr => ∃ (k : Nat) (out : List (List Int)) (vs : List Value), k ≤ l.length ∧ s4 = .int .i64 k ∧ Own2 wr w.heap.size 28 3 s3 vs (out.map (·.map (.int .i64))) ∧ Ext w wr ∧ out.length ≤ k ∧ Hid (∀ r ∈ out, r.length ≤ k) ∧
      Hid (partFrom l.length (l.drop k) out.length = true) ∧ Hid (blocksFrom (l.drop k) k out = blocksOf l)) (fun _ i _ => l.length - (intOf i).toNat)
  case atStart => exact ⟨0, [], [], Nat.zero_le _, rfl, Own2.empty HO0.out, hA, Nat.le_refl _, by intro r hr; simp at hr, HP.out, rfl⟩
  case round =>
    obtain ⟨k, out, vs, hk, rfl, hov, hE, hok, hrl, hpf, hR⟩ := hrel
    have HO := Lib.hid hov; clear hov
    by_cases hlt : k < l.length
    · obtain ⟨b, o, rfl, hc0⟩ := ha k hlt
      have hc := hE.at hc0
      have hR' := Lib.hid (congrArg (fun q => blocksFrom q k out) (List.drop_eq_getElem_cons hlt))
      have hpf' := hpf.out
      rw [List.drop_eq_getElem_cons hlt] at hpf'
      simp only [partFrom] at hpf'
      generalize hx : l[k] = x at *
      have Hx := Lib.hid hx; have HC0 := Lib.hid hc0; clear hx hc0
      split at hpf'
      · rename_i hin
        obtain ⟨h0, h1⟩ := (inR_iff _ _ _).1 hin
        obtain ⟨j, rfl⟩ := Int.eq_ofNat_of_zero_le h0
        have hj : j ≤ out.length := by omega
        have hvl : vs.length = out.length := by have := HO.out.2.1; simpa using this
        have HVL := Lib.hid hvl
        have hvs1 : vs.length ≤ out.length := by omega
        have hvs2 : out.length ≤ vs.length := by omega
        clear hin h0 h1 hvl
        by_cases hje : j = out.length
        · have hln : vs.length ≤ 1073741824 := by omega
          have htest : ((j : Int) == (vs.length : Int)) = true := by rw [beq_iff_eq]; omega
          have HLN := Lib.hid hln
          have hpf2 := hpf'; rw [if_pos (by omega)] at hpf2
          have HPF := Lib.hid hpf2; have hR2 := Lib.hid (blocksFrom_new out (l.drop (k + 1)) k j hje)
          have Hje := Lib.hid hje
          clear hln hpf2 hpf' hje
          obtain ⟨so, co, rfl, hcells, _⟩ := HO.out.1.slice
          clear hcells
          have hu : Own1 (wr.alloc (.cells #[] 3)) w.heap.size 3 (.slice (some ⟨wr.heap.size, 0, none⟩) 0 0) [] := Own1.lit0 hE.size (heap_alloc_new wr _)
          have HU := Lib.hid hu; clear hu
          go_wp2_with (first | (go_at_call 53; refine (specIsPartition_any l _ _ _ (ha.ext (by (repeat' (first | assumption | exact Below.refl _ _ | refine Ext.alloc' ?_ _ | refine Ext.drew' ?_ | refine Ext.drewN' ?_ _ | refine Ext.setCell' ?_ (by first | (simp; done) | (simp; omega)) _ | (refine Ext.trans ?_ (by assumption)))))) hl).mono ?_; rintro e w' ⟨rfl, rfl⟩; rw [HP.out]) | (at_builtin; (refine wpList_append_one (w0 := w) rfl (.tmp 23) (.tmp 25) 44 rfl Try.underlying44 info_ints rfl (by decide) _ vs rfl (by (repeat' (first | assumption | exact Below.refl _ _ | refine Ext.alloc' ?_ _ | refine Ext.drew' ?_ | refine Ext.drewN' ?_ _ | refine Ext.setCell' ?_ (by first | (simp; done) | (simp; omega)) _ | (refine Ext.trans ?_ (by assumption))))) ((HO.out.1.alloc _).alloc _) HLN.out ⟨_, 0, none⟩ 1 _ rfl (by simp; rfl) rfl ?_); intro v' wq hv1 hE1 hg1 hb1; obtain ⟨g, cp, rfl⟩ := hv1.shape (by simp); have HG := Lib.hid hg1; have HB := Lib.hid hb1; have HV := Lib.hid hv1; clear hv1 hg1 hb1))
          have hpu := Own2.push (w := (wr.alloc (.cells #[] 3)).alloc (.cells #[.slice (some ⟨wr.heap.size, 0, none⟩) 0 0] 28)) (HO.out.ext (by (repeat' (first | assumption | exact Below.refl _ _ | refine Ext.alloc' ?_ _ | refine Ext.drew' ?_ | refine Ext.drewN' ?_ _ | refine Ext.setCell' ?_ (by first | (simp; done) | (simp; omega)) _ | (refine Ext.trans ?_ (by assumption)))))) (HU.out.alloc _)
            (fun bb h1 h2 => by simp only [Value.ownBlock, Option.some.injEq] at h1; have := HO.out.1.lt h2; omega)
            (fun i hi bb h1 h2 => by simp only [Value.ownBlock, Option.some.injEq] at h1; have := (HO.out.2.2.1 i hi (by simp; omega)).1.lt h2; omega) HV.out HG.out HB.out
          have hq : out.map (fun r : List Int => r.map (Value.int .i64)) ++ [([] : List Value)] = (out ++ [[]]).map (fun r : List Int => r.map (Value.int .i64)) := by simp
          rw [hq] at hpu
          clear hq HG HB HV HO HU
          have hrl1 : Hid (∀ r ∈ out ++ [([] : List Int)], r.length ≤ k) := by
            intro r hr
            rcases List.mem_append.1 hr with h | h
            · exact hrl.out r h
            · simp at h; subst h; simp
          have hpf2 : Hid (partFrom l.length (l.drop (k + 1)) (out ++ [([] : List Int)]).length = true) := by
            show _ = _
            rw [← HPF.out]; simp [Hje.out]
          have hl1 : (vs ++ [Value.slice (some ⟨wr.heap.size, 0, none⟩) 0 0]).length = (out ++ [([] : List Int)]).length := by simp [HVL.out]
          have hl2 : (out ++ [([] : List Int)]).length = out.length + 1 := by simp
          have hl3 : (vs ++ [Value.slice (some ⟨wr.heap.size, 0, none⟩) 0 0]).length = vs.length + 1 := by simp
          have HO1 := Lib.hid hpu
          rw [hl3] at HO1
          clear hpu HPF
          generalize hout1 : out ++ [([] : List Int)] = out1 at *
          generalize hvs1' : vs ++ [Value.slice (some ⟨wr.heap.size, 0, none⟩) 0 0] = vs1 at *
          have HOV := Lib.hid (And.intro hout1 hvs1'); clear hout1 hvs1'
          have hcq := hE1.at HC0.out
          have hbq := lt_of_cell hcq
          have hjl : j < vs1.length := by have := Hje.out; omega
          have hk1 : out1.length ≤ k + 1 := by omega
          have hvo1 : vs1.length ≤ out1.length := by omega
          have hcell := HO1.out.1.cellAt j hjl
          have hin := (HO1.out.2.2.1 j hjl (by simp; omega)).1
          have hap := (HO1.out.2.2.1 j hjl (by simp; omega)).2
          have hfr := HO1.out.1.frozenAt j
          have hln : ((out1.map (fun r : List Int => r.map (Value.int .i64)))[j]'(by simp; omega)).length ≤ 1073741824 := by
            have := hrl1.out out1[j] (List.getElem_mem (by omega)); simp; omega
          have HLN := Lib.hid hln; clear hln
          generalize hy : vs1[j] = y at *
          have Hy := Lib.hid hy; clear hy
          have HI := Lib.hid hin; have HA := Lib.hid hap; clear hin hap
          have hgl := HO1.out.1.lt rfl
          have hjl2 : (j : Int) < (vs.length : Int) + 1 := by have := Hje.out; omega
          have hj0 : (0 : Int) ≤ j := by omega
          go_region_law (refine step_append_one (w0 := w) rfl (.tmp 38) (.tmp 40) 28 rfl Try.underlying28 info_int rfl (by decide) y _ rfl (by (repeat' (first | assumption | exact Below.refl _ _ | refine Ext.alloc' ?_ _ | refine Ext.drew' ?_ | refine Ext.drewN' ?_ _ | refine Ext.setCell' ?_ (by first | (simp; done) | (simp; omega)) _ | (refine Ext.trans ?_ (by assumption))))) (HI.out.ext (by (repeat' (first | assumption | exact Below.refl _ _ | refine Ext.alloc' ?_ _ | refine Ext.drew' ?_ | refine Ext.drewN' ?_ _ | refine Ext.setCell' ?_ (by first | (simp; done) | (simp; omega)) _ | (refine Ext.trans ?_ (by assumption)))))) HLN.out ⟨wq.heap.size, 0, none⟩ 1 (.int .i64 (k : Int)) rfl (by simp) rfl ?_; intro y' w2 hy2 hE2 hg2 hb2; obtain ⟨ya, yc, hye, _, _⟩ := hy2.slice; simp only [List.length_append, List.length_cons, List.length_nil, List.getElem_map, List.length_map, Nat.zero_add] at hye; subst hye; have hbs := (HO1.out.1.ext (by (repeat' (first | assumption | exact Below.refl _ _ | refine Ext.alloc' ?_ _ | refine Ext.drew' ?_ | refine Ext.drewN' ?_ _ | refine Ext.setCell' ?_ (by first | (simp; done) | (simp; omega)) _ | (refine Ext.trans ?_ (by assumption)))))).beside HA.out hg2 hb2; have hcl2 := hE2.at HC0.out; have hcw := hbs.1.cellAt j hjl; have hfw := hbs.1.frozenAt j; have hsw := hbs.1.lt rfl; have hputx := Own2.put (w0 := w) (w := (wq.alloc (.cells #[.int .i64 (k : Int)] 3)).drew) (HO1.out.ext (by (repeat' (first | assumption | exact Below.refl _ _ | refine Ext.alloc' ?_ _ | refine Ext.drew' ?_ | refine Ext.drewN' ?_ _ | refine Ext.setCell' ?_ (by first | (simp; done) | (simp; omega)) _ | (refine Ext.trans ?_ (by assumption)))))) hE2 hjl hy2 (by rw [Hy.out]; exact hg2) (by rw [Hy.out]; exact hb2); have HPT := Lib.hid hputx; clear hputx hy2 hg2 hb2 hbs)
          all_goals
            go_wp2
            go_roundw
            case rel =>
              have hjo : j < out1.length := by omega
              refine ⟨k + 1, out1.set j (out1[j] ++ [(k : Int)]), vs1.set j (.slice ya (out1[j].length + 1) yc), by omega, by go_num, ?_, HPT.out.2, by simp; omega, ?_, ?_, ?_⟩
              · have h3 := HPT.out.1
                rw [show ((out1.map (fun r : List Int => r.map (Value.int .i64))).set j ((out1.map (fun r : List Int => r.map (Value.int .i64)))[j]'(by simp; omega) ++ [Value.int .i64 (k : Int)])) = ((out1.set j (out1[j] ++ [(k : Int)])).map (fun r : List Int => r.map (Value.int .i64))) by rw [List.map_set]; simp] at h3
                exact h3
              · intro r hr
                have hrl2 := hrl1.out
                rcases List.mem_or_eq_of_mem_set hr with h | h
                · have := hrl2 r h; omega
                · subst h; have := hrl2 out1[j] (List.getElem_mem hjo); simp; omega
              · show _ = _
                rw [List.length_set]; exact hpf2.out
              · show _ = _
                rw [← hR.out, hR'.out, hR2.out]
                simp [List.getD, hjo]
            case measure => simp [intOf]; omega
        · have hjl : j < vs.length := by omega
          have htest : ((j : Int) == (vs.length : Int)) = false := by rw [beq_eq_false_iff_ne]; omega
          have hpf2 := hpf'; rw [if_neg (by omega)] at hpf2
          have HPF := Lib.hid hpf2; have hR2 := Lib.hid (blocksFrom_old out (l.drop (k + 1)) k j hje)
          clear hpf2 hpf' hje
          obtain ⟨so, co, rfl, hcells, _⟩ := HO.out.1.slice
          clear hcells
          obtain ⟨g, cp, hsh⟩ := HO.out.1.shape (by omega)
          simp only [Value.slice.injEq, true_and] at hsh
          obtain ⟨rfl, rfl⟩ := hsh
          go_wp2_with (go_at_call 53; refine (specIsPartition_any l _ _ _ (ha.ext (by (repeat' (first | assumption | exact Below.refl _ _ | refine Ext.alloc' ?_ _ | refine Ext.drew' ?_ | refine Ext.drewN' ?_ _ | refine Ext.setCell' ?_ (by first | (simp; done) | (simp; omega)) _ | (refine Ext.trans ?_ (by assumption)))))) hl).mono ?_; rintro e w' ⟨rfl, rfl⟩; rw [HP.out])
          have hpf2 := HPF
          have hrl1 := hrl
          have HO1 := HO
          obtain ⟨wq, rfl⟩ : ∃ wq : World, wq = wr := ⟨_, rfl⟩
          have hbq := lt_of_cell hc
          obtain ⟨vs1, rfl⟩ : ∃ vs1 : List Value, vs1 = vs := ⟨_, rfl⟩
          obtain ⟨out1, rfl⟩ : ∃ out1 : List (List Int), out1 = out := ⟨_, rfl⟩
          have hcell := HO1.out.1.cellAt j hjl
          have hin := (HO1.out.2.2.1 j hjl (by simp; omega)).1
          have hap := (HO1.out.2.2.1 j hjl (by simp; omega)).2
          have hfr := HO1.out.1.frozenAt j
          have hln : ((out1.map (fun r : List Int => r.map (Value.int .i64)))[j]'(by simp; omega)).length ≤ 1073741824 := by
            have := hrl1.out out1[j] (List.getElem_mem (by omega)); simp; omega
          have HLN := Lib.hid hln; clear hln
          generalize hy : vs1[j] = y at *
          have Hy := Lib.hid hy; clear hy
          have HI := Lib.hid hin; have HA := Lib.hid hap; clear hin hap
          have hgl := HO1.out.1.lt rfl
          have hjl2 : (j : Int) < vs1.length := by omega
          have hj0 : (0 : Int) ≤ j := by omega
          go_region_law (refine step_append_one (w0 := w) rfl (.tmp 38) (.tmp 40) 28 rfl Try.underlying28 info_int rfl (by decide) y _ rfl (by (repeat' (first | assumption | exact Below.refl _ _ | refine Ext.alloc' ?_ _ | refine Ext.drew' ?_ | refine Ext.drewN' ?_ _ | refine Ext.setCell' ?_ (by first | (simp; done) | (simp; omega)) _ | (refine Ext.trans ?_ (by assumption))))) (HI.out.ext (by (repeat' (first | assumption | exact Below.refl _ _ | refine Ext.alloc' ?_ _ | refine Ext.drew' ?_ | refine Ext.drewN' ?_ _ | refine Ext.setCell' ?_ (by first | (simp; done) | (simp; omega)) _ | (refine Ext.trans ?_ (by assumption)))))) HLN.out ⟨wq.heap.size, 0, none⟩ 1 (.int .i64 (k : Int)) rfl (by simp) rfl ?_; intro y' w2 hy2 hE2 hg2 hb2; obtain ⟨ya, yc, hye, _, _⟩ := hy2.slice; simp only [List.length_append, List.length_cons, List.length_nil, List.getElem_map, List.length_map, Nat.zero_add] at hye; subst hye; have hbs := (HO1.out.1.ext (by (repeat' (first | assumption | exact Below.refl _ _ | refine Ext.alloc' ?_ _ | refine Ext.drew' ?_ | refine Ext.drewN' ?_ _ | refine Ext.setCell' ?_ (by first | (simp; done) | (simp; omega)) _ | (refine Ext.trans ?_ (by assumption)))))).beside HA.out hg2 hb2; have hcl2 := hE2.at HC0.out; have hcw := hbs.1.cellAt j hjl; have hfw := hbs.1.frozenAt j; have hsw := hbs.1.lt rfl; have hputx := Own2.put (w0 := w) (w := (wq.alloc (.cells #[.int .i64 (k : Int)] 3)).drew) (HO1.out.ext (by (repeat' (first | assumption | exact Below.refl _ _ | refine Ext.alloc' ?_ _ | refine Ext.drew' ?_ | refine Ext.drewN' ?_ _ | refine Ext.setCell' ?_ (by first | (simp; done) | (simp; omega)) _ | (refine Ext.trans ?_ (by assumption)))))) hE2 hjl hy2 (by rw [Hy.out]; exact hg2) (by rw [Hy.out]; exact hb2); have HPT := Lib.hid hputx; clear hputx hy2 hg2 hb2 hbs)
          all_goals
            go_wp2
            go_roundw
            case rel =>
              have hjo : j < out1.length := by omega
              refine ⟨k + 1, out1.set j (out1[j] ++ [(k : Int)]), vs1.set j (.slice ya (out1[j].length + 1) yc), by omega, by go_num, ?_, HPT.out.2, by simp; omega, ?_, ?_, ?_⟩
              · have h3 := HPT.out.1
                rw [show ((out1.map (fun r : List Int => r.map (Value.int .i64))).set j ((out1.map (fun r : List Int => r.map (Value.int .i64)))[j]'(by simp; omega) ++ [Value.int .i64 (k : Int)])) = ((out1.set j (out1[j] ++ [(k : Int)])).map (fun r : List Int => r.map (Value.int .i64))) by rw [List.map_set]; simp] at h3
                exact h3
              · intro r hr
                have hrl2 := hrl1.out
                rcases List.mem_or_eq_of_mem_set hr with h | h
                · have := hrl2 r h; omega
                · subst h; have := hrl2 out1[j] (List.getElem_mem hjo); simp; omega
              · show _ = _
                rw [List.length_set]; exact hpf2.out
              · show _ = _
                rw [← hR.out, hR'.out, hR2.out]
                simp [List.getD, hjo]
            case measure => simp [intOf]; omega
      · cases hpf'
    · have hA2 : Hid (blocksFrom [] k out = blocksOf l) := by
        have h2 := hR.out
        rw [List.drop_eq_nil_of_le (by omega)] at h2
        exact h2
      go_wp2
      go_ret
      refine ⟨_, vs, rfl, ?_, hE⟩
      rw [← hA2.out]; exact HO.out
end Go.Proofs.Ytgehpbikkcnecaa
