/- The walks of the functions that make the blocks of a partition. -/
import Derived.Test.YtgehpbikkcnecaaRows
import Derived.Test.YtgehpbikkcnecaaLib
import Derived.Test.YtgehpbikkcnecaaRows2
import Derived.Test.YtgehpbikkcnecaaScore
import Derived.Test.YtgehpbikkcnecaaPart
import Derived.Test.YtgehpbikkcnecaaLabels
set_option linter.unusedVariables false
set_option linter.unusedSimpArgs false
namespace Go.Proofs.Ytgehpbikkcnecaa
open Go.RowKit Go.Er

theorem info_ints : (Try.prog.info? 28).map (fun i => (i.zero, i.size, i.bytes)) = some (some (.slice none 0 0), 1, 24) := by kernel_rfl

def blocksFrom : List Int → Nat → List (List Int) → List (List Int)
  | [], _, out => out
  | x :: xs, i, out => blocksFrom xs (i + 1) (if x = (out.length : Int) then out ++ [[(i : Int)]] else out.set x.toNat (out.getD x.toNat [] ++ [(i : Int)]))
def blocksOf (l : List Int) : List (List Int) := blocksFrom l 0 []

/-- What a function that makes a slice of slices of integers leaves. -/
def MadeRows (w : World) (L : List (List Int)) (e : Ending) (w' : World) : Prop :=
  ∃ v vs, e = .returned v ∧ Own2 w' w.heap.size 28 3 v vs (L.map (·.map (.int .i64))) ∧ Ext w w'

set_option maxHeartbeats 800000 in
theorem blocks_any (l : List Int) (a : Option Addr) (cap : Nat) (w : World) (ha : Ints w a l) (hp : isPart l = true) :
    Calls Try.prog 40 #[.slice a l.length cap] w (MadeRows w (blocksOf l)) := by
  have hl8 := (isPart_len hp).2
  have HP := Lib.hid hp; clear hp
  go_enter Try.func40, Try.ntmps40
  go_wp2
  go_loopw [3, 8] (fun s3 s8 wr => ∃ (k : Nat) (out : List (List Int)) (vs : List Value), k ≤ l.length ∧ s8 = .int .i64 k ∧ Own2 wr w.heap.size 28 3 s3 vs (out.map (·.map (.int .i64))) ∧ Ext w wr ∧ out.length ≤ k ∧ Hid (∀ r ∈ out, r.length ≤ k) ∧
      Hid (partFrom l.length (l.drop k) out.length = true) ∧ Hid (blocksFrom (l.drop k) k out = blocksOf l)) (fun _ i _ => l.length - (intOf i).toNat)
  case atStart => exact ⟨0, [], [], Nat.zero_le _, rfl, Own2.empty (Own1.nil _ _ _), Ext.refl _, Nat.le_refl _, by intro r hr; simp at hr, HP.out, rfl⟩
  case round =>
    obtain ⟨k, out, vs, hk, rfl, hov, hE, hok, hrl, hpf, hR⟩ := hrel
    have HO := Lib.hid hov; clear hov
    by_cases hlt : k < l.length
    · obtain ⟨b, o, rfl, hc⟩ := ha.ext hE k hlt
      have hR' := Lib.hid (congrArg (fun q => blocksFrom q k out) (List.drop_eq_getElem_cons hlt))
      have hpf' := hpf.out
      rw [List.drop_eq_getElem_cons hlt] at hpf'
      simp only [partFrom] at hpf'
      generalize hx : l[k] = x at *
      have Hx := Lib.hid hx; clear hx
      split at hpf'
      · rename_i hin
        obtain ⟨h0, h1⟩ := (inR_iff _ _ _).1 hin
        obtain ⟨j, rfl⟩ := Int.eq_ofNat_of_zero_le h0
        have hj : j ≤ out.length := by omega
        have hpf2 := Lib.hid hpf'
        clear hpf' hin h0 h1
        have hvl : vs.length = out.length := by have := HO.out.2.1; simpa using this
        have HVL := Lib.hid hvl
        obtain ⟨so, co, rfl, hcells, _⟩ := HO.out.1.slice
        have hvs1 : vs.length ≤ out.length := by omega
        have hvs2 : out.length ≤ vs.length := by omega
        clear hvl
        by_cases hje : j = out.length
        · subst hje
          have hln : vs.length ≤ 1073741824 := by omega
          have htest : ((out.length : Int) == (vs.length : Int)) = true := by rw [beq_iff_eq]; omega
          have HLN := Lib.hid hln; clear hln
          go_wp2_with (first | (at_builtin; (refine wpList_append_one (w0 := w) rfl (.tmp 17) (.tmp 18) 44 rfl Try.underlying44 info_ints rfl (by decide) _ vs rfl (by (repeat' (first | assumption | exact Below.refl _ _ | refine Ext.alloc' ?_ _ | refine Ext.drew' ?_ | refine Ext.drewN' ?_ _ | refine Ext.setCell' ?_ (by first | (simp; done) | (simp; omega)) _ | (refine Ext.trans ?_ (by assumption))))) (HO.out.1.alloc _) HLN.out ⟨_, 0, none⟩ 1 _ rfl (by simp; rfl) rfl ?_); intro v' w1 hv1 hE1 hg1 hb1; obtain ⟨g, cp, rfl⟩ := hv1.shape (by simp); have hpu := Own2.push (w := wr.alloc (.cells #[.slice none 0 0] 28)) (HO.out.ext (Ext.alloc _ _)) (Own1.nil _ _ _) (Apart.nil _) (fun _ _ => Apart.nil _) hv1 hg1 hb1; have HPU := Lib.hid hpu; have hcl := (hv1.cellAt vs.length (by simp)).trans (by simp : _ = some (Value.slice none 0 0)); rw [HVL.out] at hcl; clear hv1 hg1 hb1 hpu) | (at_builtin; (refine wpList_append_one (w0 := w) rfl (.tmp 25) (.tmp 27) 28 rfl Try.underlying28 info_int rfl (by decide) (.slice none 0 0) [] rfl (by (repeat' (first | assumption | exact Below.refl _ _ | refine Ext.alloc' ?_ _ | refine Ext.drew' ?_ | refine Ext.drewN' ?_ _ | refine Ext.setCell' ?_ (by first | (simp; done) | (simp; omega)) _ | (refine Ext.trans ?_ (by assumption))))) (Own1.nil _ _ _) (by simp) ⟨_, 0, none⟩ 1 _ rfl (by simp; rfl) rfl ?_); intro y' w2 hy2 hE2 hg2 hb2; simp only [List.nil_append] at hy2; obtain ⟨ya, yc, hye, _, _⟩ := hy2.slice; simp only [List.length_cons, List.length_nil, Nat.zero_add] at hye; subst hye; have hbs := (HPU.out.1.alloc (.cells #[.int .i64 (k : Int)] 3)).beside (Apart.nil _) hg2 hb2; have hcw := (hbs.1.cellAt vs.length (by simp)).trans (by simp : _ = some (Value.slice none 0 0)); rw [HVL.out] at hcw; have hfw := hbs.1.frozenAt out.length; have hsw := hbs.1.lt rfl; have HY := Lib.hid hy2; have HG := Lib.hid hg2; have HB := Lib.hid hb2; clear hy2 hg2 hb2 hbs))
          have hput := Own2.put (w0 := w) (k := vs.length) (HPU.out.ext (Ext.alloc _ (.cells #[.int .i64 (k : Int)] 3))) hE2 (by simp) HY.out (by simpa using HG.out) (by simpa using HB.out)
          go_roundw
          case rel =>
            refine ⟨k + 1, out ++ [[(k : Int)]], vs ++ [.slice ya 1 yc], by omega, by go_num, ?_, by simpa [HVL.out] using hput.2, by simp; omega, ?_, ?_, ?_⟩
            · have h3 := hput.1
              have hs1 : (vs ++ [Value.slice none 0 0]).set vs.length (.slice ya 1 yc) = vs ++ [.slice ya 1 yc] := by simp
              rw [hs1] at h3
              simp only [List.length_append, List.length_cons, List.length_nil, Nat.zero_add, HVL.out] at h3 ⊢
              have hs2 : (out.map (fun r : List Int => r.map (Value.int .i64)) ++ [([] : List Value)]).set out.length [Value.int .i64 (k : Int)] = (out ++ [[(k : Int)]]).map (fun r : List Int => r.map (Value.int .i64)) := by simp [List.set_append]
              rw [hs2] at h3
              exact h3
            · intro r hr
              have hrl2 := hrl.out
              rcases List.mem_append.1 hr with h | h
              · have := hrl2 r h; omega
              · simp at h; subst h; simp
            · show _ = _
              have h4 := hpf2.out
              rw [if_pos (by omega)] at h4
              simpa using h4
            · show _ = _
              rw [← hR.out, hR'.out]
              simp [blocksFrom]
          case measure => simp [intOf]; omega
        · have hjl : j < vs.length := by omega
          have htest : ((j : Int) == (vs.length : Int)) = false := by rw [beq_eq_false_iff_ne]; omega
          obtain ⟨g, cp, hsh⟩ := HO.out.1.shape (by omega)
          simp only [Value.slice.injEq, true_and] at hsh
          obtain ⟨rfl, rfl⟩ := hsh
          have hcell := HO.out.1.cellAt j hjl
          have hin := (HO.out.2.2.1 j hjl (by simp; omega)).1
          have hap := (HO.out.2.2.1 j hjl (by simp; omega)).2
          have hfr := HO.out.1.frozenAt j
          have hln : ((out.map (fun r : List Int => r.map (Value.int .i64)))[j]'(by simp; omega)).length ≤ 1073741824 := by
            have := hrl.out out[j] (List.getElem_mem (by omega)); simp; omega
          have HLN := Lib.hid hln; clear hln
          generalize hy : vs[j] = y at *
          have Hy := Lib.hid hy; clear hy
          have HI := Lib.hid hin; have HA := Lib.hid hap; clear hin hap
          have hgl := HO.out.1.lt rfl
          go_wp2_with (at_builtin; go_loud (refine wpList_append_one (w0 := w) rfl _ _ 28 rfl Try.underlying28 info_int rfl (by decide) _ _ rfl (by (repeat' (first | assumption | exact Below.refl _ _ | refine Ext.alloc' ?_ _ | refine Ext.drew' ?_ | refine Ext.drewN' ?_ _ | refine Ext.setCell' ?_ (by first | (simp; done) | (simp; omega)) _ | (refine Ext.trans ?_ (by assumption))))) (HI.out.alloc _) HLN.out ⟨_, 0, none⟩ 1 _ rfl (by simp; rfl) rfl ?_); intro y' w1 hy1 hE1 hg1 hb1; obtain ⟨ya, yc, hye, _, _⟩ := hy1.slice; simp only [List.length_append, List.length_cons, List.length_nil, List.getElem_map, List.length_map, Nat.zero_add] at hye; subst hye; have hbs := (HO.out.1.alloc _).beside HA.out hg1 hb1; have hcw := hbs.1.cellAt j hjl; have hfw := hbs.1.frozenAt j; have hsw := hbs.1.lt rfl; have HY := Lib.hid hy1; have HG := Lib.hid hg1; have HB := Lib.hid hb1; have HBS := Lib.hid hbs; clear hy1 hg1 hb1 hbs)
          have hjo : j < out.length := by omega
          have hput := Own2.put (w0 := w) (HO.out.ext (Ext.alloc _ (.cells #[.int .i64 (k : Int)] 3))) hE1 hjl HY.out (by rw [Hy.out]; exact HG.out) (by rw [Hy.out]; exact HB.out)
          go_roundw
          case rel =>
            refine ⟨k + 1, out.set j (out[j] ++ [(k : Int)]), vs.set j (.slice ya (out[j].length + 1) yc), by omega, by go_num, ?_, hput.2, by simp; omega, ?_, ?_, ?_⟩
            · have h3 := hput.1
              rw [show ((out.map (fun r : List Int => r.map (Value.int .i64))).set j ((out.map (fun r : List Int => r.map (Value.int .i64)))[j]'(by simp; omega) ++ [Value.int .i64 (k : Int)])) = ((out.set j (out[j] ++ [(k : Int)])).map (fun r : List Int => r.map (Value.int .i64))) by rw [List.map_set]; simp] at h3
              exact h3
            · intro r hr
              have hrl2 := hrl.out
              rcases List.mem_or_eq_of_mem_set hr with h | h
              · have := hrl2 r h; omega
              · subst h; have := hrl2 out[j] (List.getElem_mem hjo); simp; omega
            · show _ = _
              have h4 := hpf2.out
              rw [if_neg (by omega)] at h4
              rw [List.length_set]; exact h4
            · show _ = _
              rw [← hR.out, hR'.out]
              simp only [blocksFrom]
              rw [if_neg (by omega)]
              simp [List.getD, hjo]
          case measure => simp [intOf]; omega
      · cases hpf'
    · go_wp2
      go_ret
      refine ⟨_, vs, rfl, ?_, hE⟩
      have h2 := hR.out
      rw [List.drop_eq_nil_of_le (by omega)] at h2
      rw [← h2]; exact HO.out

theorem blocksFrom_new (out : List (List Int)) (xs : List Int) (k j : Nat) (h : j = out.length) : blocksFrom ((j : Int) :: xs) k out = blocksFrom xs (k + 1) ((out ++ [[]]).set j ((out ++ [[]]).getD j [] ++ [(k : Int)])) := by
  subst h
  simp only [blocksFrom, if_true]
  congr 1
  simp [List.set_append, List.getD]
theorem blocksFrom_old (out : List (List Int)) (xs : List Int) (k j : Nat) (h : j ≠ out.length) : blocksFrom ((j : Int) :: xs) k out = blocksFrom xs (k + 1) (out.set j (out.getD j [] ++ [(k : Int)])) := by
  simp only [blocksFrom]
  rw [if_neg (by omega)]
  simp

end Go.Proofs.Ytgehpbikkcnecaa
