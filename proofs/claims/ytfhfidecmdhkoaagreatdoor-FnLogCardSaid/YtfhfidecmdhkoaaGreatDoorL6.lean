/- General lemmas (data by value) and the walks on which the law's proof leans, part 6. No condition. -/
import Derived.Test.YtfhfidecmdhkoaaGreatDoorL5
import Derived.Lib.AtoiAllCases
import Derived.Shelf.Lays
import Derived.Shelf.RegionOpenPlain
import Derived.WalkKit
import Derived.Lib.Walk
import Derived.Lib.RuneCount
import Derived.Lib.OthersKept
import Derived.Laws.RangeString
import Derived.Laws.RangeAny
import Derived.LoopTactic
import Derived.Still
import Derived.StillTactics
set_option linter.unusedVariables false
set_option linter.unusedSimpArgs false
set_option linter.unusedSectionVars false
section
set_option maxRecDepth 10000
namespace Go.Proofs.YtfhfidecmdhkoaaGreatDoor
open Go.Dv Go.Pl
theorem fn_impl_IsValidOp (o : Opn) (hs : smallO o) : FnOk Tryz.prog 70 [nOp o] (fun res' => res' = .val (dB (validOp o))) := by
 refine fn_of good (rs := [.tmp 2]) Tryz.func70 rfl Tryz.ntmps70 (by decide) (by simp) rfl fun w0 ow0 => ?_
 have hs1 := hs.1
 refine okC_rg good ?_
 simp [go_sem]
 repeat (with_reducible refine And.intro ?_ ?_; first | omega | assumption | (simp only [inI]; omega))
 refine okC_seq ?_
 refine okC_rg good ?_
 simp [go_sem]
 repeat (with_reducible refine And.intro ?_ ?_; first | omega | assumption | (simp only [inI]; omega))
 refine okC_block ?_
 refine okC_rg good ?_
 simp [go_sem]
 repeat (with_reducible refine And.intro ?_ ?_; first | omega | assumption | (simp only [inI]; omega))
 refine okC_if ?_
 simp [go_sem]
 first | refine gC_dec (fun k1 => ?_) (fun k1 => ?_) | refine gC_ndec (fun k1 => ?_) (fun k1 => ?_) | refine gC_of (fun k1 => ?_) (fun k1 => ?_)
 ·try simp at k1
  refine okC_rg good ?_
  simp [go_sem]
  repeat (with_reducible refine And.intro ?_ ?_; first | omega | assumption | (simp only [inI]; omega))
  first | refine callK_of (fn_impl_IsValidRecord o.rc hs) (by simp [go_sem]) ?_ | refine callK_fz (fn_impl_IsValidRecord o.rc hs) (by simp [go_sem]) (by simp [go_sem]) ?_
  simp [go_sem]
  repeat (with_reducible refine And.intro ?_ ?_; first | omega | assumption | (simp only [inI]; omega))
  first | refine gI_dec (fun e => ?_) (fun e => ?_) | refine gI_ndec (fun e => ?_) (fun e => ?_) | refine gI_of (fun e => ?_) (fun e => ?_)
  ·have e' := e; try simp at e'
   simp [go_sem, e]
   repeat (with_reducible refine And.intro ?_ ?_; first | omega | assumption | (simp only [inI]; omega))
   refine okC_ret ?_
   simp [go_sem, e]
   simp [validOp, k1, e, ver0_eq]
  ·have e' := e; try simp at e'
   simp [go_sem, e]
   repeat (with_reducible refine And.intro ?_ ?_; first | omega | assumption | (simp only [inI]; omega))
   refine okC_ret ?_
   simp [go_sem, e]
   simp [validOp, k1, e]
 ·try simp at k1
  refine okC_rg good ?_
  simp [go_sem]
  repeat (with_reducible refine And.intro ?_ ?_; first | omega | assumption | (simp only [inI]; omega))
  refine okC_if ?_
  simp [go_sem]
  first | refine gC_dec (fun k2 => ?_) (fun k2 => ?_) | refine gC_ndec (fun k2 => ?_) (fun k2 => ?_) | refine gC_of (fun k2 => ?_) (fun k2 => ?_)
  ·try simp at k2
   refine okC_rg good ?_
   simp [go_sem]
   repeat (with_reducible refine And.intro ?_ ?_; first | omega | assumption | (simp only [inI]; omega))
   first | refine callK_of (fn_impl_isDeletion o.rc hs1) (by simp [go_sem]) ?_ | refine callK_fz (fn_impl_isDeletion o.rc hs1) (by simp [go_sem]) (by simp [go_sem]) ?_
   simp [go_sem]
   repeat (with_reducible refine And.intro ?_ ?_; first | omega | assumption | (simp only [inI]; omega))
   first | refine gI_dec (fun e => ?_) (fun e => ?_) | refine gI_ndec (fun e => ?_) (fun e => ?_) | refine gI_of (fun e => ?_) (fun e => ?_)
   ·have e' := e; try simp at e'
    simp [go_sem, e]
    repeat (with_reducible refine And.intro ?_ ?_; first | omega | assumption | (simp only [inI]; omega))
    refine okC_ret ?_
    simp [go_sem, e]
    simp [validOp, k1, k2, e, ver0_eq]
   ·have e' := e; try simp at e'
    simp [go_sem, e]
    repeat (with_reducible refine And.intro ?_ ?_; first | omega | assumption | (simp only [inI]; omega))
    refine okC_ret ?_
    simp [go_sem, e]
    simp [validOp, k1, k2, e]
  ·try simp at k2
   refine okC_seq ?_
   refine okC_rg good ?_
   simp [go_sem]
   repeat (with_reducible refine And.intro ?_ ?_; first | omega | assumption | (simp only [inI]; omega))
   refine okC_if ?_
   simp [go_sem]
   first | refine gC_dec (fun k3 => ?_) (fun k3 => ?_) | refine gC_ndec (fun k3 => ?_) (fun k3 => ?_) | refine gC_of (fun k3 => ?_) (fun k3 => ?_)
   ·try simp at k3
    refine okC_skip ?_
    refine okC_if ?_
    simp [go_sem, k3]
    refine okC_rg good ?_
    simp [go_sem, k3]
    repeat (with_reducible refine And.intro ?_ ?_; first | omega | assumption | (simp only [inI]; omega))
    first | refine callK_of (fn_impl_IsValidVerdict _) (by simp [go_sem]) ?_ | refine callK_fz (fn_impl_IsValidVerdict _) (by simp [go_sem]) (by simp [go_sem]) ?_
    simp [go_sem, k3]
    repeat (with_reducible refine And.intro ?_ ?_; first | omega | assumption | (simp only [inI]; omega))
    first | refine gI_dec (fun e => ?_) (fun e => ?_) | refine gI_ndec (fun e => ?_) (fun e => ?_) | refine gI_of (fun e => ?_) (fun e => ?_)
    ·have e' := e; try simp at e'
     simp [go_sem, k3, e]
     repeat (with_reducible refine And.intro ?_ ?_; first | omega | assumption | (simp only [inI]; omega))
     first | refine callK_of (fn_impl_isZeroRecord o.rc hs1) (by simp [go_sem]) ?_ | refine callK_fz (fn_impl_isZeroRecord o.rc hs1) (by simp [go_sem]) (by simp [go_sem]) ?_
     simp [go_sem, k3, e]
     repeat (with_reducible refine And.intro ?_ ?_; first | omega | assumption | (simp only [inI]; omega))
     refine okC_ret ?_
     simp [go_sem, k3, e]
     simp [validOp, k1, k2, k3, e]
    ·have e' := e; try simp at e'
     simp [go_sem, k3, e]
     repeat (with_reducible refine And.intro ?_ ?_; first | omega | assumption | (simp only [inI]; omega))
     refine okC_ret ?_
     simp [go_sem, k3, e]
     simp [validOp, k1, k2, k3, e]
   ·try simp at k3
    refine okC_rg1 good ?_
    simp [go_sem]
    repeat (with_reducible refine And.intro ?_ ?_; first | omega | assumption | (simp only [inI]; omega))
    refine okC_if ?_
    simp [go_sem]
    first | refine gC_dec (fun k4 => ?_) (fun k4 => ?_) | refine gC_ndec (fun k4 => ?_) (fun k4 => ?_) | refine gC_of (fun k4 => ?_) (fun k4 => ?_)
    ·try simp at k4
     refine okC_rg good ?_
     simp [go_sem, k4]
     repeat (with_reducible refine And.intro ?_ ?_; first | omega | assumption | (simp only [inI]; omega))
     first | refine callK_of (fn_impl_IsValidVerdict _) (by simp [go_sem]) ?_ | refine callK_fz (fn_impl_IsValidVerdict _) (by simp [go_sem]) (by simp [go_sem]) ?_
     simp [go_sem, k4]
     repeat (with_reducible refine And.intro ?_ ?_; first | omega | assumption | (simp only [inI]; omega))
     first | refine gI_dec (fun e => ?_) (fun e => ?_) | refine gI_ndec (fun e => ?_) (fun e => ?_) | refine gI_of (fun e => ?_) (fun e => ?_)
     ·have e' := e; try simp at e'
      simp [go_sem, k4, e]
      repeat (with_reducible refine And.intro ?_ ?_; first | omega | assumption | (simp only [inI]; omega))
      first | refine callK_of (fn_impl_isZeroRecord o.rc hs1) (by simp [go_sem]) ?_ | refine callK_fz (fn_impl_isZeroRecord o.rc hs1) (by simp [go_sem]) (by simp [go_sem]) ?_
      simp [go_sem, k4, e]
      repeat (with_reducible refine And.intro ?_ ?_; first | omega | assumption | (simp only [inI]; omega))
      refine okC_ret ?_
      simp [go_sem, k4, e]
      simp [validOp, k1, k2, k3, k4, e]
     ·have e' := e; try simp at e'
      simp [go_sem, k4, e]
      repeat (with_reducible refine And.intro ?_ ?_; first | omega | assumption | (simp only [inI]; omega))
      refine okC_ret ?_
      simp [go_sem, k4, e]
      simp [validOp, k1, k2, k3, k4, e]
    ·try simp at k4
     refine okC_skip ?_
     refine okC_rg good ?_
     simp [go_sem]
     repeat (with_reducible refine And.intro ?_ ?_; first | omega | assumption | (simp only [inI]; omega))
     refine okC_ret ?_
     simp [go_sem]
     simp [validOp, k1, k2, k3, k4]
theorem fn_impl_IsValidBatch_1 (o : Opn) (hs : smallO o) : FnOk Tryz.prog 69 [nOp o] (fun res' => res' = .val (dB (!validOp o))) := by
 refine fn_of good (rs := [.tmp 2]) Tryz.func69 rfl Tryz.ntmps69 (by decide) (by simp) rfl fun w0 ow0 => ?_
 refine okC_rg good ?_
 simp [go_sem]
 repeat (with_reducible refine And.intro ?_ ?_; first | omega | assumption | (simp only [inI]; omega))
 refine okC_rg good ?_
 simp [go_sem]
 repeat (with_reducible refine And.intro ?_ ?_; first | omega | assumption | (simp only [inI]; omega))
 first | refine callK_of (fn_impl_IsValidOp _ (by first | assumption | omega | (simp; omega) | grind)) (by simp [go_sem]) ?_ | refine callK_fz (fn_impl_IsValidOp _ (by first | assumption | omega | (simp; omega) | grind)) (by simp [go_sem]) (by simp [go_sem]) ?_
 simp [go_sem]
 repeat (with_reducible refine And.intro ?_ ?_; first | omega | assumption | (simp only [inI]; omega))
 refine okC_ret ?_
 simp [go_sem]
 all_goals first | done | omega | grind | (simp; omega) | (simp_all; done) | (simp_all; omega)
theorem fn_ixf_op (l : List Opn) (hl : l.length ≤ 1048576) (hs : ∀ o ∈ l, smallO o) : FnOk Tryz.prog 100 [nOps l, .one (.func (.func 69) #[] #[])] (fun res' => res' = .val (dI (ix (fun f => !validOp f) l))) := by
 refine fn_of good (rs := [.tmp 4]) Tryz.func100 rfl Tryz.ntmps100 (by decide) (by simp) rfl fun w0 ow0 => ?_
 refine okC_rg good ?_
 simp [go_sem]
 repeat (with_reducible refine And.intro ?_ ?_; first | omega | assumption | (simp only [inI]; omega))
 refine okC_seq ?_
 refine okC_rg good ?_
 simp [go_sem]
 repeat (with_reducible refine And.intro ?_ ?_; first | omega | assumption | (simp only [inI]; omega))
 refine okC_block ?_
 refine okC_rounds (fun (i : Nat) => [(0, .val (nOps l)), (1, .val (.one (.func (.func 69) #[] #[]))), (7, .val (dI l.length)), (8, .val (dI i))]) (fun (i : Nat) => (l).length - i) (fun (i : Nat) => (i ≤ (l).length) ∧ (((l).take i).any (fun f => !validOp f) = false)) (0) [] ⟨(by first | omega | rfl | (simp; done) | (simp; omega) | simp), (by first | omega | rfl | (simp; done) | (simp; omega) | simp)⟩ (by simp [go_sem]) ?_
 rintro i ⟨h1, h2⟩ K1 hK1
 refine okC_rg good ?_
 simp [go_sem]
 repeat (with_reducible refine And.intro ?_ ?_; first | omega | assumption | (simp only [inI]; omega))
 refine okC_seq ?_
 refine okC_if ?_
 simp [go_sem]
 first | refine gC_dec (fun a => ?_) (fun a => ?_) | refine gC_ndec (fun a => ?_) (fun a => ?_) | refine gC_of (fun a => ?_) (fun a => ?_)
 ·try simp at a
  refine okC_skip ?_
  refine okC_seq ?_
  refine okC_block ?_
  obtain ⟨c, hc⟩ := at_of (l := l) (i := i) (by omega)
  refine okC_rg good ?_
  simp [go_sem, hc]
  repeat (with_reducible refine And.intro ?_ ?_; first | omega | assumption | (simp only [inI]; omega))
  refine okC_rg good ?_
  simp [go_sem, hc]
  repeat (with_reducible refine And.intro ?_ ?_; first | omega | assumption | (simp only [inI]; omega))
  first | refine callK_of (fn_impl_IsValidBatch_1 c (hs c (List.mem_of_getElem? hc))) (by simp [go_sem]) ?_ | refine callK_fz (fn_impl_IsValidBatch_1 c (hs c (List.mem_of_getElem? hc))) (by simp [go_sem]) (by simp [go_sem]) ?_
  simp [go_sem, hc]
  repeat (with_reducible refine And.intro ?_ ?_; first | omega | assumption | (simp only [inI]; omega))
  refine okC_if ?_
  simp [go_sem, hc]
  first | refine gC_dec (fun b => ?_) (fun b => ?_) | refine gC_ndec (fun b => ?_) (fun b => ?_) | refine gC_of (fun b => ?_) (fun b => ?_)
  ·try simp at b
   have hn := ix_at hc h2 (by simp [b])
   refine okC_rg good ?_
   simp [go_sem, hc, hn]
   repeat (with_reducible refine And.intro ?_ ?_; first | omega | assumption | (simp only [inI]; omega))
   refine okC_ret (show K1 _ _ from retE hK1 ?_)
   simp [go_sem, hc, hn]
   all_goals first | done | omega | grind | (simp; omega) | (simp_all; done) | (simp_all; omega)
  ·try simp at b
   refine okC_skip ?_
   refine okC_rg1 good ?_
   simp [go_sem, hc]
   repeat (with_reducible refine And.intro ?_ ?_; first | omega | assumption | (simp only [inI]; omega))
   refine normalE hK1 ⟨i + 1, [], ⟨(by omega), (any_step hc h2 (by simp [b]))⟩, (by show _ < _; first | omega | simp <;> omega), (by simp [go_sem, hc])⟩
 ·try simp at a
  refine okC_exit (show K1 _ _ from exitE hK1 ?_)
  have hf := any_fin h2 a
  have hx := ix_none hf
  refine okC_rg good ?_
  simp [go_sem, hf, hx]
  repeat (with_reducible refine And.intro ?_ ?_; first | omega | assumption | (simp only [inI]; omega))
  refine okC_ret ?_
  simp [go_sem, hf, hx]
  all_goals first | done | omega | grind | (simp; omega) | (simp_all; done) | (simp_all; omega)
theorem fn_cf_op (l : List Opn) (hl : l.length ≤ 1048576) (hs : ∀ o ∈ l, smallO o) : FnOk Tryz.prog 68 [nOps l, .one (.func (.func 69) #[] #[])] (fun res' => res' = .val (dB (l.any fun f => !validOp f))) := by
 refine fn_of good (rs := [.tmp 4]) Tryz.func68 rfl Tryz.ntmps68 (by decide) (by simp) rfl fun w0 ow0 => ?_
 have hq : decide (0 ≤ ix (fun f => !validOp f) l) = l.any fun f => !validOp f := by rw [Bool.eq_iff_iff, decide_eq_true_eq]; exact ix_nonneg
 refine okC_rg good ?_
 simp [go_sem]
 repeat (with_reducible refine And.intro ?_ ?_; first | omega | assumption | (simp only [inI]; omega))
 refine okC_rg good ?_
 simp [go_sem]
 repeat (with_reducible refine And.intro ?_ ?_; first | omega | assumption | (simp only [inI]; omega))
 first | refine callK_of (fn_ixf_op l hl hs) (by simp [go_sem]) ?_ | refine callK_fz (fn_ixf_op l hl hs) (by simp [go_sem]) (by simp [go_sem]) ?_
 simp [go_sem]
 repeat (with_reducible refine And.intro ?_ ?_; first | omega | assumption | (simp only [inI]; omega))
 refine okC_ret ?_
 simp [go_sem, hq]
 all_goals first | done | omega | grind | (simp; omega) | (simp_all; done) | (simp_all; omega)
theorem fn_impl_IsValidBatch (l : List Opn) (hs : smallB l) : FnOk Tryz.prog 39 [nBat l] (fun res' => res' = .val (dB (validBat l))) := by
 refine fn_of good (rs := [.tmp 2]) Tryz.func39 rfl Tryz.ntmps39 (by decide) (by simp) rfl fun w0 ow0 => ?_
 refine okC_rg good ?_
 simp [go_sem]
 repeat (with_reducible refine And.intro ?_ ?_; first | omega | assumption | (simp only [inI]; omega))
 refine okC_rg good ?_
 simp [go_sem]
 repeat (with_reducible refine And.intro ?_ ?_; first | omega | assumption | (simp only [inI]; omega))
 first | refine gI_dec (fun e => ?_) (fun e => ?_) | refine gI_ndec (fun e => ?_) (fun e => ?_) | refine gI_of (fun e => ?_) (fun e => ?_)
 ·have e' := e; try simp at e'
  simp [go_sem, e]
  repeat (with_reducible refine And.intro ?_ ?_; first | omega | assumption | (simp only [inI]; omega))
  first | refine callK_of (fn_cf_op l hs.1 hs.2) (by simp [go_sem]) ?_ | refine callK_fz (fn_cf_op l hs.1 hs.2) (by simp [go_sem]) (by simp [go_sem]) ?_
  simp [go_sem, e]
  repeat (with_reducible refine And.intro ?_ ?_; first | omega | assumption | (simp only [inI]; omega))
  refine okC_ret ?_
  simp [go_sem, e]
  have h4 : l.length ≤ 6 := by omega
  all_goals (simp [validBat, h4]; rw [← List.not_all_eq_any_not])
 ·have e' := e; try simp at e'
  simp [go_sem, e]
  repeat (with_reducible refine And.intro ?_ ?_; first | omega | assumption | (simp only [inI]; omega))
  refine okC_ret ?_
  simp [go_sem, e]
  have h4 : ¬ l.length ≤ 6 := by omega
  all_goals simp [validBat, h4]
theorem fn_impl_originName (s k : Int) (hs : 0 ≤ s ∧ s ≤ 3) (hk : -9000000000000000000 ≤ k ∧ k ≤ 9000000000000000000) : FnOk Tryz.prog 107 [dI s, dI k] (fun res' => res' = .val (dS (nameStr s k))) := by
 refine fn_of good (rs := [.tmp 4]) Tryz.func107 rfl Tryz.ntmps107 (by decide) (by simp) rfl fun w0 ow0 => ?_
 have hl := fmtI_len hk
 have hsrc : ([97, 98, 99, 100].drop s.toNat).take ((s + 1).toNat - s.toNat) = [srcB s] := by rcases (show s = 0 ∨ s = 1 ∨ s = 2 ∨ s = 3 by omega) with rfl | rfl | rfl | rfl <;> rfl
 refine okC_rg good ?_
 simp [go_sem, hsrc]
 repeat (with_reducible refine And.intro ?_ ?_; first | omega | assumption | (simp only [inI]; omega))
 refine okC_dt good 7 rfl (by decide) (by kernel_rfl) ?_
 simp [go_sem, hsrc]
 repeat (with_reducible refine And.intro ?_ ?_; first | omega | assumption | (simp only [inI]; omega))
 first | refine callD_of (fn_impl_FormatInt k (by omega)) (by simp [go_sem]) rfl ?_ | refine callD_fz (fn_impl_FormatInt k (by omega)) (by simp [go_sem]) (by simp [go_sem]) rfl ?_
 simp [go_sem, hsrc]
 repeat (with_reducible refine And.intro ?_ ?_; first | omega | assumption | (simp only [inI]; omega))
 refine okC_ret ?_
 simp [go_sem, hsrc]
 simp [nameStr]
theorem fn_impl_FormatVerdict (v : Ver) : FnOk Tryz.prog 108 [dVer v] (fun res' => res' = .val (dS (verStr v))) := by
 refine fn_of good (rs := [.tmp 2]) Tryz.func108 rfl Tryz.ntmps108 (by decide) (by simp) rfl fun w0 ow0 => ?_
 refine okC_rg good ?_
 simp [go_sem]
 repeat (with_reducible refine And.intro ?_ ?_; first | omega | assumption | (simp only [inI]; omega))
 refine okC_seq ?_
 refine okC_rg good ?_
 simp [go_sem]
 repeat (with_reducible refine And.intro ?_ ?_; first | omega | assumption | (simp only [inI]; omega))
 first | refine callK_of (fn_impl_IsValidVerdict _) (by simp [go_sem]) ?_ | refine callK_fz (fn_impl_IsValidVerdict _) (by simp [go_sem]) (by simp [go_sem]) ?_
 simp [go_sem]
 repeat (with_reducible refine And.intro ?_ ?_; first | omega | assumption | (simp only [inI]; omega))
 refine okC_if ?_
 simp [go_sem]
 first | refine gC_dec (fun b => ?_) (fun b => ?_) | refine gC_ndec (fun b => ?_) (fun b => ?_) | refine gC_of (fun b => ?_) (fun b => ?_)
 ·try simp at b
  refine okC_rg good ?_
  simp [go_sem]
  repeat (with_reducible refine And.intro ?_ ?_; first | omega | assumption | (simp only [inI]; omega))
  refine okC_ret ?_
  simp [go_sem]
  simp [verStr, b]
 ·try simp at b
  refine okC_skip ?_
  have hv := validVer_iff.1 b
  have l1 := fmtI_len (n := v.a) (by omega)
  have l2 := fmtI_len (n := v.b) (by omega)
  have l3 := fmtI_len (n := v.time) (by omega)
  refine okC_rg good ?_
  simp [go_sem]
  repeat (with_reducible refine And.intro ?_ ?_; first | omega | assumption | (simp only [inI]; omega))
  refine okC_seq ?_
  refine okC_rg good ?_
  simp [go_sem]
  repeat (with_reducible refine And.intro ?_ ?_; first | omega | assumption | (simp only [inI]; omega))
  refine okC_if ?_
  simp [go_sem]
  first | refine gC_dec (fun s => ?_) (fun s => ?_) | refine gC_ndec (fun s => ?_) (fun s => ?_) | refine gC_of (fun s => ?_) (fun s => ?_)
  ·try simp at s
   refine okC_rg1 good ?_
   simp [go_sem]
   repeat (with_reducible refine And.intro ?_ ?_; first | omega | assumption | (simp only [inI]; omega))
   refine okC_dt good 14 rfl (by decide) (by kernel_rfl) ?_
   simp [go_sem]
   repeat (with_reducible refine And.intro ?_ ?_; first | omega | assumption | (simp only [inI]; omega))
   first | refine callD_of (fn_impl_FormatInt v.a (by omega)) (by simp [go_sem]) rfl ?_ | refine callD_fz (fn_impl_FormatInt v.a (by omega)) (by simp [go_sem]) (by simp [go_sem]) rfl ?_
   simp [go_sem]
   repeat (with_reducible refine And.intro ?_ ?_; first | omega | assumption | (simp only [inI]; omega))
   first | refine callD_of (fn_impl_FormatInt v.b (by omega)) (by simp [go_sem]) rfl ?_ | refine callD_fz (fn_impl_FormatInt v.b (by omega)) (by simp [go_sem]) (by simp [go_sem]) rfl ?_
   simp [go_sem]
   repeat (with_reducible refine And.intro ?_ ?_; first | omega | assumption | (simp only [inI]; omega))
   first | refine callD_of (fn_impl_FormatInt v.time (by omega)) (by simp [go_sem]) rfl ?_ | refine callD_fz (fn_impl_FormatInt v.time (by omega)) (by simp [go_sem]) (by simp [go_sem]) rfl ?_
   simp [go_sem]
   repeat (with_reducible refine And.intro ?_ ?_; first | omega | assumption | (simp only [inI]; omega))
   refine okC_ret ?_
   simp [go_sem]
   simp [verStr, b, verTxt, s, signB]
  ·try simp at s
   refine okC_skip ?_
   refine okC_dt good 14 rfl (by decide) (by kernel_rfl) ?_
   simp [go_sem]
   repeat (with_reducible refine And.intro ?_ ?_; first | omega | assumption | (simp only [inI]; omega))
   first | refine callD_of (fn_impl_FormatInt v.a (by omega)) (by simp [go_sem]) rfl ?_ | refine callD_fz (fn_impl_FormatInt v.a (by omega)) (by simp [go_sem]) (by simp [go_sem]) rfl ?_
   simp [go_sem]
   repeat (with_reducible refine And.intro ?_ ?_; first | omega | assumption | (simp only [inI]; omega))
   first | refine callD_of (fn_impl_FormatInt v.b (by omega)) (by simp [go_sem]) rfl ?_ | refine callD_fz (fn_impl_FormatInt v.b (by omega)) (by simp [go_sem]) (by simp [go_sem]) rfl ?_
   simp [go_sem]
   repeat (with_reducible refine And.intro ?_ ?_; first | omega | assumption | (simp only [inI]; omega))
   first | refine callD_of (fn_impl_FormatInt v.time (by omega)) (by simp [go_sem]) rfl ?_ | refine callD_fz (fn_impl_FormatInt v.time (by omega)) (by simp [go_sem]) (by simp [go_sem]) rfl ?_
   simp [go_sem]
   repeat (with_reducible refine And.intro ?_ ?_; first | omega | assumption | (simp only [inI]; omega))
   refine okC_ret ?_
   simp [go_sem]
   simp [verStr, b, verTxt, s, signB]
theorem fn_impl_formatRecord (r : Rec) (hv : validRec r = true) : FnOk Tryz.prog 106 [nRec r] (fun res' => res' = .val (dS (recTxt r))) := by
 refine fn_of good (rs := [.tmp 2]) Tryz.func106 rfl Tryz.ntmps106 (by decide) (by simp) rfl fun w0 ow0 => ?_
 have hv2 := validRec_iff.1 hv
 have hf := rec_fields hv
 have hl := recTxt_len hv
 have hsh := rec_shape hv
 have hgt : goneTxt r = nameStr r.source r.key ++ 46 :: fmtI r.version := rfl
 have l2 := fmtI_len (n := r.key) (by omega)
 have l3 := fmtI_len (n := r.version) (by omega)
 have hnl : (nameStr r.source r.key).length ≤ 21 := by simp [nameStr]; omega
 have hjl := joinC_len 124 40 r.fields hf.2
 have hjl : (joinC 124 r.fields).length ≤ 164 := by rw [hf.1] at hjl; omega
 refine okC_rg good ?_
 simp [go_sem]
 repeat (with_reducible refine And.intro ?_ ?_; first | omega | assumption | (simp only [inI]; omega))
 refine okC_dt good 15 rfl (by decide) (by kernel_rfl) ?_
 simp [go_sem]
 repeat (with_reducible refine And.intro ?_ ?_; first | omega | assumption | (simp only [inI]; omega))
 first | refine callD_of (fn_impl_originName r.source r.key hv2.1 (by omega)) (by simp [go_sem]) rfl ?_ | refine callD_fz (fn_impl_originName r.source r.key hv2.1 (by omega)) (by simp [go_sem]) (by simp [go_sem]) rfl ?_
 simp [go_sem]
 repeat (with_reducible refine And.intro ?_ ?_; first | omega | assumption | (simp only [inI]; omega))
 first | refine callD_of (fn_impl_FormatInt r.version (by omega)) (by simp [go_sem]) rfl ?_ | refine callD_fz (fn_impl_FormatInt r.version (by omega)) (by simp [go_sem]) (by simp [go_sem]) rfl ?_
 simp [go_sem]
 repeat (with_reducible refine And.intro ?_ ?_; first | omega | assumption | (simp only [inI]; omega))
 first | refine callD_of (fn_strings_Join r.fields 124 (by omega) (by omega)) (by simp [go_sem]) rfl ?_ | refine callD_fz (fn_strings_Join r.fields 124 (by omega) (by omega)) (by simp [go_sem]) (by simp [go_sem]) rfl ?_
 simp [go_sem]
 repeat (with_reducible refine And.intro ?_ ?_; first | omega | assumption | (simp only [inI]; omega))
 refine okC_ret ?_
 simp [go_sem]
 simp [hsh, hgt]
theorem fn_impl_FormatRecord (r : Rec) (hs : smallR r) : FnOk Tryz.prog 159 [nRec r] (fun res' => res' = .val (dS (recStr r))) := by
 refine fn_of good (rs := [.tmp 2]) Tryz.func159 rfl Tryz.ntmps159 (by decide) (by simp) rfl fun w0 ow0 => ?_
 refine okC_rg good ?_
 simp [go_sem]
 repeat (with_reducible refine And.intro ?_ ?_; first | omega | assumption | (simp only [inI]; omega))
 refine okC_seq ?_
 refine okC_rg good ?_
 simp [go_sem]
 repeat (with_reducible refine And.intro ?_ ?_; first | omega | assumption | (simp only [inI]; omega))
 first | refine callK_of (fn_impl_IsValidRecord _ (by first | assumption | omega | (simp; omega) | grind)) (by simp [go_sem]) ?_ | refine callK_fz (fn_impl_IsValidRecord _ (by first | assumption | omega | (simp; omega) | grind)) (by simp [go_sem]) (by simp [go_sem]) ?_
 simp [go_sem]
 repeat (with_reducible refine And.intro ?_ ?_; first | omega | assumption | (simp only [inI]; omega))
 refine okC_if ?_
 simp [go_sem]
 first | refine gC_dec (fun b => ?_) (fun b => ?_) | refine gC_ndec (fun b => ?_) (fun b => ?_) | refine gC_of (fun b => ?_) (fun b => ?_)
 ·try simp at b
  refine okC_rg good ?_
  simp [go_sem]
  repeat (with_reducible refine And.intro ?_ ?_; first | omega | assumption | (simp only [inI]; omega))
  refine okC_ret ?_
  simp [go_sem]
  simp [recStr, b]
 ·try simp at b
  refine okC_skip ?_
  refine okC_rg good ?_
  simp [go_sem]
  repeat (with_reducible refine And.intro ?_ ?_; first | omega | assumption | (simp only [inI]; omega))
  first | refine callK_of (fn_impl_formatRecord r b) (by simp [go_sem]) ?_ | refine callK_fz (fn_impl_formatRecord r b) (by simp [go_sem]) (by simp [go_sem]) ?_
  simp [go_sem]
  repeat (with_reducible refine And.intro ?_ ?_; first | omega | assumption | (simp only [inI]; omega))
  refine okC_ret ?_
  simp [go_sem]
  simp [recStr, b]
theorem fn_impl_FormatOp (o : Opn) (hs : smallO o) : FnOk Tryz.prog 72 [nOp o] (fun res' => res' = .val (dS (opStr o))) := by
 refine fn_of good (rs := [.tmp 2]) Tryz.func72 rfl Tryz.ntmps72 (by decide) (by simp) rfl fun w0 ow0 => ?_
 refine okC_rg good ?_
 simp [go_sem]
 repeat (with_reducible refine And.intro ?_ ?_; first | omega | assumption | (simp only [inI]; omega))
 refine okC_seq ?_
 refine okC_rg good ?_
 simp [go_sem]
 repeat (with_reducible refine And.intro ?_ ?_; first | omega | assumption | (simp only [inI]; omega))
 first | refine callK_of (fn_impl_IsValidOp _ (by first | assumption | omega | (simp; omega) | grind)) (by simp [go_sem]) ?_ | refine callK_fz (fn_impl_IsValidOp _ (by first | assumption | omega | (simp; omega) | grind)) (by simp [go_sem]) (by simp [go_sem]) ?_
 simp [go_sem]
 repeat (with_reducible refine And.intro ?_ ?_; first | omega | assumption | (simp only [inI]; omega))
 refine okC_if ?_
 simp [go_sem]
 first | refine gC_dec (fun b => ?_) (fun b => ?_) | refine gC_ndec (fun b => ?_) (fun b => ?_) | refine gC_of (fun b => ?_) (fun b => ?_)
 ·try simp at b
  refine okC_rg good ?_
  simp [go_sem]
  repeat (with_reducible refine And.intro ?_ ?_; first | omega | assumption | (simp only [inI]; omega))
  refine okC_ret ?_
  simp [go_sem]
  simp [opStr, b]
 ·try simp at b
  refine okC_skip ?_
  refine okC_seq ?_
  have ho := op_cases b
  refine okC_rg good ?_
  simp [go_sem]
  repeat (with_reducible refine And.intro ?_ ?_; first | omega | assumption | (simp only [inI]; omega))
  refine okC_block ?_
  refine okC_rg good ?_
  simp [go_sem]
  repeat (with_reducible refine And.intro ?_ ?_; first | omega | assumption | (simp only [inI]; omega))
  refine okC_if ?_
  simp [go_sem]
  first | refine gC_dec (fun k1 => ?_) (fun k1 => ?_) | refine gC_ndec (fun k1 => ?_) (fun k1 => ?_) | refine gC_of (fun k1 => ?_) (fun k1 => ?_)
  ·try simp at k1
   obtain ⟨hv, ht⟩ : validRec o.rc = true ∧ opStr o = wPut ++ 32 :: recTxt o.rc := by rcases ho with ⟨r, hr, rfl, ht⟩ | ⟨r, hr, rfl, ht⟩ | ⟨v, hv, rfl, ht⟩ | ⟨v, hv, rfl, ht⟩ <;> simp_all [opStr]
   have hl := recTxt_len hv
   refine okC_rg good ?_
   simp [go_sem]
   repeat (with_reducible refine And.intro ?_ ?_; first | omega | assumption | (simp only [inI]; omega))
   first | refine callK_of (fn_impl_formatRecord o.rc hv) (by simp [go_sem]) ?_ | refine callK_fz (fn_impl_formatRecord o.rc hv) (by simp [go_sem]) (by simp [go_sem]) ?_
   simp [go_sem]
   repeat (with_reducible refine And.intro ?_ ?_; first | omega | assumption | (simp only [inI]; omega))
   refine okC_ret ?_
   simp [go_sem]
   simp [ht, wPut]
  ·try simp at k1
   refine okC_rg good ?_
   simp [go_sem]
   repeat (with_reducible refine And.intro ?_ ?_; first | omega | assumption | (simp only [inI]; omega))
   refine okC_if ?_
   simp [go_sem]
   first | refine gC_dec (fun k2 => ?_) (fun k2 => ?_) | refine gC_ndec (fun k2 => ?_) (fun k2 => ?_) | refine gC_of (fun k2 => ?_) (fun k2 => ?_)
   ·try simp at k2
    obtain ⟨hg, ht⟩ : goneRec o.rc = true ∧ opStr o = wDel ++ 32 :: goneTxt o.rc := by rcases ho with ⟨r, hr, rfl, ht⟩ | ⟨r, hr, rfl, ht⟩ | ⟨v, hv, rfl, ht⟩ | ⟨v, hv, rfl, ht⟩ <;> simp_all [opStr]
    have hg2 := goneRec_iff.1 hg
    have l2 := fmtI_len (n := o.rc.key) (by omega)
    have l3 := fmtI_len (n := o.rc.version) (by omega)
    have hnl : (nameStr o.rc.source o.rc.key).length ≤ 21 := by simp [nameStr]; omega
    refine okC_dt good 14 rfl (by decide) (by kernel_rfl) ?_
    simp [go_sem]
    repeat (with_reducible refine And.intro ?_ ?_; first | omega | assumption | (simp only [inI]; omega))
    first | refine callD_of (fn_impl_originName o.rc.source o.rc.key hg2.1 (by omega)) (by simp [go_sem]) rfl ?_ | refine callD_fz (fn_impl_originName o.rc.source o.rc.key hg2.1 (by omega)) (by simp [go_sem]) (by simp [go_sem]) rfl ?_
    simp [go_sem]
    repeat (with_reducible refine And.intro ?_ ?_; first | omega | assumption | (simp only [inI]; omega))
    first | refine callD_of (fn_impl_FormatInt o.rc.version (by omega)) (by simp [go_sem]) rfl ?_ | refine callD_fz (fn_impl_FormatInt o.rc.version (by omega)) (by simp [go_sem]) (by simp [go_sem]) rfl ?_
    simp [go_sem]
    repeat (with_reducible refine And.intro ?_ ?_; first | omega | assumption | (simp only [inI]; omega))
    refine okC_ret ?_
    simp [go_sem]
    simp [ht, wDel, goneTxt]
   ·try simp at k2
    refine okC_rg good ?_
    simp [go_sem]
    repeat (with_reducible refine And.intro ?_ ?_; first | omega | assumption | (simp only [inI]; omega))
    refine okC_if ?_
    simp [go_sem]
    first | refine gC_dec (fun k3 => ?_) (fun k3 => ?_) | refine gC_ndec (fun k3 => ?_) (fun k3 => ?_) | refine gC_of (fun k3 => ?_) (fun k3 => ?_)
    ·try simp at k3
     obtain ⟨hv, ht⟩ : validVer o.ver = true ∧ opStr o = wVer ++ 32 :: verStr o.ver := by rcases ho with ⟨r, hr, rfl, ht⟩ | ⟨r, hr, rfl, ht⟩ | ⟨v, hv, rfl, ht⟩ | ⟨v, hv, rfl, ht⟩ <;> simp_all [opStr, verStr]
     have hl : (verStr o.ver).length ≤ 62 := by unfold verStr; rw [if_pos hv]; exact verTxt_len hv
     refine okC_rg good ?_
     simp [go_sem]
     repeat (with_reducible refine And.intro ?_ ?_; first | omega | assumption | (simp only [inI]; omega))
     first | refine callK_of (fn_impl_FormatVerdict o.ver) (by simp [go_sem]) ?_ | refine callK_fz (fn_impl_FormatVerdict o.ver) (by simp [go_sem]) (by simp [go_sem]) ?_
     simp [go_sem]
     repeat (with_reducible refine And.intro ?_ ?_; first | omega | assumption | (simp only [inI]; omega))
     refine okC_ret ?_
     simp [go_sem]
     simp [ht, wVer]
    ·try simp at k3
     refine okC_skip ?_
     obtain ⟨hv, ht⟩ : validVer o.ver = true ∧ opStr o = wRet ++ 32 :: verStr o.ver := by rcases ho with ⟨r, hr, rfl, ht⟩ | ⟨r, hr, rfl, ht⟩ | ⟨v, hv, rfl, ht⟩ | ⟨v, hv, rfl, ht⟩ <;> simp_all [opStr, verStr]
     have hl : (verStr o.ver).length ≤ 62 := by unfold verStr; rw [if_pos hv]; exact verTxt_len hv
     refine okC_rg good ?_
     simp [go_sem]
     repeat (with_reducible refine And.intro ?_ ?_; first | omega | assumption | (simp only [inI]; omega))
     first | refine callK_of (fn_impl_FormatVerdict o.ver) (by simp [go_sem]) ?_ | refine callK_fz (fn_impl_FormatVerdict o.ver) (by simp [go_sem]) (by simp [go_sem]) ?_
     simp [go_sem]
     repeat (with_reducible refine And.intro ?_ ?_; first | omega | assumption | (simp only [inI]; omega))
     refine okC_ret ?_
     simp [go_sem]
     simp [ht, wRet]
end Go.Proofs.YtfhfidecmdhkoaaGreatDoor

end
section
set_option maxRecDepth 10000
namespace Go.Proofs.YtfhfidecmdhkoaaGreatDoor
open Go.Dv Go.Pl
theorem set_fill {l : List Opn} {i : Nat} {c : Opn} (h : l[i]? = some c) : ((l.take i).map opStr ++ List.replicate (l.length - i) ([] : Str)).set i (opStr c) = (l.take (i + 1)).map opStr ++ List.replicate (l.length - (i + 1)) [] := by
 have hi := getElem?_lt h
 have hl : ((l.take i).map opStr).length = i := by simp; omega
 rw [List.set_append, if_neg (by omega), hl, Nat.sub_self, map_snoc opStr h, show l.length - i = (l.length - (i + 1)) + 1 by omega, List.replicate_succ]
 simp
def fillO (l : List Opn) (i : Nat) : List Str := (l.take i).map opStr ++ List.replicate (l.length - i) []
theorem fillO_len (l : List Opn) (i : Nat) (h : i ≤ l.length) : (fillO l i).length = l.length := by simp [fillO]; omega
theorem fillO_set {l : List Opn} {i : Nat} {c : Opn} (h : l[i]? = some c) : (fillO l i).set i (opStr c) = fillO l (i + 1) := set_fill h
theorem fillO_zero (l : List Opn) : fillO l 0 = List.replicate l.length [] := by simp [fillO]
theorem fillO_all (l : List Opn) : fillO l l.length = l.map opStr := by simp [fillO]
theorem fn_impl_formatBatch (l : List Opn) (hv : validBat l = true) : FnOk Tryz.prog 41 [nBat l] (fun res' => res' = .val (dS (batTxt l))) := by
 refine fn_of good (rs := [.tmp 2]) Tryz.func41 rfl Tryz.ntmps41 (by decide) (by simp) rfl fun w0 ow0 => ?_
 have hv2 := validBat_iff.1 hv
 have hz : List.replicate l.length (dS []) = (fillO l 0).map dS := by rw [fillO_zero, List.map_replicate]
 refine okC_rg good ?_
 simp [go_sem, hz]
 repeat (with_reducible refine And.intro ?_ ?_; first | omega | assumption | (simp only [inI]; omega))
 refine okC_rg good ?_
 simp [go_sem, hz]
 repeat (with_reducible refine And.intro ?_ ?_; first | omega | assumption | (simp only [inI]; omega))
 refine okC_seq ?_
 refine okC_rg good ?_
 simp [go_sem, hz]
 repeat (with_reducible refine And.intro ?_ ?_; first | omega | assumption | (simp only [inI]; omega))
 refine okC_block ?_
 refine okC_rounds (fun (i : Nat) => [(1, .own (.bx true (nBat l))), (3, .own (oStrs (fillO l i))), (11, .val (nOps l)), (12, .val (dI l.length)), (13, .val (dI i))]) (fun (i : Nat) => l.length - i) (fun (i : Nat) => (i ≤ l.length)) (0) [] (by first | omega | rfl | (simp; done) | (simp; omega) | simp) (by simp [go_sem, hz]) ?_
 rintro i h1 K1 hK1
 refine okC_rg good ?_
 simp [go_sem]
 repeat (with_reducible refine And.intro ?_ ?_; first | omega | assumption | (simp only [inI]; omega))
 refine okC_seq ?_
 refine okC_if ?_
 simp [go_sem]
 first | refine gC_dec (fun a => ?_) (fun a => ?_) | refine gC_ndec (fun a => ?_) (fun a => ?_) | refine gC_of (fun a => ?_) (fun a => ?_)
 ·try simp at a
  refine okC_skip ?_
  refine okC_seq ?_
  refine okC_block ?_
  obtain ⟨c, hc⟩ := at_of (l := l) (i := i) (by omega)
  have hcm := List.mem_of_getElem? hc
  have hfs : ((fillO l i).set i (opStr c)).map dS = (fillO l (i + 1)).map dS := by rw [fillO_set hc]
  have hfl := fillO_len l i h1
  obtain ⟨x, hx⟩ := at_of (l := fillO l i) (i := i) (by omega)
  refine okC_rg good ?_
  simp [go_sem, hc, hfl, hx]
  repeat (with_reducible refine And.intro ?_ ?_; first | omega | assumption | (simp only [inI]; omega))
  refine okC_rg1 good ?_
  simp [go_sem, hc, hfl, hx]
  repeat (with_reducible refine And.intro ?_ ?_; first | omega | assumption | (simp only [inI]; omega))
  first | refine callK_of (fn_impl_FormatOp c (smallO_val (hv2.1 c hcm))) (by simp [go_sem]) ?_ | refine callK_fz (fn_impl_FormatOp c (smallO_val (hv2.1 c hcm))) (by simp [go_sem]) (by simp [go_sem]) ?_
  simp [go_sem, hc, hfl, hx]
  repeat (with_reducible refine And.intro ?_ ?_; first | omega | assumption | (simp only [inI]; omega))
  have hst : ((fillO l i).map dS).set i (dS (opStr c)) = (fillO l (i + 1)).map dS := by rw [← List.map_set, fillO_set hc]
  refine okC_rg1 good ?_
  simp [go_sem, hc, hfl, hx, hst]
  repeat (with_reducible refine And.intro ?_ ?_; first | omega | assumption | (simp only [inI]; omega))
  refine normalE hK1 ⟨i + 1, [], (by first | omega | (simp; omega) | grind), (by show _ < _; first | omega | simp <;> omega), (by simp [go_sem, hc, hfl, hx, hst])⟩
 ·try simp at a
  refine okC_exit (show K1 _ _ from exitE hK1 ?_)
  obtain rfl : i = l.length := by omega
  have hfa := fillO_all l
  have hjl := opJ_len hv2.1
  have hjl : (joinC 59 (l.map opStr)).length ≤ 1290 := by unfold opJ at hjl; omega
  have hm := ops_txt hv2.1
  rw [hfa]
  refine okC_rg good ?_
  simp [go_sem]
  repeat (with_reducible refine And.intro ?_ ?_; first | omega | assumption | (simp only [inI]; omega))
  first | refine callK_of (fn_strings_Join (l.map opStr) 59 (by simp; omega) (by omega)) (by simp [go_sem]) ?_ | refine callK_fz (fn_strings_Join (l.map opStr) 59 (by simp; omega) (by omega)) (by simp [go_sem]) (by simp [go_sem]) ?_
  simp [go_sem]
  repeat (with_reducible refine And.intro ?_ ?_; first | omega | assumption | (simp only [inI]; omega))
  refine okC_ret ?_
  simp [go_sem]
  simp [batTxt, hm]
theorem fn_impl_FormatBatch (l : List Opn) (hs : smallB l) : FnOk Tryz.prog 81 [nBat l] (fun res' => res' = .val (dS (batStr l))) := by
 refine fn_of good (rs := [.tmp 2]) Tryz.func81 rfl Tryz.ntmps81 (by decide) (by simp) rfl fun w0 ow0 => ?_
 refine okC_rg good ?_
 simp [go_sem]
 repeat (with_reducible refine And.intro ?_ ?_; first | omega | assumption | (simp only [inI]; omega))
 refine okC_seq ?_
 refine okC_rg good ?_
 simp [go_sem]
 repeat (with_reducible refine And.intro ?_ ?_; first | omega | assumption | (simp only [inI]; omega))
 first | refine callK_of (fn_impl_IsValidBatch _ (by first | assumption | omega | (simp; omega) | grind)) (by simp [go_sem]) ?_ | refine callK_fz (fn_impl_IsValidBatch _ (by first | assumption | omega | (simp; omega) | grind)) (by simp [go_sem]) (by simp [go_sem]) ?_
 simp [go_sem]
 repeat (with_reducible refine And.intro ?_ ?_; first | omega | assumption | (simp only [inI]; omega))
 refine okC_if ?_
 simp [go_sem]
 first | refine gC_dec (fun b => ?_) (fun b => ?_) | refine gC_ndec (fun b => ?_) (fun b => ?_) | refine gC_of (fun b => ?_) (fun b => ?_)
 ·try simp at b
  refine okC_rg good ?_
  simp [go_sem]
  repeat (with_reducible refine And.intro ?_ ?_; first | omega | assumption | (simp only [inI]; omega))
  refine okC_ret ?_
  simp [go_sem]
  simp [batStr, b]
 ·try simp at b
  refine okC_skip ?_
  refine okC_rg good ?_
  simp [go_sem]
  repeat (with_reducible refine And.intro ?_ ?_; first | omega | assumption | (simp only [inI]; omega))
  first | refine callK_of (fn_impl_formatBatch l b) (by simp [go_sem]) ?_ | refine callK_fz (fn_impl_formatBatch l b) (by simp [go_sem]) (by simp [go_sem]) ?_
  simp [go_sem]
  repeat (with_reducible refine And.intro ?_ ?_; first | omega | assumption | (simp only [inI]; omega))
  refine okC_ret ?_
  simp [go_sem]
  simp [batStr, b]
theorem fn_impl_Checksum (s : Str) (hs : s.length ≤ 1048576) : FnOk Tryz.prog 24 [dS s] (fun res' => res' = .val (dI (checksum s))) := by
 refine fn_of good (rs := [.tmp 2]) Tryz.func24 rfl Tryz.ntmps24 (by decide) (by simp) rfl fun w0 ow0 => ?_
 refine okC_rg good ?_
 simp [go_sem]
 repeat (with_reducible refine And.intro ?_ ?_; first | omega | assumption | (simp only [inI]; omega))
 refine okC_rg good ?_
 simp [go_sem]
 repeat (with_reducible refine And.intro ?_ ?_; first | omega | assumption | (simp only [inI]; omega))
 refine okC_seq ?_
 refine okC_rg good ?_
 simp [go_sem]
 repeat (with_reducible refine And.intro ?_ ?_; first | omega | assumption | (simp only [inI]; omega))
 refine okC_block ?_
 refine okC_rounds (fun (i : Nat) => [(0, .val (dS s)), (3, .val (dI ((s.take i).foldl sumStep 7))), (6, .val (dI s.length)), (7, .val (dI i))]) (fun (i : Nat) => (s).length - i) (fun (i : Nat) => (i ≤ (s).length) ∧ (0 ≤ (s.take i).foldl sumStep 7 ∧ (s.take i).foldl sumStep 7 < 9901)) (0) [] ⟨(by first | omega | rfl | (simp; done) | (simp; omega) | simp), (by first | omega | rfl | (simp; done) | (simp; omega) | simp)⟩ (by simp [go_sem]) ?_
 rintro i ⟨h1, h2⟩ K1 hK1
 refine okC_rg good ?_
 simp [go_sem]
 repeat (with_reducible refine And.intro ?_ ?_; first | omega | assumption | (simp only [inI]; omega))
 refine okC_seq ?_
 refine okC_if ?_
 simp [go_sem]
 first | refine gC_dec (fun a => ?_) (fun a => ?_) | refine gC_ndec (fun a => ?_) (fun a => ?_) | refine gC_of (fun a => ?_) (fun a => ?_)
 ·try simp at a
  refine okC_skip ?_
  refine okC_seq ?_
  refine okC_block ?_
  obtain ⟨c, hc⟩ := at_of (l := s) (i := i) (by omega)
  have hm := foldl_snoc sumStep 7 hc
  have hle := sumStep_le c h2
  have hq : (263 * ((s.take i).foldl sumStep 7) + c.toNat + 1).tmod 9901 = (s.take (i + 1)).foldl sumStep 7 := by rw [hm, sumStep, Int.mul_comm]
  rw [← hm] at hle
  have hcn := c.toNat_lt
  refine okC_rg good ?_
  simp [go_sem, hc, hq]
  repeat (with_reducible refine And.intro ?_ ?_; first | omega | assumption | (simp only [inI]; omega))
  refine okC_rg1 good ?_
  simp [go_sem, hc, hq]
  repeat (with_reducible refine And.intro ?_ ?_; first | omega | assumption | (simp only [inI]; omega))
  refine okC_rg1 good ?_
  simp [go_sem, hc, hq]
  repeat (with_reducible refine And.intro ?_ ?_; first | omega | assumption | (simp only [inI]; omega))
  refine normalE hK1 ⟨i + 1, [], ⟨(by omega), (hle)⟩, (by show _ < _; first | omega | simp <;> omega), (by simp [go_sem, hc, hq])⟩
 ·try simp at a
  refine okC_exit (show K1 _ _ from exitE hK1 ?_)
  have hi : i = s.length := by omega
  subst hi
  refine okC_rg good ?_
  simp [go_sem]
  repeat (with_reducible refine And.intro ?_ ?_; first | omega | assumption | (simp only [inI]; omega))
  refine okC_ret ?_
  simp [go_sem]
  simp [checksum]
theorem fn_impl_EncodeEntry (v : Int) (l : List Opn) (hs : smallB l) : FnOk Tryz.prog 18 [dI v, nBat l] (fun res' => res' = .val (dS (entStr v l))) := by
 refine fn_of good (rs := [.tmp 4]) Tryz.func18 rfl Tryz.ntmps18 (by decide) (by simp) rfl fun w0 ow0 => ?_
 refine okC_rg good ?_
 simp [go_sem]
 repeat (with_reducible refine And.intro ?_ ?_; first | omega | assumption | (simp only [inI]; omega))
 refine okC_seq ?_
 refine okC_rg good ?_
 simp [go_sem]
 repeat (with_reducible refine And.intro ?_ ?_; first | omega | assumption | (simp only [inI]; omega))
 first | refine callK_of (fn_impl_within _ _ _) (by simp [go_sem]) ?_ | refine callK_fz (fn_impl_within _ _ _) (by simp [go_sem]) (by simp [go_sem]) ?_
 simp [go_sem]
 repeat (with_reducible refine And.intro ?_ ?_; first | omega | assumption | (simp only [inI]; omega))
 first | refine gI_dec (fun e => ?_) (fun e => ?_) | refine gI_ndec (fun e => ?_) (fun e => ?_) | refine gI_of (fun e => ?_) (fun e => ?_)
 ·have e' := e; try simp at e'
  simp [go_sem, e]
  repeat (with_reducible refine And.intro ?_ ?_; first | omega | assumption | (simp only [inI]; omega))
  refine okC_if ?_
  simp [go_sem, e]
  refine okC_rg good ?_
  simp [go_sem, e]
  repeat (with_reducible refine And.intro ?_ ?_; first | omega | assumption | (simp only [inI]; omega))
  refine okC_ret ?_
  simp [go_sem, e]
  rw [entStr, if_neg]; simp [entB]; omega
 ·have e' := e; try simp at e'
  simp [go_sem, e]
  repeat (with_reducible refine And.intro ?_ ?_; first | omega | assumption | (simp only [inI]; omega))
  first | refine callK_of (fn_impl_IsValidBatch _ (by first | assumption | omega | (simp; omega) | grind)) (by simp [go_sem]) ?_ | refine callK_fz (fn_impl_IsValidBatch _ (by first | assumption | omega | (simp; omega) | grind)) (by simp [go_sem]) (by simp [go_sem]) ?_
  simp [go_sem, e]
  repeat (with_reducible refine And.intro ?_ ?_; first | omega | assumption | (simp only [inI]; omega))
  refine okC_if ?_
  simp [go_sem, e]
  first | refine gC_dec (fun b => ?_) (fun b => ?_) | refine gC_ndec (fun b => ?_) (fun b => ?_) | refine gC_of (fun b => ?_) (fun b => ?_)
  ·try simp at b
   refine okC_rg good ?_
   simp [go_sem, e]
   repeat (with_reducible refine And.intro ?_ ?_; first | omega | assumption | (simp only [inI]; omega))
   refine okC_ret ?_
   simp [go_sem, e]
   simp [entStr, entB, b]
  ·try simp at b
   refine okC_skip ?_
   have hh := head_len (v := v) (l := l) e' b
   have hb := batTxt_len b
   have hc := checksum_le (headTxt v l) 7 (by omega)
   have hl1 := fmtI_len (n := v) (by omega)
   have hl2 := fmtI_len (n := checksum (headTxt v l)) (by unfold checksum; omega)
   have hht : headTxt v l = fmtI v ++ batTxt l := rfl
   refine okC_dt good 5 rfl (by decide) (by kernel_rfl) ?_
   simp [go_sem, e]
   repeat (with_reducible refine And.intro ?_ ?_; first | omega | assumption | (simp only [inI]; omega))
   first | refine callD_of (fn_impl_FormatInt v (by omega)) (by simp [go_sem]) rfl ?_ | refine callD_fz (fn_impl_FormatInt v (by omega)) (by simp [go_sem]) (by simp [go_sem]) rfl ?_
   simp [go_sem, e]
   repeat (with_reducible refine And.intro ?_ ?_; first | omega | assumption | (simp only [inI]; omega))
   first | refine callD_of (fn_impl_formatBatch l b) (by simp [go_sem]) rfl ?_ | refine callD_fz (fn_impl_formatBatch l b) (by simp [go_sem]) (by simp [go_sem]) rfl ?_
   simp [go_sem, e]
   repeat (with_reducible refine And.intro ?_ ?_; first | omega | assumption | (simp only [inI]; omega))
   refine okC_rg good ?_
   simp [go_sem, e, hht.symm]
   repeat (with_reducible refine And.intro ?_ ?_; first | omega | assumption | (simp only [inI]; omega))
   first | refine callK_of (fn_impl_Checksum (headTxt v l) (by omega)) (by simp [go_sem]) ?_ | refine callK_fz (fn_impl_Checksum (headTxt v l) (by omega)) (by simp [go_sem]) (by simp [go_sem]) ?_
   simp [go_sem, e, hht.symm]
   repeat (with_reducible refine And.intro ?_ ?_; first | omega | assumption | (simp only [inI]; omega))
   first | refine callK_of (fn_impl_FormatInt (checksum (headTxt v l)) (by unfold checksum; omega)) (by simp [go_sem]) ?_ | refine callK_fz (fn_impl_FormatInt (checksum (headTxt v l)) (by unfold checksum; omega)) (by simp [go_sem]) (by simp [go_sem]) ?_
   simp [go_sem, e, hht.symm]
   repeat (with_reducible refine And.intro ?_ ?_; first | omega | assumption | (simp only [inI]; omega))
   refine okC_ret ?_
   simp [go_sem, e, hht.symm]
   simp [entStr, entB, e', b, entTxt]
end Go.Proofs.YtfhfidecmdhkoaaGreatDoor

end
section
set_option maxRecDepth 10000
namespace Go.Proofs.YtfhfidecmdhkoaaGreatDoor
open Go.Dv Go.Pl
theorem fn_pi_yes (s : Str) (hs : s.length ≤ 1048576) (hp : parseB s = true) : FnOk Tryz.prog 44 [dS s] (fun res' => res' = .tup [.val (dI (getI s)), .val (dB (parseB s))]) := by
 refine fn_of good (rs := [.tmp 2, .tmp 3]) Tryz.func44 rfl Tryz.ntmps44 (by decide) (by simp) rfl fun w0 ow0 => ?_
 have hv := parseB_in hp
 have hf : fmtI (parseV s) = s := by simp only [parseB, Bool.and_eq_true, decide_eq_true_eq] at hp; exact hp.2
 have ha : Lib.atoiAll s = .ok (parseV s) := (congrArg Lib.atoiAll hf.symm).trans (atoi_fmt hv)
 have hg : getI s = parseV s := by rw [getI_eq, if_pos hp]
 refine okC_rg good ?_
 simp [go_sem]
 repeat (with_reducible refine And.intro ?_ ?_; first | omega | assumption | (simp only [inI]; omega))
 refine okC_rg good ?_
 simp [go_sem]
 repeat (with_reducible refine And.intro ?_ ?_; first | omega | assumption | (simp only [inI]; omega))
 first | refine callK_of (fn_strconv_Atoi_ok s (parseV s) hs ha) (by simp [go_sem]) ?_ | refine callK_fz (fn_strconv_Atoi_ok s (parseV s) hs ha) (by simp [go_sem]) (by simp [go_sem]) ?_
 simp [go_sem]
 repeat (with_reducible refine And.intro ?_ ?_; first | omega | assumption | (simp only [inI]; omega))
 refine okC_seq ?_
 refine okC_rg good ?_
 simp [go_sem]
 repeat (with_reducible refine And.intro ?_ ?_; first | omega | assumption | (simp only [inI]; omega))
 first | refine callK_of (fn_impl_FormatInt (parseV s) (by omega)) (by simp [go_sem]) ?_ | refine callK_fz (fn_impl_FormatInt (parseV s) (by omega)) (by simp [go_sem]) (by simp [go_sem]) ?_
 simp [go_sem, hf]
 repeat (with_reducible refine And.intro ?_ ?_; first | omega | assumption | (simp only [inI]; omega))
 first | refine callK_of (fn_impl_within (parseV s) (-999999999) 999999999) (by simp [go_sem]) ?_ | refine callK_fz (fn_impl_within (parseV s) (-999999999) 999999999) (by simp [go_sem]) (by simp [go_sem]) ?_
 simp [go_sem, hf]
 repeat (with_reducible refine And.intro ?_ ?_; first | omega | assumption | (simp only [inI]; omega))
 refine okC_if ?_
 simp [go_sem, hf]
 first | refine gC_dec (fun g => ?_) (fun g => ?_) | refine gC_ndec (fun g => ?_) (fun g => ?_) | refine gC_of (fun g => ?_) (fun g => ?_)
 ·try simp at g
  refine okC_rg good ?_
  simp [go_sem, hf]
  repeat (with_reducible refine And.intro ?_ ?_; first | omega | assumption | (simp only [inI]; omega))
  refine okC_ret ?_
  simp [go_sem, hf]
  exfalso; omega
 ·try simp at g
  refine okC_skip ?_
  refine okC_rg good ?_
  simp [go_sem, hf]
  repeat (with_reducible refine And.intro ?_ ?_; first | omega | assumption | (simp only [inI]; omega))
  refine okC_ret ?_
  simp [go_sem, hf]
  simp [hg, hp]
theorem fn_pi_no1 (s : Str) (v : Int) (hs : s.length ≤ 1048576) (hp : parseB s = false) (ha : Lib.atoiAll s = .ok v) (hv : -9223372036854775808 ≤ v ∧ v ≤ 9223372036854775807) : FnOk Tryz.prog 44 [dS s] (fun res' => res' = .tup [.val (dI (getI s)), .val (dB (parseB s))]) := by
 refine fn_of good (rs := [.tmp 2, .tmp 3]) Tryz.func44 rfl Tryz.ntmps44 (by decide) (by simp) rfl fun w0 ow0 => ?_
 have hg : getI s = 0 := by rw [getI_eq, if_neg (by simp [hp])]
 refine okC_rg good ?_
 simp [go_sem]
 repeat (with_reducible refine And.intro ?_ ?_; first | omega | assumption | (simp only [inI]; omega))
 refine okC_rg good ?_
 simp [go_sem]
 repeat (with_reducible refine And.intro ?_ ?_; first | omega | assumption | (simp only [inI]; omega))
 first | refine callK_of (fn_strconv_Atoi_ok s v hs ha) (by simp [go_sem]) ?_ | refine callK_fz (fn_strconv_Atoi_ok s v hs ha) (by simp [go_sem]) (by simp [go_sem]) ?_
 simp [go_sem]
 repeat (with_reducible refine And.intro ?_ ?_; first | omega | assumption | (simp only [inI]; omega))
 refine okC_seq ?_
 refine okC_rg good ?_
 simp [go_sem]
 repeat (with_reducible refine And.intro ?_ ?_; first | omega | assumption | (simp only [inI]; omega))
 first | refine callK_of (fn_impl_FormatInt v hv) (by simp [go_sem]) ?_ | refine callK_fz (fn_impl_FormatInt v hv) (by simp [go_sem]) (by simp [go_sem]) ?_
 simp [go_sem]
 repeat (with_reducible refine And.intro ?_ ?_; first | omega | assumption | (simp only [inI]; omega))
 first | refine gI_dec (fun e => ?_) (fun e => ?_) | refine gI_ndec (fun e => ?_) (fun e => ?_) | refine gI_of (fun e => ?_) (fun e => ?_)
 ·have e' := e; try simp at e'
  simp [go_sem, e]
  repeat (with_reducible refine And.intro ?_ ?_; first | omega | assumption | (simp only [inI]; omega))
  refine okC_if ?_
  simp [go_sem, e]
  refine okC_rg good ?_
  simp [go_sem, e]
  repeat (with_reducible refine And.intro ?_ ?_; first | omega | assumption | (simp only [inI]; omega))
  refine okC_ret ?_
  simp [go_sem, e]
  simp [hg, hp]
 ·have e' := e; try simp at e'
  simp [go_sem, e]
  repeat (with_reducible refine And.intro ?_ ?_; first | omega | assumption | (simp only [inI]; omega))
  first | refine callK_of (fn_impl_within v (-999999999) 999999999) (by simp [go_sem]) ?_ | refine callK_fz (fn_impl_within v (-999999999) 999999999) (by simp [go_sem]) (by simp [go_sem]) ?_
  simp [go_sem, e]
  repeat (with_reducible refine And.intro ?_ ?_; first | omega | assumption | (simp only [inI]; omega))
  refine okC_if ?_
  simp [go_sem, e]
  first | refine gC_dec (fun g => ?_) (fun g => ?_) | refine gC_ndec (fun g => ?_) (fun g => ?_) | refine gC_of (fun g => ?_) (fun g => ?_)
  ·try simp at g
   refine okC_rg good ?_
   simp [go_sem, e]
   repeat (with_reducible refine And.intro ?_ ?_; first | omega | assumption | (simp only [inI]; omega))
   refine okC_ret ?_
   simp [go_sem, e]
   simp [hg, hp]
  ·try simp at g
   refine okC_skip ?_
   refine okC_rg good ?_
   simp [go_sem, e]
   repeat (with_reducible refine And.intro ?_ ?_; first | omega | assumption | (simp only [inI]; omega))
   refine okC_ret ?_
   simp [go_sem, e]
   have h2 := (parse_fmt (n := v) (by omega)).1
   all_goals (rw [e'] at h2; rw [hp] at h2; cases h2)
theorem fn_pi_no2 (s : Str) (hs : s.length ≤ 1048576) (hp : parseB s = false) (ha : ∀ v, Lib.atoiAll s ≠ .ok v) : FnOk Tryz.prog 44 [dS s] (fun res' => res' = .tup [.val (dI (getI s)), .val (dB (parseB s))]) := by
 refine fn_of good (rs := [.tmp 2, .tmp 3]) Tryz.func44 rfl Tryz.ntmps44 (by decide) (by simp) rfl fun w0 ow0 => ?_
 have hg : getI s = 0 := by rw [getI_eq, if_neg (by simp [hp])]
 refine okC_rg good ?_
 simp [go_sem]
 repeat (with_reducible refine And.intro ?_ ?_; first | omega | assumption | (simp only [inI]; omega))
 refine okC_rg good ?_
 simp [go_sem]
 repeat (with_reducible refine And.intro ?_ ?_; first | omega | assumption | (simp only [inI]; omega))
 refine callK_fx (fn_strconv_Atoi_no s hs ha) (by simp [go_sem]) ?_
 rintro r ⟨k, tp, p, rfl⟩
 refine ⟨by simp [go_sem], ?_⟩
 simp [go_sem]
 repeat (with_reducible refine And.intro ?_ ?_; first | omega | assumption | (simp only [inI]; omega))
 refine okC_seq ?_
 refine okC_rg good ?_
 simp [go_sem]
 repeat (with_reducible refine And.intro ?_ ?_; first | omega | assumption | (simp only [inI]; omega))
 refine okC_if ?_
 simp [go_sem]
 refine okC_rg good ?_
 simp [go_sem]
 repeat (with_reducible refine And.intro ?_ ?_; first | omega | assumption | (simp only [inI]; omega))
 refine okC_ret ?_
 simp [go_sem]
 simp [hg, hp]
theorem fn_impl_ParseInt (s : Str) (hs : s.length ≤ 1048576) : FnOk Tryz.prog 44 [dS s] (fun res' => res' = .tup [.val (dI (getI s)), .val (dB (parseB s))]) := by
 cases hp : parseB s with
 | true => rw [← hp]; exact fn_pi_yes s hs hp
 | false =>
  rw [← hp]
  by_cases ha : ∃ v, Lib.atoiAll s = .ok v
  ·obtain ⟨v, ha⟩ := ha
   exact fn_pi_no1 s v hs hp ha (Lib.atoiAll_bounds ha)
  ·exact fn_pi_no2 s hs hp fun v h => ha ⟨v, h⟩
def readIs : List Str → Option (List Int)
 | [] => some []
 | x :: l => (readI x).bind fun v => (readIs l).bind fun r => some (v :: r)
theorem readIs_snoc : ∀ {l : List Str} {x : Str} {r : List Int}, readIs l = some r → readIs (l ++ [x]) = (readI x).map fun v => r ++ [v]
 | [], x, r, h => by
  obtain rfl := Option.some.inj h
  simp only [List.nil_append, readIs]
  cases readI x <;> rfl
 | y :: l, x, r, h => by
  simp only [List.cons_append, readIs] at h ⊢
  cases hy : readI y with
  | none => rw [hy] at h; cases h
  | some o =>
   rw [hy] at h
   simp only [Option.bind_some] at h ⊢
   cases hl : readIs l with
   | none => rw [hl] at h; cases h
   | some r' =>
    rw [hl] at h
    obtain rfl := Option.some.inj h
    rw [readIs_snoc hl]
    cases readI x <;> rfl
theorem readIs_none : ∀ {l : List Str} {x : Str}, x ∈ l → readI x = none → readIs l = none
 | y :: l, x, h, hx => by
  simp only [readIs]
  rcases List.mem_cons.1 h with rfl | h
  ·rw [hx]; rfl
  ·rw [readIs_none h hx]; cases readI y <;> rfl
theorem readIs_len : ∀ {l : List Str} {r : List Int}, readIs l = some r → r.length = l.length
 | [], r, h => by obtain rfl := Option.some.inj h; rfl
 | x :: l, r, h => by
  simp only [readIs] at h
  cases hx : readI x with
  | none => rw [hx] at h; cases h
  | some o =>
   cases hl : readIs l with
   | none => rw [hx, hl] at h; cases h
   | some r' => rw [hx, hl] at h; obtain rfl := Option.some.inj h; simp [readIs_len hl]
theorem fn_pis_ok (l : List Str) (r0 : List Int) (hl : l.length ≤ 1048576) (hs : ∀ x ∈ l, x.length ≤ 1048576) (hr : readIs l = some r0) : FnOk Tryz.prog 161 [nStrs l] (fun res' => res' = .tup [.own (oInts r0), .val (dB true)]) := by
 refine fn_of good (rs := [.tmp 2, .tmp 3]) Tryz.func161 rfl Tryz.ntmps161 (by decide) (by simp) rfl fun w0 ow0 => ?_
 refine okC_rg good ?_
 simp [go_sem]
 repeat (with_reducible refine And.intro ?_ ?_; first | omega | assumption | (simp only [inI]; omega))
 refine okC_rg good ?_
 simp [go_sem]
 repeat (with_reducible refine And.intro ?_ ?_; first | omega | assumption | (simp only [inI]; omega))
 refine okC_seq ?_
 refine okC_rg good ?_
 simp [go_sem]
 repeat (with_reducible refine And.intro ?_ ?_; first | omega | assumption | (simp only [inI]; omega))
 refine okC_block ?_
 refine okC_rounds (fun (x' : (Nat) × (List Int)) => match x' with | (i, r) => [(4, .own (oInts r)), (9, .val (nStrs l)), (10, .val (dI l.length)), (11, .val (dI i))]) (fun (x' : (Nat) × (List Int)) => match x' with | (i, r) => l.length - i) (fun (x' : (Nat) × (List Int)) => match x' with | (i, r) => (i ≤ l.length) ∧ (readIs (l.take i) = some r)) ((0, [])) [] ⟨(by omega), (by simp [readIs])⟩ (by simp [go_sem]) ?_
 rintro ⟨i, r⟩ ⟨h1, h2⟩ K1 hK1
 simp only at h1 h2 ⊢
 have hrl := readIs_len h2
 rw [List.length_take] at hrl
 refine okC_rg good ?_
 simp [go_sem]
 repeat (with_reducible refine And.intro ?_ ?_; first | omega | assumption | (simp only [inI]; omega))
 refine okC_seq ?_
 refine okC_if ?_
 simp [go_sem]
 first | refine gC_dec (fun a => ?_) (fun a => ?_) | refine gC_ndec (fun a => ?_) (fun a => ?_) | refine gC_of (fun a => ?_) (fun a => ?_)
 ·try simp at a
  refine okC_skip ?_
  refine okC_seq ?_
  refine okC_block ?_
  obtain ⟨c, hc⟩ := at_of (l := l) (i := i) (by omega)
  have hcm := List.mem_of_getElem? hc
  refine okC_rg good ?_
  simp [go_sem, hc]
  repeat (with_reducible refine And.intro ?_ ?_; first | omega | assumption | (simp only [inI]; omega))
  refine okC_rg good ?_
  simp [go_sem, hc]
  repeat (with_reducible refine And.intro ?_ ?_; first | omega | assumption | (simp only [inI]; omega))
  first | refine callK_of (fn_impl_ParseInt c (hs c hcm)) (by simp [go_sem]) ?_ | refine callK_fz (fn_impl_ParseInt c (hs c hcm)) (by simp [go_sem]) (by simp [go_sem]) ?_
  simp [go_sem, hc]
  repeat (with_reducible refine And.intro ?_ ?_; first | omega | assumption | (simp only [inI]; omega))
  refine okC_seq ?_
  refine okC_rg good ?_
  simp [go_sem, hc]
  repeat (with_reducible refine And.intro ?_ ?_; first | omega | assumption | (simp only [inI]; omega))
  refine okC_if ?_
  simp [go_sem, hc]
  first | refine gC_dec (fun b => ?_) (fun b => ?_) | refine gC_ndec (fun b => ?_) (fun b => ?_) | refine gC_of (fun b => ?_) (fun b => ?_)
  ·try simp at b
   have hrd : readIs l = none := readIs_none hcm (readI_none (by simpa using b))
   rw [hrd] at hr; cases hr
  ·try simp at b
   refine okC_skip ?_
   have hsn : readIs (l.take (i + 1)) = some (r ++ [getI c]) := by rw [take_snoc hc, readIs_snoc h2, readI_yes (by simpa using b)]; rfl
   refine okC_rg1 good ?_
   simp [go_sem, hc]
   repeat (with_reducible refine And.intro ?_ ?_; first | omega | assumption | (simp only [inI]; omega))
   refine okC_rg1 good ?_
   simp [go_sem, hc]
   repeat (with_reducible refine And.intro ?_ ?_; first | omega | assumption | (simp only [inI]; omega))
   refine normalE hK1 ⟨(i + 1, r ++ [getI c]), [], ⟨(by omega), (hsn)⟩, (by show _ < _; first | omega | simp <;> omega), (by simp [go_sem, hc])⟩
 ·try simp at a
  refine okC_exit (show K1 _ _ from exitE hK1 ?_)
  have hrd : readIs l = some r := by rw [← h2, List.take_of_length_le (by omega)]
  rw [hr] at hrd
  obtain rfl := Option.some.inj hrd
  refine okC_rg good ?_
  simp [go_sem]
  repeat (with_reducible refine And.intro ?_ ?_; first | omega | assumption | (simp only [inI]; omega))
  refine okC_ret ?_
  simp [go_sem]
  all_goals first | done | omega | grind | (simp; omega) | (simp_all; done) | (simp_all; omega)
theorem fn_pis_no (l : List Str) (hl : l.length ≤ 1048576) (hs : ∀ x ∈ l, x.length ≤ 1048576) (hr : readIs l = none) : FnOk Tryz.prog 161 [nStrs l] (fun res' => res' = .tup [.val (.one (.slice none 0 0)), .val (dB false)]) := by
 refine fn_of good (rs := [.tmp 2, .tmp 3]) Tryz.func161 rfl Tryz.ntmps161 (by decide) (by simp) rfl fun w0 ow0 => ?_
 refine okC_rg good ?_
 simp [go_sem]
 repeat (with_reducible refine And.intro ?_ ?_; first | omega | assumption | (simp only [inI]; omega))
 refine okC_rg good ?_
 simp [go_sem]
 repeat (with_reducible refine And.intro ?_ ?_; first | omega | assumption | (simp only [inI]; omega))
 refine okC_seq ?_
 refine okC_rg good ?_
 simp [go_sem]
 repeat (with_reducible refine And.intro ?_ ?_; first | omega | assumption | (simp only [inI]; omega))
 refine okC_block ?_
 refine okC_rounds (fun (x' : (Nat) × (List Int)) => match x' with | (i, r) => [(4, .own (oInts r)), (9, .val (nStrs l)), (10, .val (dI l.length)), (11, .val (dI i))]) (fun (x' : (Nat) × (List Int)) => match x' with | (i, r) => l.length - i) (fun (x' : (Nat) × (List Int)) => match x' with | (i, r) => (i ≤ l.length) ∧ (readIs (l.take i) = some r)) ((0, [])) [] ⟨(by omega), (by simp [readIs])⟩ (by simp [go_sem]) ?_
 rintro ⟨i, r⟩ ⟨h1, h2⟩ K1 hK1
 simp only at h1 h2 ⊢
 have hrl := readIs_len h2
 rw [List.length_take] at hrl
 refine okC_rg good ?_
 simp [go_sem]
 repeat (with_reducible refine And.intro ?_ ?_; first | omega | assumption | (simp only [inI]; omega))
 refine okC_seq ?_
 refine okC_if ?_
 simp [go_sem]
 first | refine gC_dec (fun a => ?_) (fun a => ?_) | refine gC_ndec (fun a => ?_) (fun a => ?_) | refine gC_of (fun a => ?_) (fun a => ?_)
 ·try simp at a
  refine okC_skip ?_
  refine okC_seq ?_
  refine okC_block ?_
  obtain ⟨c, hc⟩ := at_of (l := l) (i := i) (by omega)
  have hcm := List.mem_of_getElem? hc
  refine okC_rg good ?_
  simp [go_sem, hc]
  repeat (with_reducible refine And.intro ?_ ?_; first | omega | assumption | (simp only [inI]; omega))
  refine okC_rg good ?_
  simp [go_sem, hc]
  repeat (with_reducible refine And.intro ?_ ?_; first | omega | assumption | (simp only [inI]; omega))
  first | refine callK_of (fn_impl_ParseInt c (hs c hcm)) (by simp [go_sem]) ?_ | refine callK_fz (fn_impl_ParseInt c (hs c hcm)) (by simp [go_sem]) (by simp [go_sem]) ?_
  simp [go_sem, hc]
  repeat (with_reducible refine And.intro ?_ ?_; first | omega | assumption | (simp only [inI]; omega))
  refine okC_seq ?_
  refine okC_rg good ?_
  simp [go_sem, hc]
  repeat (with_reducible refine And.intro ?_ ?_; first | omega | assumption | (simp only [inI]; omega))
  refine okC_if ?_
  simp [go_sem, hc]
  first | refine gC_dec (fun b => ?_) (fun b => ?_) | refine gC_ndec (fun b => ?_) (fun b => ?_) | refine gC_of (fun b => ?_) (fun b => ?_)
  ·try simp at b
   have hrd : readIs l = none := readIs_none hcm (readI_none (by simpa using b))
   refine okC_rg good ?_
   simp [go_sem, hc]
   repeat (with_reducible refine And.intro ?_ ?_; first | omega | assumption | (simp only [inI]; omega))
   refine okC_ret (show K1 _ _ from retE hK1 ?_)
   simp [go_sem, hc]
   skip
  ·try simp at b
   refine okC_skip ?_
   have hsn : readIs (l.take (i + 1)) = some (r ++ [getI c]) := by rw [take_snoc hc, readIs_snoc h2, readI_yes (by simpa using b)]; rfl
   refine okC_rg1 good ?_
   simp [go_sem, hc]
   repeat (with_reducible refine And.intro ?_ ?_; first | omega | assumption | (simp only [inI]; omega))
   refine okC_rg1 good ?_
   simp [go_sem, hc]
   repeat (with_reducible refine And.intro ?_ ?_; first | omega | assumption | (simp only [inI]; omega))
   refine normalE hK1 ⟨(i + 1, r ++ [getI c]), [], ⟨(by omega), (hsn)⟩, (by show _ < _; first | omega | simp <;> omega), (by simp [go_sem, hc])⟩
 ·try simp at a
  refine okC_exit (show K1 _ _ from exitE hK1 ?_)
  have hrd : readIs l = some r := by rw [← h2, List.take_of_length_le (by omega)]
  rw [hrd] at hr; cases hr
def srcI (s : Str) : Int := match s with
 | [] => 0
 | c :: _ => idx4 c
theorem idx4_in (c : UInt8) : -1 ≤ idx4 c ∧ idx4 c ≤ 3 := by unfold idx4; split <;> omega
theorem fn_ib4 (c : UInt8) : FnOk Tryz.prog 42 [dS [97, 98, 99, 100], dC c] (fun r => r = .val (dI (idx4 c))) := by rw [← idx4_eq]; exact fn_strings_IndexByte [97, 98, 99, 100] c
theorem fn_impl_readOrigin (s : Str) (hs : s.length ≤ 1048576) : FnOk Tryz.prog 120 [dS s] (fun res' => res' = .tup [.val (dI (srcI s)), .val (dI (getI (s.drop 1))), .val (dB (origin? s).isSome)]) := by
 refine fn_of good (rs := [.tmp 2, .tmp 3, .tmp 4]) Tryz.func120 rfl Tryz.ntmps120 (by decide) (by simp) rfl fun w0 ow0 => ?_
 refine okC_rg good ?_
 simp [go_sem]
 repeat (with_reducible refine And.intro ?_ ?_; first | omega | assumption | (simp only [inI]; omega))
 refine okC_seq ?_
 refine okC_rg good ?_
 simp [go_sem]
 repeat (with_reducible refine And.intro ?_ ?_; first | omega | assumption | (simp only [inI]; omega))
 refine okC_if ?_
 simp [go_sem]
 first | refine gC_dec (fun e => ?_) (fun e => ?_) | refine gC_ndec (fun e => ?_) (fun e => ?_) | refine gC_of (fun e => ?_) (fun e => ?_)
 ·try simp at e
  subst e
  have hg : getI ([] : Str) = 0 := by rw [getI, readI_nil]; rfl
  refine okC_rg good ?_
  simp [go_sem]
  repeat (with_reducible refine And.intro ?_ ?_; first | omega | assumption | (simp only [inI]; omega))
  refine okC_ret ?_
  simp [go_sem]
  simp [srcI, origin?, hg]
 ·try simp at e
  refine okC_skip ?_
  obtain ⟨c, t, rfl⟩ : ∃ c t, s = c :: t := by cases s with | nil => exact absurd rfl e | cons c t => exact ⟨c, t, rfl⟩
  have hi := idx4_in c
  refine okC_rg good ?_
  simp [go_sem]
  repeat (with_reducible refine And.intro ?_ ?_; first | omega | assumption | (simp only [inI]; omega))
  first | refine callK_of (fn_ib4 c) (by simp [go_sem]) ?_ | refine callK_fz (fn_ib4 c) (by simp [go_sem]) (by simp [go_sem]) ?_
  simp [go_sem]
  repeat (with_reducible refine And.intro ?_ ?_; first | omega | assumption | (simp only [inI]; omega))
  refine okC_rg good ?_
  simp [go_sem]
  repeat (with_reducible refine And.intro ?_ ?_; first | omega | assumption | (simp only [inI]; omega))
  first | refine callK_of (fn_impl_ParseInt t (by simp at hs; omega)) (by simp [go_sem]) ?_ | refine callK_fz (fn_impl_ParseInt t (by simp at hs; omega)) (by simp [go_sem]) (by simp [go_sem]) ?_
  simp [go_sem]
  repeat (with_reducible refine And.intro ?_ ?_; first | omega | assumption | (simp only [inI]; omega))
  refine okC_rg good ?_
  simp [go_sem]
  repeat (with_reducible refine And.intro ?_ ?_; first | omega | assumption | (simp only [inI]; omega))
  first | refine gI_dec (fun f => ?_) (fun f => ?_) | refine gI_ndec (fun f => ?_) (fun f => ?_) | refine gI_of (fun f => ?_) (fun f => ?_)
  ·have f' := f; try simp at f'
   simp [go_sem, f]
   repeat (with_reducible refine And.intro ?_ ?_; first | omega | assumption | (simp only [inI]; omega))
   first | refine gI_dec (fun g => ?_) (fun g => ?_) | refine gI_ndec (fun g => ?_) (fun g => ?_) | refine gI_of (fun g => ?_) (fun g => ?_)
   ·have g' := g; try simp at g'
    simp [go_sem, f, g]
    repeat (with_reducible refine And.intro ?_ ?_; first | omega | assumption | (simp only [inI]; omega))
    first | refine callK_of (fn_impl_within _ _ _) (by simp [go_sem]) ?_ | refine callK_fz (fn_impl_within _ _ _) (by simp [go_sem]) (by simp [go_sem]) ?_
    simp [go_sem, f, g]
    repeat (with_reducible refine And.intro ?_ ?_; first | omega | assumption | (simp only [inI]; omega))
    refine okC_ret ?_
    simp [go_sem, f, g]
    simp [srcI, origin?, f, g, getI_eq]; by_cases h9 : 1 ≤ parseV t ∧ parseV t ≤ 99; (simp [h9]); (rw [if_neg h9]; simp; omega)
   ·have g' := g; try simp at g'
    simp [go_sem, f, g]
    repeat (with_reducible refine And.intro ?_ ?_; first | omega | assumption | (simp only [inI]; omega))
    refine okC_ret ?_
    simp [go_sem, f, g]
    simp [srcI, origin?, f, g, getI_eq]
  ·have f' := f; try simp at f'
   simp [go_sem, f]
   repeat (with_reducible refine And.intro ?_ ?_; first | omega | assumption | (simp only [inI]; omega))
   refine okC_ret ?_
   simp [go_sem, f]
   simp [srcI, origin?, f]
end Go.Proofs.YtfhfidecmdhkoaaGreatDoor

end
section
set_option maxRecDepth 10000
namespace Go.Proofs.YtfhfidecmdhkoaaGreatDoor
open Go.Dv Go.Pl
theorem bef_len (c : UInt8) (s : Str) : (bef c s).length ≤ s.length := (List.takeWhile_prefix _).length_le
theorem aft_len (c : UInt8) (s : Str) : (aft c s).length ≤ s.length := by
 unfold aft
 rw [List.length_drop]
 have := (List.dropWhile_suffix (l := s) fun d => decide (d ≠ c)).length_le
 omega
theorem origin_some {s : Str} {o : Int × Int} (h : origin? s = some o) : o = (srcI s, getI (s.drop 1)) := by
 unfold origin? at h
 cases s with
 | nil => cases h
 | cons c t =>
  simp only at h
  split at h
  ·rename_i hc
   obtain rfl := Option.some.inj h
   simp only [srcI, List.drop_succ_cons, List.drop_zero, getI_eq, if_pos hc.2.1]
  ·cases h
theorem fn_impl_ParseRecord (s : Str) (hs : s.length ≤ 1048000) : FnOk Tryz.prog 119 [dS s] (fun res' => res' = .tup [.own (oRec (recOr s)), .val (dB (readRec s).isSome)]) := by
 refine fn_of good (rs := [.cell 2 77, .tmp 3]) Tryz.func119 rfl Tryz.ntmps119 (by decide) (by simp) rfl fun w0 ow0 => ?_
 obtain ⟨H, hH⟩ : ∃ H, bef 124 s = H := ⟨_, rfl⟩
 obtain ⟨R, hR⟩ : ∃ R, aft 124 s = R := ⟨_, rfl⟩
 obtain ⟨nm, hnm⟩ : ∃ nm, bef 46 H = nm := ⟨_, rfl⟩
 obtain ⟨vr, hvr⟩ : ∃ vr, aft 46 H = vr := ⟨_, rfl⟩
 have hHl : H.length ≤ s.length := by rw [← hH]; exact bef_len _ _
 have hRl : R.length ≤ s.length := by rw [← hR]; exact aft_len _ _
 have hnl : nm.length ≤ s.length := by rw [← hnm]; exact Nat.le_trans (bef_len _ _) hHl
 have hvl : vr.length ≤ s.length := by rw [← hvr]; exact Nat.le_trans (aft_len _ _) hHl
 have hcd : candRecI s = (origin? nm).bind fun o => (readI vr).bind fun n => some ⟨o.1, o.2, n, cutS 124 R⟩ := by rw [candRecI, hH, hR, hnm, hvr]
 refine okC_rg good ?_
 simp [go_sem, hH, hR, hnm, hvr]
 repeat (with_reducible refine And.intro ?_ ?_; first | omega | assumption | (simp only [inI]; omega))
 refine okC_rg good ?_
 simp [go_sem, hH, hR, hnm, hvr]
 repeat (with_reducible refine And.intro ?_ ?_; first | omega | assumption | (simp only [inI]; omega))
 first | refine callK_of (fn_strings_Cut s 124 (by omega)) (by simp [go_sem]) ?_ | refine callK_fz (fn_strings_Cut s 124 (by omega)) (by simp [go_sem]) (by simp [go_sem]) ?_
 simp [go_sem, hH, hR, hnm, hvr]
 repeat (with_reducible refine And.intro ?_ ?_; first | omega | assumption | (simp only [inI]; omega))
 refine okC_rg good ?_
 simp [go_sem, hH, hR, hnm, hvr]
 repeat (with_reducible refine And.intro ?_ ?_; first | omega | assumption | (simp only [inI]; omega))
 first | refine callK_of (fn_strings_Cut H 46 (by omega)) (by simp [go_sem]) ?_ | refine callK_fz (fn_strings_Cut H 46 (by omega)) (by simp [go_sem]) (by simp [go_sem]) ?_
 simp [go_sem, hH, hR, hnm, hvr]
 repeat (with_reducible refine And.intro ?_ ?_; first | omega | assumption | (simp only [inI]; omega))
 refine okC_rg good ?_
 simp [go_sem, hH, hR, hnm, hvr]
 repeat (with_reducible refine And.intro ?_ ?_; first | omega | assumption | (simp only [inI]; omega))
 first | refine callK_of (fn_impl_readOrigin nm (by omega)) (by simp [go_sem]) ?_ | refine callK_fz (fn_impl_readOrigin nm (by omega)) (by simp [go_sem]) (by simp [go_sem]) ?_
 simp [go_sem, hH, hR, hnm, hvr]
 repeat (with_reducible refine And.intro ?_ ?_; first | omega | assumption | (simp only [inI]; omega))
 refine okC_rg good ?_
 simp [go_sem, hH, hR, hnm, hvr]
 repeat (with_reducible refine And.intro ?_ ?_; first | omega | assumption | (simp only [inI]; omega))
 first | refine callK_of (fn_impl_ParseInt vr (by omega)) (by simp [go_sem]) ?_ | refine callK_fz (fn_impl_ParseInt vr (by omega)) (by simp [go_sem]) (by simp [go_sem]) ?_
 simp [go_sem, hH, hR, hnm, hvr]
 repeat (with_reducible refine And.intro ?_ ?_; first | omega | assumption | (simp only [inI]; omega))
 refine okC_seq ?_
 refine okC_rg good ?_
 simp [go_sem, hH, hR, hnm, hvr]
 repeat (with_reducible refine And.intro ?_ ?_; first | omega | assumption | (simp only [inI]; omega))
 first | refine gI_dec (fun e => ?_) (fun e => ?_) | refine gI_ndec (fun e => ?_) (fun e => ?_) | refine gI_of (fun e => ?_) (fun e => ?_)
 ·have e' := e; try simp at e'
  simp [go_sem, hH, hR, hnm, hvr, e]
  repeat (with_reducible refine And.intro ?_ ?_; first | omega | assumption | (simp only [inI]; omega))
  refine okC_if ?_
  simp [go_sem, hH, hR, hnm, hvr, e]
  have hrd : readRec s = none := inv_none candRecI_ok (by rw [hcd, show origin? nm = none by simpa using e]; rfl)
  refine okC_rg good ?_
  simp [go_sem, hH, hR, hnm, hvr, e]
  repeat (with_reducible refine And.intro ?_ ?_; first | omega | assumption | (simp only [inI]; omega))
  refine okC_ret ?_
  simp [go_sem, hH, hR, hnm, hvr, e]
  simp [recOr, hrd, rec0]
 ·have e' := e; try simp at e'
  obtain ⟨o, ho⟩ := Option.isSome_iff_exists.1 (show (origin? nm).isSome = true by simpa using e)
  have hoo := origin_some ho
  simp [go_sem, hH, hR, hnm, hvr, e]
  repeat (with_reducible refine And.intro ?_ ?_; first | omega | assumption | (simp only [inI]; omega))
  refine okC_if ?_
  simp [go_sem, hH, hR, hnm, hvr, e]
  first | refine gC_dec (fun f => ?_) (fun f => ?_) | refine gC_ndec (fun f => ?_) (fun f => ?_) | refine gC_of (fun f => ?_) (fun f => ?_)
  ·try simp at f
   have hrd : readRec s = none := inv_none candRecI_ok (by rw [hcd, ho, readI_none (by simpa using f)]; rfl)
   refine okC_rg good ?_
   simp [go_sem, hH, hR, hnm, hvr, e]
   repeat (with_reducible refine And.intro ?_ ?_; first | omega | assumption | (simp only [inI]; omega))
   refine okC_ret ?_
   simp [go_sem, hH, hR, hnm, hvr, e]
   simp [recOr, hrd, rec0]
  ·try simp at f
   refine okC_skip ?_
   rw [ho, readI_yes (by simpa using f)] at hcd
   have hcd : candRecI s = some ⟨srcI nm, getI (nm.drop 1), getI vr, cutS 124 R⟩ := by rw [hcd, hoo]; rfl
   have hsn : s ≠ [] := fun e0 => by subst e0; simp only [bef, aft, List.takeWhile_nil, List.dropWhile_nil, List.drop_nil] at hH; subst hH; simp [bef] at hnm; subst hnm; cases ho
   have hrd : readRec s = _ := inv_test (str := recStr) (fun _ => rfl) candRecI_ok hcd hsn
   have hcl := cutS_len 124 R
   refine okC_rg good ?_
   simp [go_sem, hH, hR, hnm, hvr, e]
   repeat (with_reducible refine And.intro ?_ ?_; first | omega | assumption | (simp only [inI]; omega))
   first | refine callK_of (fn_strings_Split R 124 (by omega)) (by simp [go_sem]) ?_ | refine callK_fz (fn_strings_Split R 124 (by omega)) (by simp [go_sem]) (by simp [go_sem]) ?_
   simp [go_sem, hH, hR, hnm, hvr, e]
   repeat (with_reducible refine And.intro ?_ ?_; first | omega | assumption | (simp only [inI]; omega))
   refine okC_seq ?_
   refine okC_rg good ?_
   simp [go_sem, hH, hR, hnm, hvr, e]
   repeat (with_reducible refine And.intro ?_ ?_; first | omega | assumption | (simp only [inI]; omega))
   first | refine callK_of (fn_impl_FormatRecord ⟨srcI nm, getI (nm.drop 1), getI vr, cutS 124 R⟩ ⟨by have := hcl.1; simp only; omega, fun x hx => by have := hcl.2 x hx; unfold smallS; omega⟩) (by simp [go_sem]) ?_ | refine callK_fz (fn_impl_FormatRecord ⟨srcI nm, getI (nm.drop 1), getI vr, cutS 124 R⟩ ⟨by have := hcl.1; simp only; omega, fun x hx => by have := hcl.2 x hx; unfold smallS; omega⟩) (by simp [go_sem]) (by simp [go_sem]) ?_
   simp [go_sem, hH, hR, hnm, hvr, e]
   repeat (with_reducible refine And.intro ?_ ?_; first | omega | assumption | (simp only [inI]; omega))
   refine okC_if ?_
   simp [go_sem, hH, hR, hnm, hvr, e]
   first | refine gC_dec (fun g => ?_) (fun g => ?_) | refine gC_ndec (fun g => ?_) (fun g => ?_) | refine gC_of (fun g => ?_) (fun g => ?_)
   ·try simp at g
    refine okC_rg good ?_
    simp [go_sem, hH, hR, hnm, hvr, e]
    repeat (with_reducible refine And.intro ?_ ?_; first | omega | assumption | (simp only [inI]; omega))
    refine okC_ret ?_
    simp [go_sem, hH, hR, hnm, hvr, e]
    simp [recOr, hrd, g, rec0]
   ·try simp at g
    refine okC_skip ?_
    refine okC_rg good ?_
    simp [go_sem, hH, hR, hnm, hvr, e]
    repeat (with_reducible refine And.intro ?_ ?_; first | omega | assumption | (simp only [inI]; omega))
    refine okC_ret ?_
    simp [go_sem, hH, hR, hnm, hvr, e]
    simp [recOr, hrd, g]
end Go.Proofs.YtfhfidecmdhkoaaGreatDoor

end
section
set_option maxRecDepth 10000
namespace Go.Proofs.YtfhfidecmdhkoaaGreatDoor
open Go.Dv Go.Pl Go.RowKit Go.Shelf
abbrev eqEx : ByteArray := ⟨#[61, 33]⟩
theorem region_allS {P : Program} {id : Nat} {Q : Exit → Act → World → Prop} {a : Act} {w : World} {l : List Oper} (hm : P.follows .mixedOrders = true) (hB : Region.lexB .any l.toArray = true)
  (h : ∀ w2 : World, Below w.heap.size w w2 → wpStill P l.toArray w2 (fun a' => Q .normal a' w2) l a) : (Code.region id l.toArray true).wp P Q a w :=
 wp_region_still_lit hm hB (h _ ((Below.refl _ w).drew))
theorem encode_last {r : Int} (h : 128 ≤ r) : ∃ (l : Str) (c : UInt8), Utf8.encode r = ⟨(l ++ [c]).toArray⟩ ∧ 1 ≤ l.length ∧ l.length ≤ 3 ∧ 128 ≤ c.toNat := by
 have hb : ∀ n, (UInt8.ofNat (0x80 + n % 64)).toNat = 128 + n % 64 := fun n => by rw [UInt8.toNat_ofNat']; omega
 have hc : ¬ (if Utf8.valid r then r.toNat else Utf8.runeError) < 0x80 := by
  split
  ·omega
  ·decide
 unfold Utf8.encode
 simp only
 generalize (if Utf8.valid r then r.toNat else Utf8.runeError) = q at hc
 rw [if_neg hc]
 split
 ·exact ⟨[_], _, rfl, by simp, by simp, by rw [hb]; omega⟩
 split
 ·exact ⟨[_, _], _, rfl, by simp, by simp, by rw [hb]; omega⟩
 ·exact ⟨[_, _, _], _, rfl, by simp, by simp, by rw [hb]; omega⟩
def isBoolE (e : Ending) : Prop := ∃ b : Bool, e = .returned (.bool b)
theorem validRune (r : Int) (w : World) : Calls Tryz.prog 201 #[.int .i32 r] w fun e w' => isBoolE e ∧ w' = w := by
 refine calls_of_wp Tryz.func201 rfl ?_
 simp only [Tryz.ntmps201, List.size_toArray, List.length_cons, List.length_nil, Nat.reduceAdd, Nat.reduceSub, Array.replicate_succ, Array.replicate_zero, List.push_toArray, List.append_toArray, List.nil_append, List.cons_append]
 go_wp2
 all_goals (refine bodyPost_ret (results_tmp rfl _ _ _) rfl ?_; exact ⟨⟨_, rfl⟩, rfl⟩)
theorem rune_set (r : Int) (h : 0 ≤ r) (w : World) : Calls Tryz.prog 184 #[.string eqEx, .int .i32 r] w fun e w' => ∃ i : Int, e = .returned (.int .i64 i) ∧ Below w.heap.size w w' := by
 by_cases h1 : r < 128
 ·exact (Tryz.strings_IndexRune_ascii eqEx r w h h1).mono fun e w' ⟨h1, h2⟩ => ⟨_, h1, by rw [h2]; exact Below.refl _ _⟩
 refine calls_of_wp Tryz.func184 rfl ?_
 simp only [Tryz.ntmps184, List.size_toArray, List.length_cons, List.length_nil, Nat.reduceAdd, Nat.reduceSub, Array.replicate_succ, Array.replicate_zero, List.push_toArray, List.append_toArray, List.nil_append, List.cons_append]
 have h1' : 128 ≤ r := by omega
 by_cases h2 : r = 65533
 ·subst h2
  go_wp2
  go_loopw [] (fun w' => ∃ pos, w' = w.iter eqEx pos ∧ pos ≤ 2) (fun w' => 2 - w'.iterPos w.heap.size)
  case atStart => exact ⟨0, rfl, by omega⟩
  case round =>
   obtain ⟨pos, rfl, hp2⟩ := hrel
   by_cases hp : pos < eqEx.size
   ·have hnx : ∀ ty, (Instr.next (.pointer (some ⟨w.heap.size, 0, none⟩)) true ty).run Tryz.prog (w.iter eqEx pos) = _ := fun ty => run_next_any w eqEx pos ty hp
    have hd : ∃ c : Nat, Utf8.decode eqEx pos = (c, 1) ∧ (c = 61 ∨ c = 33) := by
     have : pos = 0 ∨ pos = 1 := by
      have : eqEx.size = 2 := rfl
      omega
     rcases this with rfl | rfl
     ·exact ⟨61, rfl, .inl rfl⟩
     ·exact ⟨33, rfl, .inr rfl⟩
    obtain ⟨c, hd, hc⟩ := hd
    have hcn : ¬ c = 65533 := by omega
    simp only [hd] at hnx
    go_wp2
    go_roundw
    case rel => exact ⟨pos + 1, rfl, by have : eqEx.size = 2 := rfl; omega⟩
    case measure => simp; have : eqEx.size = 2 := rfl; omega
   ·have hnx : ∀ ty, (Instr.next (.pointer (some ⟨w.heap.size, 0, none⟩)) true ty).run Tryz.prog (w.iter eqEx pos) = _ := fun ty => run_next_end w eqEx pos ty hp
    go_wp2
    refine bodyPost_ret (results_tmp rfl _ _ _) rfl ?_
    exact ⟨_, rfl, (Below.refl _ w).alloc (Nat.le_refl _) _⟩
 ·obtain ⟨l, c, henc, hl1, hl3, hc⟩ := encode_last h1'
  have hvr := validRune r w
  have hib : ∀ (c : Int) (w : World), Calls Tryz.prog 42 #[.string ⟨#[]⟩, .int .u8 c] w fun e w' => e = .returned (.int .i64 (-1)) ∧ w' = w := fun c w => Tryz.strings_IndexByte ⟨#[]⟩ c w
  have hw2 : IntKind.i64.wrap 2 = 2 := by decide
  have hcn : ¬ (33 : Int) = (c.toNat : Int) := by omega
  match l, hl1, hl3 with
  | [a], _, _ =>
   have henc' : Utf8.encode r = ⟨#[a, c]⟩ := henc
   have hne : ¬ (eqEx[1]'(by decide) = (⟨#[a, c]⟩ : ByteArray)[1]'(by show 1 < 2; decide)) := fun e => by
    have e2 : (33 : UInt8) = c := e
    exact absurd (show (33 : Int) = c.toNat by rw [← e2]; rfl) hcn
   go_wp2_with (go_at_call 201; refine hvr.mono ?_; rintro e w1 ⟨⟨b, rfl⟩, rfl⟩; cases b)
   ·exact bodyPost_ret (results_tmp rfl _ _ _) rfl ⟨_, rfl, Below.refl _ _⟩
   refine wp_scope_straight ?_
   go_wp2
   refine wp_loop_once ?_
   go_wp2
   refine wp_scope_straight ?_
   go_wp2
   refine region_allS (by kernel_rfl) (by kernel_rfl) ?_
   intro w2 hB2
   iterate 7 still_step
   refine wpStill_nil ?_
   go_wp2
   ·refine region_allS (by kernel_rfl) (by kernel_rfl) ?_
    intro w3 hB3
    iterate 7 still_step
    still_call (hib _ w3)
    still_step
    refine wpStill_nil ?_
    go_wp2
    show bodyPost Tryz.prog Tryz.f184 (fun e w' => ∃ i : Int, e = .returned (.int .i64 i) ∧ Below w1.heap.size w1 w') .ret _ _
    refine bodyPost_ret (results_tmp rfl _ _ _) rfl ?_
    exact ⟨_, rfl, (hB2.trans (hB3.mono hB2.size))⟩
  | [a, b], _, _ =>
   have henc' : Utf8.encode r = ⟨#[a, b, c]⟩ := henc
   go_wp2_with (go_at_call 201; refine hvr.mono ?_; rintro e w1 ⟨⟨b, rfl⟩, rfl⟩; cases b)
   ·exact bodyPost_ret (results_tmp rfl _ _ _) rfl ⟨_, rfl, Below.refl _ _⟩
   refine wp_scope_straight ?_
   go_wp2
   refine wp_loop_once ?_
   go_wp2
   simp only [Exit.noGoto, Exit.inBlock, Exit.then]
   refine bodyPost_ret (results_tmp rfl _ _ _) rfl ?_
   exact ⟨_, rfl, Below.refl _ _⟩
  | [a, b, d], _, _ =>
   have henc' : Utf8.encode r = ⟨#[a, b, d, c]⟩ := henc
   go_wp2_with (go_at_call 201; refine hvr.mono ?_; rintro e w1 ⟨⟨b, rfl⟩, rfl⟩; cases b)
   ·exact bodyPost_ret (results_tmp rfl _ _ _) rfl ⟨_, rfl, Below.refl _ _⟩
   refine wp_scope_straight ?_
   go_wp2
   refine wp_loop_once ?_
   go_wp2
   simp only [Exit.noGoto, Exit.inBlock, Exit.then]
   refine bodyPost_ret (results_tmp rfl _ _ _) rfl ?_
   exact ⟨_, rfl, Below.refl _ _⟩
theorem any_short (s : Str) (h8 : s.length ≤ 8) (w : World) : Calls Tryz.prog 160 #[.string ⟨s.toArray⟩, .string ⟨[61, 33].toArray⟩] w fun e w' => ∃ i : Int, e = .returned (.int .i64 i) ∧ -1 ≤ i ∧ i < s.length ∧ Below w.heap.size w w' := by
 refine calls_of_wp Tryz.func160 rfl ?_
 simp only [Tryz.ntmps160, List.size_toArray, List.length_cons, List.length_nil, Nat.reduceAdd, Nat.reduceSub, Array.replicate_succ, Array.replicate_zero, List.push_toArray, List.append_toArray, List.nil_append, List.cons_append]
 have hs := ba_size s
 have hset : ∀ w, Calls Tryz.prog 185 #[.int .i64 s.length] w fun e w' => e = .returned (.bool false) ∧ w' = w := fun w => (Tryz.strings_shouldUseASCIISet s.length w).mono fun e w' ⟨h1, h2⟩ => ⟨by rw [h1, decide_eq_false (by omega)], h2⟩
 go_wp2_with (go_at_call 185; refine (hset w).mono ?_; rintro e w1 ⟨rfl, rfl⟩)
 obtain ⟨N, hN⟩ : ∃ N, w1.heap.size = N := ⟨_, rfl⟩
 have hit0 : (w1.iter ⟨s.toArray⟩ 0).heap[N]? = some (.stringIter ⟨s.toArray⟩ 0) := by rw [← hN]; exact World.iter_heap w1 _ 0
 have hB0 : Below N w1 (w1.iter ⟨s.toArray⟩ 0) := (Below.refl _ w1).alloc (by omega) _
 rw [hN]
 go_loopw [] (fun w' => ∃ pos, w'.heap[N]? = some (.stringIter ⟨s.toArray⟩ pos) ∧ Below N w1 w') (fun w' => s.length - w'.iterPos N)
 case atStart => exact ⟨0, hit0, hB0⟩
 case round =>
  obtain ⟨pos, hit, hB⟩ := hrel
  have hNs : N < wr.heap.size := (Array.getElem?_eq_some_iff.1 hit).1
  have hip : wr.iterPos N = pos := by simp [World.iterPos, hit]
  by_cases hp : pos < ByteArray.size ⟨s.toArray⟩
  ·have hnx := fun ty => Lib.run_next_any_at (P := Tryz.prog) wr N ⟨s.toArray⟩ pos ty hit hp
   obtain ⟨c, d, hcd⟩ : ∃ c d, Utf8.decode ⟨s.toArray⟩ pos = (c, d) := ⟨_, _, rfl⟩
   have hdp := Lib.decode_width_pos ⟨s.toArray⟩ pos hp
   rw [hcd] at hdp
   simp only [hcd] at hnx hdp
   have hit2 := Lib.iterAt_heap wr N ⟨s.toArray⟩ pos (pos + d) hit
   have hB2 : Below N w1 (wr.iterAt N ⟨s.toArray⟩ (pos + d)) := Lib.below_iterAt hB (Nat.le_refl _) _ _
   have hsz2 := Lib.iterAt_size wr N ⟨s.toArray⟩ (pos + d)
   obtain ⟨w2, hw2⟩ : ∃ w2, wr.iterAt N ⟨s.toArray⟩ (pos + d) = w2 := ⟨_, rfl⟩
   rw [hw2] at hnx hit2 hB2 hsz2
   have hrs := rune_set (c : Int) (by omega) w2
   go_wp2_with (go_at_call 184; refine hrs.mono ?_; rintro e w3 ⟨i, rfl, hB3⟩)
   ·refine bodyPost_ret (results_tmp rfl _ _ _) rfl ?_
    have hB4 : Below N w1 w3 := hB2.trans (hB3.mono (by omega))
    exact ⟨_, rfl, by omega, by omega, by rw [hN]; exact hB4⟩
   ·have hB4 : Below N w1 w3 := hB2.trans (hB3.mono (by omega))
    have hit3 : w3.heap[N]? = some (.stringIter ⟨s.toArray⟩ (pos + d)) := (hB3.block N (by omega)).trans hit2
    have hip3 : w3.iterPos N = pos + d := by simp [World.iterPos, hit3]
    exact ⟨⟨_, hit3, hB4⟩, by omega⟩
  ·have hnx := fun ty => Lib.run_next_end_at (P := Tryz.prog) wr N ⟨s.toArray⟩ pos ty hit hp
   go_wp2
   refine bodyPost_ret (results_tmp rfl _ _ _) rfl ?_
   exact ⟨_, rfl, by omega, by omega, by rw [hN]; exact hB⟩
end Go.Proofs.YtfhfidecmdhkoaaGreatDoor

end
section
set_option maxRecDepth 10000
namespace Go.Proofs.YtfhfidecmdhkoaaGreatDoor
open Go.Dv Go.Pl Go.RowKit
def asc (s : Str) : Bool := s.all fun c => decide (c.toNat < 128)
theorem fnOne {f : FuncId} {ds : List D} {Q : Int → Prop} (h : ∀ (w : World) (ow : Own) (vs : Array Value), Laid w ow → vs.size = ds.length → (∀ (i : Nat) (d : D), ds[i]? = some d → V Tryz.prog w ow d.fz [] (vs.getD i undef)) → Calls Tryz.prog f vs w fun e w' => ∃ i, e = .returned (.int .i64 i) ∧ Q i ∧ Below w.heap.size w w') :
  FnOk Tryz.prog f ds (fun r => ∃ i, r = .val (dI i) ∧ Q i) := by
 intro w ow vs t ht hL hnew hvs hargs
 refine (h w ow vs hL hvs hargs).mono ?_
 rintro e w' ⟨i, rfl, hq, hB⟩
 exact ⟨_, fun b => if b < w.heap.size then ow b else none, _, rfl, ⟨i, rfl, hq⟩, ⟨hB.os, hB.tape, hB.output, hB.size, fun b hb => ⟨hB.block b hb, if_pos hb⟩, fun b hb => if_neg (by have := hB.size; omega)⟩, rfl, fun s a => SV.val_one rfl⟩
theorem fn_strings_IndexAny (s : Str) (hs : s.length ≤ 1048576) : FnOk Tryz.prog 160 [dS s, dS [61, 33]] (fun r => ∃ i : Int, r = .val (dI i) ∧ (-1 ≤ i ∧ i < s.length) ∧ (asc s = true → i = if signAt s < s.length then (signAt s : Int) else -1)) := by
 have hc : ∀ (j : Nat) (b : UInt8), ([61, 33] : Str)[j]? = some b → b.toNat < 128 := fun j b hb => by
  have := List.mem_of_getElem? hb
  simp at this
  rcases this with rfl | rfl <;> decide
 refine fnOne fun w ow vs hL hsz ha => ?_
 obtain rfl := args_2 hsz ha
 by_cases hasc : asc s = true
 ·refine (Tryz.strings_IndexAny_laid ⟨s.toArray⟩ ⟨[61, 33].toArray⟩ w (by simp [ByteArray.size]; omega) (by decide) (fun j b hb => ?_) hc).mono fun e w' ⟨h1, h2⟩ => ?_
  ·have hb' : s[j]? = some b := hb
   have := List.all_eq_true.1 hasc b (List.mem_of_getElem? hb')
   simpa using this
  ·have he : Lib.indexAny s [61, 33] = if signAt s < s.length then (signAt s : Int) else -1 := indexAny_eq s
   refine ⟨_, h1, ⟨?_, fun _ => he⟩, h2⟩
   show -1 ≤ Lib.indexAny s [61, 33] ∧ Lib.indexAny s [61, 33] < s.length
   rw [he]
   split <;> omega
 ·by_cases h8 : s.length ≤ 8
  ·exact (any_short s h8 w).mono fun e w' ⟨i, h1, h2, h3, h4⟩ => ⟨i, h1, ⟨⟨h2, h3⟩, fun h => absurd h hasc⟩, h4⟩
  ·have hz : ∀ w, (zeroValue 184).run Tryz.prog w = .ok (.agg (Array.replicate 256 (.bool false))) w := Tryz.zeroValue184
   refine (Tryz.strings_IndexAny_long hz ⟨s.toArray⟩ ⟨[61, 33].toArray⟩ w (by decide) (by simp [ByteArray.size]; omega) (by simp [ByteArray.size]; omega) (by decide) hc).mono fun e w' ⟨h1, h2⟩ => ?_
   have he : Lib.indexAny s [61, 33] = if signAt s < s.length then (signAt s : Int) else -1 := indexAny_eq s
   refine ⟨_, h1, ⟨?_, fun _ => he⟩, h2 ▸ ((Below.refl _ w).alloc (Nat.le_refl _) _).alloc (by simp) _⟩
   show -1 ≤ Lib.indexAny s [61, 33] ∧ Lib.indexAny s [61, 33] < s.length
   rw [he]
   split <;> omega
theorem fnLess {f : FuncId} {ds : List D} {r r' : S} (h : FnOk Tryz.prog f ds (fun x => x = r)) (hp : S.plain r' = true) (hl : ∀ w ow s a t v, SV Tryz.prog w ow s a t r v → SV Tryz.prog w ow s a t r' v) : FnOk Tryz.prog f ds (fun x => x = r') := by
 intro w ow vs t ht hL hnew hvs hargs
 refine (h w ow vs t ht hL hnew hvs hargs).mono ?_
 rintro e w' ⟨v, ow', x, h1, rfl, h3, _, h5⟩
 exact ⟨v, ow', r', h1, rfl, h3, hp, fun s a => hl _ _ _ _ _ _ (h5 s a)⟩
theorem fn_impl_parseInts (l : List Str) (hl : l.length ≤ 1048576) (hs : ∀ x ∈ l, x.length ≤ 1048576) : FnOk Tryz.prog 161 [nStrs l] (fun r => r = .tup [.own (oInts ((readIs l).getD [])), .val (dB (readIs l).isSome)]) := by
 cases hr : readIs l with
 | some r => exact fn_pis_ok l r hl hs hr
 | none =>
  refine fnLess (fn_pis_no l hl hs hr) rfl fun w ow s a t v h => ?_
  obtain ⟨vs, h1, h2, h3⟩ := h
  refine ⟨vs, h1, h2, fun k x hx => ?_⟩
  match k, hx with
  | 0, hx =>
   obtain rfl := Option.some.inj hx
   have := h3 0 _ rfl
   simp only [D.fz, V, R] at this
   have he : vs.getD 0 undef = .slice none 0 0 := by simpa using this.1
   simp only [he]
   exact nil_own
  | 1, hx => exact h3 1 x hx
end Go.Proofs.YtfhfidecmdhkoaaGreatDoor

end
section
set_option maxRecDepth 10000
namespace Go.Proofs.YtfhfidecmdhkoaaGreatDoor
open Go.Dv Go.Pl
theorem asc_fmt (n : Int) : asc (fmtI n) = true := List.all_eq_true.2 fun c hc => by
 rcases fmtI_dig hc with rfl | h
 ·decide
 ·have := h.2; simp; omega
theorem asc_ver (v : Ver) : asc (verTxt v) = true := by
 unfold verTxt asc
 have h1 := asc_fmt v.a; have h2 := asc_fmt v.b; have h3 := asc_fmt v.time
 unfold asc at h1 h2 h3
 simp only [List.all_append, List.all_cons, h1, h2, h3]
 cases v.same <;> decide
theorem readVer_asc {s : Str} (h : ¬ asc s = true) : readVer s = none := by
 cases hr : readVer s with
 | none => rfl
 | some v =>
  have := (inv_some hr).2
  rw [← this] at h
  exact absurd (asc_ver v) h
theorem readVer_test {s : Str} {v : Ver} (h : verStr v = s) (hs : s ≠ []) : readVer s = some v := by
 have := (verStr_eq hs).2 h
 rw [← this.2]; exact readVer_of this.1
theorem three_of {a b c : Str} {r : List Int} (h : readIs [a, b, c] = some r) : ∃ x y z, r = [x, y, z] ∧ readI a = some x ∧ readI b = some y ∧ readI c = some z := by
 simp only [readIs] at h
 cases ha : readI a with
 | none => rw [ha] at h; cases h
 | some x =>
  cases hb : readI b with
  | none => rw [ha, hb] at h; cases h
  | some y =>
   cases hc : readI c with
   | none => rw [ha, hb, hc] at h; cases h
   | some z => rw [ha, hb, hc] at h; exact ⟨x, y, z, (Option.some.inj h).symm, rfl, rfl, rfl⟩
theorem three_no {a b c : Str} (F : Int → Int → Int → Ver) (h : readIs [a, b, c] = none) : (readI a).bind (fun x => (readI b).bind fun y => (readI c).bind fun z => some (F x y z)) = none := by
 simp only [readIs] at h
 cases ha : readI a with
 | none => rfl
 | some x =>
  cases hb : readI b with
  | none => rfl
  | some y =>
   cases hc : readI c with
   | none => rfl
   | some z => rw [ha, hb, hc] at h; cases h
theorem candVerI_out {s : Str} (h : ¬ signAt s < s.length) : candVerI s = none := if_neg h
theorem candVerI_in {s : Str} {k : Nat} (h : signAt s < s.length) (hk : signAt s = k) : candVerI s = (readI (s.take k)).bind fun a => (readI (bef 64 (s.drop (k + 1)))).bind fun b => (readI (aft 64 (s.drop (k + 1)))).bind fun t => some ⟨a, b, decide (s[k]? = some 61), t⟩ := by
 subst hk; exact if_pos h
theorem fn_impl_ParseVerdict (s : Str) (hs : s.length ≤ 1048576) : FnOk Tryz.prog 121 [dS s] (fun res' => res' = .tup [.val (dVer (verOr s)), .val (dB (readVer s).isSome)]) := by
 refine fn_of good (rs := [.cell 2 79, .tmp 3]) Tryz.func121 rfl Tryz.ntmps121 (by decide) (by simp) rfl fun w0 ow0 => ?_
 refine okC_rg good ?_
 simp [go_sem]
 repeat (with_reducible refine And.intro ?_ ?_; first | omega | assumption | (simp only [inI]; omega))
 refine okC_rg good ?_
 simp [go_sem]
 repeat (with_reducible refine And.intro ?_ ?_; first | omega | assumption | (simp only [inI]; omega))
 refine callK_fx (fn_strings_IndexAny s hs) (by simp [go_sem]) ?_
 rintro r ⟨i, rfl, hi, hx⟩
 refine ⟨by simp [go_sem], ?_⟩
 simp [go_sem]
 repeat (with_reducible refine And.intro ?_ ?_; first | omega | assumption | (simp only [inI]; omega))
 refine okC_seq ?_
 refine okC_rg good ?_
 simp [go_sem]
 repeat (with_reducible refine And.intro ?_ ?_; first | omega | assumption | (simp only [inI]; omega))
 refine okC_if ?_
 simp [go_sem]
 first | refine gC_dec (fun b => ?_) (fun b => ?_) | refine gC_ndec (fun b => ?_) (fun b => ?_) | refine gC_of (fun b => ?_) (fun b => ?_)
 ·try simp at b
  have hrd : readVer s = none := by by_cases ha : asc s = true; (exact inv_none candVerI_ok (candVerI_out (fun h => by have := hx ha; rw [if_pos h] at this; omega))); (exact readVer_asc ha)
  refine okC_rg good ?_
  simp [go_sem]
  repeat (with_reducible refine And.intro ?_ ?_; first | omega | assumption | (simp only [inI]; omega))
  refine okC_ret ?_
  simp [go_sem]
  simp [verOr, hrd, ver0]
 ·try simp at b
  refine okC_skip ?_
  obtain ⟨k, rfl⟩ : ∃ k : Nat, i = k := ⟨i.toNat, by omega⟩
  have hk : k < s.length := by omega
  have hsn : s ≠ [] := List.ne_nil_of_length_pos (by omega)
  obtain ⟨A, hA⟩ : ∃ A, s.take k = A := ⟨_, rfl⟩
  obtain ⟨R, hR⟩ : ∃ R, s.drop (k + 1) = R := ⟨_, rfl⟩
  have hAl : A.length ≤ s.length := by rw [← hA, List.length_take]; omega
  have hRl : R.length ≤ s.length := by rw [← hR, List.length_drop]; omega
  have hb2 := bef_len 64 R
  have ha2 := aft_len 64 R
  obtain ⟨c, hc⟩ := at_of (l := s) (i := k) hk
  have hcz := ba_at hc
  have hcd : asc s = true → candVerI s = (readI A).bind fun a => (readI (bef 64 R)).bind fun b => (readI (aft 64 R)).bind fun t => some ⟨a, b, decide (c = 61), t⟩ := fun ha => by have h9 := hx ha; by_cases h : signAt s < s.length; (rw [if_pos h] at h9; rw [candVerI_in (k := k) h (by omega), hA, hR, hc]; simp only [Option.some.injEq]); (rw [if_neg h] at h9; omega)
  have htk : R.take (s.length - (k + 1)) = R := by rw [← hR]; exact take_drop_len s (k + 1)
  refine okC_rg good ?_
  simp [go_sem, hR, htk, hA]
  repeat (with_reducible refine And.intro ?_ ?_; first | omega | assumption | (simp only [inI]; omega))
  first | refine callK_of (fn_strings_Cut R 64 (by omega)) (by simp [go_sem]) ?_ | refine callK_fz (fn_strings_Cut R 64 (by omega)) (by simp [go_sem]) (by simp [go_sem]) ?_
  simp [go_sem, hR, htk, hA]
  repeat (with_reducible refine And.intro ?_ ?_; first | omega | assumption | (simp only [inI]; omega))
  refine okC_rg good ?_
  simp [go_sem, hR, htk, hA]
  repeat (with_reducible refine And.intro ?_ ?_; first | omega | assumption | (simp only [inI]; omega))
  first | refine callK_of (fn_impl_parseInts [A, bef 64 R, aft 64 R] (by simp) (fun x hx => by simp at hx; rcases hx with rfl | rfl | rfl <;> omega)) (by simp [go_sem]) ?_ | refine callK_fz (fn_impl_parseInts [A, bef 64 R, aft 64 R] (by simp) (fun x hx => by simp at hx; rcases hx with rfl | rfl | rfl <;> omega)) (by simp [go_sem]) (by simp [go_sem]) ?_
  simp [go_sem, hR, htk, hA]
  repeat (with_reducible refine And.intro ?_ ?_; first | omega | assumption | (simp only [inI]; omega))
  refine okC_seq ?_
  refine okC_rg good ?_
  simp [go_sem, hR, htk, hA]
  repeat (with_reducible refine And.intro ?_ ?_; first | omega | assumption | (simp only [inI]; omega))
  refine okC_if ?_
  simp [go_sem, hR, htk, hA]
  first | refine gC_dec (fun d => ?_) (fun d => ?_) | refine gC_ndec (fun d => ?_) (fun d => ?_) | refine gC_of (fun d => ?_) (fun d => ?_)
  ·try simp at d
   have hno : readIs [A, bef 64 R, aft 64 R] = none := by simpa using d
   have hrd : readVer s = none := by by_cases ha : asc s = true; (refine inv_none candVerI_ok ?_; rw [hcd ha]; exact three_no (fun a b t => ⟨a, b, decide (c = 61), t⟩) hno); (exact readVer_asc ha)
   refine okC_rg good ?_
   simp [go_sem, hR, htk, hA]
   repeat (with_reducible refine And.intro ?_ ?_; first | omega | assumption | (simp only [inI]; omega))
   refine okC_ret ?_
   simp [go_sem, hR, htk, hA]
   simp [verOr, hrd, ver0]
  ·try simp at d
   refine okC_skip ?_
   obtain ⟨r, hr⟩ := Option.isSome_iff_exists.1 (show (readIs [A, bef 64 R, aft 64 R]).isSome = true by simpa using d)
   obtain ⟨x, y, z, rfl, h1, h2, h3⟩ := three_of hr
   have e61 : ((c.toNat : Int) = 61) ↔ c = 61 := ⟨fun h => UInt8.toNat_inj.1 (by show c.toNat = 61; omega), fun h => by rw [h]; rfl⟩
   refine okC_df good [(13, [40, 43, 47, 50, 51]), (14, [10]), (15, [10, 51])] [(0, .val (dS s)), (2, .own (.bx true (dVer ⟨0, 0, false, 0⟩))), (3, .val (dB false)), (4, .val (dI k)), (8, .own (oInts [x, y, z]))] [] rfl (by decide) (by kernel_rfl) (by simp [go_sem, hR, htk, hA, hr, hc, hcz, e61]) ?_
   simp [go_sem, hR, htk, hA, hr, hc, hcz, e61]
   repeat (with_reducible refine And.intro ?_ ?_; first | omega | assumption | (simp only [inI]; omega))
   refine okC_seq ?_
   refine okC_rg good ?_
   simp [go_sem, hR, htk, hA, hr, hc, hcz, e61]
   repeat (with_reducible refine And.intro ?_ ?_; first | omega | assumption | (simp only [inI]; omega))
   first | refine callK_of (fn_impl_FormatVerdict ⟨x, y, decide (c = 61), z⟩) (by simp [go_sem]) ?_ | refine callK_fz (fn_impl_FormatVerdict ⟨x, y, decide (c = 61), z⟩) (by simp [go_sem]) (by simp [go_sem]) ?_
   simp [go_sem, hR, htk, hA, hr, hc, hcz, e61]
   repeat (with_reducible refine And.intro ?_ ?_; first | omega | assumption | (simp only [inI]; omega))
   refine okC_if ?_
   simp [go_sem, hR, htk, hA, hr, hc, hcz, e61]
   first | refine gC_dec (fun g => ?_) (fun g => ?_) | refine gC_ndec (fun g => ?_) (fun g => ?_) | refine gC_of (fun g => ?_) (fun g => ?_)
   ·try simp at g
    have hrd : readVer s = none := by by_cases ha : asc s = true; (exact (inv_test (str := verStr) (fun _ => rfl) candVerI_ok (show candVerI s = some ⟨x, y, decide (c = 61), z⟩ by rw [hcd ha, h1, h2, h3]; rfl) hsn).trans (if_neg g)); (exact readVer_asc ha)
    refine okC_rg good ?_
    simp [go_sem, hR, htk, hA, hr, hc, hcz, e61]
    repeat (with_reducible refine And.intro ?_ ?_; first | omega | assumption | (simp only [inI]; omega))
    refine okC_ret ?_
    simp [go_sem, hR, htk, hA, hr, hc, hcz, e61]
    simp [verOr, hrd, ver0]
   ·try simp at g
    refine okC_skip ?_
    have hrd : readVer s = some ⟨x, y, decide (c = 61), z⟩ := readVer_test g hsn
    refine okC_rg good ?_
    simp [go_sem, hR, htk, hA, hr, hc, hcz, e61]
    repeat (with_reducible refine And.intro ?_ ?_; first | omega | assumption | (simp only [inI]; omega))
    refine okC_ret ?_
    simp [go_sem, hR, htk, hA, hr, hc, hcz, e61]
    simp [verOr, hrd]
end Go.Proofs.YtfhfidecmdhkoaaGreatDoor

end
section
set_option maxRecDepth 10000
namespace Go.Proofs.YtfhfidecmdhkoaaGreatDoor
open Go.Dv Go.Pl
theorem small_gone (a b c : Int) (k : Int) (v : Ver) : smallO ⟨k, ⟨a, b, c, []⟩, v⟩ := ⟨by simp, fun f hf => by simp at hf⟩
theorem fn_impl_ParseOp (s : Str) (hs : s.length ≤ 1048000) : FnOk Tryz.prog 80 [dS s] (fun res' => res' = .tup [.own (oOp (opOr s)), .val (dB (readOp s).isSome)]) := by
 refine fn_of good (rs := [.cell 2 81, .tmp 3]) Tryz.func80 rfl Tryz.ntmps80 (by decide) (by simp) rfl fun w0 ow0 => ?_
 obtain ⟨w, hw⟩ : ∃ w, bef 32 s = w := ⟨_, rfl⟩
 obtain ⟨R, hR⟩ : ∃ R, aft 32 s = R := ⟨_, rfl⟩
 have hRl : R.length ≤ s.length := by rw [← hR]; exact aft_len _ _
 refine okC_rg good ?_
 simp [go_sem, hw, hR]
 repeat (with_reducible refine And.intro ?_ ?_; first | omega | assumption | (simp only [inI]; omega))
 refine okC_rg good ?_
 simp [go_sem, hw, hR]
 repeat (with_reducible refine And.intro ?_ ?_; first | omega | assumption | (simp only [inI]; omega))
 refine okC_rg good ?_
 simp [go_sem, hw, hR]
 repeat (with_reducible refine And.intro ?_ ?_; first | omega | assumption | (simp only [inI]; omega))
 refine okC_rg good ?_
 simp [go_sem, hw, hR]
 repeat (with_reducible refine And.intro ?_ ?_; first | omega | assumption | (simp only [inI]; omega))
 first | refine callK_of (fn_strings_Cut s 32 (by omega)) (by simp [go_sem]) ?_ | refine callK_fz (fn_strings_Cut s 32 (by omega)) (by simp [go_sem]) (by simp [go_sem]) ?_
 simp [go_sem, hw, hR]
 repeat (with_reducible refine And.intro ?_ ?_; first | omega | assumption | (simp only [inI]; omega))
 refine okC_cut (fun (x' : (Opn) × (Bool)) => match x' with | (o, ok) => [(0, .val (dS s)), (2, .own (.bx true (oOp ⟨0, ⟨0, 0, 0, []⟩, ⟨0, 0, false, 0⟩⟩))), (3, .val (dB false)), (4, .own (.bx true (oOp o))), (5, .val (dB ok))]) (fun (x' : (Opn) × (Bool)) => match x' with | (o, ok) => (candOpI s = if ok = true then some o else none) ∧ (smallO o)) ?_ ?_
 rotate_left
 ·rintro K1 hK1
  refine okC_rg good ?_
  simp [go_sem, hw, hR]
  repeat (with_reducible refine And.intro ?_ ?_; first | omega | assumption | (simp only [inI]; omega))
  refine okC_block ?_
  refine okC_rg good ?_
  simp [go_sem, hw, hR]
  repeat (with_reducible refine And.intro ?_ ?_; first | omega | assumption | (simp only [inI]; omega))
  refine okC_if ?_
  simp [go_sem, hw, hR]
  first | refine gC_dec (fun k1 => ?_) (fun k1 => ?_) | refine gC_ndec (fun k1 => ?_) (fun k1 => ?_) | refine gC_of (fun k1 => ?_) (fun k1 => ?_)
  ·try simp at k1
   refine okC_rg good ?_
   simp [go_sem, hw, hR]
   repeat (with_reducible refine And.intro ?_ ?_; first | omega | assumption | (simp only [inI]; omega))
   refine okC_rg1 good ?_
   simp [go_sem, hw, hR]
   repeat (with_reducible refine And.intro ?_ ?_; first | omega | assumption | (simp only [inI]; omega))
   first | refine callK_of (fn_impl_ParseRecord R (by omega)) (by simp [go_sem]) ?_ | refine callK_fz (fn_impl_ParseRecord R (by omega)) (by simp [go_sem]) (by simp [go_sem]) ?_
   simp [go_sem, hw, hR]
   repeat (with_reducible refine And.intro ?_ ?_; first | omega | assumption | (simp only [inI]; omega))
   refine show K1 .normal _ from normalE hK1 ⟨(⟨1, recOr R, ⟨0, 0, false, 0⟩⟩, (readRec R).isSome), [], ⟨(by unfold candOpI recOr; rw [hw, hR, if_pos (show w = wPut from k1)]; cases readRec R <;> simp [ver0]), (smallR_or _)⟩, (by simp [go_sem, hw, hR])⟩
  ·try simp at k1
   refine okC_rg good ?_
   simp [go_sem, hw, hR]
   repeat (with_reducible refine And.intro ?_ ?_; first | omega | assumption | (simp only [inI]; omega))
   refine okC_if ?_
   simp [go_sem, hw, hR]
   first | refine gC_dec (fun k2 => ?_) (fun k2 => ?_) | refine gC_ndec (fun k2 => ?_) (fun k2 => ?_) | refine gC_of (fun k2 => ?_) (fun k2 => ?_)
   ·try simp at k2
    have hvl := aft_len 46 R
    have hnl := bef_len 46 R
    refine okC_rg good ?_
    simp [go_sem, hw, hR]
    repeat (with_reducible refine And.intro ?_ ?_; first | omega | assumption | (simp only [inI]; omega))
    refine okC_rg good ?_
    simp [go_sem, hw, hR]
    repeat (with_reducible refine And.intro ?_ ?_; first | omega | assumption | (simp only [inI]; omega))
    first | refine callK_of (fn_strings_Cut R 46 (by omega)) (by simp [go_sem]) ?_ | refine callK_fz (fn_strings_Cut R 46 (by omega)) (by simp [go_sem]) (by simp [go_sem]) ?_
    simp [go_sem, hw, hR]
    repeat (with_reducible refine And.intro ?_ ?_; first | omega | assumption | (simp only [inI]; omega))
    refine okC_rg good ?_
    simp [go_sem, hw, hR]
    repeat (with_reducible refine And.intro ?_ ?_; first | omega | assumption | (simp only [inI]; omega))
    first | refine callK_of (fn_impl_readOrigin (bef 46 R) (by omega)) (by simp [go_sem]) ?_ | refine callK_fz (fn_impl_readOrigin (bef 46 R) (by omega)) (by simp [go_sem]) (by simp [go_sem]) ?_
    simp [go_sem, hw, hR]
    repeat (with_reducible refine And.intro ?_ ?_; first | omega | assumption | (simp only [inI]; omega))
    refine okC_rg1 good ?_
    simp [go_sem, hw, hR]
    repeat (with_reducible refine And.intro ?_ ?_; first | omega | assumption | (simp only [inI]; omega))
    first | refine callK_of (fn_impl_ParseInt (aft 46 R) (by omega)) (by simp [go_sem]) ?_ | refine callK_fz (fn_impl_ParseInt (aft 46 R) (by omega)) (by simp [go_sem]) (by simp [go_sem]) ?_
    simp [go_sem, hw, hR]
    repeat (with_reducible refine And.intro ?_ ?_; first | omega | assumption | (simp only [inI]; omega))
    refine show K1 .normal _ from normalE hK1 ⟨(⟨2, ⟨srcI (bef 46 R), getI ((bef 46 R).drop 1), getI (aft 46 R), []⟩, ⟨0, 0, false, 0⟩⟩, (origin? (bef 46 R)).isSome), [], ⟨(by unfold candOpI; rw [hw, hR, if_neg (show ¬ w = wPut from k1), if_pos (show w = wDel from k2)]; cases h : origin? (bef 46 R) with | none => simp | some o => simp [origin_some h, ver0]), (small_gone _ _ _ _ _)⟩, (by simp [go_sem, hw, hR])⟩
   ·try simp at k2
    refine okC_rg good ?_
    simp [go_sem, hw, hR]
    repeat (with_reducible refine And.intro ?_ ?_; first | omega | assumption | (simp only [inI]; omega))
    refine okC_if ?_
    simp [go_sem, hw, hR]
    first | refine gC_dec (fun k3 => ?_) (fun k3 => ?_) | refine gC_ndec (fun k3 => ?_) (fun k3 => ?_) | refine gC_of (fun k3 => ?_) (fun k3 => ?_)
    ·try simp at k3
     refine okC_rg good ?_
     simp [go_sem, hw, hR]
     repeat (with_reducible refine And.intro ?_ ?_; first | omega | assumption | (simp only [inI]; omega))
     refine okC_rg1 good ?_
     simp [go_sem, hw, hR]
     repeat (with_reducible refine And.intro ?_ ?_; first | omega | assumption | (simp only [inI]; omega))
     first | refine callK_of (fn_impl_ParseVerdict R (by omega)) (by simp [go_sem]) ?_ | refine callK_fz (fn_impl_ParseVerdict R (by omega)) (by simp [go_sem]) (by simp [go_sem]) ?_
     simp [go_sem, hw, hR]
     repeat (with_reducible refine And.intro ?_ ?_; first | omega | assumption | (simp only [inI]; omega))
     refine show K1 .normal _ from normalE hK1 ⟨(⟨3, ⟨0, 0, 0, []⟩, verOr R⟩, (readVer R).isSome), [], ⟨(by unfold candOpI verOr; rw [hw, hR, if_neg (show ¬ w = wPut from k1), if_neg (show ¬ w = wDel from k2), if_pos (show w = wVer from k3)]; cases readVer R <;> simp [rec0]), (small_gone _ _ _ _ _)⟩, (by simp [go_sem, hw, hR])⟩
    ·try simp at k3
     refine okC_rg good ?_
     simp [go_sem, hw, hR]
     repeat (with_reducible refine And.intro ?_ ?_; first | omega | assumption | (simp only [inI]; omega))
     refine okC_if ?_
     simp [go_sem, hw, hR]
     first | refine gC_dec (fun k4 => ?_) (fun k4 => ?_) | refine gC_ndec (fun k4 => ?_) (fun k4 => ?_) | refine gC_of (fun k4 => ?_) (fun k4 => ?_)
     ·try simp at k4
      refine okC_rg good ?_
      simp [go_sem, hw, hR]
      repeat (with_reducible refine And.intro ?_ ?_; first | omega | assumption | (simp only [inI]; omega))
      refine okC_rg1 good ?_
      simp [go_sem, hw, hR]
      repeat (with_reducible refine And.intro ?_ ?_; first | omega | assumption | (simp only [inI]; omega))
      first | refine callK_of (fn_impl_ParseVerdict R (by omega)) (by simp [go_sem]) ?_ | refine callK_fz (fn_impl_ParseVerdict R (by omega)) (by simp [go_sem]) (by simp [go_sem]) ?_
      simp [go_sem, hw, hR]
      repeat (with_reducible refine And.intro ?_ ?_; first | omega | assumption | (simp only [inI]; omega))
      refine show K1 .normal _ from normalE hK1 ⟨(⟨4, ⟨0, 0, 0, []⟩, verOr R⟩, (readVer R).isSome), [], ⟨(by unfold candOpI verOr; rw [hw, hR, if_neg (show ¬ w = wPut from k1), if_neg (show ¬ w = wDel from k2), if_neg (show ¬ w = wVer from k3), if_pos (show w = wRet from k4)]; cases readVer R <;> simp [rec0]), (small_gone _ _ _ _ _)⟩, (by simp [go_sem, hw, hR])⟩
     ·try simp at k4
      refine okC_skip ?_
      refine show K1 .normal _ from normalE hK1 ⟨(⟨0, ⟨0, 0, 0, []⟩, ⟨0, 0, false, 0⟩⟩, false), [], ⟨(by unfold candOpI; rw [hw, hR, if_neg (show ¬ w = wPut from k1), if_neg (show ¬ w = wDel from k2), if_neg (show ¬ w = wVer from k3), if_neg (show ¬ w = wRet from k4)]; simp), (small_gone _ _ _ _ _)⟩, (by simp [go_sem, hw, hR])⟩
 rintro ⟨o, ok⟩ ⟨hcd, hso⟩
 simp only at hcd hso ⊢
 refine okC_seq ?_
 refine okC_rg good ?_
 simp [go_sem, hw, hR]
 repeat (with_reducible refine And.intro ?_ ?_; first | omega | assumption | (simp only [inI]; omega))
 first | refine gI_dec (fun e => ?_) (fun e => ?_) | refine gI_ndec (fun e => ?_) (fun e => ?_) | refine gI_of (fun e => ?_) (fun e => ?_)
 ·have e' := e; try simp at e'
  simp [go_sem, hw, hR, e]
  repeat (with_reducible refine And.intro ?_ ?_; first | omega | assumption | (simp only [inI]; omega))
  refine okC_if ?_
  simp [go_sem, hw, hR, e]
  have hrd : readOp s = none := inv_none candOpI_ok (by rw [hcd, if_neg (by simpa using e)])
  refine okC_rg good ?_
  simp [go_sem, hw, hR, e]
  repeat (with_reducible refine And.intro ?_ ?_; first | omega | assumption | (simp only [inI]; omega))
  refine okC_ret ?_
  simp [go_sem, hw, hR, e]
  simp [opOr, hrd, op0, rec0, ver0]
 ·have e' := e; try simp at e'
  rw [if_pos (by simpa using e)] at hcd
  have hsn : s ≠ [] := fun e0 => by rw [e0] at hcd; exact absurd hcd (by simp [candOpI, bef, wPut, wDel, wVer, wRet])
  have hrd : readOp s = _ := inv_test (str := opStr) (fun _ => rfl) candOpI_ok hcd hsn
  simp [go_sem, hw, hR, e]
  repeat (with_reducible refine And.intro ?_ ?_; first | omega | assumption | (simp only [inI]; omega))
  first | refine callK_of (fn_impl_FormatOp o hso) (by simp [go_sem]) ?_ | refine callK_fz (fn_impl_FormatOp o hso) (by simp [go_sem]) (by simp [go_sem]) ?_
  simp [go_sem, hw, hR, e]
  repeat (with_reducible refine And.intro ?_ ?_; first | omega | assumption | (simp only [inI]; omega))
  refine okC_if ?_
  simp [go_sem, hw, hR, e]
  first | refine gC_dec (fun g => ?_) (fun g => ?_) | refine gC_ndec (fun g => ?_) (fun g => ?_) | refine gC_of (fun g => ?_) (fun g => ?_)
  ·try simp at g
   refine okC_rg good ?_
   simp [go_sem, hw, hR, e]
   repeat (with_reducible refine And.intro ?_ ?_; first | omega | assumption | (simp only [inI]; omega))
   refine okC_ret ?_
   simp [go_sem, hw, hR, e]
   simp [opOr, hrd, g, op0, rec0, ver0]
  ·try simp at g
   refine okC_skip ?_
   refine okC_rg good ?_
   simp [go_sem, hw, hR, e]
   repeat (with_reducible refine And.intro ?_ ?_; first | omega | assumption | (simp only [inI]; omega))
   refine okC_ret ?_
   simp [go_sem, hw, hR, e]
   simp [opOr, hrd, g]
theorem fn_impl_ParseBatch (s : Str) (hs : s.length ≤ 1048000) : FnOk Tryz.prog 45 [dS s] (fun res' => res' = .tup [.own (oBat (batOr s)), .val (dB (readBat s).isSome)]) := by
 refine fn_of good (rs := [.cell 2 30, .tmp 3]) Tryz.func45 rfl Tryz.ntmps45 (by decide) (by simp) rfl fun w0 ow0 => ?_
 refine okC_rg good ?_
 simp [go_sem]
 repeat (with_reducible refine And.intro ?_ ?_; first | omega | assumption | (simp only [inI]; omega))
 refine okC_rg good ?_
 simp [go_sem]
 repeat (with_reducible refine And.intro ?_ ?_; first | omega | assumption | (simp only [inI]; omega))
 refine okC_seq ?_
 refine okC_rg good ?_
 simp [go_sem]
 repeat (with_reducible refine And.intro ?_ ?_; first | omega | assumption | (simp only [inI]; omega))
 refine okC_if ?_
 simp [go_sem]
 first | refine gC_dec (fun e => ?_) (fun e => ?_) | refine gC_ndec (fun e => ?_) (fun e => ?_) | refine gC_of (fun e => ?_) (fun e => ?_)
 ·try simp at e
  have hrd : readBat s = some [] := by rw [e]; exact readBat_of (l := []) rfl
  refine okC_rg good ?_
  simp [go_sem]
  repeat (with_reducible refine And.intro ?_ ?_; first | omega | assumption | (simp only [inI]; omega))
  refine okC_ret ?_
  simp [go_sem]
  simp [batOr, hrd]
 ·try simp at e
  refine okC_skip ?_
  refine okC_seq ?_
  obtain ⟨A, hA⟩ : ∃ A, trimL 91 s = A := ⟨_, rfl⟩
  obtain ⟨X, hX⟩ : ∃ X, trimR 93 A = X := ⟨_, rfl⟩
  have hAl : A.length ≤ s.length := by rw [← hA, trimL]; split <;> simp
  have hXl : X.length ≤ s.length := Nat.le_trans (by rw [← hX, trimR]; split <;> simp) hAl
  have hsn : readOps (cutS 59 X) ≠ none → s ≠ [] := fun h e0 => by subst e0; simp only [trimL, List.getElem?_nil] at hA; subst hA; simp [trimR] at hX; subst hX; exact h (show (readOp []).bind _ = none by rw [readOp_nil]; rfl)
  have hcl := cutS_len 59 X
  obtain ⟨T, hT⟩ : ∃ T, cutS 59 X = T := ⟨_, rfl⟩
  have hcand : candBatI s = readOps T := by unfold candBatI; rw [if_neg e, hA, hX, hT]
  rw [hT] at hcl hsn
  refine okC_rg good ?_
  simp [go_sem, hA, hX, hT]
  repeat (with_reducible refine And.intro ?_ ?_; first | omega | assumption | (simp only [inI]; omega))
  first | refine callK_of (fn_strings_TrimPrefix s 91) (by simp [go_sem]) ?_ | refine callK_fz (fn_strings_TrimPrefix s 91) (by simp [go_sem]) (by simp [go_sem]) ?_
  simp [go_sem, hA, hX, hT]
  repeat (with_reducible refine And.intro ?_ ?_; first | omega | assumption | (simp only [inI]; omega))
  first | refine callK_of (fn_strings_TrimSuffix A 93 (by omega)) (by simp [go_sem]) ?_ | refine callK_fz (fn_strings_TrimSuffix A 93 (by omega)) (by simp [go_sem]) (by simp [go_sem]) ?_
  simp [go_sem, hA, hX, hT]
  repeat (with_reducible refine And.intro ?_ ?_; first | omega | assumption | (simp only [inI]; omega))
  first | refine callK_of (fn_strings_Split X 59 (by omega)) (by simp [go_sem]) ?_ | refine callK_fz (fn_strings_Split X 59 (by omega)) (by simp [go_sem]) (by simp [go_sem]) ?_
  simp [go_sem, hA, hX, hT]
  repeat (with_reducible refine And.intro ?_ ?_; first | omega | assumption | (simp only [inI]; omega))
  refine okC_block ?_
  refine okC_rounds (fun (x' : (Nat) × (List Opn)) => match x' with | (i, b) => [(0, .val (dS s)), (2, .own (.bx true (oBat []))), (3, .val (dB false)), (4, .own (.bx true (oBat b))), (15, .own (oStrs T)), (16, .val (dI T.length)), (17, .val (dI i))]) (fun (x' : (Nat) × (List Opn)) => match x' with | (i, b) => T.length - i) (fun (x' : (Nat) × (List Opn)) => match x' with | (i, b) => (i ≤ T.length) ∧ (readOps (T.take i) = some b)) ((0, [])) [] ⟨(by simp), (by simp [readOps])⟩ (by simp [go_sem, hA, hX, hT]) ?_
  rintro ⟨i, b⟩ ⟨h1, h2⟩ K1 hK1
  simp only at h1 h2 ⊢
  have hrv := readOps_valid h2
  have hbl : b.length ≤ T.length := by have := hrv.1; rw [List.length_take] at this; omega
  refine okC_rg good ?_
  simp [go_sem, hA, hX, hT]
  repeat (with_reducible refine And.intro ?_ ?_; first | omega | assumption | (simp only [inI]; omega))
  refine okC_seq ?_
  refine okC_if ?_
  simp [go_sem, hA, hX, hT]
  first | refine gC_dec (fun a => ?_) (fun a => ?_) | refine gC_ndec (fun a => ?_) (fun a => ?_) | refine gC_of (fun a => ?_) (fun a => ?_)
  ·try simp at a
   refine okC_skip ?_
   refine okC_seq ?_
   refine okC_block ?_
   obtain ⟨x, hx⟩ := at_of (l := T) (i := i) (by omega)
   have hxl := hcl.2 x (List.mem_of_getElem? hx)
   refine okC_rg good ?_
   simp [go_sem, hA, hX, hT, hx]
   repeat (with_reducible refine And.intro ?_ ?_; first | omega | assumption | (simp only [inI]; omega))
   refine okC_rg good ?_
   simp [go_sem, hA, hX, hT, hx]
   repeat (with_reducible refine And.intro ?_ ?_; first | omega | assumption | (simp only [inI]; omega))
   first | refine callK_of (fn_impl_ParseOp x (by omega)) (by simp [go_sem]) ?_ | refine callK_fz (fn_impl_ParseOp x (by omega)) (by simp [go_sem]) (by simp [go_sem]) ?_
   simp [go_sem, hA, hX, hT, hx]
   repeat (with_reducible refine And.intro ?_ ?_; first | omega | assumption | (simp only [inI]; omega))
   refine okC_seq ?_
   refine okC_rg good ?_
   simp [go_sem, hA, hX, hT, hx]
   repeat (with_reducible refine And.intro ?_ ?_; first | omega | assumption | (simp only [inI]; omega))
   refine okC_if ?_
   simp [go_sem, hA, hX, hT, hx]
   first | refine gC_dec (fun d => ?_) (fun d => ?_) | refine gC_ndec (fun d => ?_) (fun d => ?_) | refine gC_of (fun d => ?_) (fun d => ?_)
   ·try simp at d
    have hrx : readOp x = none := by simpa using d
    have hrd : readBat s = none := inv_none candBatI_ok (by rw [hcand]; exact readOps_none (List.mem_of_getElem? hx) hrx)
    refine okC_rg good ?_
    simp [go_sem, hA, hX, hT, hx]
    repeat (with_reducible refine And.intro ?_ ?_; first | omega | assumption | (simp only [inI]; omega))
    refine okC_ret (show K1 _ _ from retE hK1 ?_)
    simp [go_sem, hA, hX, hT, hx]
    simp [batOr, hrd]
   ·try simp at d
    refine okC_skip ?_
    obtain ⟨o, ho⟩ := Option.isSome_iff_exists.1 (show (readOp x).isSome = true by simpa using d)
    have hoo := opOr_some ho
    have hsn2 : readOps (T.take (i + 1)) = some (b ++ [o]) := by rw [take_snoc hx, readOps_snoc h2, ho]; rfl
    refine okC_rg1 good ?_
    simp [go_sem, hA, hX, hT, hx, hoo]
    repeat (with_reducible refine And.intro ?_ ?_; first | omega | assumption | (simp only [inI]; omega))
    refine okC_rg1 good ?_
    simp [go_sem, hA, hX, hT, hx, hoo]
    repeat (with_reducible refine And.intro ?_ ?_; first | omega | assumption | (simp only [inI]; omega))
    refine normalE hK1 ⟨(i + 1, b ++ [o]), [], ⟨(by omega), (hsn2)⟩, (by show _ < _; first | omega | simp <;> omega), (by simp [go_sem, hA, hX, hT, hx, hoo])⟩
  ·try simp at a
   refine okC_exit (show K1 _ _ from exitE hK1 ?_)
   refine okC_seq ?_
   have hra : readOps T = some b := by rw [← h2, List.take_of_length_le (by omega)]
   have hrd : readBat s = _ := inv_test (str := batStr) (fun _ => rfl) candBatI_ok (hcand.trans hra) (hsn (by rw [hra]; simp))
   refine okC_rg good ?_
   simp [go_sem, hA, hX, hT]
   repeat (with_reducible refine And.intro ?_ ?_; first | omega | assumption | (simp only [inI]; omega))
   first | refine callK_of (fn_impl_FormatBatch b (smallB_of (by omega) hrv.2)) (by simp [go_sem]) ?_ | refine callK_fz (fn_impl_FormatBatch b (smallB_of (by omega) hrv.2)) (by simp [go_sem]) (by simp [go_sem]) ?_
   simp [go_sem, hA, hX, hT]
   repeat (with_reducible refine And.intro ?_ ?_; first | omega | assumption | (simp only [inI]; omega))
   refine okC_if ?_
   simp [go_sem, hA, hX, hT]
   first | refine gC_dec (fun g => ?_) (fun g => ?_) | refine gC_ndec (fun g => ?_) (fun g => ?_) | refine gC_of (fun g => ?_) (fun g => ?_)
   ·try simp at g
    refine okC_rg good ?_
    simp [go_sem, hA, hX, hT]
    repeat (with_reducible refine And.intro ?_ ?_; first | omega | assumption | (simp only [inI]; omega))
    refine okC_ret ?_
    simp [go_sem, hA, hX, hT]
    simp [batOr, hrd, g]
   ·try simp at g
    refine okC_skip ?_
    refine okC_rg good ?_
    simp [go_sem, hA, hX, hT]
    repeat (with_reducible refine And.intro ?_ ?_; first | omega | assumption | (simp only [inI]; omega))
    refine okC_ret ?_
    simp [go_sem, hA, hX, hT]
    simp [batOr, hrd, g]
theorem fst91_hit {s : Str} (h : fst91 s < s.length) : s[fst91 s]? = some 91 := by
 obtain ⟨c, hc⟩ := at_of h
 have hp := takeWhile_next (p := fun c : UInt8 => decide (c ≠ 91)) s c hc
 have : c = 91 := by simpa using hp
 rw [hc, this]
theorem ib91 (s : Str) : Lib.indexByte s 91 = if fst91 s < s.length then (fst91 s : Int) else -1 := by
 rw [indexByte_eq]
 by_cases h : (91 : UInt8) ∈ s
 ·have hs := bef_split h
  have hl : fst91 s < s.length := by
   show (bef 91 s).length < s.length
   have := congrArg List.length hs.1
   simp at this; omega
  rw [if_pos h, if_pos hl]; rfl
 ·rw [if_neg h, if_neg]
  intro hl
  exact h (List.mem_of_getElem? (fst91_hit hl))
theorem fn_ib91 (s : Str) : FnOk Tryz.prog 42 [dS s, .one (.int .u8 91)] (fun r => r = .val (dI (if fst91 s < s.length then (fst91 s : Int) else -1))) := by rw [← ib91]; exact fn_strings_IndexByte s 91
theorem fn_impl_DecodeEntry (s : Str) (hs : s.length ≤ 1048000) : FnOk Tryz.prog 19 [dS s] (fun res' => res' = .tup [.val (dI (entOr s).1), .own (oBat (entOr s).2), .val (dB (readEnt s).isSome)]) := by
 refine fn_of good (rs := [.tmp 2, .cell 3 30, .tmp 4]) Tryz.func19 rfl Tryz.ntmps19 (by decide) (by simp) rfl fun w0 ow0 => ?_
 have hlb := lst93_in s
 have hfl := fst91_le s
 obtain ⟨I, hI⟩ : ∃ I : Int, (if fst91 s < s.length then (fst91 s : Int) else -1) = I := ⟨_, rfl⟩
 have hI2 : I = fst91 s ∧ fst91 s < s.length ∨ I = -1 ∧ ¬ fst91 s < s.length := by by_cases h : fst91 s < s.length; (rw [if_pos h] at hI; exact .inl ⟨hI.symm, h⟩); (rw [if_neg h] at hI; exact .inr ⟨hI.symm, h⟩)
 refine okC_rg good ?_
 simp [go_sem, hI]
 repeat (with_reducible refine And.intro ?_ ?_; first | omega | assumption | (simp only [inI]; omega))
 refine okC_rg good ?_
 simp [go_sem, hI]
 repeat (with_reducible refine And.intro ?_ ?_; first | omega | assumption | (simp only [inI]; omega))
 first | refine callK_of (fn_ib91 s) (by simp [go_sem]) ?_ | refine callK_fz (fn_ib91 s) (by simp [go_sem]) (by simp [go_sem]) ?_
 simp [go_sem, hI]
 repeat (with_reducible refine And.intro ?_ ?_; first | omega | assumption | (simp only [inI]; omega))
 first | refine callK_of (fn_strings_LastIndexByte s (by omega)) (by simp [go_sem]) ?_ | refine callK_fz (fn_strings_LastIndexByte s (by omega)) (by simp [go_sem]) (by simp [go_sem]) ?_
 simp [go_sem, hI]
 repeat (with_reducible refine And.intro ?_ ?_; first | omega | assumption | (simp only [inI]; omega))
 refine okC_seq ?_
 refine okC_rg good ?_
 simp [go_sem]
 repeat (with_reducible refine And.intro ?_ ?_; first | omega | assumption | (simp only [inI]; omega))
 first | refine gI_dec (fun e => ?_) (fun e => ?_) | refine gI_ndec (fun e => ?_) (fun e => ?_) | refine gI_of (fun e => ?_) (fun e => ?_)
 ·have e' := e; try simp at e'
  simp [go_sem, e]
  repeat (with_reducible refine And.intro ?_ ?_; first | omega | assumption | (simp only [inI]; omega))
  refine okC_if ?_
  simp [go_sem, e]
  have hrd : readEnt s = none := inv_none candEnt_ok (candEnt_out (by omega))
  refine okC_rg good ?_
  simp [go_sem, e]
  repeat (with_reducible refine And.intro ?_ ?_; first | omega | assumption | (simp only [inI]; omega))
  refine okC_ret ?_
  simp [go_sem, e]
  simp [entOr, hrd]
 ·have e' := e; try simp at e'
  obtain ⟨hIf, hlt⟩ := hI2.resolve_right (by omega)
  simp [go_sem, e]
  repeat (with_reducible refine And.intro ?_ ?_; first | omega | assumption | (simp only [inI]; omega))
  refine okC_if ?_
  simp [go_sem, e]
  first | refine gC_dec (fun g => ?_) (fun g => ?_) | refine gC_ndec (fun g => ?_) (fun g => ?_) | refine gC_of (fun g => ?_) (fun g => ?_)
  ·try simp at g
   have hrd : readEnt s = none := inv_none candEnt_ok (candEnt_out (by omega))
   refine okC_rg good ?_
   simp [go_sem, e]
   repeat (with_reducible refine And.intro ?_ ?_; first | omega | assumption | (simp only [inI]; omega))
   refine okC_ret ?_
   simp [go_sem, e]
   simp [entOr, hrd]
  ·try simp at g
   refine okC_skip ?_
   have hfz : (fst91 s : Int) < lst93 s := by rcases Int.lt_or_eq_of_le (show (fst91 s : Int) ≤ lst93 s by omega) with h | h; exact h; have h1 := lst93_hit (s := s) (by omega); have h2 := fst91_hit hlt; rw [← h, Int.toNat_natCast, h2] at h1; cases h1
   subst hIf
   obtain ⟨i, hi⟩ : ∃ i, fst91 s = i := ⟨_, rfl⟩
   obtain ⟨z, hz⟩ : ∃ z, lst93 s = z := ⟨_, rfl⟩
   rw [hi] at hlt
   rw [hi, hz] at hfz
   rw [hz] at hlb
   obtain ⟨A, hA⟩ : ∃ A, s.take i = A := ⟨_, rfl⟩
   obtain ⟨Y, hY⟩ : ∃ Y, (s.drop i).take (z.toNat + 1 - i) = Y := ⟨_, rfl⟩
   have hAl : A.length ≤ s.length := by rw [← hA, List.length_take]; omega
   have hYl : Y.length ≤ s.length := by rw [← hY, List.length_take, List.length_drop]; omega
   have hcd := candEnt_in (s := s) (A := A) (Y := Y) (by rw [hi, hz]; exact hfz) (by rw [hi]; exact hA) (by rw [hi, hz]; exact hY)
   have hz1 : (z + 1).toNat = z.toNat + 1 := by omega
   have hgi := getI_in A
   refine okC_rg good ?_
   simp [go_sem, e, hi, hz, hA, hz1, hY]
   repeat (with_reducible refine And.intro ?_ ?_; first | omega | assumption | (simp only [inI]; omega))
   first | refine callK_of (fn_impl_ParseInt A (by omega)) (by simp [go_sem]) ?_ | refine callK_fz (fn_impl_ParseInt A (by omega)) (by simp [go_sem]) (by simp [go_sem]) ?_
   simp [go_sem, e, hi, hz, hA, hz1, hY]
   repeat (with_reducible refine And.intro ?_ ?_; first | omega | assumption | (simp only [inI]; omega))
   refine okC_rg good ?_
   simp [go_sem, e, hi, hz, hA, hz1, hY]
   repeat (with_reducible refine And.intro ?_ ?_; first | omega | assumption | (simp only [inI]; omega))
   first | refine callK_of (fn_impl_ParseBatch Y (by omega)) (by simp [go_sem]) ?_ | refine callK_fz (fn_impl_ParseBatch Y (by omega)) (by simp [go_sem]) (by simp [go_sem]) ?_
   simp [go_sem, e, hi, hz, hA, hz1, hY]
   repeat (with_reducible refine And.intro ?_ ?_; first | omega | assumption | (simp only [inI]; omega))
   refine okC_seq ?_
   refine okC_rg good ?_
   simp [go_sem, e, hi, hz, hA, hz1, hY]
   repeat (with_reducible refine And.intro ?_ ?_; first | omega | assumption | (simp only [inI]; omega))
   first | refine gI_dec (fun f => ?_) (fun f => ?_) | refine gI_ndec (fun f => ?_) (fun f => ?_) | refine gI_of (fun f => ?_) (fun f => ?_)
   ·have f' := f; try simp at f'
    simp [go_sem, e, hi, hz, hA, hz1, hY, f]
    repeat (with_reducible refine And.intro ?_ ?_; first | omega | assumption | (simp only [inI]; omega))
    refine okC_if ?_
    simp [go_sem, e, hi, hz, hA, hz1, hY, f]
    have hrd : readEnt s = none := inv_none candEnt_ok (by rw [hcd, readI_none (by simpa using f)]; rfl)
    refine okC_rg good ?_
    simp [go_sem, e, hi, hz, hA, hz1, hY, f]
    repeat (with_reducible refine And.intro ?_ ?_; first | omega | assumption | (simp only [inI]; omega))
    refine okC_ret ?_
    simp [go_sem, e, hi, hz, hA, hz1, hY, f]
    simp [entOr, hrd]
   ·have f' := f; try simp at f'
    simp [go_sem, e, hi, hz, hA, hz1, hY, f]
    repeat (with_reducible refine And.intro ?_ ?_; first | omega | assumption | (simp only [inI]; omega))
    first | refine gI_dec (fun k => ?_) (fun k => ?_) | refine gI_ndec (fun k => ?_) (fun k => ?_) | refine gI_of (fun k => ?_) (fun k => ?_)
    ·have k' := k; try simp at k'
     simp [go_sem, e, hi, hz, hA, hz1, hY, f, k]
     repeat (with_reducible refine And.intro ?_ ?_; first | omega | assumption | (simp only [inI]; omega))
     refine okC_if ?_
     simp [go_sem, e, hi, hz, hA, hz1, hY, f, k]
     have hrd : readEnt s = none := inv_none candEnt_ok (by rw [hcd, show readBat Y = none by simpa using k]; cases readI A <;> rfl)
     refine okC_rg good ?_
     simp [go_sem, e, hi, hz, hA, hz1, hY, f, k]
     repeat (with_reducible refine And.intro ?_ ?_; first | omega | assumption | (simp only [inI]; omega))
     refine okC_ret ?_
     simp [go_sem, e, hi, hz, hA, hz1, hY, f, k]
     simp [entOr, hrd]
    ·have k' := k; try simp at k'
     have hra : readI A = some (getI A) := readI_yes (by simpa using f)
     obtain ⟨l, hl⟩ := Option.isSome_iff_exists.1 (show (readBat Y).isSome = true by simpa using k)
     have hlo : batOr Y = l := by rw [batOr, hl]; rfl
     rw [hra, hl] at hcd
     have hcd : candEnt s = some (getI A, l) := hcd
     have hsn : s ≠ [] := List.ne_nil_of_length_pos (by omega)
     have hrd : readEnt s = _ := inv_test (P := entB) (f := fun e : Int × List Opn => entTxt e.1 e.2) (str := fun e : Int × List Opn => entStr e.1 e.2) (fun _ => rfl) candEnt_ok hcd hsn
     have hsb := smallB_or Y
     rw [hlo] at hsb
     simp [go_sem, e, hi, hz, hA, hz1, hY, f, k, hlo]
     repeat (with_reducible refine And.intro ?_ ?_; first | omega | assumption | (simp only [inI]; omega))
     first | refine callK_of (fn_impl_EncodeEntry (getI A) l hsb) (by simp [go_sem]) ?_ | refine callK_fz (fn_impl_EncodeEntry (getI A) l hsb) (by simp [go_sem]) (by simp [go_sem]) ?_
     simp [go_sem, e, hi, hz, hA, hz1, hY, f, k, hlo]
     repeat (with_reducible refine And.intro ?_ ?_; first | omega | assumption | (simp only [inI]; omega))
     refine okC_if ?_
     simp [go_sem, e, hi, hz, hA, hz1, hY, f, k, hlo]
     first | refine gC_dec (fun m => ?_) (fun m => ?_) | refine gC_ndec (fun m => ?_) (fun m => ?_) | refine gC_of (fun m => ?_) (fun m => ?_)
     ·try simp at m
      refine okC_rg good ?_
      simp [go_sem, e, hi, hz, hA, hz1, hY, f, k, hlo]
      repeat (with_reducible refine And.intro ?_ ?_; first | omega | assumption | (simp only [inI]; omega))
      refine okC_ret ?_
      simp [go_sem, e, hi, hz, hA, hz1, hY, f, k, hlo]
      simp [entOr, hrd, m]
     ·try simp at m
      refine okC_skip ?_
      refine okC_df good [(2, [53, 2]), (3, [3, 54, 9]), (4, [4])] [(2, .val (dI 0)), (3, .own (.bx true (oBat []))), (4, .val (dB false)), (7, .val (dI (getI A))), (9, .own (.bx true (oBat l)))] [] rfl (by decide) (by kernel_rfl) (by simp [go_sem, e, hi, hz, hA, hz1, hY, f, k, hlo]) ?_
      simp [go_sem, e, hi, hz, hA, hz1, hY, f, k, hlo]
      repeat (with_reducible refine And.intro ?_ ?_; first | omega | assumption | (simp only [inI]; omega))
      refine okC_ret ?_
      simp [go_sem, e, hi, hz, hA, hz1, hY, f, k, hlo]
      simp [entOr, hrd, m]
end Go.Proofs.YtfhfidecmdhkoaaGreatDoor

end
section
set_option maxRecDepth 10000
namespace Go.Proofs.YtfhfidecmdhkoaaGreatDoor
open Go.Dv Go.Pl
end Go.Proofs.YtfhfidecmdhkoaaGreatDoor

end
