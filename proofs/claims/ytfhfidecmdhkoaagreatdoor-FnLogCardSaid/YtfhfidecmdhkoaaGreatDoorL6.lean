/- General lemmas (data by value) and the walks on which the law's proof leans, part 6. No condition. -/
import Derived.Test.YtfhfidecmdhkoaaGreatDoorL5
import Derived.Lib.AtoiAllCases
import Derived.Shelf.Lays
import Derived.Shelf.RegionOpenPlain
import Derived.WalkKit
import Derived.Lib.Walk
import Derived.Lib.RuneCount
import Derived.Lib.OthersKept
import Derived.Laws.RangeString
import Derived.Laws.RangeAny
import Derived.LoopTactic
import Derived.Still
import Derived.StillTactics
import Derived.Test.YtfhfidecmdhkoaaGreatDoorL4
import Derived.RangeFuncIn
import Derived.RangeFuncRecord
import Derived.RangeFuncCalls
import Derived.TacticsIn
import Derived.RangeFuncNested
import Derived.RangeFuncBound
import Derived.RangeFuncLeaves
import Derived.Shelf.Abstract
import Derived.Shelf.RegionOpen
import Derived.OwnWalkIn
import Derived.TacticsInMore
import Derived.LoopNIn
import Derived.LoopIn
import Derived.StillTail
import Derived.StillTailTactics
import Derived.Test.YtfhfidecmdhkoaaGreatDoorCards
import Derived.Test.YtfhfidecmdhkoaaGreatDoorTie
import Derived.Test.YtfhfidecmdhkoaaGreatDoorL1
import Derived.LaidLaws
import Derived.Lib.LaidTab
import Derived.Stop.LaidErr
import Derived.Handed
import Derived.ChangeArms
import Derived.ChangeShapes
set_option linter.unusedVariables false
set_option linter.unusedSimpArgs false
set_option linter.unusedSectionVars false
section
set_option maxRecDepth 10000
namespace Go.Proofs.YtfhfidecmdhkoaaGreatDoor
open Go.Dv Go.Pl
theorem fn_impl_IsValidOp (o : Opn) (hs : smallO o) : FnOk Tryz.prog 70 [nOp o] (fun res' => res' = .val (dB (validOp o))) := by
 refine fn_of good (rs := [.tmp 2]) Tryz.func70 rfl Tryz.ntmps70 (by decide) (by simp) rfl fun w0 ow0 => ?_
 have hs1 := hs.1
 refine okC_rg good ?_
 simp [go_sem]
 repeat (with_reducible refine And.intro ?_ ?_; first | omega | assumption | (simp only [inI]; omega))
 refine okC_seq ?_
 refine okC_rg good ?_
 simp [go_sem]
 repeat (with_reducible refine And.intro ?_ ?_; first | omega | assumption | (simp only [inI]; omega))
 refine okC_block ?_
 refine okC_rg good ?_
 simp [go_sem]
 repeat (with_reducible refine And.intro ?_ ?_; first | omega | assumption | (simp only [inI]; omega))
 refine okC_if ?_
 simp [go_sem]
 first | refine gC_dec (fun k1 => ?_) (fun k1 => ?_) | refine gC_ndec (fun k1 => ?_) (fun k1 => ?_) | refine gC_of (fun k1 => ?_) (fun k1 => ?_)
 · try simp at k1
  refine okC_rg good ?_
  simp [go_sem]
  repeat (with_reducible refine And.intro ?_ ?_; first | omega | assumption | (simp only [inI]; omega))
  first | refine callK_of (fn_impl_IsValidRecord o.rc hs) (by simp [go_sem]) ?_ | refine callK_fz (fn_impl_IsValidRecord o.rc hs) (by simp [go_sem]) (by simp [go_sem]) ?_
  simp [go_sem]
  repeat (with_reducible refine And.intro ?_ ?_; first | omega | assumption | (simp only [inI]; omega))
  first | refine gI_dec (fun e => ?_) (fun e => ?_) | refine gI_ndec (fun e => ?_) (fun e => ?_) | refine gI_of (fun e => ?_) (fun e => ?_)
  · have e' := e; try simp at e'
   simp [go_sem, e]
   repeat (with_reducible refine And.intro ?_ ?_; first | omega | assumption | (simp only [inI]; omega))
   refine okC_ret ?_
   simp [go_sem, e]
   simp [validOp, k1, e, ver0_eq]
  · have e' := e; try simp at e'
   simp [go_sem, e]
   repeat (with_reducible refine And.intro ?_ ?_; first | omega | assumption | (simp only [inI]; omega))
   refine okC_ret ?_
   simp [go_sem, e]
   simp [validOp, k1, e]
 · try simp at k1
  refine okC_rg good ?_
  simp [go_sem]
  repeat (with_reducible refine And.intro ?_ ?_; first | omega | assumption | (simp only [inI]; omega))
  refine okC_if ?_
  simp [go_sem]
  first | refine gC_dec (fun k2 => ?_) (fun k2 => ?_) | refine gC_ndec (fun k2 => ?_) (fun k2 => ?_) | refine gC_of (fun k2 => ?_) (fun k2 => ?_)
  · try simp at k2
   refine okC_rg good ?_
   simp [go_sem]
   repeat (with_reducible refine And.intro ?_ ?_; first | omega | assumption | (simp only [inI]; omega))
   first | refine callK_of (fn_impl_isDeletion o.rc hs1) (by simp [go_sem]) ?_ | refine callK_fz (fn_impl_isDeletion o.rc hs1) (by simp [go_sem]) (by simp [go_sem]) ?_
   simp [go_sem]
   repeat (with_reducible refine And.intro ?_ ?_; first | omega | assumption | (simp only [inI]; omega))
   first | refine gI_dec (fun e => ?_) (fun e => ?_) | refine gI_ndec (fun e => ?_) (fun e => ?_) | refine gI_of (fun e => ?_) (fun e => ?_)
   · have e' := e; try simp at e'
    simp [go_sem, e]
    repeat (with_reducible refine And.intro ?_ ?_; first | omega | assumption | (simp only [inI]; omega))
    refine okC_ret ?_
    simp [go_sem, e]
    simp [validOp, k1, k2, e, ver0_eq]
   · have e' := e; try simp at e'
    simp [go_sem, e]
    repeat (with_reducible refine And.intro ?_ ?_; first | omega | assumption | (simp only [inI]; omega))
    refine okC_ret ?_
    simp [go_sem, e]
    simp [validOp, k1, k2, e]
  · try simp at k2
   refine okC_seq ?_
   refine okC_rg good ?_
   simp [go_sem]
   repeat (with_reducible refine And.intro ?_ ?_; first | omega | assumption | (simp only [inI]; omega))
   refine okC_if ?_
   simp [go_sem]
   first | refine gC_dec (fun k3 => ?_) (fun k3 => ?_) | refine gC_ndec (fun k3 => ?_) (fun k3 => ?_) | refine gC_of (fun k3 => ?_) (fun k3 => ?_)
   · try simp at k3
    refine okC_skip ?_
    refine okC_if ?_
    simp [go_sem, k3]
    refine okC_rg good ?_
    simp [go_sem, k3]
    repeat (with_reducible refine And.intro ?_ ?_; first | omega | assumption | (simp only [inI]; omega))
    first | refine callK_of (fn_impl_IsValidVerdict _) (by simp [go_sem]) ?_ | refine callK_fz (fn_impl_IsValidVerdict _) (by simp [go_sem]) (by simp [go_sem]) ?_
    simp [go_sem, k3]
    repeat (with_reducible refine And.intro ?_ ?_; first | omega | assumption | (simp only [inI]; omega))
    first | refine gI_dec (fun e => ?_) (fun e => ?_) | refine gI_ndec (fun e => ?_) (fun e => ?_) | refine gI_of (fun e => ?_) (fun e => ?_)
    · have e' := e; try simp at e'
     simp [go_sem, k3, e]
     repeat (with_reducible refine And.intro ?_ ?_; first | omega | assumption | (simp only [inI]; omega))
     first | refine callK_of (fn_impl_isZeroRecord o.rc hs1) (by simp [go_sem]) ?_ | refine callK_fz (fn_impl_isZeroRecord o.rc hs1) (by simp [go_sem]) (by simp [go_sem]) ?_
     simp [go_sem, k3, e]
     repeat (with_reducible refine And.intro ?_ ?_; first | omega | assumption | (simp only [inI]; omega))
     refine okC_ret ?_
     simp [go_sem, k3, e]
     simp [validOp, k1, k2, k3, e]
    · have e' := e; try simp at e'
     simp [go_sem, k3, e]
     repeat (with_reducible refine And.intro ?_ ?_; first | omega | assumption | (simp only [inI]; omega))
     refine okC_ret ?_
     simp [go_sem, k3, e]
     simp [validOp, k1, k2, k3, e]
   · try simp at k3
    refine okC_rg1 good ?_
    simp [go_sem]
    repeat (with_reducible refine And.intro ?_ ?_; first | omega | assumption | (simp only [inI]; omega))
    refine okC_if ?_
    simp [go_sem]
    first | refine gC_dec (fun k4 => ?_) (fun k4 => ?_) | refine gC_ndec (fun k4 => ?_) (fun k4 => ?_) | refine gC_of (fun k4 => ?_) (fun k4 => ?_)
    · try simp at k4
     refine okC_rg good ?_
     simp [go_sem, k4]
     repeat (with_reducible refine And.intro ?_ ?_; first | omega | assumption | (simp only [inI]; omega))
     first | refine callK_of (fn_impl_IsValidVerdict _) (by simp [go_sem]) ?_ | refine callK_fz (fn_impl_IsValidVerdict _) (by simp [go_sem]) (by simp [go_sem]) ?_
     simp [go_sem, k4]
     repeat (with_reducible refine And.intro ?_ ?_; first | omega | assumption | (simp only [inI]; omega))
     first | refine gI_dec (fun e => ?_) (fun e => ?_) | refine gI_ndec (fun e => ?_) (fun e => ?_) | refine gI_of (fun e => ?_) (fun e => ?_)
     · have e' := e; try simp at e'
      simp [go_sem, k4, e]
      repeat (with_reducible refine And.intro ?_ ?_; first | omega | assumption | (simp only [inI]; omega))
      first | refine callK_of (fn_impl_isZeroRecord o.rc hs1) (by simp [go_sem]) ?_ | refine callK_fz (fn_impl_isZeroRecord o.rc hs1) (by simp [go_sem]) (by simp [go_sem]) ?_
      simp [go_sem, k4, e]
      repeat (with_reducible refine And.intro ?_ ?_; first | omega | assumption | (simp only [inI]; omega))
      refine okC_ret ?_
      simp [go_sem, k4, e]
      simp [validOp, k1, k2, k3, k4, e]
     · have e' := e; try simp at e'
      simp [go_sem, k4, e]
      repeat (with_reducible refine And.intro ?_ ?_; first | omega | assumption | (simp only [inI]; omega))
      refine okC_ret ?_
      simp [go_sem, k4, e]
      simp [validOp, k1, k2, k3, k4, e]
    · try simp at k4
     refine okC_skip ?_
     refine okC_rg good ?_
     simp [go_sem]
     repeat (with_reducible refine And.intro ?_ ?_; first | omega | assumption | (simp only [inI]; omega))
     refine okC_ret ?_
     simp [go_sem]
     simp [validOp, k1, k2, k3, k4]
theorem fn_impl_IsValidBatch_1 (o : Opn) (hs : smallO o) : FnOk Tryz.prog 69 [nOp o] (fun res' => res' = .val (dB (!validOp o))) := by
 refine fn_of good (rs := [.tmp 2]) Tryz.func69 rfl Tryz.ntmps69 (by decide) (by simp) rfl fun w0 ow0 => ?_
 refine okC_rg good ?_
 simp [go_sem]
 repeat (with_reducible refine And.intro ?_ ?_; first | omega | assumption | (simp only [inI]; omega))
 refine okC_rg good ?_
 simp [go_sem]
 repeat (with_reducible refine And.intro ?_ ?_; first | omega | assumption | (simp only [inI]; omega))
 first | refine callK_of (fn_impl_IsValidOp _ (by first | assumption | omega | (simp; omega) | grind)) (by simp [go_sem]) ?_ | refine callK_fz (fn_impl_IsValidOp _ (by first | assumption | omega | (simp; omega) | grind)) (by simp [go_sem]) (by simp [go_sem]) ?_
 simp [go_sem]
 repeat (with_reducible refine And.intro ?_ ?_; first | omega | assumption | (simp only [inI]; omega))
 refine okC_ret ?_
 simp [go_sem]
 all_goals first | done | omega | grind | (simp; omega) | (simp_all; done) | (simp_all; omega)
theorem fn_ixf_op (l : List Opn) (hl : l.length ≤ 1048576) (hs : ∀ o ∈ l, smallO o) : FnOk Tryz.prog 100 [nOps l, .one (.func (.func 69) #[] #[])] (fun res' => res' = .val (dI (ix (fun f => !validOp f) l))) := by
 refine fn_of good (rs := [.tmp 4]) Tryz.func100 rfl Tryz.ntmps100 (by decide) (by simp) rfl fun w0 ow0 => ?_
 refine okC_rg good ?_
 simp [go_sem]
 repeat (with_reducible refine And.intro ?_ ?_; first | omega | assumption | (simp only [inI]; omega))
 refine okC_seq ?_
 refine okC_rg good ?_
 simp [go_sem]
 repeat (with_reducible refine And.intro ?_ ?_; first | omega | assumption | (simp only [inI]; omega))
 refine okC_block ?_
 refine okC_rounds (fun (i : Nat) => [(0, .val (nOps l)), (1, .val (.one (.func (.func 69) #[] #[]))), (7, .val (dI l.length)), (8, .val (dI i))]) (fun (i : Nat) => (l).length - i) (fun (i : Nat) => (i ≤ (l).length) ∧ (((l).take i).any (fun f => !validOp f) = false)) (0) [] ⟨(by first | omega | rfl | (simp; done) | (simp; omega) | simp), (by first | omega | rfl | (simp; done) | (simp; omega) | simp)⟩ (by simp [go_sem]) ?_
 rintro i ⟨h1, h2⟩ K1 hK1
 refine okC_rg good ?_
 simp [go_sem]
 repeat (with_reducible refine And.intro ?_ ?_; first | omega | assumption | (simp only [inI]; omega))
 refine okC_seq ?_
 refine okC_if ?_
 simp [go_sem]
 first | refine gC_dec (fun a => ?_) (fun a => ?_) | refine gC_ndec (fun a => ?_) (fun a => ?_) | refine gC_of (fun a => ?_) (fun a => ?_)
 · try simp at a
  refine okC_skip ?_
  refine okC_seq ?_
  refine okC_block ?_
  obtain ⟨c, hc⟩ := at_of (l := l) (i := i) (by omega)
  refine okC_rg good ?_
  simp [go_sem, hc]
  repeat (with_reducible refine And.intro ?_ ?_; first | omega | assumption | (simp only [inI]; omega))
  refine okC_rg good ?_
  simp [go_sem, hc]
  repeat (with_reducible refine And.intro ?_ ?_; first | omega | assumption | (simp only [inI]; omega))
  first | refine callK_of (fn_impl_IsValidBatch_1 c (hs c (List.mem_of_getElem? hc))) (by simp [go_sem]) ?_ | refine callK_fz (fn_impl_IsValidBatch_1 c (hs c (List.mem_of_getElem? hc))) (by simp [go_sem]) (by simp [go_sem]) ?_
  simp [go_sem, hc]
  repeat (with_reducible refine And.intro ?_ ?_; first | omega | assumption | (simp only [inI]; omega))
  refine okC_if ?_
  simp [go_sem, hc]
  first | refine gC_dec (fun b => ?_) (fun b => ?_) | refine gC_ndec (fun b => ?_) (fun b => ?_) | refine gC_of (fun b => ?_) (fun b => ?_)
  · try simp at b
   have hn := ix_at hc h2 (by simp [b])
   refine okC_rg good ?_
   simp [go_sem, hc, hn]
   repeat (with_reducible refine And.intro ?_ ?_; first | omega | assumption | (simp only [inI]; omega))
   refine okC_ret (show K1 _ _ from retE hK1 ?_)
   simp [go_sem, hc, hn]
   all_goals first | done | omega | grind | (simp; omega) | (simp_all; done) | (simp_all; omega)
  · try simp at b
   refine okC_skip ?_
   refine okC_rg1 good ?_
   simp [go_sem, hc]
   repeat (with_reducible refine And.intro ?_ ?_; first | omega | assumption | (simp only [inI]; omega))
   refine normalE hK1 ⟨i + 1, [], ⟨(by omega), (any_step hc h2 (by simp [b]))⟩, (by show _ < _; first | omega | simp <;> omega), (by simp [go_sem, hc])⟩
 · try simp at a
  refine okC_exit (show K1 _ _ from exitE hK1 ?_)
  have hf := any_fin h2 a
  have hx := ix_none hf
  refine okC_rg good ?_
  simp [go_sem, hf, hx]
  repeat (with_reducible refine And.intro ?_ ?_; first | omega | assumption | (simp only [inI]; omega))
  refine okC_ret ?_
  simp [go_sem, hf, hx]
  all_goals first | done | omega | grind | (simp; omega) | (simp_all; done) | (simp_all; omega)
theorem fn_cf_op (l : List Opn) (hl : l.length ≤ 1048576) (hs : ∀ o ∈ l, smallO o) : FnOk Tryz.prog 68 [nOps l, .one (.func (.func 69) #[] #[])] (fun res' => res' = .val (dB (l.any fun f => !validOp f))) := by
 refine fn_of good (rs := [.tmp 4]) Tryz.func68 rfl Tryz.ntmps68 (by decide) (by simp) rfl fun w0 ow0 => ?_
 have hq : decide (0 ≤ ix (fun f => !validOp f) l) = l.any fun f => !validOp f := by rw [Bool.eq_iff_iff, decide_eq_true_eq]; exact ix_nonneg
 refine okC_rg good ?_
 simp [go_sem]
 repeat (with_reducible refine And.intro ?_ ?_; first | omega | assumption | (simp only [inI]; omega))
 refine okC_rg good ?_
 simp [go_sem]
 repeat (with_reducible refine And.intro ?_ ?_; first | omega | assumption | (simp only [inI]; omega))
 first | refine callK_of (fn_ixf_op l hl hs) (by simp [go_sem]) ?_ | refine callK_fz (fn_ixf_op l hl hs) (by simp [go_sem]) (by simp [go_sem]) ?_
 simp [go_sem]
 repeat (with_reducible refine And.intro ?_ ?_; first | omega | assumption | (simp only [inI]; omega))
 refine okC_ret ?_
 simp [go_sem, hq]
 all_goals first | done | omega | grind | (simp; omega) | (simp_all; done) | (simp_all; omega)
theorem fn_impl_IsValidBatch (l : List Opn) (hs : smallB l) : FnOk Tryz.prog 39 [nBat l] (fun res' => res' = .val (dB (validBat l))) := by
 refine fn_of good (rs := [.tmp 2]) Tryz.func39 rfl Tryz.ntmps39 (by decide) (by simp) rfl fun w0 ow0 => ?_
 refine okC_rg good ?_
 simp [go_sem]
 repeat (with_reducible refine And.intro ?_ ?_; first | omega | assumption | (simp only [inI]; omega))
 refine okC_rg good ?_
 simp [go_sem]
 repeat (with_reducible refine And.intro ?_ ?_; first | omega | assumption | (simp only [inI]; omega))
 first | refine gI_dec (fun e => ?_) (fun e => ?_) | refine gI_ndec (fun e => ?_) (fun e => ?_) | refine gI_of (fun e => ?_) (fun e => ?_)
 · have e' := e; try simp at e'
  simp [go_sem, e]
  repeat (with_reducible refine And.intro ?_ ?_; first | omega | assumption | (simp only [inI]; omega))
  first | refine callK_of (fn_cf_op l hs.1 hs.2) (by simp [go_sem]) ?_ | refine callK_fz (fn_cf_op l hs.1 hs.2) (by simp [go_sem]) (by simp [go_sem]) ?_
  simp [go_sem, e]
  repeat (with_reducible refine And.intro ?_ ?_; first | omega | assumption | (simp only [inI]; omega))
  refine okC_ret ?_
  simp [go_sem, e]
  have h4 : l.length ≤ 6 := by omega
  all_goals (simp [validBat, h4]; rw [← List.not_all_eq_any_not])
 · have e' := e; try simp at e'
  simp [go_sem, e]
  repeat (with_reducible refine And.intro ?_ ?_; first | omega | assumption | (simp only [inI]; omega))
  refine okC_ret ?_
  simp [go_sem, e]
  have h4 : ¬ l.length ≤ 6 := by omega
  all_goals simp [validBat, h4]
theorem fn_impl_originName (s k : Int) (hs : 0 ≤ s ∧ s ≤ 3) (hk : -9000000000000000000 ≤ k ∧ k ≤ 9000000000000000000) : FnOk Tryz.prog 107 [dI s, dI k] (fun res' => res' = .val (dS (nameStr s k))) := by
 refine fn_of good (rs := [.tmp 4]) Tryz.func107 rfl Tryz.ntmps107 (by decide) (by simp) rfl fun w0 ow0 => ?_
 have hl := fmtI_len hk
 have hsrc : ([97, 98, 99, 100].drop s.toNat).take ((s + 1).toNat - s.toNat) = [srcB s] := by rcases (show s = 0 ∨ s = 1 ∨ s = 2 ∨ s = 3 by omega) with rfl | rfl | rfl | rfl <;> rfl
 refine okC_rg good ?_
 simp [go_sem, hsrc]
 repeat (with_reducible refine And.intro ?_ ?_; first | omega | assumption | (simp only [inI]; omega))
 refine okC_dt good 7 rfl (by decide) (by kernel_rfl) ?_
 simp [go_sem, hsrc]
 repeat (with_reducible refine And.intro ?_ ?_; first | omega | assumption | (simp only [inI]; omega))
 first | refine callD_of (fn_impl_FormatInt k (by omega)) (by simp [go_sem]) rfl ?_ | refine callD_fz (fn_impl_FormatInt k (by omega)) (by simp [go_sem]) (by simp [go_sem]) rfl ?_
 simp [go_sem, hsrc]
 repeat (with_reducible refine And.intro ?_ ?_; first | omega | assumption | (simp only [inI]; omega))
 refine okC_ret ?_
 simp [go_sem, hsrc]
 simp [nameStr]
theorem fn_impl_FormatVerdict (v : Ver) : FnOk Tryz.prog 108 [dVer v] (fun res' => res' = .val (dS (verStr v))) := by
 refine fn_of good (rs := [.tmp 2]) Tryz.func108 rfl Tryz.ntmps108 (by decide) (by simp) rfl fun w0 ow0 => ?_
 refine okC_rg good ?_
 simp [go_sem]
 repeat (with_reducible refine And.intro ?_ ?_; first | omega | assumption | (simp only [inI]; omega))
 refine okC_seq ?_
 refine okC_rg good ?_
 simp [go_sem]
 repeat (with_reducible refine And.intro ?_ ?_; first | omega | assumption | (simp only [inI]; omega))
 first | refine callK_of (fn_impl_IsValidVerdict _) (by simp [go_sem]) ?_ | refine callK_fz (fn_impl_IsValidVerdict _) (by simp [go_sem]) (by simp [go_sem]) ?_
 simp [go_sem]
 repeat (with_reducible refine And.intro ?_ ?_; first | omega | assumption | (simp only [inI]; omega))
 refine okC_if ?_
 simp [go_sem]
 first | refine gC_dec (fun b => ?_) (fun b => ?_) | refine gC_ndec (fun b => ?_) (fun b => ?_) | refine gC_of (fun b => ?_) (fun b => ?_)
 · try simp at b
  refine okC_rg good ?_
  simp [go_sem]
  repeat (with_reducible refine And.intro ?_ ?_; first | omega | assumption | (simp only [inI]; omega))
  refine okC_ret ?_
  simp [go_sem]
  simp [verStr, b]
 · try simp at b
  refine okC_skip ?_
  have hv := validVer_iff.1 b
  have l1 := fmtI_len (n := v.a) (by omega)
  have l2 := fmtI_len (n := v.b) (by omega)
  have l3 := fmtI_len (n := v.time) (by omega)
  refine okC_rg good ?_
  simp [go_sem]
  repeat (with_reducible refine And.intro ?_ ?_; first | omega | assumption | (simp only [inI]; omega))
  refine okC_seq ?_
  refine okC_rg good ?_
  simp [go_sem]
  repeat (with_reducible refine And.intro ?_ ?_; first | omega | assumption | (simp only [inI]; omega))
  refine okC_if ?_
  simp [go_sem]
  first | refine gC_dec (fun s => ?_) (fun s => ?_) | refine gC_ndec (fun s => ?_) (fun s => ?_) | refine gC_of (fun s => ?_) (fun s => ?_)
  · try simp at s
   refine okC_rg1 good ?_
   simp [go_sem]
   repeat (with_reducible refine And.intro ?_ ?_; first | omega | assumption | (simp only [inI]; omega))
   refine okC_dt good 14 rfl (by decide) (by kernel_rfl) ?_
   simp [go_sem]
   repeat (with_reducible refine And.intro ?_ ?_; first | omega | assumption | (simp only [inI]; omega))
   first | refine callD_of (fn_impl_FormatInt v.a (by omega)) (by simp [go_sem]) rfl ?_ | refine callD_fz (fn_impl_FormatInt v.a (by omega)) (by simp [go_sem]) (by simp [go_sem]) rfl ?_
   simp [go_sem]
   repeat (with_reducible refine And.intro ?_ ?_; first | omega | assumption | (simp only [inI]; omega))
   first | refine callD_of (fn_impl_FormatInt v.b (by omega)) (by simp [go_sem]) rfl ?_ | refine callD_fz (fn_impl_FormatInt v.b (by omega)) (by simp [go_sem]) (by simp [go_sem]) rfl ?_
   simp [go_sem]
   repeat (with_reducible refine And.intro ?_ ?_; first | omega | assumption | (simp only [inI]; omega))
   first | refine callD_of (fn_impl_FormatInt v.time (by omega)) (by simp [go_sem]) rfl ?_ | refine callD_fz (fn_impl_FormatInt v.time (by omega)) (by simp [go_sem]) (by simp [go_sem]) rfl ?_
   simp [go_sem]
   repeat (with_reducible refine And.intro ?_ ?_; first | omega | assumption | (simp only [inI]; omega))
   refine okC_ret ?_
   simp [go_sem]
   simp [verStr, b, verTxt, s, signB]
  · try simp at s
   refine okC_skip ?_
   refine okC_dt good 14 rfl (by decide) (by kernel_rfl) ?_
   simp [go_sem]
   repeat (with_reducible refine And.intro ?_ ?_; first | omega | assumption | (simp only [inI]; omega))
   first | refine callD_of (fn_impl_FormatInt v.a (by omega)) (by simp [go_sem]) rfl ?_ | refine callD_fz (fn_impl_FormatInt v.a (by omega)) (by simp [go_sem]) (by simp [go_sem]) rfl ?_
   simp [go_sem]
   repeat (with_reducible refine And.intro ?_ ?_; first | omega | assumption | (simp only [inI]; omega))
   first | refine callD_of (fn_impl_FormatInt v.b (by omega)) (by simp [go_sem]) rfl ?_ | refine callD_fz (fn_impl_FormatInt v.b (by omega)) (by simp [go_sem]) (by simp [go_sem]) rfl ?_
   simp [go_sem]
   repeat (with_reducible refine And.intro ?_ ?_; first | omega | assumption | (simp only [inI]; omega))
   first | refine callD_of (fn_impl_FormatInt v.time (by omega)) (by simp [go_sem]) rfl ?_ | refine callD_fz (fn_impl_FormatInt v.time (by omega)) (by simp [go_sem]) (by simp [go_sem]) rfl ?_
   simp [go_sem]
   repeat (with_reducible refine And.intro ?_ ?_; first | omega | assumption | (simp only [inI]; omega))
   refine okC_ret ?_
   simp [go_sem]
   simp [verStr, b, verTxt, s, signB]
theorem fn_impl_formatRecord (r : Rec) (hv : validRec r = true) : FnOk Tryz.prog 106 [nRec r] (fun res' => res' = .val (dS (recTxt r))) := by
 refine fn_of good (rs := [.tmp 2]) Tryz.func106 rfl Tryz.ntmps106 (by decide) (by simp) rfl fun w0 ow0 => ?_
 have hv2 := validRec_iff.1 hv
 have hf := rec_fields hv
 have hl := recTxt_len hv
 have hsh := rec_shape hv
 have hgt : goneTxt r = nameStr r.source r.key ++ 46 :: fmtI r.version := rfl
 have l2 := fmtI_len (n := r.key) (by omega)
 have l3 := fmtI_len (n := r.version) (by omega)
 have hnl : (nameStr r.source r.key).length ≤ 21 := by simp [nameStr]; omega
 have hjl := joinC_len 124 40 r.fields hf.2
 have hjl : (joinC 124 r.fields).length ≤ 164 := by rw [hf.1] at hjl; omega
 refine okC_rg good ?_
 simp [go_sem]
 repeat (with_reducible refine And.intro ?_ ?_; first | omega | assumption | (simp only [inI]; omega))
 refine okC_dt good 15 rfl (by decide) (by kernel_rfl) ?_
 simp [go_sem]
 repeat (with_reducible refine And.intro ?_ ?_; first | omega | assumption | (simp only [inI]; omega))
 first | refine callD_of (fn_impl_originName r.source r.key hv2.1 (by omega)) (by simp [go_sem]) rfl ?_ | refine callD_fz (fn_impl_originName r.source r.key hv2.1 (by omega)) (by simp [go_sem]) (by simp [go_sem]) rfl ?_
 simp [go_sem]
 repeat (with_reducible refine And.intro ?_ ?_; first | omega | assumption | (simp only [inI]; omega))
 first | refine callD_of (fn_impl_FormatInt r.version (by omega)) (by simp [go_sem]) rfl ?_ | refine callD_fz (fn_impl_FormatInt r.version (by omega)) (by simp [go_sem]) (by simp [go_sem]) rfl ?_
 simp [go_sem]
 repeat (with_reducible refine And.intro ?_ ?_; first | omega | assumption | (simp only [inI]; omega))
 first | refine callD_of (fn_strings_Join r.fields 124 (by omega) (by omega)) (by simp [go_sem]) rfl ?_ | refine callD_fz (fn_strings_Join r.fields 124 (by omega) (by omega)) (by simp [go_sem]) (by simp [go_sem]) rfl ?_
 simp [go_sem]
 repeat (with_reducible refine And.intro ?_ ?_; first | omega | assumption | (simp only [inI]; omega))
 refine okC_ret ?_
 simp [go_sem]
 simp [hsh, hgt]
theorem fn_impl_FormatRecord (r : Rec) (hs : smallR r) : FnOk Tryz.prog 159 [nRec r] (fun res' => res' = .val (dS (recStr r))) := by
 refine fn_of good (rs := [.tmp 2]) Tryz.func159 rfl Tryz.ntmps159 (by decide) (by simp) rfl fun w0 ow0 => ?_
 refine okC_rg good ?_
 simp [go_sem]
 repeat (with_reducible refine And.intro ?_ ?_; first | omega | assumption | (simp only [inI]; omega))
 refine okC_seq ?_
 refine okC_rg good ?_
 simp [go_sem]
 repeat (with_reducible refine And.intro ?_ ?_; first | omega | assumption | (simp only [inI]; omega))
 first | refine callK_of (fn_impl_IsValidRecord _ (by first | assumption | omega | (simp; omega) | grind)) (by simp [go_sem]) ?_ | refine callK_fz (fn_impl_IsValidRecord _ (by first | assumption | omega | (simp; omega) | grind)) (by simp [go_sem]) (by simp [go_sem]) ?_
 simp [go_sem]
 repeat (with_reducible refine And.intro ?_ ?_; first | omega | assumption | (simp only [inI]; omega))
 refine okC_if ?_
 simp [go_sem]
 first | refine gC_dec (fun b => ?_) (fun b => ?_) | refine gC_ndec (fun b => ?_) (fun b => ?_) | refine gC_of (fun b => ?_) (fun b => ?_)
 · try simp at b
  refine okC_rg good ?_
  simp [go_sem]
  repeat (with_reducible refine And.intro ?_ ?_; first | omega | assumption | (simp only [inI]; omega))
  refine okC_ret ?_
  simp [go_sem]
  simp [recStr, b]
 · try simp at b
  refine okC_skip ?_
  refine okC_rg good ?_
  simp [go_sem]
  repeat (with_reducible refine And.intro ?_ ?_; first | omega | assumption | (simp only [inI]; omega))
  first | refine callK_of (fn_impl_formatRecord r b) (by simp [go_sem]) ?_ | refine callK_fz (fn_impl_formatRecord r b) (by simp [go_sem]) (by simp [go_sem]) ?_
  simp [go_sem]
  repeat (with_reducible refine And.intro ?_ ?_; first | omega | assumption | (simp only [inI]; omega))
  refine okC_ret ?_
  simp [go_sem]
  simp [recStr, b]
theorem fn_impl_FormatOp (o : Opn) (hs : smallO o) : FnOk Tryz.prog 72 [nOp o] (fun res' => res' = .val (dS (opStr o))) := by
 refine fn_of good (rs := [.tmp 2]) Tryz.func72 rfl Tryz.ntmps72 (by decide) (by simp) rfl fun w0 ow0 => ?_
 refine okC_rg good ?_
 simp [go_sem]
 repeat (with_reducible refine And.intro ?_ ?_; first | omega | assumption | (simp only [inI]; omega))
 refine okC_seq ?_
 refine okC_rg good ?_
 simp [go_sem]
 repeat (with_reducible refine And.intro ?_ ?_; first | omega | assumption | (simp only [inI]; omega))
 first | refine callK_of (fn_impl_IsValidOp _ (by first | assumption | omega | (simp; omega) | grind)) (by simp [go_sem]) ?_ | refine callK_fz (fn_impl_IsValidOp _ (by first | assumption | omega | (simp; omega) | grind)) (by simp [go_sem]) (by simp [go_sem]) ?_
 simp [go_sem]
 repeat (with_reducible refine And.intro ?_ ?_; first | omega | assumption | (simp only [inI]; omega))
 refine okC_if ?_
 simp [go_sem]
 first | refine gC_dec (fun b => ?_) (fun b => ?_) | refine gC_ndec (fun b => ?_) (fun b => ?_) | refine gC_of (fun b => ?_) (fun b => ?_)
 · try simp at b
  refine okC_rg good ?_
  simp [go_sem]
  repeat (with_reducible refine And.intro ?_ ?_; first | omega | assumption | (simp only [inI]; omega))
  refine okC_ret ?_
  simp [go_sem]
  simp [opStr, b]
 · try simp at b
  refine okC_skip ?_
  refine okC_seq ?_
  have ho := op_cases b
  refine okC_rg good ?_
  simp [go_sem]
  repeat (with_reducible refine And.intro ?_ ?_; first | omega | assumption | (simp only [inI]; omega))
  refine okC_block ?_
  refine okC_rg good ?_
  simp [go_sem]
  repeat (with_reducible refine And.intro ?_ ?_; first | omega | assumption | (simp only [inI]; omega))
  refine okC_if ?_
  simp [go_sem]
  first | refine gC_dec (fun k1 => ?_) (fun k1 => ?_) | refine gC_ndec (fun k1 => ?_) (fun k1 => ?_) | refine gC_of (fun k1 => ?_) (fun k1 => ?_)
  · try simp at k1
   obtain ⟨hv, ht⟩ : validRec o.rc = true ∧ opStr o = wPut ++ 32 :: recTxt o.rc := by rcases ho with ⟨r, hr, rfl, ht⟩ | ⟨r, hr, rfl, ht⟩ | ⟨v, hv, rfl, ht⟩ | ⟨v, hv, rfl, ht⟩ <;> simp_all [opStr]
   have hl := recTxt_len hv
   refine okC_rg good ?_
   simp [go_sem]
   repeat (with_reducible refine And.intro ?_ ?_; first | omega | assumption | (simp only [inI]; omega))
   first | refine callK_of (fn_impl_formatRecord o.rc hv) (by simp [go_sem]) ?_ | refine callK_fz (fn_impl_formatRecord o.rc hv) (by simp [go_sem]) (by simp [go_sem]) ?_
   simp [go_sem]
   repeat (with_reducible refine And.intro ?_ ?_; first | omega | assumption | (simp only [inI]; omega))
   refine okC_ret ?_
   simp [go_sem]
   simp [ht, wPut]
  · try simp at k1
   refine okC_rg good ?_
   simp [go_sem]
   repeat (with_reducible refine And.intro ?_ ?_; first | omega | assumption | (simp only [inI]; omega))
   refine okC_if ?_
   simp [go_sem]
   first | refine gC_dec (fun k2 => ?_) (fun k2 => ?_) | refine gC_ndec (fun k2 => ?_) (fun k2 => ?_) | refine gC_of (fun k2 => ?_) (fun k2 => ?_)
   · try simp at k2
    obtain ⟨hg, ht⟩ : goneRec o.rc = true ∧ opStr o = wDel ++ 32 :: goneTxt o.rc := by rcases ho with ⟨r, hr, rfl, ht⟩ | ⟨r, hr, rfl, ht⟩ | ⟨v, hv, rfl, ht⟩ | ⟨v, hv, rfl, ht⟩ <;> simp_all [opStr]
    have hg2 := goneRec_iff.1 hg
    have l2 := fmtI_len (n := o.rc.key) (by omega)
    have l3 := fmtI_len (n := o.rc.version) (by omega)
    have hnl : (nameStr o.rc.source o.rc.key).length ≤ 21 := by simp [nameStr]; omega
    refine okC_dt good 14 rfl (by decide) (by kernel_rfl) ?_
    simp [go_sem]
    repeat (with_reducible refine And.intro ?_ ?_; first | omega | assumption | (simp only [inI]; omega))
    first | refine callD_of (fn_impl_originName o.rc.source o.rc.key hg2.1 (by omega)) (by simp [go_sem]) rfl ?_ | refine callD_fz (fn_impl_originName o.rc.source o.rc.key hg2.1 (by omega)) (by simp [go_sem]) (by simp [go_sem]) rfl ?_
    simp [go_sem]
    repeat (with_reducible refine And.intro ?_ ?_; first | omega | assumption | (simp only [inI]; omega))
    first | refine callD_of (fn_impl_FormatInt o.rc.version (by omega)) (by simp [go_sem]) rfl ?_ | refine callD_fz (fn_impl_FormatInt o.rc.version (by omega)) (by simp [go_sem]) (by simp [go_sem]) rfl ?_
    simp [go_sem]
    repeat (with_reducible refine And.intro ?_ ?_; first | omega | assumption | (simp only [inI]; omega))
    refine okC_ret ?_
    simp [go_sem]
    simp [ht, wDel, goneTxt]
   · try simp at k2
    refine okC_rg good ?_
    simp [go_sem]
    repeat (with_reducible refine And.intro ?_ ?_; first | omega | assumption | (simp only [inI]; omega))
    refine okC_if ?_
    simp [go_sem]
    first | refine gC_dec (fun k3 => ?_) (fun k3 => ?_) | refine gC_ndec (fun k3 => ?_) (fun k3 => ?_) | refine gC_of (fun k3 => ?_) (fun k3 => ?_)
    · try simp at k3
     obtain ⟨hv, ht⟩ : validVer o.ver = true ∧ opStr o = wVer ++ 32 :: verStr o.ver := by rcases ho with ⟨r, hr, rfl, ht⟩ | ⟨r, hr, rfl, ht⟩ | ⟨v, hv, rfl, ht⟩ | ⟨v, hv, rfl, ht⟩ <;> simp_all [opStr, verStr]
     have hl : (verStr o.ver).length ≤ 62 := by unfold verStr; rw [if_pos hv]; exact verTxt_len hv
     refine okC_rg good ?_
     simp [go_sem]
     repeat (with_reducible refine And.intro ?_ ?_; first | omega | assumption | (simp only [inI]; omega))
     first | refine callK_of (fn_impl_FormatVerdict o.ver) (by simp [go_sem]) ?_ | refine callK_fz (fn_impl_FormatVerdict o.ver) (by simp [go_sem]) (by simp [go_sem]) ?_
     simp [go_sem]
     repeat (with_reducible refine And.intro ?_ ?_; first | omega | assumption | (simp only [inI]; omega))
     refine okC_ret ?_
     simp [go_sem]
     simp [ht, wVer]
    · try simp at k3
     refine okC_skip ?_
     obtain ⟨hv, ht⟩ : validVer o.ver = true ∧ opStr o = wRet ++ 32 :: verStr o.ver := by rcases ho with ⟨r, hr, rfl, ht⟩ | ⟨r, hr, rfl, ht⟩ | ⟨v, hv, rfl, ht⟩ | ⟨v, hv, rfl, ht⟩ <;> simp_all [opStr, verStr]
     have hl : (verStr o.ver).length ≤ 62 := by unfold verStr; rw [if_pos hv]; exact verTxt_len hv
     refine okC_rg good ?_
     simp [go_sem]
     repeat (with_reducible refine And.intro ?_ ?_; first | omega | assumption | (simp only [inI]; omega))
     first | refine callK_of (fn_impl_FormatVerdict o.ver) (by simp [go_sem]) ?_ | refine callK_fz (fn_impl_FormatVerdict o.ver) (by simp [go_sem]) (by simp [go_sem]) ?_
     simp [go_sem]
     repeat (with_reducible refine And.intro ?_ ?_; first | omega | assumption | (simp only [inI]; omega))
     refine okC_ret ?_
     simp [go_sem]
     simp [ht, wRet]
end Go.Proofs.YtfhfidecmdhkoaaGreatDoor

end
section
set_option maxRecDepth 10000
namespace Go.Proofs.YtfhfidecmdhkoaaGreatDoor
open Go.Dv Go.Pl
theorem set_fill {l : List Opn} {i : Nat} {c : Opn} (h : l[i]? = some c) : ((l.take i).map opStr ++ List.replicate (l.length - i) ([] : Str)).set i (opStr c) = (l.take (i + 1)).map opStr ++ List.replicate (l.length - (i + 1)) [] := by
 have hi := getElem?_lt h
 have hl : ((l.take i).map opStr).length = i := by simp; omega
 rw [List.set_append, if_neg (by omega), hl, Nat.sub_self, map_snoc opStr h, show l.length - i = (l.length - (i + 1)) + 1 by omega, List.replicate_succ]
 simp
def fillO (l : List Opn) (i : Nat) : List Str := (l.take i).map opStr ++ List.replicate (l.length - i) []
theorem fillO_len (l : List Opn) (i : Nat) (h : i ≤ l.length) : (fillO l i).length = l.length := by simp [fillO]; omega
theorem fillO_set {l : List Opn} {i : Nat} {c : Opn} (h : l[i]? = some c) : (fillO l i).set i (opStr c) = fillO l (i + 1) := set_fill h
theorem fillO_zero (l : List Opn) : fillO l 0 = List.replicate l.length [] := by simp [fillO]
theorem fillO_all (l : List Opn) : fillO l l.length = l.map opStr := by simp [fillO]
theorem fn_impl_formatBatch (l : List Opn) (hv : validBat l = true) : FnOk Tryz.prog 41 [nBat l] (fun res' => res' = .val (dS (batTxt l))) := by
 refine fn_of good (rs := [.tmp 2]) Tryz.func41 rfl Tryz.ntmps41 (by decide) (by simp) rfl fun w0 ow0 => ?_
 have hv2 := validBat_iff.1 hv
 have hz : List.replicate l.length (dS []) = (fillO l 0).map dS := by rw [fillO_zero, List.map_replicate]
 refine okC_rg good ?_
 simp [go_sem, hz]
 repeat (with_reducible refine And.intro ?_ ?_; first | omega | assumption | (simp only [inI]; omega))
 refine okC_rg good ?_
 simp [go_sem, hz]
 repeat (with_reducible refine And.intro ?_ ?_; first | omega | assumption | (simp only [inI]; omega))
 refine okC_seq ?_
 refine okC_rg good ?_
 simp [go_sem, hz]
 repeat (with_reducible refine And.intro ?_ ?_; first | omega | assumption | (simp only [inI]; omega))
 refine okC_block ?_
 refine okC_rounds (fun (i : Nat) => [(1, .own (.bx true (nBat l))), (3, .own (oStrs (fillO l i))), (11, .val (nOps l)), (12, .val (dI l.length)), (13, .val (dI i))]) (fun (i : Nat) => l.length - i) (fun (i : Nat) => (i ≤ l.length)) (0) [] (by first | omega | rfl | (simp; done) | (simp; omega) | simp) (by simp [go_sem, hz]) ?_
 rintro i h1 K1 hK1
 refine okC_rg good ?_
 simp [go_sem]
 repeat (with_reducible refine And.intro ?_ ?_; first | omega | assumption | (simp only [inI]; omega))
 refine okC_seq ?_
 refine okC_if ?_
 simp [go_sem]
 first | refine gC_dec (fun a => ?_) (fun a => ?_) | refine gC_ndec (fun a => ?_) (fun a => ?_) | refine gC_of (fun a => ?_) (fun a => ?_)
 · try simp at a
  refine okC_skip ?_
  refine okC_seq ?_
  refine okC_block ?_
  obtain ⟨c, hc⟩ := at_of (l := l) (i := i) (by omega)
  have hcm := List.mem_of_getElem? hc
  have hfs : ((fillO l i).set i (opStr c)).map dS = (fillO l (i + 1)).map dS := by rw [fillO_set hc]
  have hfl := fillO_len l i h1
  obtain ⟨x, hx⟩ := at_of (l := fillO l i) (i := i) (by omega)
  refine okC_rg good ?_
  simp [go_sem, hc, hfl, hx]
  repeat (with_reducible refine And.intro ?_ ?_; first | omega | assumption | (simp only [inI]; omega))
  refine okC_rg1 good ?_
  simp [go_sem, hc, hfl, hx]
  repeat (with_reducible refine And.intro ?_ ?_; first | omega | assumption | (simp only [inI]; omega))
  first | refine callK_of (fn_impl_FormatOp c (smallO_val (hv2.1 c hcm))) (by simp [go_sem]) ?_ | refine callK_fz (fn_impl_FormatOp c (smallO_val (hv2.1 c hcm))) (by simp [go_sem]) (by simp [go_sem]) ?_
  simp [go_sem, hc, hfl, hx]
  repeat (with_reducible refine And.intro ?_ ?_; first | omega | assumption | (simp only [inI]; omega))
  have hst : ((fillO l i).map dS).set i (dS (opStr c)) = (fillO l (i + 1)).map dS := by rw [← List.map_set, fillO_set hc]
  refine okC_rg1 good ?_
  simp [go_sem, hc, hfl, hx, hst]
  repeat (with_reducible refine And.intro ?_ ?_; first | omega | assumption | (simp only [inI]; omega))
  refine normalE hK1 ⟨i + 1, [], (by first | omega | (simp; omega) | grind), (by show _ < _; first | omega | simp <;> omega), (by simp [go_sem, hc, hfl, hx, hst])⟩
 · try simp at a
  refine okC_exit (show K1 _ _ from exitE hK1 ?_)
  obtain rfl : i = l.length := by omega
  have hfa := fillO_all l
  have hjl := opJ_len hv2.1
  have hjl : (joinC 59 (l.map opStr)).length ≤ 1290 := by unfold opJ at hjl; omega
  have hm := ops_txt hv2.1
  rw [hfa]
  refine okC_rg good ?_
  simp [go_sem]
  repeat (with_reducible refine And.intro ?_ ?_; first | omega | assumption | (simp only [inI]; omega))
  first | refine callK_of (fn_strings_Join (l.map opStr) 59 (by simp; omega) (by omega)) (by simp [go_sem]) ?_ | refine callK_fz (fn_strings_Join (l.map opStr) 59 (by simp; omega) (by omega)) (by simp [go_sem]) (by simp [go_sem]) ?_
  simp [go_sem]
  repeat (with_reducible refine And.intro ?_ ?_; first | omega | assumption | (simp only [inI]; omega))
  refine okC_ret ?_
  simp [go_sem]
  simp [batTxt, hm]
theorem fn_impl_FormatBatch (l : List Opn) (hs : smallB l) : FnOk Tryz.prog 81 [nBat l] (fun res' => res' = .val (dS (batStr l))) := by
 refine fn_of good (rs := [.tmp 2]) Tryz.func81 rfl Tryz.ntmps81 (by decide) (by simp) rfl fun w0 ow0 => ?_
 refine okC_rg good ?_
 simp [go_sem]
 repeat (with_reducible refine And.intro ?_ ?_; first | omega | assumption | (simp only [inI]; omega))
 refine okC_seq ?_
 refine okC_rg good ?_
 simp [go_sem]
 repeat (with_reducible refine And.intro ?_ ?_; first | omega | assumption | (simp only [inI]; omega))
 first | refine callK_of (fn_impl_IsValidBatch _ (by first | assumption | omega | (simp; omega) | grind)) (by simp [go_sem]) ?_ | refine callK_fz (fn_impl_IsValidBatch _ (by first | assumption | omega | (simp; omega) | grind)) (by simp [go_sem]) (by simp [go_sem]) ?_
 simp [go_sem]
 repeat (with_reducible refine And.intro ?_ ?_; first | omega | assumption | (simp only [inI]; omega))
 refine okC_if ?_
 simp [go_sem]
 first | refine gC_dec (fun b => ?_) (fun b => ?_) | refine gC_ndec (fun b => ?_) (fun b => ?_) | refine gC_of (fun b => ?_) (fun b => ?_)
 · try simp at b
  refine okC_rg good ?_
  simp [go_sem]
  repeat (with_reducible refine And.intro ?_ ?_; first | omega | assumption | (simp only [inI]; omega))
  refine okC_ret ?_
  simp [go_sem]
  simp [batStr, b]
 · try simp at b
  refine okC_skip ?_
  refine okC_rg good ?_
  simp [go_sem]
  repeat (with_reducible refine And.intro ?_ ?_; first | omega | assumption | (simp only [inI]; omega))
  first | refine callK_of (fn_impl_formatBatch l b) (by simp [go_sem]) ?_ | refine callK_fz (fn_impl_formatBatch l b) (by simp [go_sem]) (by simp [go_sem]) ?_
  simp [go_sem]
  repeat (with_reducible refine And.intro ?_ ?_; first | omega | assumption | (simp only [inI]; omega))
  refine okC_ret ?_
  simp [go_sem]
  simp [batStr, b]
theorem fn_impl_Checksum (s : Str) (hs : s.length ≤ 1048576) : FnOk Tryz.prog 24 [dS s] (fun res' => res' = .val (dI (checksum s))) := by
 refine fn_of good (rs := [.tmp 2]) Tryz.func24 rfl Tryz.ntmps24 (by decide) (by simp) rfl fun w0 ow0 => ?_
 refine okC_rg good ?_
 simp [go_sem]
 repeat (with_reducible refine And.intro ?_ ?_; first | omega | assumption | (simp only [inI]; omega))
 refine okC_rg good ?_
 simp [go_sem]
 repeat (with_reducible refine And.intro ?_ ?_; first | omega | assumption | (simp only [inI]; omega))
 refine okC_seq ?_
 refine okC_rg good ?_
 simp [go_sem]
 repeat (with_reducible refine And.intro ?_ ?_; first | omega | assumption | (simp only [inI]; omega))
 refine okC_block ?_
 refine okC_rounds (fun (i : Nat) => [(0, .val (dS s)), (3, .val (dI ((s.take i).foldl sumStep 7))), (6, .val (dI s.length)), (7, .val (dI i))]) (fun (i : Nat) => (s).length - i) (fun (i : Nat) => (i ≤ (s).length) ∧ (0 ≤ (s.take i).foldl sumStep 7 ∧ (s.take i).foldl sumStep 7 < 9901)) (0) [] ⟨(by first | omega | rfl | (simp; done) | (simp; omega) | simp), (by first | omega | rfl | (simp; done) | (simp; omega) | simp)⟩ (by simp [go_sem]) ?_
 rintro i ⟨h1, h2⟩ K1 hK1
 refine okC_rg good ?_
 simp [go_sem]
 repeat (with_reducible refine And.intro ?_ ?_; first | omega | assumption | (simp only [inI]; omega))
 refine okC_seq ?_
 refine okC_if ?_
 simp [go_sem]
 first | refine gC_dec (fun a => ?_) (fun a => ?_) | refine gC_ndec (fun a => ?_) (fun a => ?_) | refine gC_of (fun a => ?_) (fun a => ?_)
 · try simp at a
  refine okC_skip ?_
  refine okC_seq ?_
  refine okC_block ?_
  obtain ⟨c, hc⟩ := at_of (l := s) (i := i) (by omega)
  have hm := foldl_snoc sumStep 7 hc
  have hle := sumStep_le c h2
  have hq : (263 * ((s.take i).foldl sumStep 7) + c.toNat + 1).tmod 9901 = (s.take (i + 1)).foldl sumStep 7 := by rw [hm, sumStep, Int.mul_comm]
  rw [← hm] at hle
  have hcn := c.toNat_lt
  refine okC_rg good ?_
  simp [go_sem, hc, hq]
  repeat (with_reducible refine And.intro ?_ ?_; first | omega | assumption | (simp only [inI]; omega))
  refine okC_rg1 good ?_
  simp [go_sem, hc, hq]
  repeat (with_reducible refine And.intro ?_ ?_; first | omega | assumption | (simp only [inI]; omega))
  refine okC_rg1 good ?_
  simp [go_sem, hc, hq]
  repeat (with_reducible refine And.intro ?_ ?_; first | omega | assumption | (simp only [inI]; omega))
  refine normalE hK1 ⟨i + 1, [], ⟨(by omega), (hle)⟩, (by show _ < _; first | omega | simp <;> omega), (by simp [go_sem, hc, hq])⟩
 · try simp at a
  refine okC_exit (show K1 _ _ from exitE hK1 ?_)
  have hi : i = s.length := by omega
  subst hi
  refine okC_rg good ?_
  simp [go_sem]
  repeat (with_reducible refine And.intro ?_ ?_; first | omega | assumption | (simp only [inI]; omega))
  refine okC_ret ?_
  simp [go_sem]
  simp [checksum]
theorem fn_impl_EncodeEntry (v : Int) (l : List Opn) (hs : smallB l) : FnOk Tryz.prog 18 [dI v, nBat l] (fun res' => res' = .val (dS (entStr v l))) := by
 refine fn_of good (rs := [.tmp 4]) Tryz.func18 rfl Tryz.ntmps18 (by decide) (by simp) rfl fun w0 ow0 => ?_
 refine okC_rg good ?_
 simp [go_sem]
 repeat (with_reducible refine And.intro ?_ ?_; first | omega | assumption | (simp only [inI]; omega))
 refine okC_seq ?_
 refine okC_rg good ?_
 simp [go_sem]
 repeat (with_reducible refine And.intro ?_ ?_; first | omega | assumption | (simp only [inI]; omega))
 first | refine callK_of (fn_impl_within _ _ _) (by simp [go_sem]) ?_ | refine callK_fz (fn_impl_within _ _ _) (by simp [go_sem]) (by simp [go_sem]) ?_
 simp [go_sem]
 repeat (with_reducible refine And.intro ?_ ?_; first | omega | assumption | (simp only [inI]; omega))
 first | refine gI_dec (fun e => ?_) (fun e => ?_) | refine gI_ndec (fun e => ?_) (fun e => ?_) | refine gI_of (fun e => ?_) (fun e => ?_)
 · have e' := e; try simp at e'
  simp [go_sem, e]
  repeat (with_reducible refine And.intro ?_ ?_; first | omega | assumption | (simp only [inI]; omega))
  refine okC_if ?_
  simp [go_sem, e]
  refine okC_rg good ?_
  simp [go_sem, e]
  repeat (with_reducible refine And.intro ?_ ?_; first | omega | assumption | (simp only [inI]; omega))
  refine okC_ret ?_
  simp [go_sem, e]
  rw [entStr, if_neg]; simp [entB]; omega
 · have e' := e; try simp at e'
  simp [go_sem, e]
  repeat (with_reducible refine And.intro ?_ ?_; first | omega | assumption | (simp only [inI]; omega))
  first | refine callK_of (fn_impl_IsValidBatch _ (by first | assumption | omega | (simp; omega) | grind)) (by simp [go_sem]) ?_ | refine callK_fz (fn_impl_IsValidBatch _ (by first | assumption | omega | (simp; omega) | grind)) (by simp [go_sem]) (by simp [go_sem]) ?_
  simp [go_sem, e]
  repeat (with_reducible refine And.intro ?_ ?_; first | omega | assumption | (simp only [inI]; omega))
  refine okC_if ?_
  simp [go_sem, e]
  first | refine gC_dec (fun b => ?_) (fun b => ?_) | refine gC_ndec (fun b => ?_) (fun b => ?_) | refine gC_of (fun b => ?_) (fun b => ?_)
  · try simp at b
   refine okC_rg good ?_
   simp [go_sem, e]
   repeat (with_reducible refine And.intro ?_ ?_; first | omega | assumption | (simp only [inI]; omega))
   refine okC_ret ?_
   simp [go_sem, e]
   simp [entStr, entB, b]
  · try simp at b
   refine okC_skip ?_
   have hh := head_len (v := v) (l := l) e' b
   have hb := batTxt_len b
   have hc := checksum_le (headTxt v l) 7 (by omega)
   have hl1 := fmtI_len (n := v) (by omega)
   have hl2 := fmtI_len (n := checksum (headTxt v l)) (by unfold checksum; omega)
   have hht : headTxt v l = fmtI v ++ batTxt l := rfl
   refine okC_dt good 5 rfl (by decide) (by kernel_rfl) ?_
   simp [go_sem, e]
   repeat (with_reducible refine And.intro ?_ ?_; first | omega | assumption | (simp only [inI]; omega))
   first | refine callD_of (fn_impl_FormatInt v (by omega)) (by simp [go_sem]) rfl ?_ | refine callD_fz (fn_impl_FormatInt v (by omega)) (by simp [go_sem]) (by simp [go_sem]) rfl ?_
   simp [go_sem, e]
   repeat (with_reducible refine And.intro ?_ ?_; first | omega | assumption | (simp only [inI]; omega))
   first | refine callD_of (fn_impl_formatBatch l b) (by simp [go_sem]) rfl ?_ | refine callD_fz (fn_impl_formatBatch l b) (by simp [go_sem]) (by simp [go_sem]) rfl ?_
   simp [go_sem, e]
   repeat (with_reducible refine And.intro ?_ ?_; first | omega | assumption | (simp only [inI]; omega))
   refine okC_rg good ?_
   simp [go_sem, e, hht.symm]
   repeat (with_reducible refine And.intro ?_ ?_; first | omega | assumption | (simp only [inI]; omega))
   first | refine callK_of (fn_impl_Checksum (headTxt v l) (by omega)) (by simp [go_sem]) ?_ | refine callK_fz (fn_impl_Checksum (headTxt v l) (by omega)) (by simp [go_sem]) (by simp [go_sem]) ?_
   simp [go_sem, e, hht.symm]
   repeat (with_reducible refine And.intro ?_ ?_; first | omega | assumption | (simp only [inI]; omega))
   first | refine callK_of (fn_impl_FormatInt (checksum (headTxt v l)) (by unfold checksum; omega)) (by simp [go_sem]) ?_ | refine callK_fz (fn_impl_FormatInt (checksum (headTxt v l)) (by unfold checksum; omega)) (by simp [go_sem]) (by simp [go_sem]) ?_
   simp [go_sem, e, hht.symm]
   repeat (with_reducible refine And.intro ?_ ?_; first | omega | assumption | (simp only [inI]; omega))
   refine okC_ret ?_
   simp [go_sem, e, hht.symm]
   simp [entStr, entB, e', b, entTxt]
end Go.Proofs.YtfhfidecmdhkoaaGreatDoor

end
section
set_option maxRecDepth 10000
namespace Go.Proofs.YtfhfidecmdhkoaaGreatDoor
open Go.Dv Go.Pl
theorem fn_pi_yes (s : Str) (hs : s.length ≤ 1048576) (hp : parseB s = true) : FnOk Tryz.prog 44 [dS s] (fun res' => res' = .tup [.val (dI (getI s)), .val (dB (parseB s))]) := by
 refine fn_of good (rs := [.tmp 2, .tmp 3]) Tryz.func44 rfl Tryz.ntmps44 (by decide) (by simp) rfl fun w0 ow0 => ?_
 have hv := parseB_in hp
 have hf : fmtI (parseV s) = s := by simp only [parseB, Bool.and_eq_true, decide_eq_true_eq] at hp; exact hp.2
 have ha : Lib.atoiAll s = .ok (parseV s) := (congrArg Lib.atoiAll hf.symm).trans (atoi_fmt hv)
 have hg : getI s = parseV s := by rw [getI_eq, if_pos hp]
 refine okC_rg good ?_
 simp [go_sem]
 repeat (with_reducible refine And.intro ?_ ?_; first | omega | assumption | (simp only [inI]; omega))
 refine okC_rg good ?_
 simp [go_sem]
 repeat (with_reducible refine And.intro ?_ ?_; first | omega | assumption | (simp only [inI]; omega))
 first | refine callK_of (fn_strconv_Atoi_ok s (parseV s) hs ha) (by simp [go_sem]) ?_ | refine callK_fz (fn_strconv_Atoi_ok s (parseV s) hs ha) (by simp [go_sem]) (by simp [go_sem]) ?_
 simp [go_sem]
 repeat (with_reducible refine And.intro ?_ ?_; first | omega | assumption | (simp only [inI]; omega))
 refine okC_seq ?_
 refine okC_rg good ?_
 simp [go_sem]
 repeat (with_reducible refine And.intro ?_ ?_; first | omega | assumption | (simp only [inI]; omega))
 first | refine callK_of (fn_impl_FormatInt (parseV s) (by omega)) (by simp [go_sem]) ?_ | refine callK_fz (fn_impl_FormatInt (parseV s) (by omega)) (by simp [go_sem]) (by simp [go_sem]) ?_
 simp [go_sem, hf]
 repeat (with_reducible refine And.intro ?_ ?_; first | omega | assumption | (simp only [inI]; omega))
 first | refine callK_of (fn_impl_within (parseV s) (-999999999) 999999999) (by simp [go_sem]) ?_ | refine callK_fz (fn_impl_within (parseV s) (-999999999) 999999999) (by simp [go_sem]) (by simp [go_sem]) ?_
 simp [go_sem, hf]
 repeat (with_reducible refine And.intro ?_ ?_; first | omega | assumption | (simp only [inI]; omega))
 refine okC_if ?_
 simp [go_sem, hf]
 first | refine gC_dec (fun g => ?_) (fun g => ?_) | refine gC_ndec (fun g => ?_) (fun g => ?_) | refine gC_of (fun g => ?_) (fun g => ?_)
 · try simp at g
  refine okC_rg good ?_
  simp [go_sem, hf]
  repeat (with_reducible refine And.intro ?_ ?_; first | omega | assumption | (simp only [inI]; omega))
  refine okC_ret ?_
  simp [go_sem, hf]
  exfalso; omega
 · try simp at g
  refine okC_skip ?_
  refine okC_rg good ?_
  simp [go_sem, hf]
  repeat (with_reducible refine And.intro ?_ ?_; first | omega | assumption | (simp only [inI]; omega))
  refine okC_ret ?_
  simp [go_sem, hf]
  simp [hg, hp]
theorem fn_pi_no1 (s : Str) (v : Int) (hs : s.length ≤ 1048576) (hp : parseB s = false) (ha : Lib.atoiAll s = .ok v) (hv : -9223372036854775808 ≤ v ∧ v ≤ 9223372036854775807) : FnOk Tryz.prog 44 [dS s] (fun res' => res' = .tup [.val (dI (getI s)), .val (dB (parseB s))]) := by
 refine fn_of good (rs := [.tmp 2, .tmp 3]) Tryz.func44 rfl Tryz.ntmps44 (by decide) (by simp) rfl fun w0 ow0 => ?_
 have hg : getI s = 0 := by rw [getI_eq, if_neg (by simp [hp])]
 refine okC_rg good ?_
 simp [go_sem]
 repeat (with_reducible refine And.intro ?_ ?_; first | omega | assumption | (simp only [inI]; omega))
 refine okC_rg good ?_
 simp [go_sem]
 repeat (with_reducible refine And.intro ?_ ?_; first | omega | assumption | (simp only [inI]; omega))
 first | refine callK_of (fn_strconv_Atoi_ok s v hs ha) (by simp [go_sem]) ?_ | refine callK_fz (fn_strconv_Atoi_ok s v hs ha) (by simp [go_sem]) (by simp [go_sem]) ?_
 simp [go_sem]
 repeat (with_reducible refine And.intro ?_ ?_; first | omega | assumption | (simp only [inI]; omega))
 refine okC_seq ?_
 refine okC_rg good ?_
 simp [go_sem]
 repeat (with_reducible refine And.intro ?_ ?_; first | omega | assumption | (simp only [inI]; omega))
 first | refine callK_of (fn_impl_FormatInt v hv) (by simp [go_sem]) ?_ | refine callK_fz (fn_impl_FormatInt v hv) (by simp [go_sem]) (by simp [go_sem]) ?_
 simp [go_sem]
 repeat (with_reducible refine And.intro ?_ ?_; first | omega | assumption | (simp only [inI]; omega))
 first | refine gI_dec (fun e => ?_) (fun e => ?_) | refine gI_ndec (fun e => ?_) (fun e => ?_) | refine gI_of (fun e => ?_) (fun e => ?_)
 · have e' := e; try simp at e'
  simp [go_sem, e]
  repeat (with_reducible refine And.intro ?_ ?_; first | omega | assumption | (simp only [inI]; omega))
  refine okC_if ?_
  simp [go_sem, e]
  refine okC_rg good ?_
  simp [go_sem, e]
  repeat (with_reducible refine And.intro ?_ ?_; first | omega | assumption | (simp only [inI]; omega))
  refine okC_ret ?_
  simp [go_sem, e]
  simp [hg, hp]
 · have e' := e; try simp at e'
  simp [go_sem, e]
  repeat (with_reducible refine And.intro ?_ ?_; first | omega | assumption | (simp only [inI]; omega))
  first | refine callK_of (fn_impl_within v (-999999999) 999999999) (by simp [go_sem]) ?_ | refine callK_fz (fn_impl_within v (-999999999) 999999999) (by simp [go_sem]) (by simp [go_sem]) ?_
  simp [go_sem, e]
  repeat (with_reducible refine And.intro ?_ ?_; first | omega | assumption | (simp only [inI]; omega))
  refine okC_if ?_
  simp [go_sem, e]
  first | refine gC_dec (fun g => ?_) (fun g => ?_) | refine gC_ndec (fun g => ?_) (fun g => ?_) | refine gC_of (fun g => ?_) (fun g => ?_)
  · try simp at g
   refine okC_rg good ?_
   simp [go_sem, e]
   repeat (with_reducible refine And.intro ?_ ?_; first | omega | assumption | (simp only [inI]; omega))
   refine okC_ret ?_
   simp [go_sem, e]
   simp [hg, hp]
  · try simp at g
   refine okC_skip ?_
   refine okC_rg good ?_
   simp [go_sem, e]
   repeat (with_reducible refine And.intro ?_ ?_; first | omega | assumption | (simp only [inI]; omega))
   refine okC_ret ?_
   simp [go_sem, e]
   have h2 := (parse_fmt (n := v) (by omega)).1
   all_goals (rw [e'] at h2; rw [hp] at h2; cases h2)
theorem fn_pi_no2 (s : Str) (hs : s.length ≤ 1048576) (hp : parseB s = false) (ha : ∀ v, Lib.atoiAll s ≠ .ok v) : FnOk Tryz.prog 44 [dS s] (fun res' => res' = .tup [.val (dI (getI s)), .val (dB (parseB s))]) := by
 refine fn_of good (rs := [.tmp 2, .tmp 3]) Tryz.func44 rfl Tryz.ntmps44 (by decide) (by simp) rfl fun w0 ow0 => ?_
 have hg : getI s = 0 := by rw [getI_eq, if_neg (by simp [hp])]
 refine okC_rg good ?_
 simp [go_sem]
 repeat (with_reducible refine And.intro ?_ ?_; first | omega | assumption | (simp only [inI]; omega))
 refine okC_rg good ?_
 simp [go_sem]
 repeat (with_reducible refine And.intro ?_ ?_; first | omega | assumption | (simp only [inI]; omega))
 refine callK_fx (fn_strconv_Atoi_no s hs ha) (by simp [go_sem]) ?_
 rintro r ⟨k, tp, p, rfl⟩
 refine ⟨by simp [go_sem], ?_⟩
 simp [go_sem]
 repeat (with_reducible refine And.intro ?_ ?_; first | omega | assumption | (simp only [inI]; omega))
 refine okC_seq ?_
 refine okC_rg good ?_
 simp [go_sem]
 repeat (with_reducible refine And.intro ?_ ?_; first | omega | assumption | (simp only [inI]; omega))
 refine okC_if ?_
 simp [go_sem]
 refine okC_rg good ?_
 simp [go_sem]
 repeat (with_reducible refine And.intro ?_ ?_; first | omega | assumption | (simp only [inI]; omega))
 refine okC_ret ?_
 simp [go_sem]
 simp [hg, hp]
theorem fn_impl_ParseInt (s : Str) (hs : s.length ≤ 1048576) : FnOk Tryz.prog 44 [dS s] (fun res' => res' = .tup [.val (dI (getI s)), .val (dB (parseB s))]) := by
 cases hp : parseB s with
 | true => rw [← hp]; exact fn_pi_yes s hs hp
 | false =>
  rw [← hp]
  by_cases ha : ∃ v, Lib.atoiAll s = .ok v
  · obtain ⟨v, ha⟩ := ha
   exact fn_pi_no1 s v hs hp ha (Lib.atoiAll_bounds ha)
  · exact fn_pi_no2 s hs hp fun v h => ha ⟨v, h⟩
def readIs : List Str → Option (List Int)
 | [] => some []
 | x :: l => (readI x).bind fun v => (readIs l).bind fun r => some (v :: r)
theorem readIs_snoc : ∀ {l : List Str} {x : Str} {r : List Int}, readIs l = some r → readIs (l ++ [x]) = (readI x).map fun v => r ++ [v]
 | [], x, r, h => by
  obtain rfl := Option.some.inj h
  simp only [List.nil_append, readIs]
  cases readI x <;> rfl
 | y :: l, x, r, h => by
  simp only [List.cons_append, readIs] at h ⊢
  cases hy : readI y with
  | none => rw [hy] at h; cases h
  | some o =>
   rw [hy] at h
   simp only [Option.bind_some] at h ⊢
   cases hl : readIs l with
   | none => rw [hl] at h; cases h
   | some r' =>
    rw [hl] at h
    obtain rfl := Option.some.inj h
    rw [readIs_snoc hl]
    cases readI x <;> rfl
theorem readIs_none : ∀ {l : List Str} {x : Str}, x ∈ l → readI x = none → readIs l = none
 | y :: l, x, h, hx => by
  simp only [readIs]
  rcases List.mem_cons.1 h with rfl | h
  · rw [hx]; rfl
  · rw [readIs_none h hx]; cases readI y <;> rfl
theorem readIs_len : ∀ {l : List Str} {r : List Int}, readIs l = some r → r.length = l.length
 | [], r, h => by obtain rfl := Option.some.inj h; rfl
 | x :: l, r, h => by
  simp only [readIs] at h
  cases hx : readI x with
  | none => rw [hx] at h; cases h
  | some o =>
   cases hl : readIs l with
   | none => rw [hx, hl] at h; cases h
   | some r' => rw [hx, hl] at h; obtain rfl := Option.some.inj h; simp [readIs_len hl]
theorem fn_pis_ok (l : List Str) (r0 : List Int) (hl : l.length ≤ 1048576) (hs : ∀ x ∈ l, x.length ≤ 1048576) (hr : readIs l = some r0) : FnOk Tryz.prog 161 [nStrs l] (fun res' => res' = .tup [.own (oInts r0), .val (dB true)]) := by
 refine fn_of good (rs := [.tmp 2, .tmp 3]) Tryz.func161 rfl Tryz.ntmps161 (by decide) (by simp) rfl fun w0 ow0 => ?_
 refine okC_rg good ?_
 simp [go_sem]
 repeat (with_reducible refine And.intro ?_ ?_; first | omega | assumption | (simp only [inI]; omega))
 refine okC_rg good ?_
 simp [go_sem]
 repeat (with_reducible refine And.intro ?_ ?_; first | omega | assumption | (simp only [inI]; omega))
 refine okC_seq ?_
 refine okC_rg good ?_
 simp [go_sem]
 repeat (with_reducible refine And.intro ?_ ?_; first | omega | assumption | (simp only [inI]; omega))
 refine okC_block ?_
 refine okC_rounds (fun (x' : (Nat) × (List Int)) => match x' with | (i, r) => [(4, .own (oInts r)), (9, .val (nStrs l)), (10, .val (dI l.length)), (11, .val (dI i))]) (fun (x' : (Nat) × (List Int)) => match x' with | (i, r) => l.length - i) (fun (x' : (Nat) × (List Int)) => match x' with | (i, r) => (i ≤ l.length) ∧ (readIs (l.take i) = some r)) ((0, [])) [] ⟨(by omega), (by simp [readIs])⟩ (by simp [go_sem]) ?_
 rintro ⟨i, r⟩ ⟨h1, h2⟩ K1 hK1
 simp only at h1 h2 ⊢
 have hrl := readIs_len h2
 rw [List.length_take] at hrl
 refine okC_rg good ?_
 simp [go_sem]
 repeat (with_reducible refine And.intro ?_ ?_; first | omega | assumption | (simp only [inI]; omega))
 refine okC_seq ?_
 refine okC_if ?_
 simp [go_sem]
 first | refine gC_dec (fun a => ?_) (fun a => ?_) | refine gC_ndec (fun a => ?_) (fun a => ?_) | refine gC_of (fun a => ?_) (fun a => ?_)
 · try simp at a
  refine okC_skip ?_
  refine okC_seq ?_
  refine okC_block ?_
  obtain ⟨c, hc⟩ := at_of (l := l) (i := i) (by omega)
  have hcm := List.mem_of_getElem? hc
  refine okC_rg good ?_
  simp [go_sem, hc]
  repeat (with_reducible refine And.intro ?_ ?_; first | omega | assumption | (simp only [inI]; omega))
  refine okC_rg good ?_
  simp [go_sem, hc]
  repeat (with_reducible refine And.intro ?_ ?_; first | omega | assumption | (simp only [inI]; omega))
  first | refine callK_of (fn_impl_ParseInt c (hs c hcm)) (by simp [go_sem]) ?_ | refine callK_fz (fn_impl_ParseInt c (hs c hcm)) (by simp [go_sem]) (by simp [go_sem]) ?_
  simp [go_sem, hc]
  repeat (with_reducible refine And.intro ?_ ?_; first | omega | assumption | (simp only [inI]; omega))
  refine okC_seq ?_
  refine okC_rg good ?_
  simp [go_sem, hc]
  repeat (with_reducible refine And.intro ?_ ?_; first | omega | assumption | (simp only [inI]; omega))
  refine okC_if ?_
  simp [go_sem, hc]
  first | refine gC_dec (fun b => ?_) (fun b => ?_) | refine gC_ndec (fun b => ?_) (fun b => ?_) | refine gC_of (fun b => ?_) (fun b => ?_)
  · try simp at b
   have hrd : readIs l = none := readIs_none hcm (readI_none (by simpa using b))
   rw [hrd] at hr; cases hr
  · try simp at b
   refine okC_skip ?_
   have hsn : readIs (l.take (i + 1)) = some (r ++ [getI c]) := by rw [take_snoc hc, readIs_snoc h2, readI_yes (by simpa using b)]; rfl
   refine okC_rg1 good ?_
   simp [go_sem, hc]
   repeat (with_reducible refine And.intro ?_ ?_; first | omega | assumption | (simp only [inI]; omega))
   refine okC_rg1 good ?_
   simp [go_sem, hc]
   repeat (with_reducible refine And.intro ?_ ?_; first | omega | assumption | (simp only [inI]; omega))
   refine normalE hK1 ⟨(i + 1, r ++ [getI c]), [], ⟨(by omega), (hsn)⟩, (by show _ < _; first | omega | simp <;> omega), (by simp [go_sem, hc])⟩
 · try simp at a
  refine okC_exit (show K1 _ _ from exitE hK1 ?_)
  have hrd : readIs l = some r := by rw [← h2, List.take_of_length_le (by omega)]
  rw [hr] at hrd
  obtain rfl := Option.some.inj hrd
  refine okC_rg good ?_
  simp [go_sem]
  repeat (with_reducible refine And.intro ?_ ?_; first | omega | assumption | (simp only [inI]; omega))
  refine okC_ret ?_
  simp [go_sem]
  all_goals first | done | omega | grind | (simp; omega) | (simp_all; done) | (simp_all; omega)
theorem fn_pis_no (l : List Str) (hl : l.length ≤ 1048576) (hs : ∀ x ∈ l, x.length ≤ 1048576) (hr : readIs l = none) : FnOk Tryz.prog 161 [nStrs l] (fun res' => res' = .tup [.val (.one (.slice none 0 0)), .val (dB false)]) := by
 refine fn_of good (rs := [.tmp 2, .tmp 3]) Tryz.func161 rfl Tryz.ntmps161 (by decide) (by simp) rfl fun w0 ow0 => ?_
 refine okC_rg good ?_
 simp [go_sem]
 repeat (with_reducible refine And.intro ?_ ?_; first | omega | assumption | (simp only [inI]; omega))
 refine okC_rg good ?_
 simp [go_sem]
 repeat (with_reducible refine And.intro ?_ ?_; first | omega | assumption | (simp only [inI]; omega))
 refine okC_seq ?_
 refine okC_rg good ?_
 simp [go_sem]
 repeat (with_reducible refine And.intro ?_ ?_; first | omega | assumption | (simp only [inI]; omega))
 refine okC_block ?_
 refine okC_rounds (fun (x' : (Nat) × (List Int)) => match x' with | (i, r) => [(4, .own (oInts r)), (9, .val (nStrs l)), (10, .val (dI l.length)), (11, .val (dI i))]) (fun (x' : (Nat) × (List Int)) => match x' with | (i, r) => l.length - i) (fun (x' : (Nat) × (List Int)) => match x' with | (i, r) => (i ≤ l.length) ∧ (readIs (l.take i) = some r)) ((0, [])) [] ⟨(by omega), (by simp [readIs])⟩ (by simp [go_sem]) ?_
 rintro ⟨i, r⟩ ⟨h1, h2⟩ K1 hK1
 simp only at h1 h2 ⊢
 have hrl := readIs_len h2
 rw [List.length_take] at hrl
 refine okC_rg good ?_
 simp [go_sem]
 repeat (with_reducible refine And.intro ?_ ?_; first | omega | assumption | (simp only [inI]; omega))
 refine okC_seq ?_
 refine okC_if ?_
 simp [go_sem]
 first | refine gC_dec (fun a => ?_) (fun a => ?_) | refine gC_ndec (fun a => ?_) (fun a => ?_) | refine gC_of (fun a => ?_) (fun a => ?_)
 · try simp at a
  refine okC_skip ?_
  refine okC_seq ?_
  refine okC_block ?_
  obtain ⟨c, hc⟩ := at_of (l := l) (i := i) (by omega)
  have hcm := List.mem_of_getElem? hc
  refine okC_rg good ?_
  simp [go_sem, hc]
  repeat (with_reducible refine And.intro ?_ ?_; first | omega | assumption | (simp only [inI]; omega))
  refine okC_rg good ?_
  simp [go_sem, hc]
  repeat (with_reducible refine And.intro ?_ ?_; first | omega | assumption | (simp only [inI]; omega))
  first | refine callK_of (fn_impl_ParseInt c (hs c hcm)) (by simp [go_sem]) ?_ | refine callK_fz (fn_impl_ParseInt c (hs c hcm)) (by simp [go_sem]) (by simp [go_sem]) ?_
  simp [go_sem, hc]
  repeat (with_reducible refine And.intro ?_ ?_; first | omega | assumption | (simp only [inI]; omega))
  refine okC_seq ?_
  refine okC_rg good ?_
  simp [go_sem, hc]
  repeat (with_reducible refine And.intro ?_ ?_; first | omega | assumption | (simp only [inI]; omega))
  refine okC_if ?_
  simp [go_sem, hc]
  first | refine gC_dec (fun b => ?_) (fun b => ?_) | refine gC_ndec (fun b => ?_) (fun b => ?_) | refine gC_of (fun b => ?_) (fun b => ?_)
  · try simp at b
   have hrd : readIs l = none := readIs_none hcm (readI_none (by simpa using b))
   refine okC_rg good ?_
   simp [go_sem, hc]
   repeat (with_reducible refine And.intro ?_ ?_; first | omega | assumption | (simp only [inI]; omega))
   refine okC_ret (show K1 _ _ from retE hK1 ?_)
   simp [go_sem, hc]
   skip
  · try simp at b
   refine okC_skip ?_
   have hsn : readIs (l.take (i + 1)) = some (r ++ [getI c]) := by rw [take_snoc hc, readIs_snoc h2, readI_yes (by simpa using b)]; rfl
   refine okC_rg1 good ?_
   simp [go_sem, hc]
   repeat (with_reducible refine And.intro ?_ ?_; first | omega | assumption | (simp only [inI]; omega))
   refine okC_rg1 good ?_
   simp [go_sem, hc]
   repeat (with_reducible refine And.intro ?_ ?_; first | omega | assumption | (simp only [inI]; omega))
   refine normalE hK1 ⟨(i + 1, r ++ [getI c]), [], ⟨(by omega), (hsn)⟩, (by show _ < _; first | omega | simp <;> omega), (by simp [go_sem, hc])⟩
 · try simp at a
  refine okC_exit (show K1 _ _ from exitE hK1 ?_)
  have hrd : readIs l = some r := by rw [← h2, List.take_of_length_le (by omega)]
  rw [hrd] at hr; cases hr
def srcI (s : Str) : Int := match s with
 | [] => 0
 | c :: _ => idx4 c
theorem idx4_in (c : UInt8) : -1 ≤ idx4 c ∧ idx4 c ≤ 3 := by unfold idx4; split <;> omega
theorem fn_ib4 (c : UInt8) : FnOk Tryz.prog 42 [dS [97, 98, 99, 100], dC c] (fun r => r = .val (dI (idx4 c))) := by rw [← idx4_eq]; exact fn_strings_IndexByte [97, 98, 99, 100] c
theorem fn_impl_readOrigin (s : Str) (hs : s.length ≤ 1048576) : FnOk Tryz.prog 120 [dS s] (fun res' => res' = .tup [.val (dI (srcI s)), .val (dI (getI (s.drop 1))), .val (dB (origin? s).isSome)]) := by
 refine fn_of good (rs := [.tmp 2, .tmp 3, .tmp 4]) Tryz.func120 rfl Tryz.ntmps120 (by decide) (by simp) rfl fun w0 ow0 => ?_
 refine okC_rg good ?_
 simp [go_sem]
 repeat (with_reducible refine And.intro ?_ ?_; first | omega | assumption | (simp only [inI]; omega))
 refine okC_seq ?_
 refine okC_rg good ?_
 simp [go_sem]
 repeat (with_reducible refine And.intro ?_ ?_; first | omega | assumption | (simp only [inI]; omega))
 refine okC_if ?_
 simp [go_sem]
 first | refine gC_dec (fun e => ?_) (fun e => ?_) | refine gC_ndec (fun e => ?_) (fun e => ?_) | refine gC_of (fun e => ?_) (fun e => ?_)
 · try simp at e
  subst e
  have hg : getI ([] : Str) = 0 := by rw [getI, readI_nil]; rfl
  refine okC_rg good ?_
  simp [go_sem]
  repeat (with_reducible refine And.intro ?_ ?_; first | omega | assumption | (simp only [inI]; omega))
  refine okC_ret ?_
  simp [go_sem]
  simp [srcI, origin?, hg]
 · try simp at e
  refine okC_skip ?_
  obtain ⟨c, t, rfl⟩ : ∃ c t, s = c :: t := by cases s with | nil => exact absurd rfl e | cons c t => exact ⟨c, t, rfl⟩
  have hi := idx4_in c
  refine okC_rg good ?_
  simp [go_sem]
  repeat (with_reducible refine And.intro ?_ ?_; first | omega | assumption | (simp only [inI]; omega))
  first | refine callK_of (fn_ib4 c) (by simp [go_sem]) ?_ | refine callK_fz (fn_ib4 c) (by simp [go_sem]) (by simp [go_sem]) ?_
  simp [go_sem]
  repeat (with_reducible refine And.intro ?_ ?_; first | omega | assumption | (simp only [inI]; omega))
  refine okC_rg good ?_
  simp [go_sem]
  repeat (with_reducible refine And.intro ?_ ?_; first | omega | assumption | (simp only [inI]; omega))
  first | refine callK_of (fn_impl_ParseInt t (by simp at hs; omega)) (by simp [go_sem]) ?_ | refine callK_fz (fn_impl_ParseInt t (by simp at hs; omega)) (by simp [go_sem]) (by simp [go_sem]) ?_
  simp [go_sem]
  repeat (with_reducible refine And.intro ?_ ?_; first | omega | assumption | (simp only [inI]; omega))
  refine okC_rg good ?_
  simp [go_sem]
  repeat (with_reducible refine And.intro ?_ ?_; first | omega | assumption | (simp only [inI]; omega))
  first | refine gI_dec (fun f => ?_) (fun f => ?_) | refine gI_ndec (fun f => ?_) (fun f => ?_) | refine gI_of (fun f => ?_) (fun f => ?_)
  · have f' := f; try simp at f'
   simp [go_sem, f]
   repeat (with_reducible refine And.intro ?_ ?_; first | omega | assumption | (simp only [inI]; omega))
   first | refine gI_dec (fun g => ?_) (fun g => ?_) | refine gI_ndec (fun g => ?_) (fun g => ?_) | refine gI_of (fun g => ?_) (fun g => ?_)
   · have g' := g; try simp at g'
    simp [go_sem, f, g]
    repeat (with_reducible refine And.intro ?_ ?_; first | omega | assumption | (simp only [inI]; omega))
    first | refine callK_of (fn_impl_within _ _ _) (by simp [go_sem]) ?_ | refine callK_fz (fn_impl_within _ _ _) (by simp [go_sem]) (by simp [go_sem]) ?_
    simp [go_sem, f, g]
    repeat (with_reducible refine And.intro ?_ ?_; first | omega | assumption | (simp only [inI]; omega))
    refine okC_ret ?_
    simp [go_sem, f, g]
    simp [srcI, origin?, f, g, getI_eq]; by_cases h9 : 1 ≤ parseV t ∧ parseV t ≤ 99; (simp [h9]); (rw [if_neg h9]; simp; omega)
   · have g' := g; try simp at g'
    simp [go_sem, f, g]
    repeat (with_reducible refine And.intro ?_ ?_; first | omega | assumption | (simp only [inI]; omega))
    refine okC_ret ?_
    simp [go_sem, f, g]
    simp [srcI, origin?, f, g, getI_eq]
  · have f' := f; try simp at f'
   simp [go_sem, f]
   repeat (with_reducible refine And.intro ?_ ?_; first | omega | assumption | (simp only [inI]; omega))
   refine okC_ret ?_
   simp [go_sem, f]
   simp [srcI, origin?, f]
end Go.Proofs.YtfhfidecmdhkoaaGreatDoor

end
section
set_option maxRecDepth 10000
namespace Go.Proofs.YtfhfidecmdhkoaaGreatDoor
open Go.Dv Go.Pl
theorem bef_len (c : UInt8) (s : Str) : (bef c s).length ≤ s.length := (List.takeWhile_prefix _).length_le
theorem aft_len (c : UInt8) (s : Str) : (aft c s).length ≤ s.length := by
 unfold aft
 rw [List.length_drop]
 have := (List.dropWhile_suffix (l := s) fun d => decide (d ≠ c)).length_le
 omega
theorem origin_some {s : Str} {o : Int × Int} (h : origin? s = some o) : o = (srcI s, getI (s.drop 1)) := by
 unfold origin? at h
 cases s with
 | nil => cases h
 | cons c t =>
  simp only at h
  split at h
  · rename_i hc
   obtain rfl := Option.some.inj h
   simp only [srcI, List.drop_succ_cons, List.drop_zero, getI_eq, if_pos hc.2.1]
  · cases h
theorem fn_impl_ParseRecord (s : Str) (hs : s.length ≤ 1048000) : FnOk Tryz.prog 119 [dS s] (fun res' => res' = .tup [.own (oRec (recOr s)), .val (dB (readRec s).isSome)]) := by
 refine fn_of good (rs := [.cell 2 77, .tmp 3]) Tryz.func119 rfl Tryz.ntmps119 (by decide) (by simp) rfl fun w0 ow0 => ?_
 obtain ⟨H, hH⟩ : ∃ H, bef 124 s = H := ⟨_, rfl⟩
 obtain ⟨R, hR⟩ : ∃ R, aft 124 s = R := ⟨_, rfl⟩
 obtain ⟨nm, hnm⟩ : ∃ nm, bef 46 H = nm := ⟨_, rfl⟩
 obtain ⟨vr, hvr⟩ : ∃ vr, aft 46 H = vr := ⟨_, rfl⟩
 have hHl : H.length ≤ s.length := by rw [← hH]; exact bef_len _ _
 have hRl : R.length ≤ s.length := by rw [← hR]; exact aft_len _ _
 have hnl : nm.length ≤ s.length := by rw [← hnm]; exact Nat.le_trans (bef_len _ _) hHl
 have hvl : vr.length ≤ s.length := by rw [← hvr]; exact Nat.le_trans (aft_len _ _) hHl
 have hcd : candRecI s = (origin? nm).bind fun o => (readI vr).bind fun n => some ⟨o.1, o.2, n, cutS 124 R⟩ := by rw [candRecI, hH, hR, hnm, hvr]
 refine okC_rg good ?_
 simp [go_sem, hH, hR, hnm, hvr]
 repeat (with_reducible refine And.intro ?_ ?_; first | omega | assumption | (simp only [inI]; omega))
 refine okC_rg good ?_
 simp [go_sem, hH, hR, hnm, hvr]
 repeat (with_reducible refine And.intro ?_ ?_; first | omega | assumption | (simp only [inI]; omega))
 first | refine callK_of (fn_strings_Cut s 124 (by omega)) (by simp [go_sem]) ?_ | refine callK_fz (fn_strings_Cut s 124 (by omega)) (by simp [go_sem]) (by simp [go_sem]) ?_
 simp [go_sem, hH, hR, hnm, hvr]
 repeat (with_reducible refine And.intro ?_ ?_; first | omega | assumption | (simp only [inI]; omega))
 refine okC_rg good ?_
 simp [go_sem, hH, hR, hnm, hvr]
 repeat (with_reducible refine And.intro ?_ ?_; first | omega | assumption | (simp only [inI]; omega))
 first | refine callK_of (fn_strings_Cut H 46 (by omega)) (by simp [go_sem]) ?_ | refine callK_fz (fn_strings_Cut H 46 (by omega)) (by simp [go_sem]) (by simp [go_sem]) ?_
 simp [go_sem, hH, hR, hnm, hvr]
 repeat (with_reducible refine And.intro ?_ ?_; first | omega | assumption | (simp only [inI]; omega))
 refine okC_rg good ?_
 simp [go_sem, hH, hR, hnm, hvr]
 repeat (with_reducible refine And.intro ?_ ?_; first | omega | assumption | (simp only [inI]; omega))
 first | refine callK_of (fn_impl_readOrigin nm (by omega)) (by simp [go_sem]) ?_ | refine callK_fz (fn_impl_readOrigin nm (by omega)) (by simp [go_sem]) (by simp [go_sem]) ?_
 simp [go_sem, hH, hR, hnm, hvr]
 repeat (with_reducible refine And.intro ?_ ?_; first | omega | assumption | (simp only [inI]; omega))
 refine okC_rg good ?_
 simp [go_sem, hH, hR, hnm, hvr]
 repeat (with_reducible refine And.intro ?_ ?_; first | omega | assumption | (simp only [inI]; omega))
 first | refine callK_of (fn_impl_ParseInt vr (by omega)) (by simp [go_sem]) ?_ | refine callK_fz (fn_impl_ParseInt vr (by omega)) (by simp [go_sem]) (by simp [go_sem]) ?_
 simp [go_sem, hH, hR, hnm, hvr]
 repeat (with_reducible refine And.intro ?_ ?_; first | omega | assumption | (simp only [inI]; omega))
 refine okC_seq ?_
 refine okC_rg good ?_
 simp [go_sem, hH, hR, hnm, hvr]
 repeat (with_reducible refine And.intro ?_ ?_; first | omega | assumption | (simp only [inI]; omega))
 first | refine gI_dec (fun e => ?_) (fun e => ?_) | refine gI_ndec (fun e => ?_) (fun e => ?_) | refine gI_of (fun e => ?_) (fun e => ?_)
 · have e' := e; try simp at e'
  simp [go_sem, hH, hR, hnm, hvr, e]
  repeat (with_reducible refine And.intro ?_ ?_; first | omega | assumption | (simp only [inI]; omega))
  refine okC_if ?_
  simp [go_sem, hH, hR, hnm, hvr, e]
  have hrd : readRec s = none := inv_none candRecI_ok (by rw [hcd, show origin? nm = none by simpa using e]; rfl)
  refine okC_rg good ?_
  simp [go_sem, hH, hR, hnm, hvr, e]
  repeat (with_reducible refine And.intro ?_ ?_; first | omega | assumption | (simp only [inI]; omega))
  refine okC_ret ?_
  simp [go_sem, hH, hR, hnm, hvr, e]
  simp [recOr, hrd, rec0]
 · have e' := e; try simp at e'
  obtain ⟨o, ho⟩ := Option.isSome_iff_exists.1 (show (origin? nm).isSome = true by simpa using e)
  have hoo := origin_some ho
  simp [go_sem, hH, hR, hnm, hvr, e]
  repeat (with_reducible refine And.intro ?_ ?_; first | omega | assumption | (simp only [inI]; omega))
  refine okC_if ?_
  simp [go_sem, hH, hR, hnm, hvr, e]
  first | refine gC_dec (fun f => ?_) (fun f => ?_) | refine gC_ndec (fun f => ?_) (fun f => ?_) | refine gC_of (fun f => ?_) (fun f => ?_)
  · try simp at f
   have hrd : readRec s = none := inv_none candRecI_ok (by rw [hcd, ho, readI_none (by simpa using f)]; rfl)
   refine okC_rg good ?_
   simp [go_sem, hH, hR, hnm, hvr, e]
   repeat (with_reducible refine And.intro ?_ ?_; first | omega | assumption | (simp only [inI]; omega))
   refine okC_ret ?_
   simp [go_sem, hH, hR, hnm, hvr, e]
   simp [recOr, hrd, rec0]
  · try simp at f
   refine okC_skip ?_
   rw [ho, readI_yes (by simpa using f)] at hcd
   have hcd : candRecI s = some ⟨srcI nm, getI (nm.drop 1), getI vr, cutS 124 R⟩ := by rw [hcd, hoo]; rfl
   have hsn : s ≠ [] := fun e0 => by subst e0; simp only [bef, aft, List.takeWhile_nil, List.dropWhile_nil, List.drop_nil] at hH; subst hH; simp [bef] at hnm; subst hnm; cases ho
   have hrd : readRec s = _ := inv_test (str := recStr) (fun _ => rfl) candRecI_ok hcd hsn
   have hcl := cutS_len 124 R
   refine okC_rg good ?_
   simp [go_sem, hH, hR, hnm, hvr, e]
   repeat (with_reducible refine And.intro ?_ ?_; first | omega | assumption | (simp only [inI]; omega))
   first | refine callK_of (fn_strings_Split R 124 (by omega)) (by simp [go_sem]) ?_ | refine callK_fz (fn_strings_Split R 124 (by omega)) (by simp [go_sem]) (by simp [go_sem]) ?_
   simp [go_sem, hH, hR, hnm, hvr, e]
   repeat (with_reducible refine And.intro ?_ ?_; first | omega | assumption | (simp only [inI]; omega))
   refine okC_seq ?_
   refine okC_rg good ?_
   simp [go_sem, hH, hR, hnm, hvr, e]
   repeat (with_reducible refine And.intro ?_ ?_; first | omega | assumption | (simp only [inI]; omega))
   first | refine callK_of (fn_impl_FormatRecord ⟨srcI nm, getI (nm.drop 1), getI vr, cutS 124 R⟩ ⟨by have := hcl.1; simp only; omega, fun x hx => by have := hcl.2 x hx; unfold smallS; omega⟩) (by simp [go_sem]) ?_ | refine callK_fz (fn_impl_FormatRecord ⟨srcI nm, getI (nm.drop 1), getI vr, cutS 124 R⟩ ⟨by have := hcl.1; simp only; omega, fun x hx => by have := hcl.2 x hx; unfold smallS; omega⟩) (by simp [go_sem]) (by simp [go_sem]) ?_
   simp [go_sem, hH, hR, hnm, hvr, e]
   repeat (with_reducible refine And.intro ?_ ?_; first | omega | assumption | (simp only [inI]; omega))
   refine okC_if ?_
   simp [go_sem, hH, hR, hnm, hvr, e]
   first | refine gC_dec (fun g => ?_) (fun g => ?_) | refine gC_ndec (fun g => ?_) (fun g => ?_) | refine gC_of (fun g => ?_) (fun g => ?_)
   · try simp at g
    refine okC_rg good ?_
    simp [go_sem, hH, hR, hnm, hvr, e]
    repeat (with_reducible refine And.intro ?_ ?_; first | omega | assumption | (simp only [inI]; omega))
    refine okC_ret ?_
    simp [go_sem, hH, hR, hnm, hvr, e]
    simp [recOr, hrd, g, rec0]
   · try simp at g
    refine okC_skip ?_
    refine okC_rg good ?_
    simp [go_sem, hH, hR, hnm, hvr, e]
    repeat (with_reducible refine And.intro ?_ ?_; first | omega | assumption | (simp only [inI]; omega))
    refine okC_ret ?_
    simp [go_sem, hH, hR, hnm, hvr, e]
    simp [recOr, hrd, g]
end Go.Proofs.YtfhfidecmdhkoaaGreatDoor

end
section
set_option maxRecDepth 10000
namespace Go.Proofs.YtfhfidecmdhkoaaGreatDoor
open Go.Dv Go.Pl Go.RowKit Go.Shelf
abbrev eqEx : ByteArray := ⟨#[61, 33]⟩
theorem region_allS {P : Program} {id : Nat} {Q : Exit → Act → World → Prop} {a : Act} {w : World} {l : List Oper} (hm : P.follows .mixedOrders = true) (hB : Region.lexB .any l.toArray = true)
  (h : ∀ w2 : World, Below w.heap.size w w2 → wpStill P l.toArray w2 (fun a' => Q .normal a' w2) l a) : (Code.region id l.toArray true).wp P Q a w :=
 wp_region_still_lit hm hB (h _ ((Below.refl _ w).drew))
theorem encode_last {r : Int} (h : 128 ≤ r) : ∃ (l : Str) (c : UInt8), Utf8.encode r = ⟨(l ++ [c]).toArray⟩ ∧ 1 ≤ l.length ∧ l.length ≤ 3 ∧ 128 ≤ c.toNat := by
 have hb : ∀ n, (UInt8.ofNat (0x80 + n % 64)).toNat = 128 + n % 64 := fun n => by rw [UInt8.toNat_ofNat']; omega
 have hc : ¬ (if Utf8.valid r then r.toNat else Utf8.runeError) < 0x80 := by
  split
  · omega
  · decide
 unfold Utf8.encode
 simp only
 generalize (if Utf8.valid r then r.toNat else Utf8.runeError) = q at hc
 rw [if_neg hc]
 split
 · exact ⟨[_], _, rfl, by simp, by simp, by rw [hb]; omega⟩
 split
 · exact ⟨[_, _], _, rfl, by simp, by simp, by rw [hb]; omega⟩
 · exact ⟨[_, _, _], _, rfl, by simp, by simp, by rw [hb]; omega⟩
def isBoolE (e : Ending) : Prop := ∃ b : Bool, e = .returned (.bool b)
theorem validRune (r : Int) (w : World) : Calls Tryz.prog 201 #[.int .i32 r] w fun e w' => isBoolE e ∧ w' = w := by
 refine calls_of_wp Tryz.func201 rfl ?_
 simp only [Tryz.ntmps201, List.size_toArray, List.length_cons, List.length_nil, Nat.reduceAdd, Nat.reduceSub, Array.replicate_succ, Array.replicate_zero, List.push_toArray, List.append_toArray, List.nil_append, List.cons_append]
 go_wp2
 all_goals (refine bodyPost_ret (results_tmp rfl _ _ _) rfl ?_; exact ⟨⟨_, rfl⟩, rfl⟩)
theorem rune_set (r : Int) (h : 0 ≤ r) (w : World) : Calls Tryz.prog 184 #[.string eqEx, .int .i32 r] w fun e w' => ∃ i : Int, e = .returned (.int .i64 i) ∧ Below w.heap.size w w' := by
 by_cases h1 : r < 128
 · exact (Tryz.strings_IndexRune_ascii eqEx r w h h1).mono fun e w' ⟨h1, h2⟩ => ⟨_, h1, by rw [h2]; exact Below.refl _ _⟩
 refine calls_of_wp Tryz.func184 rfl ?_
 simp only [Tryz.ntmps184, List.size_toArray, List.length_cons, List.length_nil, Nat.reduceAdd, Nat.reduceSub, Array.replicate_succ, Array.replicate_zero, List.push_toArray, List.append_toArray, List.nil_append, List.cons_append]
 have h1' : 128 ≤ r := by omega
 by_cases h2 : r = 65533
 · subst h2
  go_wp2
  go_loopw [] (fun w' => ∃ pos, w' = w.iter eqEx pos ∧ pos ≤ 2) (fun w' => 2 - w'.iterPos w.heap.size)
  case atStart => exact ⟨0, rfl, by omega⟩
  case round =>
   obtain ⟨pos, rfl, hp2⟩ := hrel
   by_cases hp : pos < eqEx.size
   · have hnx : ∀ ty, (Instr.next (.pointer (some ⟨w.heap.size, 0, none⟩)) true ty).run Tryz.prog (w.iter eqEx pos) = _ := fun ty => run_next_any w eqEx pos ty hp
    have hd : ∃ c : Nat, Utf8.decode eqEx pos = (c, 1) ∧ (c = 61 ∨ c = 33) := by
     have : pos = 0 ∨ pos = 1 := by
      have : eqEx.size = 2 := rfl
      omega
     rcases this with rfl | rfl
     · exact ⟨61, rfl, .inl rfl⟩
     · exact ⟨33, rfl, .inr rfl⟩
    obtain ⟨c, hd, hc⟩ := hd
    have hcn : ¬ c = 65533 := by omega
    simp only [hd] at hnx
    go_wp2
    go_roundw
    case rel => exact ⟨pos + 1, rfl, by have : eqEx.size = 2 := rfl; omega⟩
    case measure => simp; have : eqEx.size = 2 := rfl; omega
   · have hnx : ∀ ty, (Instr.next (.pointer (some ⟨w.heap.size, 0, none⟩)) true ty).run Tryz.prog (w.iter eqEx pos) = _ := fun ty => run_next_end w eqEx pos ty hp
    go_wp2
    refine bodyPost_ret (results_tmp rfl _ _ _) rfl ?_
    exact ⟨_, rfl, (Below.refl _ w).alloc (Nat.le_refl _) _⟩
 · obtain ⟨l, c, henc, hl1, hl3, hc⟩ := encode_last h1'
  have hvr := validRune r w
  have hib : ∀ (c : Int) (w : World), Calls Tryz.prog 42 #[.string ⟨#[]⟩, .int .u8 c] w fun e w' => e = .returned (.int .i64 (-1)) ∧ w' = w := fun c w => Tryz.strings_IndexByte ⟨#[]⟩ c w
  have hw2 : IntKind.i64.wrap 2 = 2 := by decide
  have hcn : ¬ (33 : Int) = (c.toNat : Int) := by omega
  match l, hl1, hl3 with
  | [a], _, _ =>
   have henc' : Utf8.encode r = ⟨#[a, c]⟩ := henc
   have hne : ¬ (eqEx[1]'(by decide) = (⟨#[a, c]⟩ : ByteArray)[1]'(by show 1 < 2; decide)) := fun e => by
    have e2 : (33 : UInt8) = c := e
    exact absurd (show (33 : Int) = c.toNat by rw [← e2]; rfl) hcn
   go_wp2_with (go_at_call 201; refine hvr.mono ?_; rintro e w1 ⟨⟨b, rfl⟩, rfl⟩; cases b)
   · exact bodyPost_ret (results_tmp rfl _ _ _) rfl ⟨_, rfl, Below.refl _ _⟩
   refine wp_scope_straight ?_
   go_wp2
   refine wp_loop_once ?_
   go_wp2
   refine wp_scope_straight ?_
   go_wp2
   refine region_allS (by kernel_rfl) (by kernel_rfl) ?_
   intro w2 hB2
   iterate 7 still_step
   refine wpStill_nil ?_
   go_wp2
   · refine region_allS (by kernel_rfl) (by kernel_rfl) ?_
    intro w3 hB3
    iterate 7 still_step
    still_call (hib _ w3)
    still_step
    refine wpStill_nil ?_
    go_wp2
    show bodyPost Tryz.prog Tryz.f184 (fun e w' => ∃ i : Int, e = .returned (.int .i64 i) ∧ Below w1.heap.size w1 w') .ret _ _
    refine bodyPost_ret (results_tmp rfl _ _ _) rfl ?_
    exact ⟨_, rfl, (hB2.trans (hB3.mono hB2.size))⟩
  | [a, b], _, _ =>
   have henc' : Utf8.encode r = ⟨#[a, b, c]⟩ := henc
   go_wp2_with (go_at_call 201; refine hvr.mono ?_; rintro e w1 ⟨⟨b, rfl⟩, rfl⟩; cases b)
   · exact bodyPost_ret (results_tmp rfl _ _ _) rfl ⟨_, rfl, Below.refl _ _⟩
   refine wp_scope_straight ?_
   go_wp2
   refine wp_loop_once ?_
   go_wp2
   simp only [Exit.noGoto, Exit.inBlock, Exit.then]
   refine bodyPost_ret (results_tmp rfl _ _ _) rfl ?_
   exact ⟨_, rfl, Below.refl _ _⟩
  | [a, b, d], _, _ =>
   have henc' : Utf8.encode r = ⟨#[a, b, d, c]⟩ := henc
   go_wp2_with (go_at_call 201; refine hvr.mono ?_; rintro e w1 ⟨⟨b, rfl⟩, rfl⟩; cases b)
   · exact bodyPost_ret (results_tmp rfl _ _ _) rfl ⟨_, rfl, Below.refl _ _⟩
   refine wp_scope_straight ?_
   go_wp2
   refine wp_loop_once ?_
   go_wp2
   simp only [Exit.noGoto, Exit.inBlock, Exit.then]
   refine bodyPost_ret (results_tmp rfl _ _ _) rfl ?_
   exact ⟨_, rfl, Below.refl _ _⟩
theorem any_short (s : Str) (h8 : s.length ≤ 8) (w : World) : Calls Tryz.prog 160 #[.string ⟨s.toArray⟩, .string ⟨[61, 33].toArray⟩] w fun e w' => ∃ i : Int, e = .returned (.int .i64 i) ∧ -1 ≤ i ∧ i < s.length ∧ Below w.heap.size w w' := by
 refine calls_of_wp Tryz.func160 rfl ?_
 simp only [Tryz.ntmps160, List.size_toArray, List.length_cons, List.length_nil, Nat.reduceAdd, Nat.reduceSub, Array.replicate_succ, Array.replicate_zero, List.push_toArray, List.append_toArray, List.nil_append, List.cons_append]
 have hs := ba_size s
 have hset : ∀ w, Calls Tryz.prog 185 #[.int .i64 s.length] w fun e w' => e = .returned (.bool false) ∧ w' = w := fun w => (Tryz.strings_shouldUseASCIISet s.length w).mono fun e w' ⟨h1, h2⟩ => ⟨by rw [h1, decide_eq_false (by omega)], h2⟩
 go_wp2_with (go_at_call 185; refine (hset w).mono ?_; rintro e w1 ⟨rfl, rfl⟩)
 obtain ⟨N, hN⟩ : ∃ N, w1.heap.size = N := ⟨_, rfl⟩
 have hit0 : (w1.iter ⟨s.toArray⟩ 0).heap[N]? = some (.stringIter ⟨s.toArray⟩ 0) := by rw [← hN]; exact World.iter_heap w1 _ 0
 have hB0 : Below N w1 (w1.iter ⟨s.toArray⟩ 0) := (Below.refl _ w1).alloc (by omega) _
 rw [hN]
 go_loopw [] (fun w' => ∃ pos, w'.heap[N]? = some (.stringIter ⟨s.toArray⟩ pos) ∧ Below N w1 w') (fun w' => s.length - w'.iterPos N)
 case atStart => exact ⟨0, hit0, hB0⟩
 case round =>
  obtain ⟨pos, hit, hB⟩ := hrel
  have hNs : N < wr.heap.size := (Array.getElem?_eq_some_iff.1 hit).1
  have hip : wr.iterPos N = pos := by simp [World.iterPos, hit]
  by_cases hp : pos < ByteArray.size ⟨s.toArray⟩
  · have hnx := fun ty => Lib.run_next_any_at (P := Tryz.prog) wr N ⟨s.toArray⟩ pos ty hit hp
   obtain ⟨c, d, hcd⟩ : ∃ c d, Utf8.decode ⟨s.toArray⟩ pos = (c, d) := ⟨_, _, rfl⟩
   have hdp := Lib.decode_width_pos ⟨s.toArray⟩ pos hp
   rw [hcd] at hdp
   simp only [hcd] at hnx hdp
   have hit2 := Lib.iterAt_heap wr N ⟨s.toArray⟩ pos (pos + d) hit
   have hB2 : Below N w1 (wr.iterAt N ⟨s.toArray⟩ (pos + d)) := Lib.below_iterAt hB (Nat.le_refl _) _ _
   have hsz2 := Lib.iterAt_size wr N ⟨s.toArray⟩ (pos + d)
   obtain ⟨w2, hw2⟩ : ∃ w2, wr.iterAt N ⟨s.toArray⟩ (pos + d) = w2 := ⟨_, rfl⟩
   rw [hw2] at hnx hit2 hB2 hsz2
   have hrs := rune_set (c : Int) (by omega) w2
   go_wp2_with (go_at_call 184; refine hrs.mono ?_; rintro e w3 ⟨i, rfl, hB3⟩)
   · refine bodyPost_ret (results_tmp rfl _ _ _) rfl ?_
    have hB4 : Below N w1 w3 := hB2.trans (hB3.mono (by omega))
    exact ⟨_, rfl, by omega, by omega, by rw [hN]; exact hB4⟩
   · have hB4 : Below N w1 w3 := hB2.trans (hB3.mono (by omega))
    have hit3 : w3.heap[N]? = some (.stringIter ⟨s.toArray⟩ (pos + d)) := (hB3.block N (by omega)).trans hit2
    have hip3 : w3.iterPos N = pos + d := by simp [World.iterPos, hit3]
    exact ⟨⟨_, hit3, hB4⟩, by omega⟩
  · have hnx := fun ty => Lib.run_next_end_at (P := Tryz.prog) wr N ⟨s.toArray⟩ pos ty hit hp
   go_wp2
   refine bodyPost_ret (results_tmp rfl _ _ _) rfl ?_
   exact ⟨_, rfl, by omega, by omega, by rw [hN]; exact hB⟩
end Go.Proofs.YtfhfidecmdhkoaaGreatDoor

end
section
set_option maxRecDepth 10000
namespace Go.Proofs.YtfhfidecmdhkoaaGreatDoor
open Go.Dv Go.Pl Go.RowKit
def asc (s : Str) : Bool := s.all fun c => decide (c.toNat < 128)
theorem fnOne {f : FuncId} {ds : List D} {Q : Int → Prop} (h : ∀ (w : World) (ow : Own) (vs : Array Value), Laid w ow → vs.size = ds.length → (∀ (i : Nat) (d : D), ds[i]? = some d → V Tryz.prog w ow d.fz [] (vs.getD i undef)) → Calls Tryz.prog f vs w fun e w' => ∃ i, e = .returned (.int .i64 i) ∧ Q i ∧ Below w.heap.size w w') :
  FnOk Tryz.prog f ds (fun r => ∃ i, r = .val (dI i) ∧ Q i) := by
 intro w ow vs t ht hL hnew hvs hargs
 refine (h w ow vs hL hvs hargs).mono ?_
 rintro e w' ⟨i, rfl, hq, hB⟩
 exact ⟨_, fun b => if b < w.heap.size then ow b else none, _, rfl, ⟨i, rfl, hq⟩, ⟨hB.os, hB.tape, hB.output, hB.size, fun b hb => ⟨hB.block b hb, if_pos hb⟩, fun b hb => if_neg (by have := hB.size; omega)⟩, rfl, fun s a => SV.val_one rfl⟩
theorem fn_strings_IndexAny (s : Str) (hs : s.length ≤ 1048576) : FnOk Tryz.prog 160 [dS s, dS [61, 33]] (fun r => ∃ i : Int, r = .val (dI i) ∧ (-1 ≤ i ∧ i < s.length) ∧ (asc s = true → i = if signAt s < s.length then (signAt s : Int) else -1)) := by
 have hc : ∀ (j : Nat) (b : UInt8), ([61, 33] : Str)[j]? = some b → b.toNat < 128 := fun j b hb => by
  have := List.mem_of_getElem? hb
  simp at this
  rcases this with rfl | rfl <;> decide
 refine fnOne fun w ow vs hL hsz ha => ?_
 obtain rfl := args_2 hsz ha
 by_cases hasc : asc s = true
 · refine (Tryz.strings_IndexAny_laid ⟨s.toArray⟩ ⟨[61, 33].toArray⟩ w (by simp [ByteArray.size]; omega) (by decide) (fun j b hb => ?_) hc).mono fun e w' ⟨h1, h2⟩ => ?_
  · have hb' : s[j]? = some b := hb
   have := List.all_eq_true.1 hasc b (List.mem_of_getElem? hb')
   simpa using this
  · have he : Lib.indexAny s [61, 33] = if signAt s < s.length then (signAt s : Int) else -1 := indexAny_eq s
   refine ⟨_, h1, ⟨?_, fun _ => he⟩, h2⟩
   show -1 ≤ Lib.indexAny s [61, 33] ∧ Lib.indexAny s [61, 33] < s.length
   rw [he]
   split <;> omega
 · by_cases h8 : s.length ≤ 8
  · exact (any_short s h8 w).mono fun e w' ⟨i, h1, h2, h3, h4⟩ => ⟨i, h1, ⟨⟨h2, h3⟩, fun h => absurd h hasc⟩, h4⟩
  · have hz : ∀ w, (zeroValue 184).run Tryz.prog w = .ok (.agg (Array.replicate 256 (.bool false))) w := Tryz.zeroValue184
   refine (Tryz.strings_IndexAny_long hz ⟨s.toArray⟩ ⟨[61, 33].toArray⟩ w (by decide) (by simp [ByteArray.size]; omega) (by simp [ByteArray.size]; omega) (by decide) hc).mono fun e w' ⟨h1, h2⟩ => ?_
   have he : Lib.indexAny s [61, 33] = if signAt s < s.length then (signAt s : Int) else -1 := indexAny_eq s
   refine ⟨_, h1, ⟨?_, fun _ => he⟩, h2 ▸ ((Below.refl _ w).alloc (Nat.le_refl _) _).alloc (by simp) _⟩
   show -1 ≤ Lib.indexAny s [61, 33] ∧ Lib.indexAny s [61, 33] < s.length
   rw [he]
   split <;> omega
theorem fnLess {f : FuncId} {ds : List D} {r r' : S} (h : FnOk Tryz.prog f ds (fun x => x = r)) (hp : S.plain r' = true) (hl : ∀ w ow s a t v, SV Tryz.prog w ow s a t r v → SV Tryz.prog w ow s a t r' v) : FnOk Tryz.prog f ds (fun x => x = r') := by
 intro w ow vs t ht hL hnew hvs hargs
 refine (h w ow vs t ht hL hnew hvs hargs).mono ?_
 rintro e w' ⟨v, ow', x, h1, rfl, h3, _, h5⟩
 exact ⟨v, ow', r', h1, rfl, h3, hp, fun s a => hl _ _ _ _ _ _ (h5 s a)⟩
theorem fn_impl_parseInts (l : List Str) (hl : l.length ≤ 1048576) (hs : ∀ x ∈ l, x.length ≤ 1048576) : FnOk Tryz.prog 161 [nStrs l] (fun r => r = .tup [.own (oInts ((readIs l).getD [])), .val (dB (readIs l).isSome)]) := by
 cases hr : readIs l with
 | some r => exact fn_pis_ok l r hl hs hr
 | none =>
  refine fnLess (fn_pis_no l hl hs hr) rfl fun w ow s a t v h => ?_
  obtain ⟨vs, h1, h2, h3⟩ := h
  refine ⟨vs, h1, h2, fun k x hx => ?_⟩
  match k, hx with
  | 0, hx =>
   obtain rfl := Option.some.inj hx
   have := h3 0 _ rfl
   simp only [D.fz, V, R] at this
   have he : vs.getD 0 undef = .slice none 0 0 := by simpa using this.1
   simp only [he]
   exact nil_own
  | 1, hx => exact h3 1 x hx
end Go.Proofs.YtfhfidecmdhkoaaGreatDoor

end
section
set_option maxRecDepth 10000
namespace Go.Proofs.YtfhfidecmdhkoaaGreatDoor
open Go.Dv Go.Pl
theorem asc_fmt (n : Int) : asc (fmtI n) = true := List.all_eq_true.2 fun c hc => by
 rcases fmtI_dig hc with rfl | h
 · decide
 · have := h.2; simp; omega
theorem asc_ver (v : Ver) : asc (verTxt v) = true := by
 unfold verTxt asc
 have h1 := asc_fmt v.a; have h2 := asc_fmt v.b; have h3 := asc_fmt v.time
 unfold asc at h1 h2 h3
 simp only [List.all_append, List.all_cons, h1, h2, h3]
 cases v.same <;> decide
theorem readVer_asc {s : Str} (h : ¬ asc s = true) : readVer s = none := by
 cases hr : readVer s with
 | none => rfl
 | some v =>
  have := (inv_some hr).2
  rw [← this] at h
  exact absurd (asc_ver v) h
theorem readVer_test {s : Str} {v : Ver} (h : verStr v = s) (hs : s ≠ []) : readVer s = some v := by
 have := (verStr_eq hs).2 h
 rw [← this.2]; exact readVer_of this.1
theorem three_of {a b c : Str} {r : List Int} (h : readIs [a, b, c] = some r) : ∃ x y z, r = [x, y, z] ∧ readI a = some x ∧ readI b = some y ∧ readI c = some z := by
 simp only [readIs] at h
 cases ha : readI a with
 | none => rw [ha] at h; cases h
 | some x =>
  cases hb : readI b with
  | none => rw [ha, hb] at h; cases h
  | some y =>
   cases hc : readI c with
   | none => rw [ha, hb, hc] at h; cases h
   | some z => rw [ha, hb, hc] at h; exact ⟨x, y, z, (Option.some.inj h).symm, rfl, rfl, rfl⟩
theorem three_no {a b c : Str} (F : Int → Int → Int → Ver) (h : readIs [a, b, c] = none) : (readI a).bind (fun x => (readI b).bind fun y => (readI c).bind fun z => some (F x y z)) = none := by
 simp only [readIs] at h
 cases ha : readI a with
 | none => rfl
 | some x =>
  cases hb : readI b with
  | none => rfl
  | some y =>
   cases hc : readI c with
   | none => rfl
   | some z => rw [ha, hb, hc] at h; cases h
theorem candVerI_out {s : Str} (h : ¬ signAt s < s.length) : candVerI s = none := if_neg h
theorem candVerI_in {s : Str} {k : Nat} (h : signAt s < s.length) (hk : signAt s = k) : candVerI s = (readI (s.take k)).bind fun a => (readI (bef 64 (s.drop (k + 1)))).bind fun b => (readI (aft 64 (s.drop (k + 1)))).bind fun t => some ⟨a, b, decide (s[k]? = some 61), t⟩ := by
 subst hk; exact if_pos h
theorem fn_impl_ParseVerdict (s : Str) (hs : s.length ≤ 1048576) : FnOk Tryz.prog 121 [dS s] (fun res' => res' = .tup [.val (dVer (verOr s)), .val (dB (readVer s).isSome)]) := by
 refine fn_of good (rs := [.cell 2 79, .tmp 3]) Tryz.func121 rfl Tryz.ntmps121 (by decide) (by simp) rfl fun w0 ow0 => ?_
 refine okC_rg good ?_
 simp [go_sem]
 repeat (with_reducible refine And.intro ?_ ?_; first | omega | assumption | (simp only [inI]; omega))
 refine okC_rg good ?_
 simp [go_sem]
 repeat (with_reducible refine And.intro ?_ ?_; first | omega | assumption | (simp only [inI]; omega))
 refine callK_fx (fn_strings_IndexAny s hs) (by simp [go_sem]) ?_
 rintro r ⟨i, rfl, hi, hx⟩
 refine ⟨by simp [go_sem], ?_⟩
 simp [go_sem]
 repeat (with_reducible refine And.intro ?_ ?_; first | omega | assumption | (simp only [inI]; omega))
 refine okC_seq ?_
 refine okC_rg good ?_
 simp [go_sem]
 repeat (with_reducible refine And.intro ?_ ?_; first | omega | assumption | (simp only [inI]; omega))
 refine okC_if ?_
 simp [go_sem]
 first | refine gC_dec (fun b => ?_) (fun b => ?_) | refine gC_ndec (fun b => ?_) (fun b => ?_) | refine gC_of (fun b => ?_) (fun b => ?_)
 · try simp at b
  have hrd : readVer s = none := by by_cases ha : asc s = true; (exact inv_none candVerI_ok (candVerI_out (fun h => by have := hx ha; rw [if_pos h] at this; omega))); (exact readVer_asc ha)
  refine okC_rg good ?_
  simp [go_sem]
  repeat (with_reducible refine And.intro ?_ ?_; first | omega | assumption | (simp only [inI]; omega))
  refine okC_ret ?_
  simp [go_sem]
  simp [verOr, hrd, ver0]
 · try simp at b
  refine okC_skip ?_
  obtain ⟨k, rfl⟩ : ∃ k : Nat, i = k := ⟨i.toNat, by omega⟩
  have hk : k < s.length := by omega
  have hsn : s ≠ [] := List.ne_nil_of_length_pos (by omega)
  obtain ⟨A, hA⟩ : ∃ A, s.take k = A := ⟨_, rfl⟩
  obtain ⟨R, hR⟩ : ∃ R, s.drop (k + 1) = R := ⟨_, rfl⟩
  have hAl : A.length ≤ s.length := by rw [← hA, List.length_take]; omega
  have hRl : R.length ≤ s.length := by rw [← hR, List.length_drop]; omega
  have hb2 := bef_len 64 R
  have ha2 := aft_len 64 R
  obtain ⟨c, hc⟩ := at_of (l := s) (i := k) hk
  have hcz := ba_at hc
  have hcd : asc s = true → candVerI s = (readI A).bind fun a => (readI (bef 64 R)).bind fun b => (readI (aft 64 R)).bind fun t => some ⟨a, b, decide (c = 61), t⟩ := fun ha => by have h9 := hx ha; by_cases h : signAt s < s.length; (rw [if_pos h] at h9; rw [candVerI_in (k := k) h (by omega), hA, hR, hc]; simp only [Option.some.injEq]); (rw [if_neg h] at h9; omega)
  have htk : R.take (s.length - (k + 1)) = R := by rw [← hR]; exact take_drop_len s (k + 1)
  refine okC_rg good ?_
  simp [go_sem, hR, htk, hA]
  repeat (with_reducible refine And.intro ?_ ?_; first | omega | assumption | (simp only [inI]; omega))
  first | refine callK_of (fn_strings_Cut R 64 (by omega)) (by simp [go_sem]) ?_ | refine callK_fz (fn_strings_Cut R 64 (by omega)) (by simp [go_sem]) (by simp [go_sem]) ?_
  simp [go_sem, hR, htk, hA]
  repeat (with_reducible refine And.intro ?_ ?_; first | omega | assumption | (simp only [inI]; omega))
  refine okC_rg good ?_
  simp [go_sem, hR, htk, hA]
  repeat (with_reducible refine And.intro ?_ ?_; first | omega | assumption | (simp only [inI]; omega))
  first | refine callK_of (fn_impl_parseInts [A, bef 64 R, aft 64 R] (by simp) (fun x hx => by simp at hx; rcases hx with rfl | rfl | rfl <;> omega)) (by simp [go_sem]) ?_ | refine callK_fz (fn_impl_parseInts [A, bef 64 R, aft 64 R] (by simp) (fun x hx => by simp at hx; rcases hx with rfl | rfl | rfl <;> omega)) (by simp [go_sem]) (by simp [go_sem]) ?_
  simp [go_sem, hR, htk, hA]
  repeat (with_reducible refine And.intro ?_ ?_; first | omega | assumption | (simp only [inI]; omega))
  refine okC_seq ?_
  refine okC_rg good ?_
  simp [go_sem, hR, htk, hA]
  repeat (with_reducible refine And.intro ?_ ?_; first | omega | assumption | (simp only [inI]; omega))
  refine okC_if ?_
  simp [go_sem, hR, htk, hA]
  first | refine gC_dec (fun d => ?_) (fun d => ?_) | refine gC_ndec (fun d => ?_) (fun d => ?_) | refine gC_of (fun d => ?_) (fun d => ?_)
  · try simp at d
   have hno : readIs [A, bef 64 R, aft 64 R] = none := by simpa using d
   have hrd : readVer s = none := by by_cases ha : asc s = true; (refine inv_none candVerI_ok ?_; rw [hcd ha]; exact three_no (fun a b t => ⟨a, b, decide (c = 61), t⟩) hno); (exact readVer_asc ha)
   refine okC_rg good ?_
   simp [go_sem, hR, htk, hA]
   repeat (with_reducible refine And.intro ?_ ?_; first | omega | assumption | (simp only [inI]; omega))
   refine okC_ret ?_
   simp [go_sem, hR, htk, hA]
   simp [verOr, hrd, ver0]
  · try simp at d
   refine okC_skip ?_
   obtain ⟨r, hr⟩ := Option.isSome_iff_exists.1 (show (readIs [A, bef 64 R, aft 64 R]).isSome = true by simpa using d)
   obtain ⟨x, y, z, rfl, h1, h2, h3⟩ := three_of hr
   have e61 : ((c.toNat : Int) = 61) ↔ c = 61 := ⟨fun h => UInt8.toNat_inj.1 (by show c.toNat = 61; omega), fun h => by rw [h]; rfl⟩
   refine okC_df good [(13, [40, 43, 47, 50, 51]), (14, [10]), (15, [10, 51])] [(0, .val (dS s)), (2, .own (.bx true (dVer ⟨0, 0, false, 0⟩))), (3, .val (dB false)), (4, .val (dI k)), (8, .own (oInts [x, y, z]))] [] rfl (by decide) (by kernel_rfl) (by simp [go_sem, hR, htk, hA, hr, hc, hcz, e61]) ?_
   simp [go_sem, hR, htk, hA, hr, hc, hcz, e61]
   repeat (with_reducible refine And.intro ?_ ?_; first | omega | assumption | (simp only [inI]; omega))
   refine okC_seq ?_
   refine okC_rg good ?_
   simp [go_sem, hR, htk, hA, hr, hc, hcz, e61]
   repeat (with_reducible refine And.intro ?_ ?_; first | omega | assumption | (simp only [inI]; omega))
   first | refine callK_of (fn_impl_FormatVerdict ⟨x, y, decide (c = 61), z⟩) (by simp [go_sem]) ?_ | refine callK_fz (fn_impl_FormatVerdict ⟨x, y, decide (c = 61), z⟩) (by simp [go_sem]) (by simp [go_sem]) ?_
   simp [go_sem, hR, htk, hA, hr, hc, hcz, e61]
   repeat (with_reducible refine And.intro ?_ ?_; first | omega | assumption | (simp only [inI]; omega))
   refine okC_if ?_
   simp [go_sem, hR, htk, hA, hr, hc, hcz, e61]
   first | refine gC_dec (fun g => ?_) (fun g => ?_) | refine gC_ndec (fun g => ?_) (fun g => ?_) | refine gC_of (fun g => ?_) (fun g => ?_)
   · try simp at g
    have hrd : readVer s = none := by by_cases ha : asc s = true; (exact (inv_test (str := verStr) (fun _ => rfl) candVerI_ok (show candVerI s = some ⟨x, y, decide (c = 61), z⟩ by rw [hcd ha, h1, h2, h3]; rfl) hsn).trans (if_neg g)); (exact readVer_asc ha)
    refine okC_rg good ?_
    simp [go_sem, hR, htk, hA, hr, hc, hcz, e61]
    repeat (with_reducible refine And.intro ?_ ?_; first | omega | assumption | (simp only [inI]; omega))
    refine okC_ret ?_
    simp [go_sem, hR, htk, hA, hr, hc, hcz, e61]
    simp [verOr, hrd, ver0]
   · try simp at g
    refine okC_skip ?_
    have hrd : readVer s = some ⟨x, y, decide (c = 61), z⟩ := readVer_test g hsn
    refine okC_rg good ?_
    simp [go_sem, hR, htk, hA, hr, hc, hcz, e61]
    repeat (with_reducible refine And.intro ?_ ?_; first | omega | assumption | (simp only [inI]; omega))
    refine okC_ret ?_
    simp [go_sem, hR, htk, hA, hr, hc, hcz, e61]
    simp [verOr, hrd]
end Go.Proofs.YtfhfidecmdhkoaaGreatDoor

end
section
set_option maxRecDepth 10000
namespace Go.Proofs.YtfhfidecmdhkoaaGreatDoor
open Go.Dv Go.Pl
theorem small_gone (a b c : Int) (k : Int) (v : Ver) : smallO ⟨k, ⟨a, b, c, []⟩, v⟩ := ⟨by simp, fun f hf => by simp at hf⟩
theorem fn_impl_ParseOp (s : Str) (hs : s.length ≤ 1048000) : FnOk Tryz.prog 80 [dS s] (fun res' => res' = .tup [.own (oOp (opOr s)), .val (dB (readOp s).isSome)]) := by
 refine fn_of good (rs := [.cell 2 81, .tmp 3]) Tryz.func80 rfl Tryz.ntmps80 (by decide) (by simp) rfl fun w0 ow0 => ?_
 obtain ⟨w, hw⟩ : ∃ w, bef 32 s = w := ⟨_, rfl⟩
 obtain ⟨R, hR⟩ : ∃ R, aft 32 s = R := ⟨_, rfl⟩
 have hRl : R.length ≤ s.length := by rw [← hR]; exact aft_len _ _
 refine okC_rg good ?_
 simp [go_sem, hw, hR]
 repeat (with_reducible refine And.intro ?_ ?_; first | omega | assumption | (simp only [inI]; omega))
 refine okC_rg good ?_
 simp [go_sem, hw, hR]
 repeat (with_reducible refine And.intro ?_ ?_; first | omega | assumption | (simp only [inI]; omega))
 refine okC_rg good ?_
 simp [go_sem, hw, hR]
 repeat (with_reducible refine And.intro ?_ ?_; first | omega | assumption | (simp only [inI]; omega))
 refine okC_rg good ?_
 simp [go_sem, hw, hR]
 repeat (with_reducible refine And.intro ?_ ?_; first | omega | assumption | (simp only [inI]; omega))
 first | refine callK_of (fn_strings_Cut s 32 (by omega)) (by simp [go_sem]) ?_ | refine callK_fz (fn_strings_Cut s 32 (by omega)) (by simp [go_sem]) (by simp [go_sem]) ?_
 simp [go_sem, hw, hR]
 repeat (with_reducible refine And.intro ?_ ?_; first | omega | assumption | (simp only [inI]; omega))
 refine okC_cut (fun (x' : (Opn) × (Bool)) => match x' with | (o, ok) => [(0, .val (dS s)), (2, .own (.bx true (oOp ⟨0, ⟨0, 0, 0, []⟩, ⟨0, 0, false, 0⟩⟩))), (3, .val (dB false)), (4, .own (.bx true (oOp o))), (5, .val (dB ok))]) (fun (x' : (Opn) × (Bool)) => match x' with | (o, ok) => (candOpI s = if ok = true then some o else none) ∧ (smallO o)) ?_ ?_
 rotate_left
 · rintro K1 hK1
  refine okC_rg good ?_
  simp [go_sem, hw, hR]
  repeat (with_reducible refine And.intro ?_ ?_; first | omega | assumption | (simp only [inI]; omega))
  refine okC_block ?_
  refine okC_rg good ?_
  simp [go_sem, hw, hR]
  repeat (with_reducible refine And.intro ?_ ?_; first | omega | assumption | (simp only [inI]; omega))
  refine okC_if ?_
  simp [go_sem, hw, hR]
  first | refine gC_dec (fun k1 => ?_) (fun k1 => ?_) | refine gC_ndec (fun k1 => ?_) (fun k1 => ?_) | refine gC_of (fun k1 => ?_) (fun k1 => ?_)
  · try simp at k1
   refine okC_rg good ?_
   simp [go_sem, hw, hR]
   repeat (with_reducible refine And.intro ?_ ?_; first | omega | assumption | (simp only [inI]; omega))
   refine okC_rg1 good ?_
   simp [go_sem, hw, hR]
   repeat (with_reducible refine And.intro ?_ ?_; first | omega | assumption | (simp only [inI]; omega))
   first | refine callK_of (fn_impl_ParseRecord R (by omega)) (by simp [go_sem]) ?_ | refine callK_fz (fn_impl_ParseRecord R (by omega)) (by simp [go_sem]) (by simp [go_sem]) ?_
   simp [go_sem, hw, hR]
   repeat (with_reducible refine And.intro ?_ ?_; first | omega | assumption | (simp only [inI]; omega))
   refine show K1 .normal _ from normalE hK1 ⟨(⟨1, recOr R, ⟨0, 0, false, 0⟩⟩, (readRec R).isSome), [], ⟨(by unfold candOpI recOr; rw [hw, hR, if_pos (show w = wPut from k1)]; cases readRec R <;> simp [ver0]), (smallR_or _)⟩, (by simp [go_sem, hw, hR])⟩
  · try simp at k1
   refine okC_rg good ?_
   simp [go_sem, hw, hR]
   repeat (with_reducible refine And.intro ?_ ?_; first | omega | assumption | (simp only [inI]; omega))
   refine okC_if ?_
   simp [go_sem, hw, hR]
   first | refine gC_dec (fun k2 => ?_) (fun k2 => ?_) | refine gC_ndec (fun k2 => ?_) (fun k2 => ?_) | refine gC_of (fun k2 => ?_) (fun k2 => ?_)
   · try simp at k2
    have hvl := aft_len 46 R
    have hnl := bef_len 46 R
    refine okC_rg good ?_
    simp [go_sem, hw, hR]
    repeat (with_reducible refine And.intro ?_ ?_; first | omega | assumption | (simp only [inI]; omega))
    refine okC_rg good ?_
    simp [go_sem, hw, hR]
    repeat (with_reducible refine And.intro ?_ ?_; first | omega | assumption | (simp only [inI]; omega))
    first | refine callK_of (fn_strings_Cut R 46 (by omega)) (by simp [go_sem]) ?_ | refine callK_fz (fn_strings_Cut R 46 (by omega)) (by simp [go_sem]) (by simp [go_sem]) ?_
    simp [go_sem, hw, hR]
    repeat (with_reducible refine And.intro ?_ ?_; first | omega | assumption | (simp only [inI]; omega))
    refine okC_rg good ?_
    simp [go_sem, hw, hR]
    repeat (with_reducible refine And.intro ?_ ?_; first | omega | assumption | (simp only [inI]; omega))
    first | refine callK_of (fn_impl_readOrigin (bef 46 R) (by omega)) (by simp [go_sem]) ?_ | refine callK_fz (fn_impl_readOrigin (bef 46 R) (by omega)) (by simp [go_sem]) (by simp [go_sem]) ?_
    simp [go_sem, hw, hR]
    repeat (with_reducible refine And.intro ?_ ?_; first | omega | assumption | (simp only [inI]; omega))
    refine okC_rg1 good ?_
    simp [go_sem, hw, hR]
    repeat (with_reducible refine And.intro ?_ ?_; first | omega | assumption | (simp only [inI]; omega))
    first | refine callK_of (fn_impl_ParseInt (aft 46 R) (by omega)) (by simp [go_sem]) ?_ | refine callK_fz (fn_impl_ParseInt (aft 46 R) (by omega)) (by simp [go_sem]) (by simp [go_sem]) ?_
    simp [go_sem, hw, hR]
    repeat (with_reducible refine And.intro ?_ ?_; first | omega | assumption | (simp only [inI]; omega))
    refine show K1 .normal _ from normalE hK1 ⟨(⟨2, ⟨srcI (bef 46 R), getI ((bef 46 R).drop 1), getI (aft 46 R), []⟩, ⟨0, 0, false, 0⟩⟩, (origin? (bef 46 R)).isSome), [], ⟨(by unfold candOpI; rw [hw, hR, if_neg (show ¬ w = wPut from k1), if_pos (show w = wDel from k2)]; cases h : origin? (bef 46 R) with | none => simp | some o => simp [origin_some h, ver0]), (small_gone _ _ _ _ _)⟩, (by simp [go_sem, hw, hR])⟩
   · try simp at k2
    refine okC_rg good ?_
    simp [go_sem, hw, hR]
    repeat (with_reducible refine And.intro ?_ ?_; first | omega | assumption | (simp only [inI]; omega))
    refine okC_if ?_
    simp [go_sem, hw, hR]
    first | refine gC_dec (fun k3 => ?_) (fun k3 => ?_) | refine gC_ndec (fun k3 => ?_) (fun k3 => ?_) | refine gC_of (fun k3 => ?_) (fun k3 => ?_)
    · try simp at k3
     refine okC_rg good ?_
     simp [go_sem, hw, hR]
     repeat (with_reducible refine And.intro ?_ ?_; first | omega | assumption | (simp only [inI]; omega))
     refine okC_rg1 good ?_
     simp [go_sem, hw, hR]
     repeat (with_reducible refine And.intro ?_ ?_; first | omega | assumption | (simp only [inI]; omega))
     first | refine callK_of (fn_impl_ParseVerdict R (by omega)) (by simp [go_sem]) ?_ | refine callK_fz (fn_impl_ParseVerdict R (by omega)) (by simp [go_sem]) (by simp [go_sem]) ?_
     simp [go_sem, hw, hR]
     repeat (with_reducible refine And.intro ?_ ?_; first | omega | assumption | (simp only [inI]; omega))
     refine show K1 .normal _ from normalE hK1 ⟨(⟨3, ⟨0, 0, 0, []⟩, verOr R⟩, (readVer R).isSome), [], ⟨(by unfold candOpI verOr; rw [hw, hR, if_neg (show ¬ w = wPut from k1), if_neg (show ¬ w = wDel from k2), if_pos (show w = wVer from k3)]; cases readVer R <;> simp [rec0]), (small_gone _ _ _ _ _)⟩, (by simp [go_sem, hw, hR])⟩
    · try simp at k3
     refine okC_rg good ?_
     simp [go_sem, hw, hR]
     repeat (with_reducible refine And.intro ?_ ?_; first | omega | assumption | (simp only [inI]; omega))
     refine okC_if ?_
     simp [go_sem, hw, hR]
     first | refine gC_dec (fun k4 => ?_) (fun k4 => ?_) | refine gC_ndec (fun k4 => ?_) (fun k4 => ?_) | refine gC_of (fun k4 => ?_) (fun k4 => ?_)
     · try simp at k4
      refine okC_rg good ?_
      simp [go_sem, hw, hR]
      repeat (with_reducible refine And.intro ?_ ?_; first | omega | assumption | (simp only [inI]; omega))
      refine okC_rg1 good ?_
      simp [go_sem, hw, hR]
      repeat (with_reducible refine And.intro ?_ ?_; first | omega | assumption | (simp only [inI]; omega))
      first | refine callK_of (fn_impl_ParseVerdict R (by omega)) (by simp [go_sem]) ?_ | refine callK_fz (fn_impl_ParseVerdict R (by omega)) (by simp [go_sem]) (by simp [go_sem]) ?_
      simp [go_sem, hw, hR]
      repeat (with_reducible refine And.intro ?_ ?_; first | omega | assumption | (simp only [inI]; omega))
      refine show K1 .normal _ from normalE hK1 ⟨(⟨4, ⟨0, 0, 0, []⟩, verOr R⟩, (readVer R).isSome), [], ⟨(by unfold candOpI verOr; rw [hw, hR, if_neg (show ¬ w = wPut from k1), if_neg (show ¬ w = wDel from k2), if_neg (show ¬ w = wVer from k3), if_pos (show w = wRet from k4)]; cases readVer R <;> simp [rec0]), (small_gone _ _ _ _ _)⟩, (by simp [go_sem, hw, hR])⟩
     · try simp at k4
      refine okC_skip ?_
      refine show K1 .normal _ from normalE hK1 ⟨(⟨0, ⟨0, 0, 0, []⟩, ⟨0, 0, false, 0⟩⟩, false), [], ⟨(by unfold candOpI; rw [hw, hR, if_neg (show ¬ w = wPut from k1), if_neg (show ¬ w = wDel from k2), if_neg (show ¬ w = wVer from k3), if_neg (show ¬ w = wRet from k4)]; simp), (small_gone _ _ _ _ _)⟩, (by simp [go_sem, hw, hR])⟩
 rintro ⟨o, ok⟩ ⟨hcd, hso⟩
 simp only at hcd hso ⊢
 refine okC_seq ?_
 refine okC_rg good ?_
 simp [go_sem, hw, hR]
 repeat (with_reducible refine And.intro ?_ ?_; first | omega | assumption | (simp only [inI]; omega))
 first | refine gI_dec (fun e => ?_) (fun e => ?_) | refine gI_ndec (fun e => ?_) (fun e => ?_) | refine gI_of (fun e => ?_) (fun e => ?_)
 · have e' := e; try simp at e'
  simp [go_sem, hw, hR, e]
  repeat (with_reducible refine And.intro ?_ ?_; first | omega | assumption | (simp only [inI]; omega))
  refine okC_if ?_
  simp [go_sem, hw, hR, e]
  have hrd : readOp s = none := inv_none candOpI_ok (by rw [hcd, if_neg (by simpa using e)])
  refine okC_rg good ?_
  simp [go_sem, hw, hR, e]
  repeat (with_reducible refine And.intro ?_ ?_; first | omega | assumption | (simp only [inI]; omega))
  refine okC_ret ?_
  simp [go_sem, hw, hR, e]
  simp [opOr, hrd, op0, rec0, ver0]
 · have e' := e; try simp at e'
  rw [if_pos (by simpa using e)] at hcd
  have hsn : s ≠ [] := fun e0 => by rw [e0] at hcd; exact absurd hcd (by simp [candOpI, bef, wPut, wDel, wVer, wRet])
  have hrd : readOp s = _ := inv_test (str := opStr) (fun _ => rfl) candOpI_ok hcd hsn
  simp [go_sem, hw, hR, e]
  repeat (with_reducible refine And.intro ?_ ?_; first | omega | assumption | (simp only [inI]; omega))
  first | refine callK_of (fn_impl_FormatOp o hso) (by simp [go_sem]) ?_ | refine callK_fz (fn_impl_FormatOp o hso) (by simp [go_sem]) (by simp [go_sem]) ?_
  simp [go_sem, hw, hR, e]
  repeat (with_reducible refine And.intro ?_ ?_; first | omega | assumption | (simp only [inI]; omega))
  refine okC_if ?_
  simp [go_sem, hw, hR, e]
  first | refine gC_dec (fun g => ?_) (fun g => ?_) | refine gC_ndec (fun g => ?_) (fun g => ?_) | refine gC_of (fun g => ?_) (fun g => ?_)
  · try simp at g
   refine okC_rg good ?_
   simp [go_sem, hw, hR, e]
   repeat (with_reducible refine And.intro ?_ ?_; first | omega | assumption | (simp only [inI]; omega))
   refine okC_ret ?_
   simp [go_sem, hw, hR, e]
   simp [opOr, hrd, g, op0, rec0, ver0]
  · try simp at g
   refine okC_skip ?_
   refine okC_rg good ?_
   simp [go_sem, hw, hR, e]
   repeat (with_reducible refine And.intro ?_ ?_; first | omega | assumption | (simp only [inI]; omega))
   refine okC_ret ?_
   simp [go_sem, hw, hR, e]
   simp [opOr, hrd, g]
theorem fn_impl_ParseBatch (s : Str) (hs : s.length ≤ 1048000) : FnOk Tryz.prog 45 [dS s] (fun res' => res' = .tup [.own (oBat (batOr s)), .val (dB (readBat s).isSome)]) := by
 refine fn_of good (rs := [.cell 2 30, .tmp 3]) Tryz.func45 rfl Tryz.ntmps45 (by decide) (by simp) rfl fun w0 ow0 => ?_
 refine okC_rg good ?_
 simp [go_sem]
 repeat (with_reducible refine And.intro ?_ ?_; first | omega | assumption | (simp only [inI]; omega))
 refine okC_rg good ?_
 simp [go_sem]
 repeat (with_reducible refine And.intro ?_ ?_; first | omega | assumption | (simp only [inI]; omega))
 refine okC_seq ?_
 refine okC_rg good ?_
 simp [go_sem]
 repeat (with_reducible refine And.intro ?_ ?_; first | omega | assumption | (simp only [inI]; omega))
 refine okC_if ?_
 simp [go_sem]
 first | refine gC_dec (fun e => ?_) (fun e => ?_) | refine gC_ndec (fun e => ?_) (fun e => ?_) | refine gC_of (fun e => ?_) (fun e => ?_)
 · try simp at e
  have hrd : readBat s = some [] := by rw [e]; exact readBat_of (l := []) rfl
  refine okC_rg good ?_
  simp [go_sem]
  repeat (with_reducible refine And.intro ?_ ?_; first | omega | assumption | (simp only [inI]; omega))
  refine okC_ret ?_
  simp [go_sem]
  simp [batOr, hrd]
 · try simp at e
  refine okC_skip ?_
  refine okC_seq ?_
  obtain ⟨A, hA⟩ : ∃ A, trimL 91 s = A := ⟨_, rfl⟩
  obtain ⟨X, hX⟩ : ∃ X, trimR 93 A = X := ⟨_, rfl⟩
  have hAl : A.length ≤ s.length := by rw [← hA, trimL]; split <;> simp
  have hXl : X.length ≤ s.length := Nat.le_trans (by rw [← hX, trimR]; split <;> simp) hAl
  have hsn : readOps (cutS 59 X) ≠ none → s ≠ [] := fun h e0 => by subst e0; simp only [trimL, List.getElem?_nil] at hA; subst hA; simp [trimR] at hX; subst hX; exact h (show (readOp []).bind _ = none by rw [readOp_nil]; rfl)
  have hcl := cutS_len 59 X
  obtain ⟨T, hT⟩ : ∃ T, cutS 59 X = T := ⟨_, rfl⟩
  have hcand : candBatI s = readOps T := by unfold candBatI; rw [if_neg e, hA, hX, hT]
  rw [hT] at hcl hsn
  refine okC_rg good ?_
  simp [go_sem, hA, hX, hT]
  repeat (with_reducible refine And.intro ?_ ?_; first | omega | assumption | (simp only [inI]; omega))
  first | refine callK_of (fn_strings_TrimPrefix s 91) (by simp [go_sem]) ?_ | refine callK_fz (fn_strings_TrimPrefix s 91) (by simp [go_sem]) (by simp [go_sem]) ?_
  simp [go_sem, hA, hX, hT]
  repeat (with_reducible refine And.intro ?_ ?_; first | omega | assumption | (simp only [inI]; omega))
  first | refine callK_of (fn_strings_TrimSuffix A 93 (by omega)) (by simp [go_sem]) ?_ | refine callK_fz (fn_strings_TrimSuffix A 93 (by omega)) (by simp [go_sem]) (by simp [go_sem]) ?_
  simp [go_sem, hA, hX, hT]
  repeat (with_reducible refine And.intro ?_ ?_; first | omega | assumption | (simp only [inI]; omega))
  first | refine callK_of (fn_strings_Split X 59 (by omega)) (by simp [go_sem]) ?_ | refine callK_fz (fn_strings_Split X 59 (by omega)) (by simp [go_sem]) (by simp [go_sem]) ?_
  simp [go_sem, hA, hX, hT]
  repeat (with_reducible refine And.intro ?_ ?_; first | omega | assumption | (simp only [inI]; omega))
  refine okC_block ?_
  refine okC_rounds (fun (x' : (Nat) × (List Opn)) => match x' with | (i, b) => [(0, .val (dS s)), (2, .own (.bx true (oBat []))), (3, .val (dB false)), (4, .own (.bx true (oBat b))), (15, .own (oStrs T)), (16, .val (dI T.length)), (17, .val (dI i))]) (fun (x' : (Nat) × (List Opn)) => match x' with | (i, b) => T.length - i) (fun (x' : (Nat) × (List Opn)) => match x' with | (i, b) => (i ≤ T.length) ∧ (readOps (T.take i) = some b)) ((0, [])) [] ⟨(by simp), (by simp [readOps])⟩ (by simp [go_sem, hA, hX, hT]) ?_
  rintro ⟨i, b⟩ ⟨h1, h2⟩ K1 hK1
  simp only at h1 h2 ⊢
  have hrv := readOps_valid h2
  have hbl : b.length ≤ T.length := by have := hrv.1; rw [List.length_take] at this; omega
  refine okC_rg good ?_
  simp [go_sem, hA, hX, hT]
  repeat (with_reducible refine And.intro ?_ ?_; first | omega | assumption | (simp only [inI]; omega))
  refine okC_seq ?_
  refine okC_if ?_
  simp [go_sem, hA, hX, hT]
  first | refine gC_dec (fun a => ?_) (fun a => ?_) | refine gC_ndec (fun a => ?_) (fun a => ?_) | refine gC_of (fun a => ?_) (fun a => ?_)
  · try simp at a
   refine okC_skip ?_
   refine okC_seq ?_
   refine okC_block ?_
   obtain ⟨x, hx⟩ := at_of (l := T) (i := i) (by omega)
   have hxl := hcl.2 x (List.mem_of_getElem? hx)
   refine okC_rg good ?_
   simp [go_sem, hA, hX, hT, hx]
   repeat (with_reducible refine And.intro ?_ ?_; first | omega | assumption | (simp only [inI]; omega))
   refine okC_rg good ?_
   simp [go_sem, hA, hX, hT, hx]
   repeat (with_reducible refine And.intro ?_ ?_; first | omega | assumption | (simp only [inI]; omega))
   first | refine callK_of (fn_impl_ParseOp x (by omega)) (by simp [go_sem]) ?_ | refine callK_fz (fn_impl_ParseOp x (by omega)) (by simp [go_sem]) (by simp [go_sem]) ?_
   simp [go_sem, hA, hX, hT, hx]
   repeat (with_reducible refine And.intro ?_ ?_; first | omega | assumption | (simp only [inI]; omega))
   refine okC_seq ?_
   refine okC_rg good ?_
   simp [go_sem, hA, hX, hT, hx]
   repeat (with_reducible refine And.intro ?_ ?_; first | omega | assumption | (simp only [inI]; omega))
   refine okC_if ?_
   simp [go_sem, hA, hX, hT, hx]
   first | refine gC_dec (fun d => ?_) (fun d => ?_) | refine gC_ndec (fun d => ?_) (fun d => ?_) | refine gC_of (fun d => ?_) (fun d => ?_)
   · try simp at d
    have hrx : readOp x = none := by simpa using d
    have hrd : readBat s = none := inv_none candBatI_ok (by rw [hcand]; exact readOps_none (List.mem_of_getElem? hx) hrx)
    refine okC_rg good ?_
    simp [go_sem, hA, hX, hT, hx]
    repeat (with_reducible refine And.intro ?_ ?_; first | omega | assumption | (simp only [inI]; omega))
    refine okC_ret (show K1 _ _ from retE hK1 ?_)
    simp [go_sem, hA, hX, hT, hx]
    simp [batOr, hrd]
   · try simp at d
    refine okC_skip ?_
    obtain ⟨o, ho⟩ := Option.isSome_iff_exists.1 (show (readOp x).isSome = true by simpa using d)
    have hoo := opOr_some ho
    have hsn2 : readOps (T.take (i + 1)) = some (b ++ [o]) := by rw [take_snoc hx, readOps_snoc h2, ho]; rfl
    refine okC_rg1 good ?_
    simp [go_sem, hA, hX, hT, hx, hoo]
    repeat (with_reducible refine And.intro ?_ ?_; first | omega | assumption | (simp only [inI]; omega))
    refine okC_rg1 good ?_
    simp [go_sem, hA, hX, hT, hx, hoo]
    repeat (with_reducible refine And.intro ?_ ?_; first | omega | assumption | (simp only [inI]; omega))
    refine normalE hK1 ⟨(i + 1, b ++ [o]), [], ⟨(by omega), (hsn2)⟩, (by show _ < _; first | omega | simp <;> omega), (by simp [go_sem, hA, hX, hT, hx, hoo])⟩
  · try simp at a
   refine okC_exit (show K1 _ _ from exitE hK1 ?_)
   refine okC_seq ?_
   have hra : readOps T = some b := by rw [← h2, List.take_of_length_le (by omega)]
   have hrd : readBat s = _ := inv_test (str := batStr) (fun _ => rfl) candBatI_ok (hcand.trans hra) (hsn (by rw [hra]; simp))
   refine okC_rg good ?_
   simp [go_sem, hA, hX, hT]
   repeat (with_reducible refine And.intro ?_ ?_; first | omega | assumption | (simp only [inI]; omega))
   first | refine callK_of (fn_impl_FormatBatch b (smallB_of (by omega) hrv.2)) (by simp [go_sem]) ?_ | refine callK_fz (fn_impl_FormatBatch b (smallB_of (by omega) hrv.2)) (by simp [go_sem]) (by simp [go_sem]) ?_
   simp [go_sem, hA, hX, hT]
   repeat (with_reducible refine And.intro ?_ ?_; first | omega | assumption | (simp only [inI]; omega))
   refine okC_if ?_
   simp [go_sem, hA, hX, hT]
   first | refine gC_dec (fun g => ?_) (fun g => ?_) | refine gC_ndec (fun g => ?_) (fun g => ?_) | refine gC_of (fun g => ?_) (fun g => ?_)
   · try simp at g
    refine okC_rg good ?_
    simp [go_sem, hA, hX, hT]
    repeat (with_reducible refine And.intro ?_ ?_; first | omega | assumption | (simp only [inI]; omega))
    refine okC_ret ?_
    simp [go_sem, hA, hX, hT]
    simp [batOr, hrd, g]
   · try simp at g
    refine okC_skip ?_
    refine okC_rg good ?_
    simp [go_sem, hA, hX, hT]
    repeat (with_reducible refine And.intro ?_ ?_; first | omega | assumption | (simp only [inI]; omega))
    refine okC_ret ?_
    simp [go_sem, hA, hX, hT]
    simp [batOr, hrd, g]
theorem fst91_hit {s : Str} (h : fst91 s < s.length) : s[fst91 s]? = some 91 := by
 obtain ⟨c, hc⟩ := at_of h
 have hp := takeWhile_next (p := fun c : UInt8 => decide (c ≠ 91)) s c hc
 have : c = 91 := by simpa using hp
 rw [hc, this]
theorem ib91 (s : Str) : Lib.indexByte s 91 = if fst91 s < s.length then (fst91 s : Int) else -1 := by
 rw [indexByte_eq]
 by_cases h : (91 : UInt8) ∈ s
 · have hs := bef_split h
  have hl : fst91 s < s.length := by
   show (bef 91 s).length < s.length
   have := congrArg List.length hs.1
   simp at this; omega
  rw [if_pos h, if_pos hl]; rfl
 · rw [if_neg h, if_neg]
  intro hl
  exact h (List.mem_of_getElem? (fst91_hit hl))
theorem fn_ib91 (s : Str) : FnOk Tryz.prog 42 [dS s, .one (.int .u8 91)] (fun r => r = .val (dI (if fst91 s < s.length then (fst91 s : Int) else -1))) := by rw [← ib91]; exact fn_strings_IndexByte s 91
theorem fn_impl_DecodeEntry (s : Str) (hs : s.length ≤ 1048000) : FnOk Tryz.prog 19 [dS s] (fun res' => res' = .tup [.val (dI (entOr s).1), .own (oBat (entOr s).2), .val (dB (readEnt s).isSome)]) := by
 refine fn_of good (rs := [.tmp 2, .cell 3 30, .tmp 4]) Tryz.func19 rfl Tryz.ntmps19 (by decide) (by simp) rfl fun w0 ow0 => ?_
 have hlb := lst93_in s
 have hfl := fst91_le s
 obtain ⟨I, hI⟩ : ∃ I : Int, (if fst91 s < s.length then (fst91 s : Int) else -1) = I := ⟨_, rfl⟩
 have hI2 : I = fst91 s ∧ fst91 s < s.length ∨ I = -1 ∧ ¬ fst91 s < s.length := by by_cases h : fst91 s < s.length; (rw [if_pos h] at hI; exact .inl ⟨hI.symm, h⟩); (rw [if_neg h] at hI; exact .inr ⟨hI.symm, h⟩)
 refine okC_rg good ?_
 simp [go_sem, hI]
 repeat (with_reducible refine And.intro ?_ ?_; first | omega | assumption | (simp only [inI]; omega))
 refine okC_rg good ?_
 simp [go_sem, hI]
 repeat (with_reducible refine And.intro ?_ ?_; first | omega | assumption | (simp only [inI]; omega))
 first | refine callK_of (fn_ib91 s) (by simp [go_sem]) ?_ | refine callK_fz (fn_ib91 s) (by simp [go_sem]) (by simp [go_sem]) ?_
 simp [go_sem, hI]
 repeat (with_reducible refine And.intro ?_ ?_; first | omega | assumption | (simp only [inI]; omega))
 first | refine callK_of (fn_strings_LastIndexByte s (by omega)) (by simp [go_sem]) ?_ | refine callK_fz (fn_strings_LastIndexByte s (by omega)) (by simp [go_sem]) (by simp [go_sem]) ?_
 simp [go_sem, hI]
 repeat (with_reducible refine And.intro ?_ ?_; first | omega | assumption | (simp only [inI]; omega))
 refine okC_seq ?_
 refine okC_rg good ?_
 simp [go_sem]
 repeat (with_reducible refine And.intro ?_ ?_; first | omega | assumption | (simp only [inI]; omega))
 first | refine gI_dec (fun e => ?_) (fun e => ?_) | refine gI_ndec (fun e => ?_) (fun e => ?_) | refine gI_of (fun e => ?_) (fun e => ?_)
 · have e' := e; try simp at e'
  simp [go_sem, e]
  repeat (with_reducible refine And.intro ?_ ?_; first | omega | assumption | (simp only [inI]; omega))
  refine okC_if ?_
  simp [go_sem, e]
  have hrd : readEnt s = none := inv_none candEnt_ok (candEnt_out (by omega))
  refine okC_rg good ?_
  simp [go_sem, e]
  repeat (with_reducible refine And.intro ?_ ?_; first | omega | assumption | (simp only [inI]; omega))
  refine okC_ret ?_
  simp [go_sem, e]
  simp [entOr, hrd]
 · have e' := e; try simp at e'
  obtain ⟨hIf, hlt⟩ := hI2.resolve_right (by omega)
  simp [go_sem, e]
  repeat (with_reducible refine And.intro ?_ ?_; first | omega | assumption | (simp only [inI]; omega))
  refine okC_if ?_
  simp [go_sem, e]
  first | refine gC_dec (fun g => ?_) (fun g => ?_) | refine gC_ndec (fun g => ?_) (fun g => ?_) | refine gC_of (fun g => ?_) (fun g => ?_)
  · try simp at g
   have hrd : readEnt s = none := inv_none candEnt_ok (candEnt_out (by omega))
   refine okC_rg good ?_
   simp [go_sem, e]
   repeat (with_reducible refine And.intro ?_ ?_; first | omega | assumption | (simp only [inI]; omega))
   refine okC_ret ?_
   simp [go_sem, e]
   simp [entOr, hrd]
  · try simp at g
   refine okC_skip ?_
   have hfz : (fst91 s : Int) < lst93 s := by rcases Int.lt_or_eq_of_le (show (fst91 s : Int) ≤ lst93 s by omega) with h | h; exact h; have h1 := lst93_hit (s := s) (by omega); have h2 := fst91_hit hlt; rw [← h, Int.toNat_natCast, h2] at h1; cases h1
   subst hIf
   obtain ⟨i, hi⟩ : ∃ i, fst91 s = i := ⟨_, rfl⟩
   obtain ⟨z, hz⟩ : ∃ z, lst93 s = z := ⟨_, rfl⟩
   rw [hi] at hlt
   rw [hi, hz] at hfz
   rw [hz] at hlb
   obtain ⟨A, hA⟩ : ∃ A, s.take i = A := ⟨_, rfl⟩
   obtain ⟨Y, hY⟩ : ∃ Y, (s.drop i).take (z.toNat + 1 - i) = Y := ⟨_, rfl⟩
   have hAl : A.length ≤ s.length := by rw [← hA, List.length_take]; omega
   have hYl : Y.length ≤ s.length := by rw [← hY, List.length_take, List.length_drop]; omega
   have hcd := candEnt_in (s := s) (A := A) (Y := Y) (by rw [hi, hz]; exact hfz) (by rw [hi]; exact hA) (by rw [hi, hz]; exact hY)
   have hz1 : (z + 1).toNat = z.toNat + 1 := by omega
   have hgi := getI_in A
   refine okC_rg good ?_
   simp [go_sem, e, hi, hz, hA, hz1, hY]
   repeat (with_reducible refine And.intro ?_ ?_; first | omega | assumption | (simp only [inI]; omega))
   first | refine callK_of (fn_impl_ParseInt A (by omega)) (by simp [go_sem]) ?_ | refine callK_fz (fn_impl_ParseInt A (by omega)) (by simp [go_sem]) (by simp [go_sem]) ?_
   simp [go_sem, e, hi, hz, hA, hz1, hY]
   repeat (with_reducible refine And.intro ?_ ?_; first | omega | assumption | (simp only [inI]; omega))
   refine okC_rg good ?_
   simp [go_sem, e, hi, hz, hA, hz1, hY]
   repeat (with_reducible refine And.intro ?_ ?_; first | omega | assumption | (simp only [inI]; omega))
   first | refine callK_of (fn_impl_ParseBatch Y (by omega)) (by simp [go_sem]) ?_ | refine callK_fz (fn_impl_ParseBatch Y (by omega)) (by simp [go_sem]) (by simp [go_sem]) ?_
   simp [go_sem, e, hi, hz, hA, hz1, hY]
   repeat (with_reducible refine And.intro ?_ ?_; first | omega | assumption | (simp only [inI]; omega))
   refine okC_seq ?_
   refine okC_rg good ?_
   simp [go_sem, e, hi, hz, hA, hz1, hY]
   repeat (with_reducible refine And.intro ?_ ?_; first | omega | assumption | (simp only [inI]; omega))
   first | refine gI_dec (fun f => ?_) (fun f => ?_) | refine gI_ndec (fun f => ?_) (fun f => ?_) | refine gI_of (fun f => ?_) (fun f => ?_)
   · have f' := f; try simp at f'
    simp [go_sem, e, hi, hz, hA, hz1, hY, f]
    repeat (with_reducible refine And.intro ?_ ?_; first | omega | assumption | (simp only [inI]; omega))
    refine okC_if ?_
    simp [go_sem, e, hi, hz, hA, hz1, hY, f]
    have hrd : readEnt s = none := inv_none candEnt_ok (by rw [hcd, readI_none (by simpa using f)]; rfl)
    refine okC_rg good ?_
    simp [go_sem, e, hi, hz, hA, hz1, hY, f]
    repeat (with_reducible refine And.intro ?_ ?_; first | omega | assumption | (simp only [inI]; omega))
    refine okC_ret ?_
    simp [go_sem, e, hi, hz, hA, hz1, hY, f]
    simp [entOr, hrd]
   · have f' := f; try simp at f'
    simp [go_sem, e, hi, hz, hA, hz1, hY, f]
    repeat (with_reducible refine And.intro ?_ ?_; first | omega | assumption | (simp only [inI]; omega))
    first | refine gI_dec (fun k => ?_) (fun k => ?_) | refine gI_ndec (fun k => ?_) (fun k => ?_) | refine gI_of (fun k => ?_) (fun k => ?_)
    · have k' := k; try simp at k'
     simp [go_sem, e, hi, hz, hA, hz1, hY, f, k]
     repeat (with_reducible refine And.intro ?_ ?_; first | omega | assumption | (simp only [inI]; omega))
     refine okC_if ?_
     simp [go_sem, e, hi, hz, hA, hz1, hY, f, k]
     have hrd : readEnt s = none := inv_none candEnt_ok (by rw [hcd, show readBat Y = none by simpa using k]; cases readI A <;> rfl)
     refine okC_rg good ?_
     simp [go_sem, e, hi, hz, hA, hz1, hY, f, k]
     repeat (with_reducible refine And.intro ?_ ?_; first | omega | assumption | (simp only [inI]; omega))
     refine okC_ret ?_
     simp [go_sem, e, hi, hz, hA, hz1, hY, f, k]
     simp [entOr, hrd]
    · have k' := k; try simp at k'
     have hra : readI A = some (getI A) := readI_yes (by simpa using f)
     obtain ⟨l, hl⟩ := Option.isSome_iff_exists.1 (show (readBat Y).isSome = true by simpa using k)
     have hlo : batOr Y = l := by rw [batOr, hl]; rfl
     rw [hra, hl] at hcd
     have hcd : candEnt s = some (getI A, l) := hcd
     have hsn : s ≠ [] := List.ne_nil_of_length_pos (by omega)
     have hrd : readEnt s = _ := inv_test (P := entB) (f := fun e : Int × List Opn => entTxt e.1 e.2) (str := fun e : Int × List Opn => entStr e.1 e.2) (fun _ => rfl) candEnt_ok hcd hsn
     have hsb := smallB_or Y
     rw [hlo] at hsb
     simp [go_sem, e, hi, hz, hA, hz1, hY, f, k, hlo]
     repeat (with_reducible refine And.intro ?_ ?_; first | omega | assumption | (simp only [inI]; omega))
     first | refine callK_of (fn_impl_EncodeEntry (getI A) l hsb) (by simp [go_sem]) ?_ | refine callK_fz (fn_impl_EncodeEntry (getI A) l hsb) (by simp [go_sem]) (by simp [go_sem]) ?_
     simp [go_sem, e, hi, hz, hA, hz1, hY, f, k, hlo]
     repeat (with_reducible refine And.intro ?_ ?_; first | omega | assumption | (simp only [inI]; omega))
     refine okC_if ?_
     simp [go_sem, e, hi, hz, hA, hz1, hY, f, k, hlo]
     first | refine gC_dec (fun m => ?_) (fun m => ?_) | refine gC_ndec (fun m => ?_) (fun m => ?_) | refine gC_of (fun m => ?_) (fun m => ?_)
     · try simp at m
      refine okC_rg good ?_
      simp [go_sem, e, hi, hz, hA, hz1, hY, f, k, hlo]
      repeat (with_reducible refine And.intro ?_ ?_; first | omega | assumption | (simp only [inI]; omega))
      refine okC_ret ?_
      simp [go_sem, e, hi, hz, hA, hz1, hY, f, k, hlo]
      simp [entOr, hrd, m]
     · try simp at m
      refine okC_skip ?_
      refine okC_df good [(2, [53, 2]), (3, [3, 54, 9]), (4, [4])] [(2, .val (dI 0)), (3, .own (.bx true (oBat []))), (4, .val (dB false)), (7, .val (dI (getI A))), (9, .own (.bx true (oBat l)))] [] rfl (by decide) (by kernel_rfl) (by simp [go_sem, e, hi, hz, hA, hz1, hY, f, k, hlo]) ?_
      simp [go_sem, e, hi, hz, hA, hz1, hY, f, k, hlo]
      repeat (with_reducible refine And.intro ?_ ?_; first | omega | assumption | (simp only [inI]; omega))
      refine okC_ret ?_
      simp [go_sem, e, hi, hz, hA, hz1, hY, f, k, hlo]
      simp [entOr, hrd, m]
end Go.Proofs.YtfhfidecmdhkoaaGreatDoor

end
section
set_option maxRecDepth 10000
namespace Go.Proofs.YtfhfidecmdhkoaaGreatDoor
open Go.Dv Go.Pl
end Go.Proofs.YtfhfidecmdhkoaaGreatDoor

end
section
set_option maxRecDepth 10000
namespace Go.Proofs.YtfhfidecmdhkoaaGreatDoor
open Go.Dv Go.Pl
section
variable {α : Type} {f : α → D} {z : D} {l : List α} {i : Nat} {c : α}
end
end Go.Proofs.YtfhfidecmdhkoaaGreatDoor

end
section
set_option maxRecDepth 10000
namespace Go.Proofs.YtfhfidecmdhkoaaGreatDoor
open Go.Dv Go.Pl
end Go.Proofs.YtfhfidecmdhkoaaGreatDoor

end
section
set_option maxRecDepth 10000
namespace Go.Proofs.YtfhfidecmdhkoaaGreatDoor
open Go.Dv Go.Pl
end Go.Proofs.YtfhfidecmdhkoaaGreatDoor

end
section
namespace Go.Dv
open Go.RowKit
variable [Glob]
abbrev rnd (l : Nat) : Fence := Fence.wide.inRound l
def noDefer1 (o : Oper) : Bool := match o.op with
  | .defer _ => false
  | _ => true
theorem Rows.inRnd {P : Program} {l m : Nat} {row : String} {args : Array Value} {w : World} {R : Value → World → Prop} (h : Rows P row args w R) : RowsIn (rnd l) m P row args w R := fun c cs _ => by
  obtain ⟨v, w', r, s⟩ := h c cs
  exact ⟨v, w', r, stepsIn_wide.2 s⟩
theorem Calls.inRnd {P : Program} {l m : Nat} {f : FuncId} {args : Array Value} {w : World} {R : Ending → World → Prop} (h : Calls P f args w R) : CallsIn (rnd l) m P f args w R := CallsIn.inRound l (callsIn_wide.2 h)
theorem wp_inRnd {P : Program} {l m : Nat} {o : Oper} {a : Act} {w : World} {next : Act → World → Prop} {Q : Exit → Act → World → Prop} (hd : noDefer1 o = true) (h : o.wp P a w next Q) : o.wpIn (rnd l) m P a w next Q := by
  have hs : o.semAt (rnd l).round a.eval = execOp a.eval o := Oper.semAt_some l _ _ fun c e => by simp [noDefer1, e] at hd
  unfold Oper.wpIn
  rw [hs]
  refine ⟨fun _ _ => trivial, ?_⟩
  unfold Oper.wp at h
  generalize (execOp a.eval o).run P w = r at h
  cases r with
  | ok nx w' =>
    cases nx with
    | enter f args => exact ⟨fun h0 => (by cases h0), Calls.inRnd h⟩
    | row f args => exact ⟨fun h0 => (by cases h0), Rows.inRnd h⟩
    | value v => exact h
    | skip => exact h
    | defer d => exact h
    | _ => exact h.elim
  | halt x w' => cases x <;> first | exact h | exact h.elim
theorem wpIn_nextMono {F : Fence} {P : Program} {m : Nat} {o : Oper} {a : Act} {w : World} {next next' : Act → World → Prop} {Q : Exit → Act → World → Prop} (hn : ∀ a w, next a w → next' a w) (h : o.wpIn F m P a w next Q) : o.wpIn F m P a w next' Q := by
  unfold Oper.wpIn at *
  refine ⟨h.1, ?_⟩
  have h := h.2
  generalize (o.semAt F.round a.eval).run P w = r at h
  cases r with
  | ok nx w' =>
    cases nx with
    | enter f args => exact ⟨h.1, h.2.mono fun e w'' he => by cases e <;> first | exact hn _ _ he | exact he⟩
    | row f args => exact ⟨h.1, h.2.mono fun v w'' he => hn _ _ he⟩
    | round a1 a2 a3 a4 a5 => exact ⟨h.1, h.2.mono fun e w'' he => by cases e <;> first | exact hn _ _ he | exact he⟩
    | value v => exact hn _ _ h
    | skip => exact hn _ _ h
    | defer d => exact hn _ _ h
    | _ => exact h.elim
  | halt x w' => cases x <;> first | exact h | exact h.elim
def PinnedL (ps : List (Nat × Value)) (a : Act) : Prop := ∀ q ∈ ps, Pinned (some q) a
def noDstL (ps : List Nat) (ops : List Oper) : Bool := ops.all fun o => noDefer1 o && ps.all fun m => o.dst != some m
theorem PinnedL.put {ps : List (Nat × Value)} {a : Act} {o : Oper} {v : Value} (h : PinnedL ps a) (hd : (ps.map fun q => q.1).all (fun m => o.dst != some m) = true) : PinnedL ps (a.put o.dst v) := by
  intro q hq
  refine (h q hq).put ?_
  simp only [noDst1]
  exact List.all_eq_true.1 hd q.1 (List.mem_map_of_mem hq)
theorem wp_pinL {P : Program} {ps : List (Nat × Value)} {o : Oper} {a : Act} {w : World} {next : Act → World → Prop} {Q : Exit → Act → World → Prop} (hp : PinnedL ps a) (hd : (ps.map fun q => q.1).all (fun m => o.dst != some m) = true) (h : o.wp P a w next Q) : o.wp P a w (fun a' w' => next a' w' ∧ PinnedL ps a') Q := by
  unfold Oper.wp at *
  generalize (execOp a.eval o).run P w = r at *
  cases r with
  | ok nx w' =>
    cases nx <;> simp only [Oper.upon] at h ⊢ <;>
      first
        | exact ⟨h, hp.put hd⟩
        | exact ⟨h, PinnedL.put (a := { a with defers := _ }) hp hd⟩
        | exact Calls.mono h (fun e w'' he => by cases e <;> first | exact ⟨he, hp.put hd⟩ | exact he)
        | exact Rows.mono h (fun _ _ he => ⟨he, hp.put hd⟩)
  | halt x w' => cases x <;> simp only [Oper.upon] at h ⊢ <;> exact h
def OkR (P : Program) (l m n : Nat) (w0 : World) (ow0 : Own) (ps : List (Nat × Value)) (c : Code) (s : St) (K : Exit → St → Prop) : Prop :=
  ∀ a w, Rel P n w0 ow0 s a w → PinnedL ps a → ∀ Q : Exit → Act → World → Prop, (∀ e s' a' w', K e s' → Rel P n w0 ow0 s' a' w' → PinnedL ps a' → Q e a' w') → c.wpIn (rnd l) m P Q a w
section
variable {P : Program} {l m n : Nat} {w0 : World} {ow0 : Own} {ps : List (Nat × Value)} {s : St} {K : Exit → St → Prop}
theorem okR_skip (h : K .normal s) : OkR P l m n w0 ow0 ps .skip s K := fun a w hR hp Q hQ => wpIn_skip (hQ _ _ _ _ h hR hp)
theorem okR_exit {id : Nat} (h : K (.exit id) s) : OkR P l m n w0 ow0 ps (.exit id) s K := fun a w hR hp Q hQ => wpIn_exit (hQ _ _ _ _ h hR hp)
theorem okR_seq {x y : Code} (h : OkR P l m n w0 ow0 ps x s (thenK (fun s' => OkR P l m n w0 ow0 ps y s' K) K)) : OkR P l m n w0 ow0 ps (.seq x y) s K := fun a w hR hp Q hQ =>
  wpIn_seq (h a w hR hp _ fun e s' a' w' hK hR' hp' => by cases e <;> first | exact hK a' w' hR' hp' Q hQ | exact hQ _ _ _ _ hK hR' hp')
theorem okR_block {id : Nat} {c : Code} (h : OkR P l m n w0 ow0 ps c s (blockK id K)) : OkR P l m n w0 ow0 ps (.block id c) s K := fun a w hR hp Q hQ =>
  wpIn_block (h a w hR hp _ fun e s' a' w' hK hR' hp' => by
    cases e with
    | exit id' =>
      simp only [blockK] at hK
      simp only [Exit.inBlock]
      split
      · rename_i hid; rw [if_pos hid] at hK; exact hQ _ _ _ _ hK hR' hp'
      · rename_i hid; rw [if_neg hid] at hK; exact hQ _ _ _ _ hK hR' hp'
    | _ => exact hQ _ _ _ _ hK hR' hp')
theorem okR_cond {c : Operand} {x y : Code} (h : oneK (evS s c) fun v => match v with | .bool b => (b = true → OkR P l m n w0 ow0 ps x s K) ∧ (b = false → OkR P l m n w0 ow0 ps y s K) | _ => False) : OkR P l m n w0 ow0 ps (.cond c x y) s K := fun a w hR hp Q hQ => by
  obtain ⟨v, hv, h⟩ := oneK_of h
  split at h
  rotate_left
  · exact h.elim
  obtain ⟨h1, h2⟩ := h
  obtain ⟨ow, hf⟩ := hR
  have hc := (hf.one hv).1
  exact wpIn_cond_split hc (fun hb => h1 hb a w ⟨ow, hf⟩ hp Q hQ) (fun hb => h2 hb a w ⟨ow, hf⟩ hp Q hQ)
theorem okR_if {c : Operand} {x y : Code} (h : @gQ (evS s c) ⟨OkR P l m n w0 ow0 ps x s K⟩ ⟨OkR P l m n w0 ow0 ps y s K⟩) : OkR P l m n w0 ow0 ps (.cond c x y) s K := by
  refine okR_cond ?_
  unfold gQ at h
  split at h
  · rename_i b hb
    rw [hb]
    exact h
  · exact h.elim
theorem OkL.wpR {ops : Array Oper} {Q : Exit → Act → World → Prop} : ∀ (ol : List Oper) (s : St) (K : St → Prop), OkL P n w0 ow0 ops ol s K → (∀ o ∈ ol, noDefer1 o = true ∧ (ps.map fun q => q.1).all (fun m => o.dst != some m) = true) → ∀ a w, Rel P n w0 ow0 s a w → PinnedL ps a → (∀ s' a' w', K s' → Rel P n w0 ow0 s' a' w' → PinnedL ps a' → Q .normal a' w') → wpListIn (rnd l) m P ops Q ol a w
  | [], s, K, h, _, a, w, hR, hp, hQ => hQ s a w h hR hp
  | o :: ol, s, K, h, hd, a, w, hR, hp, hQ => by
    have hg := gK_wanted hR h
    unfold wpListIn
    split
    · rename_i hw
      rw [if_pos hw] at hg
      have h1 := hg a w hR (fun a' w' => ∃ s', OkL P n w0 ow0 ops ol s' K ∧ Rel P n w0 ow0 s' a' w') Q fun s' a' w' hK hR' => ⟨s', hK, hR'⟩
      exact wpIn_nextMono (fun a' w' hh => by obtain ⟨⟨s', hK, hR'⟩, hp'⟩ := hh; exact OkL.wpR ol s' K hK (fun o ho => hd o (List.mem_cons_of_mem _ ho)) a' w' hR' hp' hQ) (wp_inRnd (hd o (by simp)).1 (wp_pinL hp (hd o (by simp)).2 h1))
    · rename_i hw
      rw [if_neg hw] at hg
      obtain ⟨ow, hf⟩ := hR
      exact ⟨fun _ _ => trivial, OkL.wpR ol _ K hg.2 (fun o ho => hd o (List.mem_cons_of_mem _ ho)) _ w ⟨ow, hf.setU hg.1⟩ (hp.put (hd o (by simp)).2) hQ⟩
theorem okR_region {id : Nat} {ops : Array Oper} (h : OkL P n w0 ow0 ops ops.toList s (fun s' => K .normal s')) (hd : noDstL (ps.map fun q => q.1) ops.toList = true) : OkR P l m n w0 ow0 ps (.region id ops false) s K := fun a w hR hp Q hQ =>
  wpIn_region_list (OkL.wpR _ _ _ h (fun o ho => by simpa using List.all_eq_true.1 hd o ho) a w hR hp fun s' a' w' hK hR' hp' => hQ _ _ _ _ hK hR' hp')
theorem okR_rg {T : TypeId → TyE} (hG : ∀ t, Good P T t) {id : Nat} {ops : Array Oper} {y : Code} (h : vcL P T n ops ops.toList s (fun s' => @blk St s' ⟨fun s' => OkR P l m n w0 ow0 ps y s' K⟩)) (hd : noDstL (ps.map fun q => q.1) ops.toList = true) : OkR P l m n w0 ow0 ps (.seq (.region id ops false) y) s K := okR_seq (okR_region (stepL_ok hG _ _ _ h) hd)
theorem okR_rg1 {T : TypeId → TyE} (hG : ∀ t, Good P T t) {id : Nat} {ops : Array Oper} (h : vcL P T n ops ops.toList s (fun s' => @blk St s' ⟨fun s' => K .normal s'⟩)) (hd : noDstL (ps.map fun q => q.1) ops.toList = true) : OkR P l m n w0 ow0 ps (.region id ops false) s K := okR_region (stepL_ok hG _ _ _ h) hd
end
end Go.Dv

end
section
set_option maxRecDepth 10000
namespace Go.Proofs.YtfhfidecmdhkoaaGreatDoor
open Go.Dv Go.Pl
abbrev asg12 : Code := (Go.Code.region 6 #[{ dst := some 6, op := Go.Op.assign (Go.Operand.tmp 15), type := 9, pos := "l31_log.go:47", after := #[], guard := none }] false)
abbrev bod12 : Code := (Go.Code.block 1 ((Go.Code.region 7 #[{ dst := some 17, op := Go.Op.move (Go.Operand.tmp 6), type := 9, pos := "l31_log.go:48", after := #[], guard := none }, { dst := some 18, op := Go.Op.call { callee := Go.Callee.value (Go.Operand.func 19), args := #[Go.Operand.tmp 17], argTypes := #[9] }, type := 45, pos := "l31_log.go:48", after := #[{ on := 0, ground := Go.Ground.data }], guard := none }, { dst := some 16, op := Go.Op.move (Go.Operand.tmp 18), type := 45, pos := "l31_log.go:48", after := #[{ on := 1, ground := Go.Ground.data }], guard := none }, { dst := some 19, op := Go.Op.extract (Go.Operand.tmp 16) 0, type := 3, pos := "l31_log.go:48", after := #[{ on := 2, ground := Go.Ground.data }], guard := none }, { dst := some 20, op := Go.Op.extract (Go.Operand.tmp 16) 1, type := 30, pos := "l31_log.go:48", after := #[{ on := 2, ground := Go.Ground.data }, { on := 7, ground := Go.Ground.gcOnly Go.Departure.lateStores }], guard := none }, { dst := some 21, op := Go.Op.extract (Go.Operand.tmp 16) 2, type := 4, pos := "l31_log.go:48", after := #[{ on := 2, ground := Go.Ground.data }, { on := 8, ground := Go.Ground.gcOnly Go.Departure.lateStores }], guard := none }, { dst := some 8, op := Go.Op.alloc 30, type := 0, pos := "l31_log.go:48", after := #[], guard := none }, { dst := some 7, op := Go.Op.assign (Go.Operand.tmp 19), type := 3, pos := "l31_log.go:48", after := #[{ on := 3, ground := Go.Ground.data }, { on := 1, ground := Go.Ground.chain }, { on := 0, ground := Go.Ground.phase }, { on := 1, ground := Go.Ground.phase }, { on := 2, ground := Go.Ground.phase }, { on := 3, ground := Go.Ground.phase }, { on := 4, ground := Go.Ground.textOnly Go.Departure.lateStores }, { on := 5, ground := Go.Ground.textOnly Go.Departure.lateStores }, { on := 6, ground := Go.Ground.phase }], guard := none }, { dst := none, op := Go.Op.store 30 (Go.Operand.tmp 8) (Go.Operand.tmp 20), type := 0, pos := "l31_log.go:48", after := #[{ on := 6, ground := Go.Ground.data }, { on := 4, ground := Go.Ground.data }, { on := 7, ground := Go.Ground.chain }, { on := 0, ground := Go.Ground.phase }, { on := 1, ground := Go.Ground.phase }, { on := 2, ground := Go.Ground.phase }, { on := 3, ground := Go.Ground.phase }, { on := 4, ground := Go.Ground.phase }, { on := 5, ground := Go.Ground.textOnly Go.Departure.lateStores }, { on := 6, ground := Go.Ground.phase }, { on := 7, ground := Go.Ground.phase }], guard := none }, { dst := some 9, op := Go.Op.assign (Go.Operand.tmp 21), type := 4, pos := "l31_log.go:48", after := #[{ on := 5, ground := Go.Ground.data }, { on := 8, ground := Go.Ground.chain }, { on := 0, ground := Go.Ground.phase }, { on := 1, ground := Go.Ground.phase }, { on := 2, ground := Go.Ground.phase }, { on := 3, ground := Go.Ground.phase }, { on := 4, ground := Go.Ground.phase }, { on := 5, ground := Go.Ground.phase }, { on := 6, ground := Go.Ground.phase }, { on := 7, ground := Go.Ground.phase }, { on := 8, ground := Go.Ground.phase }], guard := none }] false).seq (((Go.Code.region 8 #[{ dst := some 22, op := Go.Op.move (Go.Operand.tmp 9), type := 4, pos := "l31_log.go:49", after := #[], guard := none }, { dst := some 23, op := Go.Op.unOp Go.UnOp.not 4 (Go.Operand.tmp 22), type := 4, pos := "l31_log.go:49", after := #[{ on := 0, ground := Go.Ground.data }], guard := none }, { dst := some 24, op := Go.Op.move (Go.Operand.tmp 23), type := 4, pos := "l31_log.go:49", after := #[{ on := 1, ground := Go.Ground.data }], guard := none }, { dst := some 25, op := Go.Op.move (Go.Operand.tmp 7), type := 3, pos := "l31_log.go:49", after := #[{ on := 2, ground := Go.Ground.guard }], guard := some (2, false) }, { dst := some 26, op := Go.Op.load 34 (Go.Operand.tmp 4), type := 34, pos := "l31_log.go:49", after := #[{ on := 2, ground := Go.Ground.guard }], guard := some (2, false) }, { dst := some 27, op := Go.Op.call { callee := Go.Callee.builtin Go.Builtin.len, args := #[Go.Operand.tmp 26], argTypes := #[34] }, type := 3, pos := "l31_log.go:49", after := #[{ on := 4, ground := Go.Ground.data }, { on := 2, ground := Go.Ground.guard }], guard := some (2, false) }, { dst := some 28, op := Go.Op.binOp Go.BinOp.add 3 (Go.Operand.tmp 27) (Go.Operand.const (Go.Value.int Go.IntKind.i64 1)) 3, type := 3, pos := "l31_log.go:49", after := #[{ on := 5, ground := Go.Ground.data }, { on := 2, ground := Go.Ground.guard }], guard := some (2, false) }, { dst := some 29, op := Go.Op.binOp Go.BinOp.neq 3 (Go.Operand.tmp 25) (Go.Operand.tmp 28) 3, type := 4, pos := "l31_log.go:49", after := #[{ on := 3, ground := Go.Ground.data }, { on := 6, ground := Go.Ground.data }, { on := 2, ground := Go.Ground.guard }], guard := some (2, false) }, { dst := some 30, op := Go.Op.pick (Go.Operand.tmp 24) (Go.Operand.const (Go.Value.bool true)) (Go.Operand.tmp 29), type := 4, pos := "l31_log.go:49", after := #[{ on := 2, ground := Go.Ground.data }, { on := 7, ground := Go.Ground.data }], guard := none }] false).seq (Go.Code.cond (Go.Operand.tmp 30) (Go.Code.exit 0) Go.Code.skip)).seq ((Go.Code.region 9 #[{ dst := some 31, op := Go.Op.load 34 (Go.Operand.tmp 4), type := 34, pos := "l31_log.go:52", after := #[], guard := none }, { dst := some 32, op := Go.Op.load 30 (Go.Operand.tmp 8), type := 30, pos := "l31_log.go:52", after := #[], guard := none }, { dst := some 33, op := Go.Op.buildSlice 34 1 #[(0, Go.Operand.tmp 32)], type := 34, pos := "l31_log.go:52", after := #[{ on := 1, ground := Go.Ground.data }], guard := none }, { dst := some 34, op := Go.Op.call { callee := Go.Callee.builtin Go.Builtin.append, args := #[Go.Operand.tmp 31, Go.Operand.tmp 33], argTypes := #[34, 34] }, type := 34, pos := "l31_log.go:52", after := #[{ on := 0, ground := Go.Ground.data }, { on := 2, ground := Go.Ground.data }], guard := none }, { dst := none, op := Go.Op.store 34 (Go.Operand.tmp 4) (Go.Operand.tmp 34), type := 0, pos := "l31_log.go:52", after := #[{ on := 3, ground := Go.Ground.data }, { on := 3, ground := Go.Ground.chain }, { on := 0, ground := Go.Ground.phase }, { on := 1, ground := Go.Ground.phase }, { on := 2, ground := Go.Ground.phase }, { on := 3, ground := Go.Ground.phase }], guard := none }] false).seq (Go.Code.region 10 #[{ dst := some 35, op := Go.Op.load 3 (Go.Operand.tmp 5), type := 3, pos := "l31_log.go:53", after := #[], guard := none }, { dst := some 36, op := Go.Op.move (Go.Operand.tmp 6), type := 9, pos := "l31_log.go:53", after := #[], guard := none }, { dst := some 37, op := Go.Op.call { callee := Go.Callee.builtin Go.Builtin.len, args := #[Go.Operand.tmp 36], argTypes := #[9] }, type := 3, pos := "l31_log.go:53", after := #[{ on := 1, ground := Go.Ground.data }], guard := none }, { dst := some 38, op := Go.Op.binOp Go.BinOp.add 3 (Go.Operand.tmp 35) (Go.Operand.tmp 37) 3, type := 3, pos := "l31_log.go:53", after := #[{ on := 0, ground := Go.Ground.data }, { on := 2, ground := Go.Ground.data }], guard := none }, { dst := none, op := Go.Op.store 3 (Go.Operand.tmp 5) (Go.Operand.tmp 38), type := 0, pos := "l31_log.go:53", after := #[{ on := 3, ground := Go.Ground.data }, { on := 0, ground := Go.Ground.phase }, { on := 1, ground := Go.Ground.phase }, { on := 2, ground := Go.Ground.phase }, { on := 3, ground := Go.Ground.phase }], guard := none }] false)))))
def slots12 (l : List (List Opn)) (r : Int) : List (Nat × S) := [(4, .own (.bx true (oBats l))), (5, .own (.bx true (dI r)))]
theorem asg12_ok {lid m : Nat} {w0 : World} {ow0 : Go.Dv.Own} {v4 v5 : Value} {x : Str} {l : List (List Opn)} {r : Int} {K : Exit → St → Prop} (hK : ∀ s', Tells Tryz.prog 41 s' (lst ((6, .val (dS x)) :: slots12 l r)) → K .normal s') :
  OkR Tryz.prog lid m 41 w0 ow0 [(4, v4), (5, v5)] asg12 (lst ((15, .val (dS x)) :: slots12 l r)) K := by
 refine okR_rg1 (id := 6) good ?_ (by rfl)
 simp [go_sem, slots12]
 refine hK _ (tells_list [] ?_)
 simp [go_sem, slots12]
theorem bod12_ok {lid m : Nat} {w0 : World} {ow0 : Go.Dv.Own} {v4 v5 : Value} {x : Str} {l : List (List Opn)} {r : Int} {K : Exit → St → Prop} (hx : x.length ≤ 6000) (hl : l.length ≤ 6000) (hr : 0 ≤ r ∧ r ≤ 6000)
  (hyes : ∀ v b s', readEnt x = some (v, b) → v = (l.length : Int) + 1 → Tells Tryz.prog 41 s' (lst (slots12 (l ++ [b]) (r + x.length))) → K .normal s')
  (hno : ∀ s', (∀ v b, readEnt x = some (v, b) → v ≠ (l.length : Int) + 1) → Tells Tryz.prog 41 s' (lst (slots12 l r)) → K (.exit 0) s') :
  OkR Tryz.prog lid m 41 w0 ow0 [(4, v4), (5, v5)] bod12 (lst ((6, .val (dS x)) :: slots12 l r)) K := by
 refine okR_block (id := 1) ?_
 refine okR_rg (id := 7) good ?_ ?_; rotate_left; rfl
 simp [go_sem, slots12]
 refine callK_of (fn_impl_DecodeEntry x (by omega)) (by simp [go_sem]) ?_
 simp [go_sem]
 refine okR_seq ?_
 refine okR_rg (id := 8) good ?_ (by rfl)
 simp [go_sem]
 first | refine gI_dec (fun f => ?_) (fun f => ?_) | refine gI_ndec (fun f => ?_) (fun f => ?_) | refine gI_of (fun f => ?_) (fun f => ?_)
 · simp [go_sem, f]
  refine okR_if ?_
  simp [go_sem, f]
  refine okR_exit ?_
  simp only [blockK, thenK]
  refine hno _ (fun v b hr => by rw [hr] at f; simp at f) (tells_list [] ?_)
  simp [go_sem, slots12]
 · obtain ⟨vb, hrd⟩ := Option.isSome_iff_exists.1 (show (readEnt x).isSome = true by simpa using f)
  obtain ⟨v, bt⟩ := vb
  have ho : entOr x = (v, bt) := by rw [entOr, hrd]; rfl
  simp [go_sem, f, ho]
  repeat (with_reducible refine And.intro ?_ ?_; first | omega | assumption | (simp only [inI]; omega))
  refine okR_if ?_
  simp [go_sem, f, ho]
  first | refine gC_dec (fun g => ?_) (fun g => ?_) | refine gC_ndec (fun g => ?_) (fun g => ?_) | refine gC_of (fun g => ?_) (fun g => ?_)
  · try simp at g
   refine okR_exit ?_
   simp only [blockK, thenK]
   refine hno _ (fun v' b' hr' => by rw [hrd] at hr'; obtain ⟨rfl, rfl⟩ := Prod.mk.inj (Option.some.inj hr'); exact g) (tells_list [] ?_)
   simp [go_sem, slots12]
  · try simp at g
   refine okR_skip ?_
   simp only [thenK]
   refine okR_rg (id := 9) good ?_ (by rfl)
   simp [go_sem, f, ho]
   refine ⟨by omega, ?_⟩
   simp only [blk]
   refine okR_rg1 (id := 10) good ?_ (by rfl)
   simp [go_sem, f, ho]
   repeat (with_reducible refine And.intro ?_ ?_; first | omega | assumption | (simp only [inI]; omega))
   refine hyes v bt _ hrd g (tells_list [] ?_)
   simp [go_sem, slots12]
end Go.Proofs.YtfhfidecmdhkoaaGreatDoor

end
section
namespace Go.Dv
open Go.RowKit
variable [Glob]
theorem Fits.rebase {P : Program} {n : Nat} {w0 w : World} {ow0 ow : Own} {s : St} {a : Act} (h : Fits P n w0 ow0 ow s a w) : Fits P n w ow ow s a w :=
  ⟨h.nodef, h.size, h.small, h.laidNow, ⟨rfl, rfl, rfl, Nat.le_refl _, fun _ _ _ => rfl⟩, fun _ _ h => h, h.new, h.far, fun _ _ _ hq => ⟨rfl, hq⟩, h.slot⟩
theorem Fits.onto {P : Program} {n : Nat} {w0 w w' : World} {ow0 ow ow' : Own} {s s' : St} {a a' : Act} (h : Fits P n w0 ow0 ow s a w) (h' : Fits P n w ow ow' s' a' w') : Fits P n w0 ow0 ow' s' a' w' :=
  ⟨h'.nodef, h'.size, h'.small, h.laid, ⟨h'.bel.os.trans h.bel.os, h'.bel.tape.trans h.bel.tape, h'.bel.output.trans h.bel.output, Nat.le_trans h.bel.size h'.bel.size, fun b hb ho => (h'.bel.block b (Nat.lt_of_lt_of_le hb h.bel.size) (h.own b hb ho)).trans (h.bel.block b hb ho)⟩,
    fun b hb ho => h'.own b (Nat.lt_of_lt_of_le hb h.bel.size) (h.own b hb ho), h'.new, h'.far, fun b hb q hq => by
      obtain ⟨h1, h2⟩ := h.keep b hb q hq
      obtain ⟨h3, h4⟩ := h'.keep b (Nat.lt_of_lt_of_le hb h.bel.size) q h2
      exact ⟨h3.trans h1, h4⟩, h'.slot⟩
theorem Fits.turn {P : Program} {n : Nat} {w0 w w' : World} {ow0 ow ow' : Own} {s : St} {a : Act} (h : Fits P n w0 ow0 ow s a w) (hos : w'.os = w.os) (htape : w'.tape = w.tape) (hout : w'.output = w.output) (hsz : w.heap.size ≤ w'.heap.size)
    (hb : ∀ b, b < w.heap.size → ow' b = ow b ∧ (w'.heap[b]? = w.heap[b]? ∨ (w0.heap.size ≤ b ∧ ∃ q, ow b = some (q ++ [far0])))) (hnew : ∀ b, w'.heap.size ≤ b → ow' b = none) : Fits P n w0 ow0 ow' s a w' := by
  have hq : Quiet w ow w' ow' := fun b hlt ho => by
    obtain ⟨h1, h2⟩ := hb b hlt
    rcases h2 with h2 | ⟨_, q, h2⟩
    · exact ⟨h2, by rw [h1]; exact ho⟩
    · rw [ho] at h2; cases h2
  have hl : ∀ j, j ≠ far0 → ∀ b, b < w.heap.size → ∀ q, ow b = some (q ++ [j]) → w'.heap[b]? = w.heap[b]? ∧ ow' b = some (q ++ [j]) := fun j hj b hlt q ho => by
    obtain ⟨h1, h2⟩ := hb b hlt
    rcases h2 with h2 | ⟨_, q', h2⟩
    · exact ⟨h2, by rw [h1]; exact ho⟩
    · rw [ho] at h2
      have := congrArg List.getLast? (Option.some.inj h2)
      simp at this
      exact absurd this hj
  have hlow : ∀ b, b < w0.heap.size → w'.heap[b]? = w.heap[b]? ∧ ow' b = ow b := fun b hlt => by
    obtain ⟨h1, h2⟩ := hb b (Nat.lt_of_lt_of_le hlt h.bel.size)
    rcases h2 with h2 | ⟨h2, _⟩
    · exact ⟨h2, h1⟩
    · omega
  refine ⟨h.nodef, h.size, h.small, h.laid, ⟨hos.trans h.bel.os, htape.trans h.bel.tape, hout.trans h.bel.output, Nat.le_trans h.bel.size hsz, fun b hlt ho => (hlow b hlt).1.trans (h.bel.block b hlt ho)⟩, fun b hlt ho => (hlow b hlt).2.trans (h.own b hlt ho), hnew, h.far, fun b hlt q ho => ?_, fun i => ?_⟩
  · obtain ⟨h1, h2⟩ := h.keep b hlt q ho
    exact ⟨(hlow b hlt).1.trans h1, (hlow b hlt).2.trans h2⟩
  · by_cases hi : i = far0
    · subst hi; rw [h.far]; trivial
    · refine (h.slot i).keep hq (fun _ b hb' q hq' => hl i hi b hb' q hq') (fun j _ d hd _ => ?_) (fun j d hd => by have := h.slot j; rw [hd] at this; exact this)
      have hj : j ≠ far0 := fun e => by rw [e, h.far] at hd; cases hd
      exact ⟨hd, rfl, fun b hb' q hq' => hl j hj b hb' q hq'⟩
theorem Fits.reAct {P : Program} {n : Nat} {w0 w : World} {ow0 ow : Own} {s : St} {a a' : Act} (h : Fits P n w0 ow0 ow s a w) (hd : a'.defers = []) (hn : a'.tmps.size = n) (hv : ∀ i, s i = .un ∨ (∃ d, s i = .own d) ∧ aval a' i = aval a i) : Fits P n w0 ow0 ow s a' w :=
  ⟨hd, hn, h.small, h.laid, h.bel, h.own, h.new, h.far, h.keep, fun i => by
    rcases hv i with h1 | ⟨⟨d, h1⟩, h2⟩
    · rw [h1]; trivial
    · have := h.slot i
      rw [h1] at this ⊢
      rw [h2]
      exact this⟩
theorem ret_out {P : Program} {T : TypeId → TyE} {n : Nat} {rs : List ResultVar} {Q : S → Prop} {w w' : World} {ow ow1 : Own} {s' : St} {a' : Act} {t : Nat} (hG : ∀ t, Good P T t) (hf1 : Fits P n w (fun b => (ow b).map (· ++ [far0])) ow1 s' a' w') (hnew : ∀ b, w.heap.size ≤ b → ow b = none) (hK : retL T rs s' (fun ds _ => Q (retS ds))) :
    ∃ vals : List Value, vals.length = rs.length ∧ (∀ g : ResultVar → Sem Value, (∀ r, g r = rvRun a'.tmps r) → (rs.mapM g).run P w' = .ok vals w') ∧
      ∃ ow' r, Q r ∧ After w ow w' ow' ∧ S.plain r = true ∧ ∀ s a, SV P w' ow' s a t r (if h : vals.toArray.size = 1 then vals.toArray[0] else .tuple vals.toArray) := by
  obtain ⟨vals, ow2, s2, ds2, hQ, hf2, hl1, hl2, hrun, hvals, hkeep⟩ := hf1.retL hG (fun k => if rs.length = 1 then [] else [k]) rs 0 hK
  have hnone : ∀ b, ow2 b = none → leave w ow ow2 t b = none := by
    intro b hb
    unfold leave
    split
    · rename_i hlt
      cases ho : ow b with
      | none => rfl
      | some q =>
        have := (hf2.keep b hlt q (by simp [ho])).2
        rw [hb] at this; cases this
    · simp [hb]
  have hold : ∀ b q, b < w.heap.size → ow2 b ≠ some (q ++ [res0]) := by
    intro b q hlt e
    cases ho : ow b with
    | none =>
      have := hf2.own b hlt (by simp [ho])
      rw [e] at this; cases this
    | some q' =>
      have := (hf2.keep b hlt q' (by simp [ho])).2
      rw [e] at this
      have := congrArg List.getLast? (Option.some.inj this)
      simp [res0, far0] at this
  have hk : ∀ l, Keeps w' ow2 (l ++ [res0]) w' (leave w ow ow2 t) (l ++ [t]) := fun l b _ => ⟨fun ho => ⟨rfl, hnone b ho⟩, fun q hq => ⟨rfl, by
    have hq' : ow2 b = some ((q ++ l) ++ [res0]) := by rw [hq]; simp
    unfold leave
    rw [if_neg fun hlt => hold b _ hlt hq', hq']
    simp⟩⟩
  have hq : Quiet w' ow2 w' (leave w ow ow2 t) := fun b _ ho => ⟨rfl, hnone b ho⟩
  have part : ∀ (j : Nat) (p : D × Bool), ds2[j]? = some p → ∃ v, vals[j]? = some v ∧ (if (p.2 || p.1.frz) = true then V P w' (leave w ow ow2 t) p.1.fz [] v else V P w' (leave w ow ow2 t) p.1 ((if rs.length = 1 then [] else [j]) ++ [t]) v) := by
    intro j p hj
    obtain ⟨v, h1, h2, h3⟩ := hvals j p hj
    rw [Nat.zero_add] at h2
    refine ⟨v, h1, ?_⟩
    by_cases hp : (p.2 || p.1.frz) = true
    · rw [if_pos hp]
      have hfz : p.1.fz = p.1 := by
        rcases Bool.or_eq_true _ _ ▸ hp with hp | hp
        · exact h3 hp
        · exact D.fz_frz hp
      rw [← hfz] at h2
      exact V.trf hq h2
    · rw [if_neg hp]
      exact V.tr (hk _) h2
  refine ⟨vals, by rw [hl2], fun g hg => hrun g hg, leave w ow ow2 t, retS ds2, hQ, ⟨hf2.bel.os, hf2.bel.tape, hf2.bel.output, hf2.bel.size, fun b hb => ⟨?_, by unfold leave; rw [if_pos hb]⟩, fun b hb => hnone b (hf2.new b hb)⟩, ?_, fun s a => ?_⟩
  · cases ho : ow b with
    | none => exact hf2.bel.block b hb (by simp [ho])
    | some q => exact (hf2.keep b hb q (by simp [ho])).1
  · unfold retS
    split
    · split <;> rfl
    · rfl
  · by_cases hone : rs.length = 1
    · have hd1 : ds2.length = 1 := by rw [hl1, hone]
      have hv1 : vals.length = 1 := by rw [hl2, hone]
      obtain ⟨⟨d, b⟩, rfl⟩ := List.length_eq_one_iff.1 hd1
      obtain ⟨v, rfl⟩ := List.length_eq_one_iff.1 hv1
      · obtain ⟨v', h1, h2⟩ := part 0 (d, b) rfl
        obtain rfl : v = v' := by simpa using h1
        rw [if_pos hone] at h2
        simp only [retS]
        by_cases hp : (b || d.frz) = true
        · rw [if_pos hp] at h2 ⊢
          exact h2
        · rw [if_neg hp] at h2 ⊢
          exact h2
    · have hd1 : ∀ p, ds2 ≠ [p] := fun p e => by rw [e] at hl1; simp at hl1; exact hone hl1.symm
      have htup : retS ds2 = .tup (ds2.map fun p => if p.2 || p.1.frz then .val p.1 else .own p.1) := by
        unfold retS
        split
        · rename_i d b; exact absurd rfl (hd1 _)
        · rfl
      rw [htup]
      refine ⟨vals.toArray, ?_, by simp [hl1, hl2], fun j x hx => ?_⟩
      · rw [dif_neg]
        simp [hl2, hone]
      · simp only [List.getElem?_map, Option.map_eq_some_iff] at hx
        obtain ⟨p, hp, rfl⟩ := hx
        obtain ⟨v, h1, h2⟩ := part j p hp
        have hv : vals.toArray.getD j undef = v := by simp [Array.getD_eq_getD_getElem?, h1]
        rw [hv]
        by_cases hpf : (p.2 || p.1.frz) = true
        · rw [if_pos hpf] at h2 ⊢
          exact h2
        · rw [if_neg hpf] at h2 ⊢
          rw [if_neg hone] at h2
          exact h2
end Go.Dv

end
section
set_option maxRecDepth 10000
namespace Go.Proofs.YtfhfidecmdhkoaaGreatDoor
open Go.Dv Go.Pl
open Go.RowKit Go.Shelf
attribute [local go_sem] Oper.semAt_some
abbrev vS (s : Str) : Value := .string ⟨s.toArray⟩
theorem Tryz.mixed : Tryz.prog.follows .mixedOrders = true := by kernel_rfl
def restLen (B : Nat) (W : World) : Nat := match W.cell? ⟨B, 0, none⟩ with
 | some (.string b) => b.size
 | _ => 0
def ibAt (r : Str) (z : Int) : Prop := z = Lib.indexByte r 10
theorem lineGo_yes : ∀ (r p : Str), (10 : UInt8) ∈ r → (r.takeWhile fun d => decide (d ≠ 10)).length + 1 ≤ r.length ∧ lineGo p r = (p ++ r.take ((r.takeWhile fun d => decide (d ≠ 10)).length + 1)) :: lines (r.drop ((r.takeWhile fun d => decide (d ≠ 10)).length + 1))
 | [], _, h => by simp at h
 | d :: r, p, h => by
  by_cases hd : d = 10
  · subst hd; simp [lineGo, lines]
  · have ih := lineGo_yes r (p ++ [d]) ((List.mem_cons.1 h).resolve_left fun e => hd e.symm)
   rw [List.takeWhile_cons_of_pos (by simpa using hd)]
   simp only [lineGo, if_neg hd, List.length_cons, List.take_succ_cons, List.drop_succ_cons]
   refine ⟨by omega, ?_⟩
   rw [ih.2]
   simp
theorem lineGo_none : ∀ (r p : Str), (10 : UInt8) ∉ r → lineGo p r = if p ++ r = [] then [] else [p ++ r]
 | [], p, _ => by simp [lineGo]
 | d :: r, p, h => by
  have hd : d ≠ 10 := fun e => h (by simp [e])
  rw [lineGo, if_neg hd, lineGo_none r _ fun e => h (List.mem_cons_of_mem _ e)]
  simp
theorem ib_yes {r : Str} {k : Nat} (h : ibAt r k) : k + 1 ≤ r.length ∧ lines r = r.take (k + 1) :: lines (r.drop (k + 1)) := by
 unfold ibAt at h
 rw [indexByte_eq] at h
 split at h
 · rename_i hm
  have := lineGo_yes r [] hm
  have hk : k = (r.takeWhile fun d => decide (d ≠ 10)).length := by omega
  rw [hk]
  exact this
 · omega
theorem ib_no {r : Str} {z : Int} (h : ibAt r z) (hr : r ≠ []) (hz : ¬ 0 ≤ z) : lines r = [r] := by
 unfold ibAt at h
 rw [indexByte_eq] at h
 split at h
 · omega
 · rename_i hm
  unfold lines
  rw [lineGo_none r [] hm]
  simp [hr]
theorem restLen_eq {B : Nat} {W : World} {r : Str} (h : W.cell? ⟨B, 0, none⟩ = some (vS r)) : restLen B W = r.length := by
 unfold restLen
 rw [h]
 exact ba_size r
theorem region_tailW {P : Program} {id : Nat} {Q : Exit → Act → World → Prop} {a : Act} {w : World} {l : List Oper} (n : Nat) (hm : P.follows .mixedOrders = true) (hB : Region.lexTailB .any l.toArray n = true)
  (h : ∀ w2 : World, w2.heap = w.heap → w2.os = w.os → w2.tape = w.tape → w2.output = w.output → wpStill P l.toArray w2 (fun a' => wpList P l.toArray Q (l.drop n) a' w2) (l.take n) a) : (Code.region id l.toArray true).wp P Q a w :=
 wp_region_still_tail n hm hB (h _ rfl rfl rfl rfl)
theorem cell_heap {w w' : World} (h : w'.heap = w.heap) (p : Addr) : w'.cell? p = w.cell? p := by unfold World.cell?; rw [h]
theorem frozen_heap {w w' : World} (h : w'.heap = w.heap) (p : Addr) : w'.frozen? p = w.frozen? p := by unfold World.frozen?; rw [h]
theorem wrap_small {k : Nat} (h : k ≤ 6000) : IntKind.i64.wrap ((k : Int) + 1) = ((k + 1 : Nat) : Int) := by
 simp [IntKind.wrap, IntKind.bits, IntKind.signed]; omega
theorem lines1_in (n l B : Nat) (hn : 3 ≤ n) (J Jx : Str → World → Prop) (Jy : Str → Str → World → Prop)
  (hcell : ∀ r W, J r W → r.length ≤ 6000 ∧ W.cell? ⟨B, 0, none⟩ = some (vS r) ∧ W.frozen? ⟨B, 0, none⟩ = false)
  (hset : ∀ (r x r' : Str) (W W' : World), J r W → r = x ++ r' → lines r = x :: lines r' → W'.heap = W.heap → W'.os = W.os → W'.tape = W.tape → W'.output = W.output → Jy x r' (W'.setCell ⟨B, 0, none⟩ (vS r')))
  (hY : ∀ x r W, Jy x r W → YieldAt Fence.wide (n - 1) Tryz.prog l #[vS x] W fun e W' => (e = .returned (.bool true) ∧ J r W') ∨ (e = .returned (.bool false) ∧ Jx r W'))
  (s : Str) (W : World) (h0 : J s W) :
  CallsIn Fence.wide n Tryz.prog 62 #[.func (.yield l) #[] #[], .pointer (some ⟨B, 0, none⟩)] W fun e W' => (∃ v, e = .returned v) ∧ (J [] W' ∨ ∃ r, Jx r W') := by
 refine callsIn_of_wp Tryz.func62 rfl trivial ?_ rfl
 simp only [Tryz.ntmps62, List.size_toArray, List.length_cons, List.length_nil, Nat.reduceAdd, Nat.reduceSub, Array.replicate_succ, Array.replicate_zero, List.push_toArray, List.append_toArray, List.nil_append, List.cons_append]
 refine wpIn_block ?_
 gi_loopw [] (fun wr => ∃ r, J r wr) (fun wr => restLen B wr)
 case atStart => exact ⟨s, h0⟩
 case round =>
  obtain ⟨r, hJ⟩ := hrel
  obtain ⟨hr6, hc, hfz⟩ := hcell r wr hJ
  have hib : ∃ z : Int, ibAt r z ∧ Calls Tryz.prog 42 #[.string ⟨r.toArray⟩, .int .u8 10] wr fun e w' => e = .returned (.int .i64 z) ∧ w' = wr := ⟨_, rfl, (Tryz.strings_IndexByte ⟨r.toArray⟩ 10 wr)⟩
  obtain ⟨z, hz, hib⟩ := hib
  have hrs := ba_size r
  have hn1 : 1 ≤ n := by omega
  by_cases hr0 : r = []
  · subst hr0
   gi_wp2
   go_end0
   exact ⟨⟨_, rfl⟩, .inl hJ⟩
  have hrl : 0 < r.length := List.length_pos_iff.2 hr0
  by_cases hz0 : 0 ≤ z
  · obtain ⟨k, rfl⟩ : ∃ k : Nat, z = k := ⟨z.toNat, by omega⟩
   have hlk := ib_yes hz
   clear hz
   gi_wp2_with (refine ⟨trivial, ?_⟩; gi_at_call 42; refine (callsIn_wide.2 hib).mono ?_; rintro e w1 ⟨rfl, rfl⟩)
   refine wpIn_wide.2 (region_tailW 9 (by kernel_rfl) (by kernel_rfl) ?_)
   intro w2 e1 e2 e3 e4
   have hc2 := (cell_heap e1 ⟨B, 0, none⟩).trans hc
   have hf2 := (frozen_heap e1 ⟨B, 0, none⟩).trans hfz
   have hw := wrap_small (k := k) (by omega)
   have hJy := hset r (r.take (k + 1)) (r.drop (k + 1)) w1 w2 hJ (by simp) hlk.2 e1 e2 e3 e4
   obtain ⟨fn, tmps, assign, body, hy, hR⟩ := hY _ _ _ hJy
   have hk1 := hlk.1
   have hk2 : (0 : Int) ≤ (k : Int) + 1 := by omega
   have hk3 : (k : Int) + 1 ≤ (r.length : Int) := by omega
   clear hlk
   iterate 9 still_step
   refine wpStill_nil ?_
   go_wp2
   gi_wp2
   refine hR.mono ?_
   rintro e W' (⟨rfl, hJ'⟩ | ⟨rfl, hJx'⟩)
   · gi_wp2
    go_roundw
    case rel => exact ⟨_, hJ'⟩
    case measure =>
     rw [restLen_eq (hcell _ _ hJ').2.1, restLen_eq hc]
     simp; try omega
   · gi_wp2
    refine bodyPost_ret (results_none rfl _ _ _) rfl ?_
    exact ⟨⟨_, rfl⟩, .inr ⟨_, hJx'⟩⟩
  · have hln := ib_no hz hr0 hz0
   clear hz
   have hJy := hset r r [] wr wr hJ (by simp) hln rfl rfl rfl rfl
   obtain ⟨fn, tmps, assign, body, hy, hR⟩ := hY _ _ _ hJy
   gi_wp2_with (refine ⟨trivial, ?_⟩; gi_at_call 42; refine (callsIn_wide.2 hib).mono ?_; rintro e w1 ⟨rfl, rfl⟩)
   refine hR.mono ?_
   rintro e W' (⟨rfl, hJ'⟩ | ⟨rfl, hJx'⟩)
   · gi_wp2
    go_roundw
    case rel => exact ⟨_, hJ'⟩
    case measure =>
     rw [restLen_eq (hcell _ _ hJ').2.1, restLen_eq hc]
     simp; try omega
   · gi_wp2
    refine bodyPost_ret (results_none rfl _ _ _) rfl ?_
    exact ⟨⟨_, rfl⟩, .inr ⟨_, hJx'⟩⟩
end Go.Proofs.YtfhfidecmdhkoaaGreatDoor

end
section
set_option maxRecDepth 10000
namespace Go.Proofs.YtfhfidecmdhkoaaGreatDoor
open Go.Dv Go.Pl
open Go.RowKit Go.Shelf
def rec12 (fn : FuncId) (T : Array Value) (D : Nat) (st : LoopState) (pe : Option Code) : Loop := { state := st, pending := pe, fn := fn, tmps := T, params := #[15], assign := asg12, body := bod12, defers := D }
def owF (ow : Go.Dv.Own) : Go.Dv.Own := fun b => (ow b).map (· ++ [far0])
structure At12 (w : World) (B D L : Nat) (T : Array Value) : Prop where
 size : T.size = 41
 hB : w.heap.size ≤ B
 hD : w.heap.size ≤ D
 hL : w.heap.size ≤ L
 bd : B ≠ D
 bl : B ≠ L
 dl : D ≠ L
def Mid (w : World) (ow : Go.Dv.Own) (B D L : Nat) (fn : FuncId) (T : Array Value) (st : LoopState) (pe : Option Code) (l : List (List Opn)) (r : Int) (W : World) : Prop :=
 ∃ owA : Go.Dv.Own, Fits Tryz.prog 41 w (owF ow) owA (lst (slots12 l r)) { tmps := T, defers := [] } W ∧ W.heap[L]? = some (.loop (rec12 fn T D st pe)) ∧ W.heap[D]? = some (.deferred (some [])) ∧ B < W.heap.size ∧ owA B = some [far0] ∧ owA D = some [far0] ∧ owA L = some [far0]
theorem Mid.turn {w W W' : World} {ow : Go.Dv.Own} {B D L : Nat} {fn : FuncId} {T : Array Value} {st st' : LoopState} {pe pe' : Option Code} {l : List (List Opn)} {r : Int} (ha : At12 w B D L T) (h : Mid w ow B D L fn T st pe l r W) (hos : W'.os = W.os) (htape : W'.tape = W.tape) (hout : W'.output = W.output) (hsz : W'.heap.size = W.heap.size)
  (hb : ∀ b, b ≠ B → b ≠ L → b ≠ D → W'.heap[b]? = W.heap[b]?) (hL : W'.heap[L]? = some (.loop (rec12 fn T D st' pe'))) (hD : W'.heap[D]? = some (.deferred (some []))) : Mid w ow B D L fn T st' pe' l r W' := by
 obtain ⟨owA, hf, h1, h2, h3, h4, h5, h6⟩ := h
 refine ⟨owA, hf.turn hos htape hout (Nat.le_of_eq hsz.symm) (fun b hlt => ⟨rfl, ?_⟩) (fun b hlt => hf.new b (by omega)), hL, hD, by omega, h4, h5, h6⟩
 by_cases e1 : b = B
 · exact .inr ⟨by rw [e1]; exact ha.hB, [], by rw [e1]; exact h4⟩
 by_cases e2 : b = L
 · exact .inr ⟨by rw [e2]; exact ha.hL, [], by rw [e2]; exact h6⟩
 by_cases e3 : b = D
 · exact .inr ⟨by rw [e3]; exact ha.hD, [], by rw [e3]; exact h5⟩
 exact .inl (hb b e1 e2 e3)
theorem Mid.putL {w W : World} {ow : Go.Dv.Own} {B D L : Nat} {fn : FuncId} {T : Array Value} {st st' : LoopState} {pe pe' : Option Code} {l : List (List Opn)} {r : Int} (ha : At12 w B D L T) (h : Mid w ow B D L fn T st pe l r W) : Mid w ow B D L fn T st' pe' l r (W.putObj L (.loop (rec12 fn T D st' pe'))) := by
 have h' := h
 obtain ⟨owA, hf, h1, h2, h3, h4, h5, h6⟩ := h'
 refine h.turn ha rfl rfl rfl (by simp) (fun b e1 e2 e3 => World.putObj_heap_other e2) (World.putObj_heap_same (Array.getElem?_eq_some_iff.1 h1).1) ((World.putObj_heap_other ha.dl).trans h2)
theorem round12 {w W : World} {ow : Go.Dv.Own} {B D L m : Nat} {fn : FuncId} {T : Array Value} {l : List (List Opn)} {r : Int} {x r' : Str} {R : Ending → World → Prop} (ha : At12 w B D L T) (h : Mid w ow B D L fn T .ready none l r W) (hc : W.cell? ⟨B, 0, none⟩ = some (vS r')) (hfz : W.frozen? ⟨B, 0, none⟩ = false)
  (hx : x.length ≤ 6000) (hl : l.length ≤ 6000) (hr : 0 ≤ r ∧ r ≤ 6000)
  (hyes : ∀ v b W', readEnt x = some (v, b) → v = (l.length : Int) + 1 → Mid w ow B D L fn T .ready none (l ++ [b]) (r + x.length) W' → W'.cell? ⟨B, 0, none⟩ = some (vS r') → W'.frozen? ⟨B, 0, none⟩ = false → R (.returned (.bool true)) W')
  (hno : ∀ W', (∀ v b, readEnt x = some (v, b) → v ≠ (l.length : Int) + 1) → Mid w ow B D L fn T .done (some (.exit 0)) l r W' → R (.returned (.bool false)) W') :
  YieldAt Fence.wide m Tryz.prog L #[vS x] W R := by
 have h' := h
 obtain ⟨owA, hf, h1, h2, h3, h4, h5, h6⟩ := h'
 have hy := run_yield (P := Tryz.prog) (args := #[vS x]) h1 rfl
 refine ⟨fn, _, asg12, bod12, hy, roundIn_of_wpIn trivial ?_⟩
 have hT : ((rec12 fn T D .ready none).params.zip #[vS x]).foldl (fun tmps (t, a) => tmps.setIfInBounds t a) (rec12 fn T D .ready none).tmps = T.setIfInBounds 15 (vS x) := by simp [rec12]
 rw [hT]
 have hf0 : Fits Tryz.prog 41 w (owF ow) owA ((lst (slots12 l r)).set 15 (.val (dS x))) { tmps := T.setIfInBounds 15 (vS x), defers := [] } W := hf.set (by decide) (show V Tryz.prog W owA (dS x).fz [] (vS x) from ⟨rfl, rfl⟩)
 have hB : B < W.heap.size := h3
 have hDs : D < W.heap.size := (Array.getElem?_eq_some_iff.1 h2).1
 have hLs : L < W.heap.size := (Array.getElem?_eq_some_iff.1 h1).1
 have hR1 : Rel Tryz.prog 41 W owA (lst ((15, .val (dS x)) :: slots12 l r)) { tmps := T.setIfInBounds 15 (vS x), defers := [] } W := (tells_list [] (by simp [go_sem, slots12])).rel ⟨owA, hf0.rebase⟩
 have hpins : PinnedL [(4, T.getD 4 undef), (5, T.getD 5 undef)] { tmps := T.setIfInBounds 15 (vS x), defers := [] } := by
  intro q hq i v e
  simp only [List.mem_cons, List.not_mem_nil, or_false] at hq
  rcases hq with rfl | rfl <;> (obtain ⟨rfl, rfl⟩ := Prod.mk.inj (Option.some.inj e).symm; simp [Array.getD_eq_getD_getElem?, Array.getElem?_setIfInBounds])
 refine asg12_ok (K := fun e s' => e = .normal ∧ Tells Tryz.prog 41 s' (lst ((6, .val (dS x)) :: slots12 l r))) (fun s' h => ⟨rfl, h⟩) _ _ hR1 hpins _ ?_
 rintro e s1 a1 w1 ⟨rfl, ht1⟩ hR1' hp1
 obtain ⟨ow1, hf1⟩ := ht1.rel hR1'
 obtain ⟨kB, oB⟩ := hf1.keep B hB [] h4
 obtain ⟨kD, oD⟩ := hf1.keep D hDs [] h5
 obtain ⟨kL, oL⟩ := hf1.keep L hLs [] h6
 have hL1 := kL.trans h1
 have hL1s : L < w1.heap.size := (Array.getElem?_eq_some_iff.1 hL1).1
 refine ⟨_, run_beginRound hL1 rfl, ?_⟩
 obtain ⟨w2, hw2⟩ : ∃ w2, w2 = w1.putObj L (.loop (rec12 fn T D .busy none)) := ⟨_, rfl⟩
 have hf2 : Fits Tryz.prog 41 w (owF ow) ow1 (lst ((6, .val (dS x)) :: slots12 l r)) a1 w2 := by
  rw [hw2]
  refine (hf.onto hf1).turn rfl rfl rfl (by simp) (fun b hlt => ⟨rfl, ?_⟩) (fun b hlt => hf1.new b (by simpa using hlt))
  by_cases e : b = L
  · exact .inr ⟨by rw [e]; exact ha.hL, [], by rw [e]; exact oL⟩
  · exact .inl (World.putObj_heap_other e)
 have hL2 : w2.heap[L]? = some (.loop (rec12 fn T D .busy none)) := by rw [hw2]; exact World.putObj_heap_same hL1s
 have hD2 : w2.heap[D]? = some (.deferred (some [])) := by rw [hw2]; exact (World.putObj_heap_other ha.dl).trans (kD.trans h2)
 have hB2 : w2.heap[B]? = W.heap[B]? := by rw [hw2]; exact (World.putObj_heap_other ha.bl).trans kB
 have hs2 : w2.heap.size = w1.heap.size := by rw [hw2]; simp
 have hbel : W.heap.size ≤ w2.heap.size := by rw [hs2]; exact hf1.bel.size
 show bod12.wpIn _ _ _ _ _ (w1.putObj L (.loop (rec12 fn T D .busy none)))
 rw [← hw2]
 refine bod12_ok (K := fun e s' => (e = .normal ∧ ∃ v b, readEnt x = some (v, b) ∧ v = (l.length : Int) + 1 ∧ Tells Tryz.prog 41 s' (lst (slots12 (l ++ [b]) (r + x.length)))) ∨ (e = .exit 0 ∧ (∀ v b, readEnt x = some (v, b) → v ≠ (l.length : Int) + 1) ∧ Tells Tryz.prog 41 s' (lst (slots12 l r)))) hx hl hr (fun v b s' e1 e2 ht => .inl ⟨rfl, v, b, e1, e2, ht⟩) (fun s' e1 ht => .inr ⟨rfl, e1, ht⟩) a1 w2 ⟨ow1, hf2.rebase⟩ hp1 _ ?_
 intro e s3 a3 w3 hK hR3 hp3
 have p4 : a3.tmps.getD 4 undef = T.getD 4 undef := hp3 (4, _) (by simp) 4 _ rfl
 have p5 : a3.tmps.getD 5 undef = T.getD 5 undef := hp3 (5, _) (by simp) 5 _ rfl
 have back : ∀ (l' : List (List Opn)) (r' : Int) (ow3 : Go.Dv.Own), Fits Tryz.prog 41 w2 ow1 ow3 (lst (slots12 l' r')) a3 w3 → Mid w ow B D L fn T .busy none l' r' w3 ∧ w3.heap[B]? = W.heap[B]? := by
  intro l' r' ow3 hf3
  obtain ⟨kB3, oB3⟩ := hf3.keep B (by omega) [] oB
  obtain ⟨kD3, oD3⟩ := hf3.keep D (by omega) [] oD
  obtain ⟨kL3, oL3⟩ := hf3.keep L (by omega) [] oL
  refine ⟨⟨ow3, (hf2.onto hf3).reAct rfl ha.size (fun i => ?_), kL3.trans hL2, kD3.trans hD2, ?_, oB3, oD3, oL3⟩, kB3.trans hB2⟩
  · by_cases e4 : i = 4
   · subst e4; exact .inr ⟨⟨_, rfl⟩, by simp only [aval, p4]⟩
   by_cases e5 : i = 5
   · subst e5; exact .inr ⟨⟨_, rfl⟩, by simp only [aval, p5]⟩
   · exact .inl (lst_un (by simp [slots12, e4, e5]))
  · have := hf3.bel.size; omega
 have cB : ∀ W' : World, W'.heap[B]? = W.heap[B]? → W'.cell? ⟨B, 0, none⟩ = some (vS r') ∧ W'.frozen? ⟨B, 0, none⟩ = false := fun W' e => ⟨(World.cell?_of_block (a := ⟨B, 0, none⟩) e).trans hc, (World.frozen?_of_block (a := ⟨B, 0, none⟩) e).trans hfz⟩
 rcases hK with ⟨rfl, v, b, e1, e2, ht⟩ | ⟨rfl, e1, ht⟩
 · obtain ⟨ow3, hf3⟩ := ht.rel hR3
  obtain ⟨hm, hb3⟩ := back _ _ _ hf3
  have hm' := hm
  obtain ⟨_, _, hl3, _⟩ := hm'
  have hfin := cB (w3.putObj L (.loop (rec12 fn T D .ready none))) ((World.putObj_heap_other ha.bl).trans hb3)
  exact ⟨_, _, run_endRound none hl3, hyes v b _ e1 e2 (hm.putL ha) hfin.1 hfin.2⟩
 · obtain ⟨ow3, hf3⟩ := ht.rel hR3
  obtain ⟨hm, hb3⟩ := back _ _ _ hf3
  have hm' := hm
  obtain ⟨_, _, hl3, _⟩ := hm'
  exact ⟨_, _, run_endRound (some (.exit 0)) hl3, hno _ e1 (hm.putL ha)⟩
end Go.Proofs.YtfhfidecmdhkoaaGreatDoor

end
section
set_option maxRecDepth 10000
namespace Go.Proofs.YtfhfidecmdhkoaaGreatDoor
open Go.Dv Go.Pl
open Go.RowKit Go.Shelf
theorem lines32 (s : Str) (w : World) : Calls Tryz.prog 32 #[vS s] w fun e w' => e = .returned (.func (.func 62) #[] #[.pointer (some ⟨w.heap.size, 0, none⟩)]) ∧ w' = w.alloc (.cells #[vS s] 9) := by
 refine calls_of_wp Tryz.func32 rfl ?_
 simp only [Tryz.ntmps32, List.size_toArray, List.length_cons, List.length_nil, Nat.reduceAdd, Nat.reduceSub, Array.replicate_succ, Array.replicate_zero, List.push_toArray, List.append_toArray, List.nil_append, List.cons_append]
 go_wp2
 refine bodyPost_ret (results_tmp rfl _ _ _) rfl ?_
 exact ⟨rfl, rfl⟩
def scan12 (s : Str) (l : List (List Opn)) (u : Nat) (ls : List Str) : Prop := scan s = (l ++ (scanL l.length ls).1, u + (scanL l.length ls).2)
theorem scan12_start {s : Str} (h : s.length ≤ 6000) : scan12 s [] 0 (lines s) := by simp [scan12, scan, h]
theorem scan12_yes {s x : Str} {l : List (List Opn)} {u : Nat} {ls : List Str} {v : Int} {b : List Opn} (h : scan12 s l u (x :: ls)) (hr : readEnt x = some (v, b)) (hv : v = (l.length : Int) + 1) : scan12 s (l ++ [b]) (u + x.length) ls := by
 unfold scan12 at h ⊢
 rw [scanL_some hr hv] at h
 rw [h]
 simp [Nat.add_assoc]
theorem scan12_no {s x : Str} {l : List (List Opn)} {u : Nat} {ls : List Str} (h : scan12 s l u (x :: ls)) (hn : ∀ v b, readEnt x = some (v, b) → v ≠ (l.length : Int) + 1) : scan s = (l, u) := by
 unfold scan12 at h
 rw [scanL_no hn] at h
 simpa using h
theorem scan12_end {s : Str} {l : List (List Opn)} {u : Nat} (h : scan12 s l u (lines [])) : scan s = (l, u) := by
 unfold scan12 at h
 simpa [lines, lineGo, scanL] using h
theorem scan12_len {s : Str} {l : List (List Opn)} {u : Nat} {ls : List Str} (hs : s.length ≤ 6000) (h : scan12 s l u ls) : l.length ≤ 6000 ∧ u ≤ 6000 := by
 have h1 := scan_len s
 unfold scan12 at h
 rw [h] at h1
 simp at h1
 omega
theorem loop12 {w W : World} {ow : Go.Dv.Own} {B D L : Nat} {fn : FuncId} {T : Array Value} {s : Str} (hs : s.length ≤ 6000) (ha : At12 w B D L T) (h : Mid w ow B D L fn T .ready none [] 0 W) (hc : W.cell? ⟨B, 0, none⟩ = some (vS s)) (hfz : W.frozen? ⟨B, 0, none⟩ = false) :
  CallsIn Fence.wide 3 Tryz.prog 62 #[.func (.yield L) #[] #[], .pointer (some ⟨B, 0, none⟩)] W fun e W' => (∃ v, e = .returned v) ∧ (Mid w ow B D L fn T .ready none (scan s).1 (scan s).2 W' ∨ Mid w ow B D L fn T .done (some (.exit 0)) (scan s).1 (scan s).2 W') := by
 refine (lines1_in 3 L B (by omega)
  (fun r W => r.length ≤ 6000 ∧ W.cell? ⟨B, 0, none⟩ = some (vS r) ∧ W.frozen? ⟨B, 0, none⟩ = false ∧ ∃ (l : List (List Opn)) (u : Nat), Mid w ow B D L fn T .ready none l u W ∧ scan12 s l u (lines r))
  (fun _ W => ∃ (l : List (List Opn)) (u : Nat), Mid w ow B D L fn T .done (some (.exit 0)) l u W ∧ scan s = (l, u))
  (fun x r W => x.length ≤ 6000 ∧ r.length ≤ 6000 ∧ W.cell? ⟨B, 0, none⟩ = some (vS r) ∧ W.frozen? ⟨B, 0, none⟩ = false ∧ ∃ (l : List (List Opn)) (u : Nat), Mid w ow B D L fn T .ready none l u W ∧ scan12 s l u (x :: lines r))
  (fun r W hJ => ⟨hJ.1, hJ.2.1, hJ.2.2.1⟩) ?_ ?_ s W ⟨hs, hc, hfz, [], 0, h, scan12_start hs⟩).mono ?_
 · rintro r x r' W1 W2 ⟨j1, j2, j3, l, u, hm, hsc⟩ hr hl e1 e2 e3 e4
  have hlen := congrArg List.length hr
  rw [List.length_append] at hlen
  have hc2 := (cell_heap e1 ⟨B, 0, none⟩).trans j2
  have hf2 := (frozen_heap e1 ⟨B, 0, none⟩).trans j3
  refine ⟨by omega, by omega, World.cell?_setCell_same' _ _ _ (by rw [hc2]; rfl), by rw [World.frozen?_setCell]; exact hf2, l, u, ?_, by rw [← hl]; exact hsc⟩
  have hm' := hm
  obtain ⟨_, _, hL, hD, _⟩ := hm'
  have hb : ∀ b, b ≠ B → (W2.setCell ⟨B, 0, none⟩ (vS r')).heap[b]? = W1.heap[b]? := fun b hb => by rw [Below.heap_setCell W2 ⟨B, 0, none⟩ _ b hb, e1]
  refine hm.turn ha e2 e3 e4 ?_ (fun b e _ _ => hb b e) ((hb L (Ne.symm ha.bl)).trans hL) ((hb D (Ne.symm ha.bd)).trans hD)
  show (W2.heap.modify B _).size = _
  rw [Array.size_modify, e1]
 · rintro x r W1 ⟨j1, j0, j2, j3, l, u, hm, hsc⟩
  have hlen := scan12_len hs hsc
  refine round12 ha hm j2 j3 j1 hlen.1 (by omega) (fun v b W' e1 e2 hm' hc' hf' => .inl ⟨rfl, j0, hc', hf', l ++ [b], u + x.length, by rw [Int.natCast_add]; exact hm', scan12_yes hsc e1 e2⟩) (fun W' e1 hm' => .inr ⟨rfl, l, u, hm', scan12_no hsc e1⟩)
 · rintro e W' ⟨hv, ⟨j1, j2, j3, l, u, hm, hsc⟩ | ⟨_, l, u, hm, hsc⟩⟩
  · rw [scan12_end hsc]; exact ⟨hv, .inl hm⟩
  · rw [hsc]; exact ⟨hv, .inr hm⟩
end Go.Proofs.YtfhfidecmdhkoaaGreatDoor

end
section
set_option maxRecDepth 10000
namespace Go.Proofs.YtfhfidecmdhkoaaGreatDoor
open Go.Dv Go.Pl
open Go.RowKit Go.Shelf
attribute [local go_sem] Oper.semAt_some
theorem start12 {w W : World} {ow : Go.Dv.Own} {TT : Array Value} {fn : FuncId} {N : Nat} (hN : w.heap.size = N) (hL : Laid w ow) (hnew : ∀ b, N ≤ b → ow b = none) (hsz : TT.size = 41) (h4 : TT.getD 4 undef = .pointer (some ⟨N, 0, none⟩)) (h5 : TT.getD 5 undef = .pointer (some ⟨N + 1, 0, none⟩))
  (hos : W.os = w.os) (htape : W.tape = w.tape) (hout : W.output = w.output) (hs : W.heap.size = N + 5) (hb : ∀ b, b < N → W.heap[b]? = w.heap[b]?) (e0 : W.heap[N]? = some (.cells #[.slice none 0 0] 34)) (e1 : W.heap[N + 1]? = some (.cells #[.int .i64 0] 3))
  (e3 : W.heap[N + 3]? = some (.deferred (some []))) (e4 : W.heap[N + 4]? = some (.loop (rec12 fn TT (N + 3) .ready none))) :
  Mid w ow (N + 2) (N + 3) (N + 4) fn TT .ready none [] 0 W := by
 refine ⟨fun b => if b < N then owF ow b else if b = N then some [4] else if b = N + 1 then some [5] else if b ≤ N + 4 then some [far0] else none, ⟨rfl, hsz, by decide, hL.mono fun b o h1 h2 => ⟨h1, by simp [owF, h2]⟩, ⟨hos, htape, hout, by omega, fun b hlt _ => hb b (by omega)⟩, fun b hlt ho => ?_, fun b hlt => ?_, ?_, fun b hlt q ho => ?_, fun i => ?_⟩, e4, e3, by omega, ?_, ?_, ?_⟩
 · rw [if_pos (by omega)]; exact ho
 · rw [if_neg (by omega), if_neg (by omega), if_neg (by omega), if_neg (by omega)]
 · exact lst_un (by simp [slots12, far0])
 · exact ⟨hb b (by omega), by rw [if_pos (by omega)]; exact ho⟩
 · by_cases i4 : i = 4
  · subst i4
   have ha : aval { tmps := TT, defers := [] } 4 = .pointer (some ⟨N, 0, none⟩) := by simp only [aval]; exact h4
   rw [ha]
   show V _ _ _ (.bx true (oBats [])) [4] _
   simp only [V, R]
   refine ⟨N, 0, #[.slice none 0 0], 34, (0, 0), [.slice none 0 0], rfl, e0, (fun h => by cases h), fun _ => ⟨by simp; try (intro h; exact absurd h (by omega)), unfz0 _, rfl, rfl⟩, rfl, fun j hj => by simp at hj; subst hj; rfl, ?_⟩
   exact ⟨none, 0, rfl, by simp, by decide, .inl ⟨rfl, rfl, rfl⟩⟩
  by_cases i5 : i = 5
  · subst i5
   have ha : aval { tmps := TT, defers := [] } 5 = .pointer (some ⟨N + 1, 0, none⟩) := by simp only [aval]; exact h5
   rw [ha]
   show V _ _ _ (.bx true (dI 0)) [5] _
   simp only [V, R]
   refine ⟨N + 1, 0, #[.int .i64 0], 3, (0, 0), [.int .i64 0], rfl, e1, (fun h => by cases h), fun _ => ⟨by simp; try (intro h; exact absurd h (by omega)), unfz0 _, rfl, rfl⟩, rfl, fun j hj => by simp at hj; subst hj; rfl, ⟨rfl, rfl⟩⟩
  rw [lst_un (by simp [slots12, i4, i5])]
  trivial
 · dsimp only; rw [if_neg (by omega), if_neg (by omega), if_neg (by omega), if_pos (by omega)]
 · dsimp only; rw [if_neg (by omega), if_neg (by omega), if_neg (by omega), if_pos (by omega)]
 · dsimp only; rw [if_neg (by omega), if_neg (by omega), if_neg (by omega), if_pos (by omega)]
theorem region_allW {P : Program} {id : Nat} {Q : Exit → Act → World → Prop} {a : Act} {w : World} {l : List Oper} (hm : P.follows .mixedOrders = true) (hB : Region.lexB .any l.toArray = true)
  (h : ∀ w2 : World, w2.heap = w.heap → w2.os = w.os → w2.tape = w.tape → w2.output = w.output → wpStill P l.toArray w2 (fun a' => Q .normal a' w2) l a) : (Code.region id l.toArray true).wp P Q a w :=
 wp_region_still_lit hm hB (h _ rfl rfl rfl rfl)
theorem cells12 {w W : World} {ow : Go.Dv.Own} {TT : Array Value} {fn : FuncId} {B D L N : Nat} {st : LoopState} {pe : Option Code} {l : List (List Opn)} {r : Int} (ha : At12 w B D L TT) (h4 : TT.getD 4 undef = .pointer (some ⟨N, 0, none⟩)) (h5 : TT.getD 5 undef = .pointer (some ⟨N + 1, 0, none⟩)) (h : Mid w ow B D L fn TT st pe l r W) :
  ∃ v, W.cell? ⟨N, 0, none⟩ = some v ∧ W.frozen? ⟨N, 0, none⟩ = false ∧ W.cell? ⟨N + 1, 0, none⟩ = some (.int .i64 r) ∧ W.frozen? ⟨N + 1, 0, none⟩ = false := by
 obtain ⟨owA, hf, _⟩ := h
 have s4 := hf.slot 4
 have s5 := hf.slot 5
 have a4 : aval { tmps := TT, defers := [] } 4 = .pointer (some ⟨N, 0, none⟩) := by simp only [aval]; exact h4
 have a5 : aval { tmps := TT, defers := [] } 5 = .pointer (some ⟨N + 1, 0, none⟩) := by simp only [aval]; exact h5
 rw [a4] at s4
 rw [a5] at s5
 replace s4 : V Tryz.prog W owA (.bx true (oBats l)) [4] _ := s4
 replace s5 : V Tryz.prog W owA (.bx true (dI r)) [5] _ := s5
 simp only [V, R] at s4 s5
 obtain ⟨b, off, C, e, fz, cs, g1, g2, _, g3, g4, g5, g6⟩ := s4
 obtain ⟨b', off', C', e', fz', cs', k1, k2, _, k3, k4, k5, k6, _⟩ := s5
 obtain ⟨-, u1, u2, u3⟩ := g3 trivial
 obtain ⟨-, v1, v2, v3⟩ := k3 trivial
 simp only [List.cons.injEq, Value.pointer.injEq, Option.some.injEq, and_true, Addr.mk.injEq] at g1 k1
 obtain ⟨rfl, rfl⟩ := g1
 obtain ⟨rfl, rfl⟩ := k1
 obtain ⟨a, cap, rfl, _⟩ := g6
 subst k6
 have g50 := g5 0 (by simp)
 have k50 := k5 0 (by simp)
 simp only [Nat.add_zero, List.getElem?_cons_zero] at g50 k50
 have f1 := u1 0 (by rw [u3]; exact Nat.zero_lt_one)
 have f2 := v1 0 (by rw [v3]; exact Nat.zero_lt_one)
 refine ⟨_, by simp only [World.cell?, g2]; exact g50, ?_, by simp only [World.cell?, k2]; exact k50, ?_⟩
 · simp only [World.frozen?, g2]; simpa using f1
 · simp only [World.frozen?, k2]; simpa using f2
theorem fn_impl_ScanLog (s : Str) (hs : s.length ≤ 1048576) : FnOk Tryz.prog 12 [dS s] (fun res' => res' = .tup [.own (oBats (scan s).1), .val (dI (scan s).2)]) := by
 intro w ow vs t ht hL hnew hvs hargs
 have h0 := hargs 0 _ rfl
 obtain ⟨x, rfl⟩ : ∃ x, vs = #[x] := Array.size_eq_one_iff.1 hvs
 simp only [V, D.fz, R] at h0
 obtain ⟨h0, _⟩ := h0
 obtain rfl : x = vS s := by simpa using h0
 clear h0 hargs hvs
 refine (callsIn_wide (n := 4)).1 (callsIn_of_wp_marks Tryz.func12 rfl trivial ?_ rfl)
 simp only [Tryz.ntmps12, List.size_toArray, List.length_cons, List.length_nil, Nat.reduceAdd, Nat.reduceSub, Array.replicate_succ, Array.replicate_zero, List.push_toArray, List.append_toArray, List.nil_append, List.cons_append]
 have hrs := ba_size s
 have hn1 : 1 ≤ 4 := by omega
 by_cases h6 : s.length ≤ 6000
 · have h6' : ¬ ((6000 : Int) < (s.length : Int)) := by omega
  gi_wp2_with (refine ⟨trivial, ?_⟩; gi_at_call 32; refine (callsIn_wide.2 (lines32 s _)).mono ?_; rintro e w1 ⟨rfl, rfl⟩)
  obtain ⟨W0, hW0⟩ : ∃ W0, W0 = ((w.alloc (.cells #[.slice none 0 0] 34)).alloc (.cells #[.int .i64 0] 3)).alloc (.cells #[vS s] 9) := ⟨_, rfl⟩
  rw [← hW0]
  obtain ⟨N, hN⟩ : ∃ N, w.heap.size = N := ⟨_, rfl⟩
  have hz0 : W0.heap.size = N + 3 := by rw [hW0]; simp [hN]
  have hB0 : ∀ b, b < N → W0.heap[b]? = w.heap[b]? := fun b hb => by
   rw [hW0, Below.heap_alloc _ _ _ (by simp; omega), Below.heap_alloc _ _ _ (by simp; omega), Below.heap_alloc _ _ _ (by omega)]
  have c0 : W0.heap[N]? = some (.cells #[.slice none 0 0] 34) := by
   rw [hW0, Below.heap_alloc _ _ _ (by simp; omega), Below.heap_alloc _ _ _ (by simp; omega), ← hN]; exact World.alloc_heap_new w _
  have c1 : W0.heap[N + 1]? = some (.cells #[.int .i64 0] 3) := by
   rw [hW0, Below.heap_alloc _ _ _ (by simp; omega), ← hN]; have := World.alloc_heap_new (w.alloc (.cells #[.slice none 0 0] 34)) (.cells #[.int .i64 0] 3); simpa using this
  have c2 : W0.heap[N + 2]? = some (.cells #[vS s] 9) := by
   rw [hW0, ← hN]; have := World.alloc_heap_new ((w.alloc (.cells #[.slice none 0 0] 34)).alloc (.cells #[.int .i64 0] 3)) (.cells #[vS s] 9); simpa using this
  have m0 : W0.os = w.os ∧ W0.tape = w.tape ∧ W0.output = w.output := by rw [hW0]; exact ⟨rfl, rfl, rfl⟩
  clear hW0
  rw [hN]
  rename_i Q K hK
  refine wpIn_rangeFunc fun fn hfn => ?_
  obtain ⟨TT, hTT⟩ : ∃ TT : Array Value, TT = #[vS s, undef, Value.slice none 0 0, Value.int IntKind.i64 0, .pointer (some ⟨N, 0, none⟩), .pointer (some ⟨N + 1, 0, none⟩), undef, undef, undef, undef, vS s, .int .i64 s.length, .bool false, vS s, .func (.func 62) #[] #[.pointer (some ⟨N + 1 + 1, 0, none⟩)], undef, undef, undef, undef, undef, undef, undef, undef, undef, undef, undef, undef, undef, undef, undef, undef, undef, undef, undef, undef, undef, undef, undef, undef, undef, undef] := ⟨_, rfl⟩
  obtain ⟨W1, hW1⟩ : ∃ W1, W1 = (W0.alloc (.deferred (some []))).alloc (.loop (rec12 fn TT (N + 3) .ready none)) := ⟨_, rfl⟩
  have hm : Mid w ow (N + 2) (N + 3) (N + 4) fn TT .ready none [] 0 W1 := by
   have hb1 : ∀ b, b < N + 3 → W1.heap[b]? = W0.heap[b]? := fun b hb => by rw [hW1, Below.heap_alloc _ _ _ (by simp; omega), Below.heap_alloc _ _ _ (by omega)]
   refine start12 hN hL (by rw [← hN]; exact hnew) (by rw [hTT]; rfl) (by rw [hTT]; rfl) (by rw [hTT]; rfl) (by rw [hW1]; exact m0.1) (by rw [hW1]; exact m0.2.1) (by rw [hW1]; exact m0.2.2) (by rw [hW1]; simp [hz0]) (fun b hb => (hb1 b (by omega)).trans (hB0 b hb)) ((hb1 _ (by omega)).trans c0) ((hb1 _ (by omega)).trans c1) ?_ ?_
   · rw [hW1, Below.heap_alloc _ _ _ (by simp; omega), ← hz0]; exact World.alloc_heap_new W0 _
   · have := World.alloc_heap_new (W0.alloc (.deferred (some []))) (.loop (rec12 fn TT (N + 3) .ready none)); rw [hW1]; simpa [hz0] using this
  have hcB : W1.cell? ⟨N + 2, 0, none⟩ = some (vS s) ∧ W1.frozen? ⟨N + 2, 0, none⟩ = false := by
   have hb1 : W1.heap[N + 2]? = W0.heap[N + 2]? := by rw [hW1, Below.heap_alloc _ _ _ (by simp; omega), Below.heap_alloc _ _ _ (by omega)]
   rw [World.cell?_of_block (a := ⟨N + 2, 0, none⟩) hb1, World.frozen?_of_block (a := ⟨N + 2, 0, none⟩) hb1]
   simp [World.cell?, World.frozen?, c2]
  have ha : At12 w (N + 2) (N + 3) (N + 4) TT := ⟨by rw [hTT]; rfl, by omega, by omega, by omega, by omega, by omega, by omega⟩
  refine ⟨N + 4, [{ target := .collected (N + 3), args := #[] }], W1, { target := .fn (.func 62) #[.pointer (some ⟨N + 1 + 1, 0, none⟩)], args := #[.func (.yield (N + 4)) #[] #[]] }, W1, 62, #[.func (.yield (N + 4)) #[] #[]] ++ #[.pointer (some ⟨N + 1 + 1, 0, none⟩)], W1, ?_, ?_, ?_, ?_, fun _ => by decide, ?_⟩
  · rw [hW1, hTT, ← hz0]
   have := run_enterLoop_outer (P := Tryz.prog) (w := W0) fn TT #[15] asg12 bod12
   rw [hTT] at this
   simpa [hz0, rec12] using this
  · simp [resolve, go_sem]
  · intro f' hf'; trivial
  · have eg := enters_of Tryz.func62 (by kernel_rfl) rfl
   simp [invoke, go_sem, eg]
  · refine (loop12 h6 ha hm hcB.1 hcB.2).mono ?_
   rintro e W2 ⟨⟨v, rfl⟩, hmid⟩
   have fin : ∀ (a' : Act) W3, a' = { tmps := TT, defers := [{ target := .collected (N + 3), args := #[] }] } → (∃ st pe, Mid w ow (N + 2) (N + 3) (N + 4) fn TT st pe (scan s).1 (scan s).2 W3) → K a' W3 := by
    rintro a' W3 rfl ⟨st, pe, hm3⟩
    refine hK _ _ ?_
    obtain ⟨v4, h4, hf4, h5, hf5⟩ := cells12 ha (by rw [hTT]; rfl) (by rw [hTT]; rfl) hm3
    rw [hTT]
    refine wpIn_seq (wpIn_wide.2 (region_allW (by kernel_rfl) (by kernel_rfl) ?_))
    intro w4 e1 e2 e3 e4
    have h4' := (cell_heap e1 ⟨N, 0, none⟩).trans h4
    have h5' := (cell_heap e1 ⟨N + 1, 0, none⟩).trans h5
    have hf4' := (frozen_heap e1 ⟨N, 0, none⟩).trans hf4
    have hf5' := (frozen_heap e1 ⟨N + 1, 0, none⟩).trans hf5
    iterate 4 still_step
    refine wpStill_nil ?_
    gi_wp2
    obtain ⟨owA, hfit, hL3, hD3, hBs, oB, oD, oL⟩ := hm3
    have hD4 : w4.heap[N + 3]? = some (.deferred (some [])) := by rw [e1]; exact hD3
    refine ⟨by simp, .inl ⟨_, _, rfl, run_takeDeferred hD4, ?_⟩⟩
    refine ⟨_, results_tmp2 rfl _ _ _, ?_⟩
    obtain ⟨W5, hW5⟩ : ∃ W5, W5 = w4.putObj (N + 3) (.deferred none) := ⟨_, rfl⟩
    rw [← hW5]
    have hb5 : ∀ b, b ≠ N + 3 → W5.heap[b]? = W3.heap[b]? := fun b hb => by rw [hW5, World.putObj_heap_other hb, e1]
    have hfit5 : Fits Tryz.prog 41 w (owF ow) owA (lst (slots12 (scan s).1 (scan s).2)) { tmps := TT, defers := [] } W5 := by
     refine hfit.turn (by rw [hW5]; exact e2) (by rw [hW5]; exact e3) (by rw [hW5]; exact e4) (by rw [hW5]; simp [e1]) (fun b hlt => ⟨rfl, ?_⟩) (fun b hlt => hfit.new b (by rw [hW5] at hlt; simpa [e1] using hlt))
     by_cases e : b = N + 3
     · exact .inr ⟨by omega, [], by rw [e]; exact oD⟩
     · exact .inl (hb5 b e)
    obtain ⟨vals, hlen, hrun, ow', r, hr, haf, hpl, hsv⟩ := ret_out (rs := [.cell 4 34, .cell 5 3]) (Q := fun res' => res' = .tup [.own (oBats (scan s).1), .val (dI (scan s).2)]) (t := t) good hfit5 hnew (by simp [go_sem, slots12])
    have c4 : W5.cell? ⟨N, 0, none⟩ = some v4 := (World.cell?_of_block (a := ⟨N, 0, none⟩) (hb5 N (by omega))).trans h4
    have c5 : W5.cell? ⟨N + 1, 0, none⟩ = some (.int .i64 (scan s).2) := (World.cell?_of_block (a := ⟨N + 1, 0, none⟩) (hb5 (N + 1) (by omega))).trans h5
    have hvals := hrun (rvRun TT) (fun _ => rfl)
    have hval2 : vals = [v4, .int .i64 (scan s).2] := by
     have hh : (([.cell 4 34, .cell 5 3] : List ResultVar).mapM (rvRun TT)).run Tryz.prog W5 = .ok [v4, .int .i64 (scan s).2] W5 := by
      rw [hTT]
      simp [rvRun, go_sem, c4, c5]
     rw [hh] at hvals
     injection hvals with hvals
     exact hvals.symm
    rw [hval2] at hsv
    subst hr
    exact ⟨_, rfl, ow', haf, hpl, hsv⟩
   rcases hmid with hmid | hmid
   · have hmid' := hmid
    obtain ⟨_, _, hl3, _⟩ := hmid'
    exact ⟨_, _, run_endLoop hl3 (by simp [rec12]), fin _ _ (by rw [hTT]; rfl) ⟨.exhausted, none, hmid.putL ha⟩⟩
   · have hmid' := hmid
    obtain ⟨_, _, hl3, _⟩ := hmid'
    exact ⟨_, _, run_endLoop hl3 (by simp [rec12]), wpIn_exit (fin _ _ (by rw [hTT]; rfl) ⟨.exhausted, some (.exit 0), hmid.putL ha⟩)⟩
 · have h6' : ((6000 : Int) < (s.length : Int)) := by omega
  gi_wp2
  have hsc : scan s = ([], 0) := by unfold scan; rw [if_neg h6]
  refine ⟨_, results_tmp2 rfl _ _ _, _, ow, _, rfl, rfl, ⟨rfl, rfl, rfl, by simp, fun b hb => ⟨Below.heap_alloc _ _ _ hb, rfl⟩, fun b hb => hnew b (by simp at hb; omega)⟩, rfl, fun st a => ?_⟩
  rw [hsc]
  refine ⟨#[.slice none 0 0, .int .i64 0], rfl, rfl, fun k x hx => ?_⟩
  match k, hx with
  | 0, hx => 
   obtain rfl := Option.some.inj hx
   show V _ _ _ (oBats []) [0, t] _
   simp only [V, R]
   exact ⟨none, 0, rfl, by simp, by decide, .inl ⟨rfl, rfl, rfl⟩⟩
  | 1, hx => 
   obtain rfl := Option.some.inj hx
   exact ⟨rfl, rfl⟩
  | k + 2, hx => simp at hx
end Go.Proofs.YtfhfidecmdhkoaaGreatDoor

end
section
set_option maxRecDepth 10000
namespace Go.Proofs.YtfhfidecmdhkoaaGreatDoor
open Go.Dv Go.Pl
theorem fn_impl_AppendEntry (s : Str) (l : List Opn) (hs : s.length ≤ 1048576) (hb : smallB l) : FnOk Tryz.prog 9 [dS s, nBat l] (fun res' => res' = .tup [.val (dS (appLog s l).1), .val (dB (appLog s l).2)]) := by
 refine fn_of good (rs := [.tmp 4, .tmp 5]) Tryz.func9 rfl Tryz.ntmps9 (by decide) (by simp) rfl fun w0 ow0 => ?_
 have hsl := scan_len s
 have hel := entStr_len ((scan s).1.length + 1) l
 obtain ⟨E, hE⟩ : ∃ E, entStr ((scan s).1.length + 1) l = E := ⟨_, rfl⟩
 have ha : appLog s l = if (scan s).2 ≠ s.length ∨ E = [] ∨ s.length + E.length > 6000 then (s, false) else (s ++ E, true) := by rw [appLog, hE]
 rw [hE] at hel
 refine okC_rg good ?_
 simp [go_sem]
 repeat (with_reducible refine And.intro ?_ ?_; first | omega | assumption | (simp only [inI]; omega))
 refine okC_rg good ?_
 simp [go_sem]
 repeat (with_reducible refine And.intro ?_ ?_; first | omega | assumption | (simp only [inI]; omega))
 first | refine callK_of (fn_impl_ScanLog s hs) (by simp [go_sem]) ?_ | refine callK_fz (fn_impl_ScanLog s hs) (by simp [go_sem]) (by simp [go_sem]) ?_
 simp [go_sem]
 repeat (with_reducible refine And.intro ?_ ?_; first | omega | assumption | (simp only [inI]; omega))
 refine okC_rg good ?_
 simp [go_sem]
 repeat (with_reducible refine And.intro ?_ ?_; first | omega | assumption | (simp only [inI]; omega))
 first | refine callK_of (fn_impl_EncodeEntry ((scan s).1.length + 1) l hb) (by simp [go_sem]) ?_ | refine callK_fz (fn_impl_EncodeEntry ((scan s).1.length + 1) l hb) (by simp [go_sem]) (by simp [go_sem]) ?_
 simp [go_sem]
 repeat (with_reducible refine And.intro ?_ ?_; first | omega | assumption | (simp only [inI]; omega))
 refine okC_seq ?_
 refine okC_rg good ?_
 simp [go_sem, hE]
 repeat (with_reducible refine And.intro ?_ ?_; first | omega | assumption | (simp only [inI]; omega))
 first | refine gI_dec (fun f => ?_) (fun f => ?_) | refine gI_ndec (fun f => ?_) (fun f => ?_) | refine gI_of (fun f => ?_) (fun f => ?_)
 · have f' := f; try simp at f'
  simp [go_sem, hE, f]
  repeat (with_reducible refine And.intro ?_ ?_; first | omega | assumption | (simp only [inI]; omega))
  refine okC_if ?_
  simp [go_sem, hE, f]
  refine okC_rg good ?_
  simp [go_sem, hE, f]
  repeat (with_reducible refine And.intro ?_ ?_; first | omega | assumption | (simp only [inI]; omega))
  refine okC_ret ?_
  simp [go_sem, hE, f]
  rw [ha, if_pos (.inl (by omega))]; exact ⟨rfl, rfl⟩
 · have f' := f; try simp at f'
  simp [go_sem, hE, f]
  repeat (with_reducible refine And.intro ?_ ?_; first | omega | assumption | (simp only [inI]; omega))
  first | refine gI_dec (fun g => ?_) (fun g => ?_) | refine gI_ndec (fun g => ?_) (fun g => ?_) | refine gI_of (fun g => ?_) (fun g => ?_)
  · have g' := g; try simp at g'
   simp [go_sem, hE, f, g]
   repeat (with_reducible refine And.intro ?_ ?_; first | omega | assumption | (simp only [inI]; omega))
   refine okC_if ?_
   simp [go_sem, hE, f, g]
   refine okC_rg good ?_
   simp [go_sem, hE, f, g]
   repeat (with_reducible refine And.intro ?_ ?_; first | omega | assumption | (simp only [inI]; omega))
   refine okC_ret ?_
   simp [go_sem, hE, f, g]
   rw [ha, if_pos (.inr (.inl (by simpa using g)))]; exact ⟨rfl, rfl⟩
  · have g' := g; try simp at g'
   simp [go_sem, hE, f, g]
   repeat (with_reducible refine And.intro ?_ ?_; first | omega | assumption | (simp only [inI]; omega))
   refine okC_if ?_
   simp [go_sem, hE, f, g]
   first | refine gC_dec (fun k => ?_) (fun k => ?_) | refine gC_ndec (fun k => ?_) (fun k => ?_) | refine gC_of (fun k => ?_) (fun k => ?_)
   · try simp at k
    refine okC_rg good ?_
    simp [go_sem, hE, f, g]
    repeat (with_reducible refine And.intro ?_ ?_; first | omega | assumption | (simp only [inI]; omega))
    refine okC_ret ?_
    simp [go_sem, hE, f, g]
    rw [ha, if_pos (.inr (.inr (by omega)))]; exact ⟨rfl, rfl⟩
   · try simp at k
    refine okC_skip ?_
    refine okC_rg good ?_
    simp [go_sem, hE, f, g]
    repeat (with_reducible refine And.intro ?_ ?_; first | omega | assumption | (simp only [inI]; omega))
    refine okC_ret ?_
    simp [go_sem, hE, f, g]
    rw [ha, if_neg (by rintro (h | h | h); (omega); (exact g h); omega)]; exact ⟨rfl, rfl⟩
end Go.Proofs.YtfhfidecmdhkoaaGreatDoor

end
section
set_option maxRecDepth 10000
namespace Go.Proofs.YtfhfidecmdhkoaaGreatDoor
open Go.Dv Go.Pl
end Go.Proofs.YtfhfidecmdhkoaaGreatDoor

end
section
set_option maxRecDepth 10000
namespace Go.Er
open Go.ChangeShapes Go.WideShapes Go.ChangeAt Go.RowKit
section
variable {H : Type} {enc : TypeId × Value → H}
theorem law_lifted_open {C : Checked} {f : FuncId} {fn : Func} {s : ChangeSpec} {os : Os} {L : List (String × DataW Unit)} (started : os.Started)
  (own : ownKnob C.prog.godebug = none) (laidOut : laidOutB C.prog = true) (noInit : C.prog.inits.idxOf? f = none) (hfn : C.prog.funcs[f]? = some fn)
  (hvars : s.vars = []) (hspec : ∀ ds : List (DataW H), ds.length = fn.params.size → s.fn H ds = { results := [.lit (.bool true)], args := ds })
  {tb : TypeId} (hres : fn.resultTypes = #[tb]) (hb : C.prog.underlying tb = some .bool)
  (hread : ∀ t ∈ fn.params.toList, C.prog.readableRec t = true ∧ t < C.prog.types.size)
  (witness : ∃ (w : World) (tape : Tape) (i : Input), w.os = os ∧ (w.forCall tape i).Shaped C.prog ∧ i.vars = [] ∧ Input.okWide C.prog (w.forCall tape i) .any w.heap.size f i ∧
   ((s.pre enc C.prog fn [] false (w.forCall tape i).memory i.args ∧ laidMet C.prog L (w.forCall tape i).memory) ∧ sizedMet enc C.prog fn (OpenSpec.ofChange s) false (w.forCall tape i).memory i.args) ∧ ({} : Assume).holds C.prog (lone (Frame.enter C.prog f i.args .normal) [] (w.forCall tape i)))
  (walk : ∀ (W : World) (base : Nat) (args : Array Value) (ds : List (DataW H)) (p : List MemPlace), W.ShapedOpen C.prog →
   (∀ (j : Nat) t v, fn.params[j]? = some t → args[j]? = some v → Value.okWide C.prog W .any base t v) →
   DataW.TrodAll enc C.prog W 0 (fun _ => true) true fn.params.toList args.toList ds p → laidMet C.prog L W →
   Calls C.prog f args W fun e W' => e = .returned (.bool true) ∧ Below W.heap.size W W') :
  ReturnsInHanded {} C os f .any (fun w args => (s.pre enc C.prog fn [] false w args ∧ laidMet C.prog L w) ∧ sizedMet enc C.prog fn (OpenSpec.ofChange s) false w args) (s.post enc C.prog fn false true false false) := by
 refine returnsInHanded_of_calls own started noInit witness ?_
 intro w tape i _ hsh _ hok hpre hholds
 obtain ⟨_, _, _, fn', hfn', _, _, _, _, hval⟩ := hok
 obtain rfl : fn' = fn := Option.some.inj (hfn'.symm.trans hfn)
 obtain ⟨⟨⟨ds, gs, before, hw, hc⟩, hx⟩, hz⟩ := hpre
 have hW := DataW.Whole.of_heap (w' := w.forCall tape i) (by rfl) hw
 have hL : laidMet C.prog L (w.forCall tape i) := hx.of_heap (by rfl)
 have hW' := hW
 obtain ⟨p, q, hA, hV, rfl, _, _⟩ := hW
 rw [hvars] at hV
 obtain ⟨rfl, rfl⟩ := trodVars_none hV
 have hlen := (trodAll_length hA).2
 refine (walk (w.forCall tape i) w.heap.size i.args ds p hsh hval hA hL).mono fun e W' ⟨he, bel⟩ => ?_
 subst he
 refine ChangeSpec.post_blind (v := .bool true) ?_
 refine ⟨ds, [], p ++ [], [], p, [], hW', ?_, ?_, ?_, bel.frame _, fun h => by cases h⟩
 · rw [hspec (ds ++ []) (by simpa using hlen), hres]
  exact trodAll_mk1 (shut_bool hb _)
 · rw [hspec (ds ++ []) (by simpa using hlen)]
  simpa using trodAll_below laidOut bel hread hA
 · rw [hspec (ds ++ []) (by simpa using hlen), hvars]
  rfl
end
end Go.Er
namespace Go.Proofs.YtfhfidecmdhkoaaGreatDoor
open Go.Dv Go.Pl
open Go.ChangeShapes Go.WideShapes Go.ChangeAt Go.RowKit Go.Er
abbrev tables : List (String × DataW Unit) := [("math/bits.deBruijn32tab", Rows.laid_math_bits_deBruijn32tab), ("math/bits.deBruijn64tab", Rows.laid_math_bits_deBruijn64tab), ("internal/strconv.uint64pow10", Rows.laid_internal_strconv_uint64pow10), ("unicode/utf8.acceptRanges", Rows.laid_unicode_utf8_acceptRanges), ("strconv.ErrRange", Rows.laid_strconv_ErrRange), ("strconv.ErrSyntax", Rows.laid_strconv_ErrSyntax), ("unicode/utf8.first", Rows.laid_unicode_utf8_first)]
theorem own : ownKnob Tryz.prog.godebug = none := by kernel_rfl
theorem laidOut : laidOutB Tryz.prog = true := by kernel_rfl
theorem starE : "*" ++ "errors.errorString" = "*errors.errorString" := by decide
theorem row195 (u : TypeId) (h : Tryz.prog.typeName? 3 u = some "*errors.errorString") : u = 195 :=
 typeName_ptr_named (nm := "errors.errorString") (by rw [starE]; kernel_rfl) (by kernel_rfl) (by decide) u (by rw [starE]; exact h)
theorem tabFact {W : World} (hL : laidMet Tryz.prog tables W) : Lib.TabIs Tryz.prog W "internal/strconv.uint64pow10" .u64 Lib.pow10Tab := by
 have h := hL.tail.tail
 rw [show (Rows.laid_internal_strconv_uint64pow10 : DataW Unit) = Lib.tabData .u64 Lib.pow10Tab by kernel_rfl] at h
 exact Lib.tabIs_of_head (g := 3) (by kernel_rfl) (by kernel_rfl) Tryz.underlying190 Tryz.underlying166 (by kernel_rfl) (by kernel_rfl) h
theorem cellOk_int {P : Program} {W : World} {base : Nat} {t : TypeId} {cs : Array Value} (ht : P.cellTypes P.depth t = some [t]) (hu : P.underlying t = some (.int .i64)) (hs : cs.size = 1) (h : Row.ok P W .any base t cs) : ∃ m, cs = #[.int .i64 m] := by
 obtain ⟨ts, h1, _, h3⟩ := h
 rw [ht] at h1
 obtain rfl := Option.some.inj h1
 obtain ⟨v, rfl⟩ := Array.size_eq_one_iff.1 hs
 obtain ⟨u, hu', hv⟩ := h3 0 v rfl
 obtain rfl : t = u := by simpa using hu'
 unfold Cell.ok at hv
 rw [hu] at hv
 cases v with
 | int k n => obtain ⟨rfl, _⟩ := hv; exact ⟨n, rfl⟩
 | _ => exact hv.elim
theorem globFacts {W : World} (hS : W.ShapedOpen Tryz.prog) (hL : laidMet Tryz.prog tables W) : GlobFacts W := by
 refine ⟨tabFact hL, ?_, ?_, ?_⟩
 · obtain ⟨a, s, h, _⟩ := laid_sentinel hL.tail.tail.tail.tail.tail (g := 1) (by kernel_rfl) (by kernel_rfl) Tryz.underlying103 row195 Tryz.underlying195 Tryz.underlying197 rfl rfl Tryz.underlying9 (by kernel_rfl) (by kernel_rfl)
  exact ⟨_, _, h⟩
 · obtain ⟨a, s, h, _⟩ := laid_sentinel hL.tail.tail.tail.tail (g := 2) (by kernel_rfl) (by kernel_rfl) Tryz.underlying103 row195 Tryz.underlying195 Tryz.underlying197 rfl rfl Tryz.underlying9 (by kernel_rfl) (by kernel_rfl)
  exact ⟨_, _, h⟩
 · obtain ⟨cs, h1, h2, h3⟩ := hS.1 0 #[.int .i64 0] 3 (of_decide_eq_true (by kernel_rfl)) (by kernel_rfl)
  obtain ⟨m, rfl⟩ := cellOk_int (by kernel_rfl) Tryz.underlying3 h2 (h3 (by kernel_rfl))
  exact ⟨m, by simp [World.cell?, h1]⟩
theorem glob_heap {W W' : World} (h : ∀ b, b < 8 → W'.heap[b]? = W.heap[b]?) (hg : GlobFacts W) : GlobFacts W' := by
 have hv : ∀ (n : String) (g : Nat), Tryz.prog.globalNamed n = some g → g < 8 → W'.var? Tryz.prog n = W.var? Tryz.prog n := fun n g h1 h2 => by
  unfold World.var?
  rw [h1]
  simp only [Option.bind_some]
  rw [h g h2]
 obtain ⟨h1, h2, h3, m, h4⟩ := hg
 refine ⟨(hv _ 3 (by kernel_rfl) (by decide)).trans h1, ?_, ?_, m, ?_⟩
 · rw [hv _ 1 (by kernel_rfl) (by decide)]; exact h2
 · rw [hv _ 2 (by kernel_rfl) (by decide)]; exact h3
 · exact (World.cell?_of_block (a := ⟨0, 0, none⟩) (h 0 (by decide))).trans h4
theorem laid_of {W : World} (hS : W.ShapedOpen Tryz.prog) (hL : laidMet Tryz.prog tables W) (hsz : 8 ≤ W.heap.size) : Laid W (fun _ => none) := by
 have hg := globFacts hS hL
 refine ⟨(List.range 8).filterMap fun b => (W.heap[b]?).map fun o => (b, o), fun W' h => glob_heap (fun b hb => ?_) hg, fun p hp => ?_⟩
 · have hb2 : b < W.heap.size := by omega
  have h1 := h (b, W.heap[b]) (List.mem_filterMap.2 ⟨b, by simpa using hb, by simp [Array.getElem?_eq_getElem hb2]⟩)
  rw [h1, Array.getElem?_eq_getElem hb2]
 · obtain ⟨b, _, hb⟩ := List.mem_filterMap.1 hp
  simp only [Option.map_eq_some_iff] at hb
  obtain ⟨o, ho, rfl⟩ := hb
  exact ⟨ho, rfl⟩
theorem law_calls {W : World} {f : FuncId} {ds : List D} {args : Array Value} (hf : FnOk Tryz.prog f ds (fun r => r = .val (dB true))) (hlaid : Laid W (fun _ => none)) (hn : args.size = ds.length) (ha : ∀ (i : Nat) (d : D), ds[i]? = some d → V Tryz.prog W (fun _ => none) d.fz [] (args.getD i undef)) :
  Calls Tryz.prog f args W fun e W' => e = .returned (.bool true) ∧ Below W.heap.size W W' := by
 refine (hf W (fun _ => none) args 0 (by decide) hlaid (fun _ _ => rfl) hn ha).mono ?_
 rintro e W' ⟨v, ow', r, rfl, rfl, haf, _, hsv⟩
 have hv := hsv (fun _ => .un) { tmps := #[], defers := [] }
 simp only [SV, V, D.fz, R] at hv
 obtain ⟨hv, _⟩ := hv
 obtain rfl : v = .bool true := by simpa using hv
 exact ⟨rfl, haf.os, haf.tape, haf.output, haf.size, fun b hb => (haf.old b hb).1⟩
def setBlock (h : Array Obj) (i : Nat) (cs : Array Value) : Array Obj := h.modify i fun
 | .cells _ t frozen => .cells cs t frozen
 | o => o
def datCells : DataW Unit → Array Value
 | .agg parts => (parts.flatMap fun | .lit (.int k n) => [Value.int k n] | .agg ps => (ps.map fun | .lit (.int k n) => Value.int k n | _ => undef) | _ => []).toArray
 | _ => #[]
def datText : DataW Unit → ByteArray
 | .iface _ (.ptr (.agg [.lit (.string l)])) => ⟨l.toArray⟩
 | _ => ⟨#[]⟩
noncomputable def low : Nat := (World.holding Tryz.prog default ⟨#[], #[], []⟩).heap.size
noncomputable def laidWorld (os : Os) : World :=
 let w0 := World.holding Tryz.prog os ⟨#[.cells #[.string (datText Rows.laid_strconv_ErrSyntax)] 197, .cells #[.string (datText Rows.laid_strconv_ErrRange)] 197], #[], []⟩
 { w0 with heap := setBlock (setBlock (setBlock (setBlock (setBlock (setBlock (setBlock w0.heap 3 (datCells Rows.laid_internal_strconv_uint64pow10)) 4 (datCells Rows.laid_unicode_utf8_first)) 5 (datCells Rows.laid_unicode_utf8_acceptRanges)) 6 (datCells Rows.laid_math_bits_deBruijn32tab)) 7 (datCells Rows.laid_math_bits_deBruijn64tab)) 1 #[.iface 195 (.pointer (some ⟨low, 0, none⟩))]) 2 #[.iface 195 (.pointer (some ⟨low + 1, 0, none⟩))] }
theorem laid_met (os : Os) (args : Array Value) : laidMet Tryz.prog tables ((laidWorld os).forCall (fun _ _ => 0) ⟨#[], args, []⟩).memory :=
 laidMet_of_run' 8 (by kernel_rfl) (by kernel_rfl)
theorem size8 {W : World} (hS : W.ShapedOpen Tryz.prog) : 8 ≤ W.heap.size := by
 obtain ⟨cs, h1, _⟩ := hS.1 7 (Array.replicate 64 (.int .u8 0)) 208 (of_decide_eq_true (by kernel_rfl)) (by kernel_rfl)
 exact (Array.getElem?_eq_some_iff.1 h1).1
end Go.Proofs.YtfhfidecmdhkoaaGreatDoor

end
section
namespace Go.Dv
open Go.RowKit Go.ChangeShapes
section
variable {H : Type} {enc : TypeId × Value → H} {P : Program} {W : World} {t e : TypeId} {cs : List Value} {k : Nat}
def Tr (enc : TypeId × Value → H) (P : Program) (W : World) (t : TypeId) (cs : List Value) : Prop := ∃ fuel x, DataW.trod enc P W 0 (fun _ => true) true fuel t cs = some x
def Rd (P : Program) (W : World) (d : D) (cs : List Value) : Prop := ∀ l, R P W (fun _ => none) d l cs
theorem rs_of {C : Array Value} : ∀ (xs : List D) (l : List Nat) (i0 off : Nat), (∀ i y, xs[i]? = some y → ∃ vs : List Value, vs.length = k ∧ (∀ j, j < k → C[off + i * k + j]? = vs[j]?) ∧ Rd P W y vs) → Rs P W (fun _ => none) xs l i0 C off k
  | [], _, _, _, _ => by simp only [Rs]
  | x :: xs, l, i0, off, h => by
    obtain ⟨vs, h1, h2, h3⟩ := h 0 x rfl
    simp only [Rs]
    refine ⟨vs, ?_, h1, fun j hj => by simpa using h2 j hj, h3 _, rs_of xs l (i0 + 1) (off + k) fun i y hy => ?_⟩
    · rw [← (h3 []).len]; exact h1
    · obtain ⟨vs, h1, h2, h3⟩ := h (i + 1) y (by simpa using hy)
      exact ⟨vs, h1, fun j hj => by have := h2 j hj; rwa [show off + k + i * k + j = off + (i + 1) * k + j by rw [Nat.succ_mul]; omega], h3⟩
theorem cell_heap {b o : Nat} {v : Value} {C : Array Value} {e : TypeId} {fz : Nat × Nat} (hh : W.heap[b]? = some (.cells C e fz)) (h : W.cell? ⟨b, o, none⟩ = some v) : C[o]? = some v := by
  unfold World.cell? at h
  simpa [hh] using h
theorem heap_cell {b o : Nat} {v : Value} (h : W.cell? ⟨b, o, none⟩ = some v) : ∃ C e fz, W.heap[b]? = some (.cells C e fz) := by
  unfold World.cell? at h
  split at h
  · rename_i C e fz hh; exact ⟨C, e, fz, hh⟩
  · simp at h
theorem open_sl {α : Type} {f : α → D} {Q : α → Prop} (ht : P.underlying t = some (.slice e)) (hk : P.cellsOf e = k) (hk0 : 0 < k)
    (hR : ∀ vs, Tr enc P W e vs → ∃ y, Q y ∧ Rd P W (f y) vs) (h : Tr enc P W t cs) :
    ∃ ys : List α, (ys.length ≤ 9223372036854775807 ∧ ∀ y ∈ ys, Q y) ∧ Rd P W (.sl none (ys.map f)) cs := by
  obtain ⟨fu, x, h⟩ := h
  have h9 : maxLen = 9223372036854775807 := rfl
  rcases DataW.trod_slice ht h with ⟨rfl, _⟩ | ⟨a, len, cap, elems, rest, n, _, rfl, _, _, hl, hm, hlen, hel, _, _⟩
  · exact ⟨[], ⟨by simp, by simp⟩, fun l => by simp only [R]; exact ⟨none, 0, rfl, by simp, by omega, .inl ⟨rfl, rfl, rfl⟩⟩⟩
  · have each : ∀ i : Fin len, ∃ y : α, ∃ vs : List Value, Q y ∧ vs.length = k ∧ (∀ j, (hj : j < vs.length) → W.cell? ((a.add (i.1 * k)).add j) = some vs[j]) ∧ Rd P W (f y) vs := by
      intro i
      have h1 := hel i.1 i.2
      have h2 : i.1 < elems.length := by rw [hlen]; exact i.2
      rw [hk, List.getElem?_eq_getElem h2] at h1
      obtain ⟨vs, hvs, htr⟩ := Option.bind_eq_some_iff.1 h1
      obtain ⟨y, hq, hy⟩ := hR _ ⟨_, _, htr⟩
      have hc : (List.range k).mapM (fun j => W.cell? ((a.add (i.1 * k)).add j)) = some vs := by
        unfold World.cells? at hvs
        rw [if_pos (Nat.zero_le _)] at hvs
        exact hvs
      have hvl : vs.length = k := by rw [mapM_some_length hc, List.length_range]
      refine ⟨y, vs, hq, hvl, fun j hj => ?_, hy⟩
      have h3 := mapM_some_get hc j j (by rw [List.getElem?_range (by omega)])
      rw [h3]
      simp [hj]
    obtain ⟨g, hg⟩ := Classical.axiomOfChoice each
    refine ⟨List.ofFn g, ⟨by simp; omega, fun y hy => ?_⟩, fun l => ?_⟩
    · obtain ⟨i, rfl⟩ := List.mem_ofFn.1 hy
      exact (hg i).choose_spec.1
    · simp only [R]
      refine ⟨some a, cap, by simp, by simp; omega, hm, ?_⟩
      by_cases h0 : len = 0
      · refine .inr (.inl ⟨by simp, ?_⟩)
        apply List.eq_nil_of_length_eq_zero
        simp [h0]
      · obtain ⟨vs0, _, g1, g2, _⟩ := hg ⟨0, by omega⟩
        have hs := World.cell?_spot (g2 0 (by omega))
        obtain ⟨b, o, sp⟩ := a
        obtain rfl : sp = none := by simpa [Addr.add] using hs
        obtain ⟨C, e', fz, hh⟩ := heap_cell (by simpa [Addr.add] using g2 0 (by omega))
        refine .inr (.inr ⟨b, o, k, C, e', fz, rfl, hh, by simp, by simp, rs_of _ _ _ _ fun i y hy => ?_⟩)
        rw [List.getElem?_map, Option.map_eq_some_iff] at hy
        obtain ⟨y', hy, rfl⟩ := hy
        obtain ⟨hi, rfl⟩ := List.getElem?_eq_some_iff.1 hy
        rw [List.getElem_ofFn]
        obtain ⟨vs, _, h1, h2, h3⟩ := hg ⟨i, by simpa using hi⟩
        refine ⟨vs, h1, fun j hj => ?_, h3⟩
        have h5 := h2 j (by omega)
        rw [Addr.add_lit, Addr.add_lit] at h5
        rw [cell_heap hh h5, List.getElem?_eq_getElem (by omega)]
theorem v_sl {o : Option TypeId} {xs : List D} {v : Value} (h : Rd P W (.sl o xs) [v]) : V P W (fun _ => none) (.sl o xs) [] v := by
  simp only [V]
  exact h []
end
end Go.Dv

end
section
namespace Go.Dv
open Go.RowKit
variable [Glob]
section
variable {P : Program} {T : TypeId → TyE} {n : Nat} {w0 : World} {ow0 : Own} {s : St} {K : St → Prop}
def wrapV (op : BinOp) (u v : Value) (K : Value → Prop) : Prop := match u, v with
  | .int k a, .int k' b => k = k' ∧ (match op with
    | .add => K (.int k (k.wrap (a + b)))
    | .sub => K (.int k (k.wrap (a - b)))
    | .mul => K (.int k (k.wrap (a * b)))
    | _ => False)
  | _, _ => False
def stepW (n : Nat) (op : Op) (dst : Option Nat) (s : St) (K : St → Prop) : Prop := match op with
  | .binOp op t x y _ => (∀ u, dst = some u → u < n) ∧ oneK (evS s x) fun u => oneK (evS s y) fun v => wrapV op u v fun r => K (s.setd dst (.val (.one r)))
  | _ => False
theorem wrapV_run {w : World} {op : BinOp} {t : TypeId} {x y : Operand} {u v : Value} {K : Value → Prop} (h : wrapV op u v K) : ∃ r, (binOp op t u v).run P w = .ok r w ∧ r.oneCell' = true ∧ K r ∧ (eqGuard op t x y u v).run P w = .ok () w := by
  unfold wrapV at h
  split at h
  · obtain ⟨rfl, h⟩ := h
    split at h
    · exact ⟨_, by simp only [binOp, Op.intArith, ne_eq, not_true_eq_false, if_false]; rfl, rfl, h, rfl⟩
    · exact ⟨_, by simp only [binOp, Op.intArith, ne_eq, not_true_eq_false, if_false]; rfl, rfl, h, rfl⟩
    · exact ⟨_, by simp only [binOp, Op.intArith, ne_eq, not_true_eq_false, if_false]; rfl, rfl, h, rfl⟩
    · exact h.elim
  · exact h.elim
theorem stepW_ok {o : Oper} (h : stepW n o.op o.dst s K) : Ok P n w0 ow0 o s K := by
  generalize ho : o.op = op at h
  unfold stepW at h
  split at h
  · rename_i op t x y t'
    obtain ⟨h1, h⟩ := h
    obtain ⟨u, hu, h⟩ := oneK_of h
    obtain ⟨v, hv, h⟩ := oneK_of h
    refine ok_value fun a w ow hf => ?_
    obtain ⟨r, g1, g2, g3, hg⟩ := wrapV_run (P := P) (w := w) (t := t) (x := x) (y := y) h
    refine ⟨r, w, ?_, _, g3, ow, ?_⟩
    · unfold execOp; rw [ho]; simp only [(hf.one hu).1, (hf.one hv).1]
      simp only [Sem.run_bind, hg, Result.andThen_ok, g1]
      rfl
    · cases hod : o.dst with
      | none => exact hf
      | some t => exact hf.set (h1 t hod) (SV.val_one g2)
  · exact h.elim
def vcW (P : Program) (T : TypeId → TyE) (n : Nat) (ws : List Nat) : List Oper → Nat → St → (St → Prop) → Prop
  | [], _, s, K => K s
  | o :: l, k, s, K => o.guard = none ∧ (match ws.contains k with
    | true => stepW n o.op o.dst s fun s' => vcW P T n ws l (k + 1) s' K
    | false => stepOp P T n o.op o.dst s fun s' => vcW P T n ws l (k + 1) s' K)
theorem vcW_ok (hG : ∀ t, Good P T t) {ops : Array Oper} {ws : List Nat} : ∀ (l : List Oper) (k : Nat) (s : St) (K : St → Prop), vcW P T n ws l k s K → OkL P n w0 ow0 ops l s K
  | [], _, s, K, h => h
  | o :: l, k, s, K, h => by
    obtain ⟨hgd, h⟩ := h
    have hm : ∀ (s' : St), vcW P T n ws l (k + 1) s' K → OkL P n w0 ow0 ops l s' K := fun s' hs' => vcW_ok hG l (k + 1) s' K hs'
    unfold OkL
    have e : ∀ A B, gK ops o s A B = A := fun A B => by unfold gK; rw [hgd]
    rw [e]
    intro a w hR next Q hn
    split at h
    · exact (stepW_ok h : Ok P n w0 ow0 o s _) a w hR next Q fun s' a' w' hK hR' => hn s' a' w' (hm s' hK) hR'
    · exact (step_ok hG h : Ok P n w0 ow0 o s _) a w hR next Q fun s' a' w' hK hR' => hn s' a' w' (hm s' hK) hR'
theorem okC_rw (hG : ∀ t, Good P T t) (ws : List Nat) {p : Pin} {id : Nat} {ops : Array Oper} {y : Code} {K : Exit → St → Prop} (h : vcW P T n ws ops.toList 0 s (fun s' => @blk St s' ⟨fun s' => OkC P n w0 ow0 p y s' K⟩)) (hd : noDst p ops.toList = true := by rfl) : OkC P n w0 ow0 p (.seq (.region id ops false) y) s K :=
  okC_seq (okC_region (vcW_ok hG _ _ _ _ h) hd)
theorem vcW_nil {ws : List Nat} {k : Nat} : vcW P T n ws [] k s K = K s := Eq.trans rfl rfl
theorem vcW_put {ws : List Nat} {o : Oper} {l : List Oper} {k t : Nat} {x : S} : vcW P T n ws (o :: l) k (s.put t x) K = (o.guard = none ∧ (match ws.contains k with
    | true => stepW n o.op o.dst (s.put t x) fun s' => vcW P T n ws l (k + 1) s' K
    | false => stepOp P T n o.op o.dst (s.put t x) fun s' => vcW P T n ws l (k + 1) s' K)) := Eq.trans rfl rfl
theorem vcW_lst {ws : List Nat} {o : Oper} {l : List Oper} {k : Nat} {L : List (Nat × S)} : vcW P T n ws (o :: l) k (lst L) K = (o.guard = none ∧ (match ws.contains k with
    | true => stepW n o.op o.dst (lst L) fun s' => vcW P T n ws l (k + 1) s' K
    | false => stepOp P T n o.op o.dst (lst L) fun s' => vcW P T n ws l (k + 1) s' K)) := Eq.trans rfl rfl
theorem vcW_kill {ws : List Nat} {o : Oper} {l : List Oper} {k t : Nat} : vcW P T n ws (o :: l) k (s.kill t) K = (o.guard = none ∧ (match ws.contains k with
    | true => stepW n o.op o.dst (s.kill t) fun s' => vcW P T n ws l (k + 1) s' K
    | false => stepOp P T n o.op o.dst (s.kill t) fun s' => vcW P T n ws l (k + 1) s' K)) := Eq.trans rfl rfl
end
attribute [go_sem] vcW_nil vcW_put vcW_lst vcW_kill stepW wrapV
end Go.Dv

end
