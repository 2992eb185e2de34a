/- The law FnExactAppendEntry holds: AppendEntry of the program answers as AppendEntry of the reference does, for every log and every batch. No condition beyond the given statement's own. -/
import Derived.Test.YtfhfidecmdhkoaaGreatDoorM7
import Derived.Test.YtfhfidecmdhkoaaGreatDoorM5
import Derived.RangeFuncIn
import Derived.RangeFuncRecord
import Derived.RangeFuncCalls
import Derived.TacticsIn
import Derived.RangeFuncNested
import Derived.RangeFuncBound
import Derived.RangeFuncLeaves
import Derived.Shelf.Abstract
import Derived.Shelf.RegionOpen
import Derived.WalkKit
import Derived.OwnWalkIn
import Derived.TacticsInMore
import Derived.LoopNIn
import Derived.LoopIn
import Derived.StillTail
import Derived.StillTailTactics
import Derived.Test.YtfhfidecmdhkoaaGreatDoorCards
import Derived.Test.YtfhfidecmdhkoaaGreatDoorTie
import Derived.Test.YtfhfidecmdhkoaaGreatDoorM1
import Derived.LaidLaws
import Derived.Lib.LaidTab
import Derived.Stop.LaidErr
import Derived.Handed
import Derived.ChangeArms
import Derived.ChangeShapes
set_option linter.unusedVariables false
set_option linter.unusedSimpArgs false
section
set_option linter.unusedVariables false
set_option linter.unusedSimpArgs false
set_option maxRecDepth 10000
namespace Go.Proofs.YtfhfidecmdhkoaaGreatDoor
open Go.Dv Go.Pl
def fillD {α : Type} (f : α → D) (z : D) (l : List α) (i : Nat) : List D := (l.take i).map f ++ List.replicate (l.length - i) z
section
variable {α : Type} {f : α → D} {z : D} {l : List α} {i : Nat} {c : α}
theorem fillD_len (h : i ≤ l.length) : (fillD f z l i).length = l.length := by simp [fillD]; omega
theorem fillD_get (h : i < l.length) : (fillD f z l i)[i]? = some z := by
  unfold fillD
  rw [List.getElem?_append_right (by simp; omega)]
  rw [List.length_map, List.length_take, Nat.min_eq_left (by omega), Nat.sub_self, List.getElem?_replicate, if_pos (by omega)]
theorem fillD_set (h : l[i]? = some c) : (fillD f z l i).set i (f c) = fillD f z l (i + 1) := by
  have hi := getElem?_lt h
  unfold fillD
  have hl : ((l.take i).map f).length = i := by simp; omega
  rw [List.set_append, if_neg (by omega), hl, Nat.sub_self, map_snoc f h, show l.length - i = (l.length - (i + 1)) + 1 by omega, List.replicate_succ]
  simp
theorem fillD_zero : List.replicate l.length z = fillD f z l 0 := by simp [fillD]
theorem fillD_all : fillD f z l l.length = l.map f := by simp [fillD]
end
theorem fn_laws_toVerdict (v : Ver) : FnOk Tryz.prog 90 [dVer v] (fun res' => res' = .val (dVer v)) := by
  refine fn_of good (rs := [.cell 2 79]) Tryz.func90 rfl Tryz.ntmps90 (by decide) (by simp) rfl fun w0 ow0 => ?_
  refine okC_rg good ?_
  simp [go_sem]
  repeat (with_reducible refine And.intro ?_ ?_; first | omega | assumption | (simp only [inI]; omega))
  refine okC_rg good ?_
  simp [go_sem]
  repeat (with_reducible refine And.intro ?_ ?_; first | omega | assumption | (simp only [inI]; omega))
  refine okC_rg good ?_
  simp [go_sem]
  repeat (with_reducible refine And.intro ?_ ?_; first | omega | assumption | (simp only [inI]; omega))
  refine okC_rg good ?_
  simp [go_sem]
  repeat (with_reducible refine And.intro ?_ ?_; first | omega | assumption | (simp only [inI]; omega))
  refine okC_rg good ?_
  simp [go_sem]
  repeat (with_reducible refine And.intro ?_ ?_; first | omega | assumption | (simp only [inI]; omega))
  refine okC_rg good ?_
  simp [go_sem]
  repeat (with_reducible refine And.intro ?_ ?_; first | omega | assumption | (simp only [inI]; omega))
  refine okC_rg good ?_
  simp [go_sem]
  repeat (with_reducible refine And.intro ?_ ?_; first | omega | assumption | (simp only [inI]; omega))
  refine okC_ret ?_
  simp [go_sem]
  all_goals first | done | omega | grind | (simp; omega) | (simp_all; done) | (simp_all; omega)
theorem fn_laws_toStringS (l : List Str) (hl : l.length ≤ 1048576) : FnOk Tryz.prog 134 [nStrs l] (fun res' => res' = .own (oStrs l)) := by
  refine fn_of good (rs := [.tmp 2]) Tryz.func134 rfl Tryz.ntmps134 (by decide) (by simp) rfl fun w0 ow0 => ?_
  have hz := fillD_zero (f := dS) (z := dS []) (l := l)
  refine okC_rg good ?_
  simp [go_sem, hz]
  repeat (with_reducible refine And.intro ?_ ?_; first | omega | assumption | (simp only [inI]; omega))
  refine okC_rg good ?_
  simp [go_sem, hz]
  repeat (with_reducible refine And.intro ?_ ?_; first | omega | assumption | (simp only [inI]; omega))
  refine okC_seq ?_
  refine okC_rg good ?_
  simp [go_sem, hz]
  repeat (with_reducible refine And.intro ?_ ?_; first | omega | assumption | (simp only [inI]; omega))
  refine okC_block ?_
  refine okC_rounds (fun (i : Nat) => [(0, .val (nStrs l)), (3, .own (.sl (some 9) (fillD dS (dS []) l i))), (4, .val (dI i))]) (fun (i : Nat) => l.length - i) (fun (i : Nat) => (i ≤ l.length)) (0) [] (by first | omega | rfl | (simp; done) | (simp; omega) | simp) (by simp [go_sem, hz]) ?_
  rintro i h1 K1 hK1
  refine okC_seq ?_
  refine okC_rg good ?_
  simp [go_sem]
  repeat (with_reducible refine And.intro ?_ ?_; first | omega | assumption | (simp only [inI]; omega))
  refine okC_if ?_
  simp [go_sem]
  first | refine gC_dec (fun a => ?_) (fun a => ?_) | refine gC_ndec (fun a => ?_) (fun a => ?_) | refine gC_of (fun a => ?_) (fun a => ?_)
  · try simp at a
    refine okC_skip ?_
    refine okC_seq ?_
    refine okC_block ?_
    obtain ⟨c, hc⟩ := at_of (l := l) (i := i) (by omega)
    have hg := fillD_get (f := dS) (z := dS []) (l := l) (i := i) (by omega)
    have hfl := fillD_len (f := dS) (z := dS []) h1
    have hst := fillD_set (f := dS) (z := dS []) hc
    refine okC_rg1 good ?_
    simp [go_sem, hc, hg, hfl, hst]
    repeat (with_reducible refine And.intro ?_ ?_; first | omega | assumption | (simp only [inI]; omega))
    refine okC_rg1 good ?_
    simp [go_sem, hc, hg, hfl, hst]
    repeat (with_reducible refine And.intro ?_ ?_; first | omega | assumption | (simp only [inI]; omega))
    refine normalE hK1 ⟨i + 1, [], (by first | omega | (simp; omega) | grind), (by show _ < _; first | omega | simp; omega), (by simp [go_sem, hc, hg, hfl, hst])⟩
  · try simp at a
    refine okC_exit (show K1 _ _ from exitE hK1 ?_)
    obtain rfl : i = l.length := by omega
    have hfa := fillD_all (f := dS) (z := dS []) (l := l)
    refine okC_rg good ?_
    simp [go_sem, hfa]
    repeat (with_reducible refine And.intro ?_ ?_; first | omega | assumption | (simp only [inI]; omega))
    refine okC_ret ?_
    simp [go_sem, hfa]
    all_goals first | done | omega | grind | (simp; omega) | (simp_all; done) | (simp_all; omega)
theorem fn_laws_toRecord (r : Rec) (hl : r.fields.length ≤ 1048576) : FnOk Tryz.prog 89 [nRec r] (fun res' => res' = .own (oRec r)) := by
  refine fn_of good (rs := [.cell 2 77]) Tryz.func89 rfl Tryz.ntmps89 (by decide) (by simp) rfl fun w0 ow0 => ?_
  refine okC_rg good ?_
  simp [go_sem]
  repeat (with_reducible refine And.intro ?_ ?_; first | omega | assumption | (simp only [inI]; omega))
  refine okC_rg good ?_
  simp [go_sem]
  repeat (with_reducible refine And.intro ?_ ?_; first | omega | assumption | (simp only [inI]; omega))
  refine okC_rg good ?_
  simp [go_sem]
  repeat (with_reducible refine And.intro ?_ ?_; first | omega | assumption | (simp only [inI]; omega))
  refine okC_rg good ?_
  simp [go_sem]
  repeat (with_reducible refine And.intro ?_ ?_; first | omega | assumption | (simp only [inI]; omega))
  refine okC_rg good ?_
  simp [go_sem]
  repeat (with_reducible refine And.intro ?_ ?_; first | omega | assumption | (simp only [inI]; omega))
  refine okC_rg good ?_
  simp [go_sem]
  repeat (with_reducible refine And.intro ?_ ?_; first | omega | assumption | (simp only [inI]; omega))
  first | refine callK_of (fn_laws_toStringS r.fields hl) (by simp [go_sem]) ?_ | refine callK_fz (fn_laws_toStringS r.fields hl) (by simp [go_sem]) (by simp [go_sem]) ?_
  simp [go_sem]
  repeat (with_reducible refine And.intro ?_ ?_; first | omega | assumption | (simp only [inI]; omega))
  refine okC_rg good ?_
  simp [go_sem]
  repeat (with_reducible refine And.intro ?_ ?_; first | omega | assumption | (simp only [inI]; omega))
  refine okC_ret ?_
  simp [go_sem]
  all_goals first | done | omega | grind | (simp; omega) | (simp_all; done) | (simp_all; omega)
theorem fn_laws_toOp (o : Opn) (hl : o.rc.fields.length ≤ 1048576) : FnOk Tryz.prog 58 [nOp o] (fun res' => res' = .own (oOp o)) := by
  refine fn_of good (rs := [.cell 2 81]) Tryz.func58 rfl Tryz.ntmps58 (by decide) (by simp) rfl fun w0 ow0 => ?_
  refine okC_rg good ?_
  simp [go_sem]
  repeat (with_reducible refine And.intro ?_ ?_; first | omega | assumption | (simp only [inI]; omega))
  refine okC_rg good ?_
  simp [go_sem]
  repeat (with_reducible refine And.intro ?_ ?_; first | omega | assumption | (simp only [inI]; omega))
  refine okC_rg good ?_
  simp [go_sem]
  repeat (with_reducible refine And.intro ?_ ?_; first | omega | assumption | (simp only [inI]; omega))
  refine okC_rg good ?_
  simp [go_sem]
  repeat (with_reducible refine And.intro ?_ ?_; first | omega | assumption | (simp only [inI]; omega))
  first | refine callK_of (fn_laws_toRecord o.rc hl) (by simp [go_sem]) ?_ | refine callK_fz (fn_laws_toRecord o.rc hl) (by simp [go_sem]) (by simp [go_sem]) ?_
  simp [go_sem]
  repeat (with_reducible refine And.intro ?_ ?_; first | omega | assumption | (simp only [inI]; omega))
  refine okC_rg good ?_
  simp [go_sem]
  repeat (with_reducible refine And.intro ?_ ?_; first | omega | assumption | (simp only [inI]; omega))
  first | refine callK_of (fn_laws_toVerdict o.ver) (by simp [go_sem]) ?_ | refine callK_fz (fn_laws_toVerdict o.ver) (by simp [go_sem]) (by simp [go_sem]) ?_
  simp [go_sem]
  repeat (with_reducible refine And.intro ?_ ?_; first | omega | assumption | (simp only [inI]; omega))
  refine okC_rg good ?_
  simp [go_sem]
  repeat (with_reducible refine And.intro ?_ ?_; first | omega | assumption | (simp only [inI]; omega))
  refine okC_ret ?_
  simp [go_sem]
  all_goals first | done | omega | grind | (simp; omega) | (simp_all; done) | (simp_all; omega)
def zOp : D := oOp ⟨0, ⟨0, 0, 0, []⟩, ⟨0, 0, false, 0⟩⟩
theorem fw_zero {l : List Opn} : List.replicate l.length (.agg [dI 0, .agg [dI 0, dI 0, dI 0, .sl (some 9) []], .agg [dI 0, dI 0, dB false, dI 0]]) = fillD oOp zOp l 0 := by
  rw [← fillD_zero]; rfl
theorem fn_laws_toOpS (l : List Opn) (hl : l.length ≤ 1048576) (hs : ∀ o ∈ l, o.rc.fields.length ≤ 1048576) : FnOk Tryz.prog 29 [nOps l] (fun res' => res' = .own (oOps l)) := by
  refine fn_of good (rs := [.tmp 2]) Tryz.func29 rfl Tryz.ntmps29 (by decide) (by simp) rfl fun w0 ow0 => ?_
  have hz := fw_zero (l := l)
  refine okC_rg good ?_
  simp [go_sem, hz]
  repeat (with_reducible refine And.intro ?_ ?_; first | omega | assumption | (simp only [inI]; omega))
  refine okC_rg good ?_
  simp [go_sem, hz]
  repeat (with_reducible refine And.intro ?_ ?_; first | omega | assumption | (simp only [inI]; omega))
  refine okC_seq ?_
  refine okC_rg good ?_
  simp [go_sem, hz]
  repeat (with_reducible refine And.intro ?_ ?_; first | omega | assumption | (simp only [inI]; omega))
  refine okC_block ?_
  refine okC_rounds (fun (i : Nat) => [(0, .val (nOps l)), (3, .own (.sl (some 81) (fillD oOp zOp l i))), (4, .val (dI i))]) (fun (i : Nat) => l.length - i) (fun (i : Nat) => (i ≤ l.length)) (0) [] (by first | omega | rfl | (simp; done) | (simp; omega) | simp) (by simp [go_sem, hz]) ?_
  rintro i h1 K1 hK1
  refine okC_seq ?_
  refine okC_rg good ?_
  simp [go_sem]
  repeat (with_reducible refine And.intro ?_ ?_; first | omega | assumption | (simp only [inI]; omega))
  refine okC_if ?_
  simp [go_sem]
  first | refine gC_dec (fun a => ?_) (fun a => ?_) | refine gC_ndec (fun a => ?_) (fun a => ?_) | refine gC_of (fun a => ?_) (fun a => ?_)
  · try simp at a
    refine okC_skip ?_
    refine okC_seq ?_
    refine okC_block ?_
    obtain ⟨c, hc⟩ := at_of (l := l) (i := i) (by omega)
    have hg : (fillD oOp zOp l i)[i]? = some (.agg [dI 0, .agg [dI 0, dI 0, dI 0, .sl (some 9) []], .agg [dI 0, dI 0, dB false, dI 0]]) := fillD_get (by omega)
    have hfl := fillD_len (f := oOp) (z := zOp) h1
    have hst := fillD_set (f := oOp) (z := zOp) hc
    refine okC_rg1 good ?_
    simp [go_sem, hc, hg, hfl]
    repeat (with_reducible refine And.intro ?_ ?_; first | omega | assumption | (simp only [inI]; omega))
    first | refine callK_of (fn_laws_toOp c (hs c (List.mem_of_getElem? hc))) (by simp [go_sem]) ?_ | refine callK_fz (fn_laws_toOp c (hs c (List.mem_of_getElem? hc))) (by simp [go_sem]) (by simp [go_sem]) ?_
    simp [go_sem, hc, hg, hfl]
    repeat (with_reducible refine And.intro ?_ ?_; first | omega | assumption | (simp only [inI]; omega))
    refine okC_rg1 good ?_
    simp [go_sem, hc, hg, hfl, hst]
    repeat (with_reducible refine And.intro ?_ ?_; first | omega | assumption | (simp only [inI]; omega))
    refine normalE hK1 ⟨i + 1, [], (by first | omega | (simp; omega) | grind), (by show _ < _; first | omega | simp; omega), (by simp [go_sem, hc, hg, hfl, hst])⟩
  · try simp at a
    refine okC_exit (show K1 _ _ from exitE hK1 ?_)
    obtain rfl : i = l.length := by omega
    have hfa := fillD_all (f := oOp) (z := zOp) (l := l)
    refine okC_rg good ?_
    simp [go_sem, hfa]
    repeat (with_reducible refine And.intro ?_ ?_; first | omega | assumption | (simp only [inI]; omega))
    refine okC_ret ?_
    simp [go_sem, hfa]
    all_goals first | done | omega | grind | (simp; omega) | (simp_all; done) | (simp_all; omega)
theorem fn_laws_toBatch (l : List Opn) (hl : fitB l 1048576) : FnOk Tryz.prog 8 [nBat l] (fun res' => res' = .own (oBat l)) := by
  refine fn_of good (rs := [.cell 2 30]) Tryz.func8 rfl Tryz.ntmps8 (by decide) (by simp) rfl fun w0 ow0 => ?_
  have h1 := hl.1
  refine okC_rg good ?_
  simp [go_sem]
  repeat (with_reducible refine And.intro ?_ ?_; first | omega | assumption | (simp only [inI]; omega))
  refine okC_rg good ?_
  simp [go_sem]
  repeat (with_reducible refine And.intro ?_ ?_; first | omega | assumption | (simp only [inI]; omega))
  refine okC_rg good ?_
  simp [go_sem]
  repeat (with_reducible refine And.intro ?_ ?_; first | omega | assumption | (simp only [inI]; omega))
  first | refine callK_of (fn_laws_toOpS l (by omega) (fun o ho => by have := (hl.2 o ho).1; omega)) (by simp [go_sem]) ?_ | refine callK_fz (fn_laws_toOpS l (by omega) (fun o ho => by have := (hl.2 o ho).1; omega)) (by simp [go_sem]) (by simp [go_sem]) ?_
  simp [go_sem]
  repeat (with_reducible refine And.intro ?_ ?_; first | omega | assumption | (simp only [inI]; omega))
  refine okC_rg good ?_
  simp [go_sem]
  repeat (with_reducible refine And.intro ?_ ?_; first | omega | assumption | (simp only [inI]; omega))
  refine okC_ret ?_
  simp [go_sem]
  all_goals first | done | omega | grind | (simp; omega) | (simp_all; done) | (simp_all; omega)
theorem fn_laws_eqStringS (l : List Str) (hl : l.length ≤ 1048576) : FnOk Tryz.prog 135 [nStrs l, nStrs l] (fun res' => res' = .val (dB true)) := by
  refine fn_of good (rs := [.tmp 4]) Tryz.func135 rfl Tryz.ntmps135 (by decide) (by simp) rfl fun w0 ow0 => ?_
  refine okC_rg good ?_
  simp [go_sem]
  repeat (with_reducible refine And.intro ?_ ?_; first | omega | assumption | (simp only [inI]; omega))
  refine okC_seq ?_
  refine okC_rg good ?_
  simp [go_sem]
  repeat (with_reducible refine And.intro ?_ ?_; first | omega | assumption | (simp only [inI]; omega))
  refine okC_if ?_
  simp [go_sem]
  refine okC_skip ?_
  refine okC_seq ?_
  refine okC_rg good ?_
  simp [go_sem]
  repeat (with_reducible refine And.intro ?_ ?_; first | omega | assumption | (simp only [inI]; omega))
  refine okC_block ?_
  refine okC_rounds (fun (i : Nat) => [(0, .val (nStrs l)), (1, .val (nStrs l)), (5, .val (dI i))]) (fun (i : Nat) => l.length - i) (fun (i : Nat) => (i ≤ l.length)) (0) [] (by first | omega | rfl | (simp; done) | (simp; omega) | simp) (by simp [go_sem]) ?_
  rintro i h1 K1 hK1
  refine okC_seq ?_
  refine okC_rg good ?_
  simp [go_sem]
  repeat (with_reducible refine And.intro ?_ ?_; first | omega | assumption | (simp only [inI]; omega))
  refine okC_if ?_
  simp [go_sem]
  first | refine gC_dec (fun a => ?_) (fun a => ?_) | refine gC_ndec (fun a => ?_) (fun a => ?_) | refine gC_of (fun a => ?_) (fun a => ?_)
  · try simp at a
    refine okC_skip ?_
    refine okC_seq ?_
    refine okC_block ?_
    obtain ⟨c, hc⟩ := at_of (l := l) (i := i) (by omega)
    refine okC_dr good rfl (by decide) (by kernel_rfl) ?_
    simp [go_sem, hc]
    repeat (with_reducible refine And.intro ?_ ?_; first | omega | assumption | (simp only [inI]; omega))
    refine okC_if ?_
    simp [go_sem, hc]
    refine okC_skip ?_
    refine okC_rg1 good ?_
    simp [go_sem, hc]
    repeat (with_reducible refine And.intro ?_ ?_; first | omega | assumption | (simp only [inI]; omega))
    refine normalE hK1 ⟨i + 1, [], (by first | omega | (simp; omega) | grind), (by show _ < _; first | omega | simp; omega), (by simp [go_sem, hc])⟩
  · try simp at a
    refine okC_exit (show K1 _ _ from exitE hK1 ?_)
    refine okC_rg good ?_
    simp [go_sem]
    repeat (with_reducible refine And.intro ?_ ?_; first | omega | assumption | (simp only [inI]; omega))
    refine okC_ret ?_
    simp [go_sem]
    all_goals first | done | omega | grind | (simp; omega) | (simp_all; done) | (simp_all; omega)
theorem fn_laws_eqRecord (r : Rec) (hl : r.fields.length ≤ 1048576) : FnOk Tryz.prog 91 [nRec r, nRec r] (fun res' => res' = .val (dB true)) := by
  refine fn_of good (rs := [.tmp 4]) Tryz.func91 rfl Tryz.ntmps91 (by decide) (by simp) rfl fun w0 ow0 => ?_
  refine okC_rg good ?_
  simp [go_sem]
  repeat (with_reducible refine And.intro ?_ ?_; first | omega | assumption | (simp only [inI]; omega))
  refine okC_seq ?_
  refine okC_rg good ?_
  simp [go_sem]
  repeat (with_reducible refine And.intro ?_ ?_; first | omega | assumption | (simp only [inI]; omega))
  refine okC_if ?_
  simp [go_sem]
  refine okC_skip ?_
  refine okC_seq ?_
  refine okC_rg good ?_
  simp [go_sem]
  repeat (with_reducible refine And.intro ?_ ?_; first | omega | assumption | (simp only [inI]; omega))
  refine okC_if ?_
  simp [go_sem]
  refine okC_skip ?_
  refine okC_seq ?_
  refine okC_rg good ?_
  simp [go_sem]
  repeat (with_reducible refine And.intro ?_ ?_; first | omega | assumption | (simp only [inI]; omega))
  refine okC_if ?_
  simp [go_sem]
  refine okC_skip ?_
  refine okC_seq ?_
  refine okC_rg good ?_
  simp [go_sem]
  repeat (with_reducible refine And.intro ?_ ?_; first | omega | assumption | (simp only [inI]; omega))
  first | refine callK_of (fn_laws_eqStringS r.fields hl) (by simp [go_sem]) ?_ | refine callK_fz (fn_laws_eqStringS r.fields hl) (by simp [go_sem]) (by simp [go_sem]) ?_
  simp [go_sem]
  repeat (with_reducible refine And.intro ?_ ?_; first | omega | assumption | (simp only [inI]; omega))
  refine okC_if ?_
  simp [go_sem]
  refine okC_skip ?_
  refine okC_rg good ?_
  simp [go_sem]
  repeat (with_reducible refine And.intro ?_ ?_; first | omega | assumption | (simp only [inI]; omega))
  refine okC_ret ?_
  simp [go_sem]
  all_goals first | done | omega | grind | (simp; omega) | (simp_all; done) | (simp_all; omega)
theorem fn_laws_eqVerdict (v : Ver) : FnOk Tryz.prog 92 [dVer v, dVer v] (fun res' => res' = .val (dB true)) := by
  refine fn_of good (rs := [.tmp 4]) Tryz.func92 rfl Tryz.ntmps92 (by decide) (by simp) rfl fun w0 ow0 => ?_
  refine okC_rg good ?_
  simp [go_sem]
  repeat (with_reducible refine And.intro ?_ ?_; first | omega | assumption | (simp only [inI]; omega))
  refine okC_seq ?_
  refine okC_rg good ?_
  simp [go_sem]
  repeat (with_reducible refine And.intro ?_ ?_; first | omega | assumption | (simp only [inI]; omega))
  refine okC_if ?_
  simp [go_sem]
  refine okC_skip ?_
  refine okC_seq ?_
  refine okC_rg good ?_
  simp [go_sem]
  repeat (with_reducible refine And.intro ?_ ?_; first | omega | assumption | (simp only [inI]; omega))
  refine okC_if ?_
  simp [go_sem]
  refine okC_skip ?_
  refine okC_seq ?_
  refine okC_rg good ?_
  simp [go_sem]
  repeat (with_reducible refine And.intro ?_ ?_; first | omega | assumption | (simp only [inI]; omega))
  refine okC_if ?_
  simp [go_sem]
  refine okC_skip ?_
  refine okC_seq ?_
  refine okC_rg good ?_
  simp [go_sem]
  repeat (with_reducible refine And.intro ?_ ?_; first | omega | assumption | (simp only [inI]; omega))
  refine okC_if ?_
  simp [go_sem]
  refine okC_skip ?_
  refine okC_rg good ?_
  simp [go_sem]
  repeat (with_reducible refine And.intro ?_ ?_; first | omega | assumption | (simp only [inI]; omega))
  refine okC_ret ?_
  simp [go_sem]
  all_goals first | done | omega | grind | (simp; omega) | (simp_all; done) | (simp_all; omega)
theorem fn_laws_eqOp (o : Opn) (hl : o.rc.fields.length ≤ 1048576) : FnOk Tryz.prog 59 [nOp o, nOp o] (fun res' => res' = .val (dB true)) := by
  refine fn_of good (rs := [.tmp 4]) Tryz.func59 rfl Tryz.ntmps59 (by decide) (by simp) rfl fun w0 ow0 => ?_
  refine okC_rg good ?_
  simp [go_sem]
  repeat (with_reducible refine And.intro ?_ ?_; first | omega | assumption | (simp only [inI]; omega))
  refine okC_seq ?_
  refine okC_rg good ?_
  simp [go_sem]
  repeat (with_reducible refine And.intro ?_ ?_; first | omega | assumption | (simp only [inI]; omega))
  refine okC_if ?_
  simp [go_sem]
  refine okC_skip ?_
  refine okC_seq ?_
  refine okC_rg good ?_
  simp [go_sem]
  repeat (with_reducible refine And.intro ?_ ?_; first | omega | assumption | (simp only [inI]; omega))
  first | refine callK_of (fn_laws_eqRecord o.rc hl) (by simp [go_sem]) ?_ | refine callK_fz (fn_laws_eqRecord o.rc hl) (by simp [go_sem]) (by simp [go_sem]) ?_
  simp [go_sem]
  repeat (with_reducible refine And.intro ?_ ?_; first | omega | assumption | (simp only [inI]; omega))
  refine okC_if ?_
  simp [go_sem]
  refine okC_skip ?_
  refine okC_seq ?_
  refine okC_rg good ?_
  simp [go_sem]
  repeat (with_reducible refine And.intro ?_ ?_; first | omega | assumption | (simp only [inI]; omega))
  first | refine callK_of (fn_laws_eqVerdict o.ver) (by simp [go_sem]) ?_ | refine callK_fz (fn_laws_eqVerdict o.ver) (by simp [go_sem]) (by simp [go_sem]) ?_
  simp [go_sem]
  repeat (with_reducible refine And.intro ?_ ?_; first | omega | assumption | (simp only [inI]; omega))
  refine okC_if ?_
  simp [go_sem]
  refine okC_skip ?_
  refine okC_rg good ?_
  simp [go_sem]
  repeat (with_reducible refine And.intro ?_ ?_; first | omega | assumption | (simp only [inI]; omega))
  refine okC_ret ?_
  simp [go_sem]
  all_goals first | done | omega | grind | (simp; omega) | (simp_all; done) | (simp_all; omega)
theorem fn_laws_eqOpS (l : List Opn) (hl : l.length ≤ 1048576) (hs : ∀ o ∈ l, o.rc.fields.length ≤ 1048576) : FnOk Tryz.prog 30 [nOps l, nOps l] (fun res' => res' = .val (dB true)) := by
  refine fn_of good (rs := [.tmp 4]) Tryz.func30 rfl Tryz.ntmps30 (by decide) (by simp) rfl fun w0 ow0 => ?_
  refine okC_rg good ?_
  simp [go_sem]
  repeat (with_reducible refine And.intro ?_ ?_; first | omega | assumption | (simp only [inI]; omega))
  refine okC_seq ?_
  refine okC_rg good ?_
  simp [go_sem]
  repeat (with_reducible refine And.intro ?_ ?_; first | omega | assumption | (simp only [inI]; omega))
  refine okC_if ?_
  simp [go_sem]
  refine okC_skip ?_
  refine okC_seq ?_
  refine okC_rg good ?_
  simp [go_sem]
  repeat (with_reducible refine And.intro ?_ ?_; first | omega | assumption | (simp only [inI]; omega))
  refine okC_block ?_
  refine okC_rounds (fun (i : Nat) => [(0, .val (nOps l)), (1, .val (nOps l)), (5, .val (dI i))]) (fun (i : Nat) => l.length - i) (fun (i : Nat) => (i ≤ l.length)) (0) [] (by first | omega | rfl | (simp; done) | (simp; omega) | simp) (by simp [go_sem]) ?_
  rintro i h1 K1 hK1
  refine okC_seq ?_
  refine okC_rg good ?_
  simp [go_sem]
  repeat (with_reducible refine And.intro ?_ ?_; first | omega | assumption | (simp only [inI]; omega))
  refine okC_if ?_
  simp [go_sem]
  first | refine gC_dec (fun a => ?_) (fun a => ?_) | refine gC_ndec (fun a => ?_) (fun a => ?_) | refine gC_of (fun a => ?_) (fun a => ?_)
  · try simp at a
    refine okC_skip ?_
    refine okC_seq ?_
    refine okC_block ?_
    obtain ⟨c, hc⟩ := at_of (l := l) (i := i) (by omega)
    refine okC_dr good rfl (by decide) (by kernel_rfl) ?_
    simp [go_sem, hc]
    repeat (with_reducible refine And.intro ?_ ?_; first | omega | assumption | (simp only [inI]; omega))
    first | refine callD_of (fn_laws_eqOp c (hs c (List.mem_of_getElem? hc))) (by simp [go_sem]) rfl ?_ | refine callD_fz (fn_laws_eqOp c (hs c (List.mem_of_getElem? hc))) (by simp [go_sem]) (by simp [go_sem]) rfl ?_
    simp [go_sem, hc]
    repeat (with_reducible refine And.intro ?_ ?_; first | omega | assumption | (simp only [inI]; omega))
    refine okC_if ?_
    simp [go_sem, hc]
    refine okC_skip ?_
    refine okC_rg1 good ?_
    simp [go_sem, hc]
    repeat (with_reducible refine And.intro ?_ ?_; first | omega | assumption | (simp only [inI]; omega))
    refine normalE hK1 ⟨i + 1, [], (by first | omega | (simp; omega) | grind), (by show _ < _; first | omega | simp; omega), (by simp [go_sem, hc])⟩
  · try simp at a
    refine okC_exit (show K1 _ _ from exitE hK1 ?_)
    refine okC_rg good ?_
    simp [go_sem]
    repeat (with_reducible refine And.intro ?_ ?_; first | omega | assumption | (simp only [inI]; omega))
    refine okC_ret ?_
    simp [go_sem]
    all_goals first | done | omega | grind | (simp; omega) | (simp_all; done) | (simp_all; omega)
theorem fn_laws_eqBatch (l : List Opn) (hl : l.length ≤ 1048576) (hs : ∀ o ∈ l, o.rc.fields.length ≤ 1048576) : FnOk Tryz.prog 10 [nBat l, nBat l] (fun res' => res' = .val (dB true)) := by
  refine fn_of good (rs := [.tmp 4]) Tryz.func10 rfl Tryz.ntmps10 (by decide) (by simp) rfl fun w0 ow0 => ?_
  refine okC_rg good ?_
  simp [go_sem]
  repeat (with_reducible refine And.intro ?_ ?_; first | omega | assumption | (simp only [inI]; omega))
  refine okC_seq ?_
  refine okC_rg good ?_
  simp [go_sem]
  repeat (with_reducible refine And.intro ?_ ?_; first | omega | assumption | (simp only [inI]; omega))
  first | refine callK_of (fn_laws_eqOpS l hl hs) (by simp [go_sem]) ?_ | refine callK_fz (fn_laws_eqOpS l hl hs) (by simp [go_sem]) (by simp [go_sem]) ?_
  simp [go_sem]
  repeat (with_reducible refine And.intro ?_ ?_; first | omega | assumption | (simp only [inI]; omega))
  refine okC_if ?_
  simp [go_sem]
  refine okC_skip ?_
  refine okC_rg good ?_
  simp [go_sem]
  repeat (with_reducible refine And.intro ?_ ?_; first | omega | assumption | (simp only [inI]; omega))
  refine okC_ret ?_
  simp [go_sem]
  all_goals first | done | omega | grind | (simp; omega) | (simp_all; done) | (simp_all; omega)
theorem fn_laws_eqBatchS (l : List (List Opn)) (hl : l.length ≤ 1048576) (hs : ∀ b ∈ l, smallB b) : FnOk Tryz.prog 13 [nBats l, nBats l] (fun res' => res' = .val (dB true)) := by
  refine fn_of good (rs := [.tmp 4]) Tryz.func13 rfl Tryz.ntmps13 (by decide) (by simp) rfl fun w0 ow0 => ?_
  refine okC_rg good ?_
  simp [go_sem]
  repeat (with_reducible refine And.intro ?_ ?_; first | omega | assumption | (simp only [inI]; omega))
  refine okC_seq ?_
  refine okC_rg good ?_
  simp [go_sem]
  repeat (with_reducible refine And.intro ?_ ?_; first | omega | assumption | (simp only [inI]; omega))
  refine okC_if ?_
  simp [go_sem]
  refine okC_skip ?_
  refine okC_seq ?_
  refine okC_rg good ?_
  simp [go_sem]
  repeat (with_reducible refine And.intro ?_ ?_; first | omega | assumption | (simp only [inI]; omega))
  refine okC_block ?_
  refine okC_rounds (fun (i : Nat) => [(0, .val (nBats l)), (1, .val (nBats l)), (5, .val (dI i))]) (fun (i : Nat) => l.length - i) (fun (i : Nat) => (i ≤ l.length)) (0) [] (by first | omega | rfl | (simp; done) | (simp; omega) | simp) (by simp [go_sem]) ?_
  rintro i h1 K1 hK1
  refine okC_seq ?_
  refine okC_rg good ?_
  simp [go_sem]
  repeat (with_reducible refine And.intro ?_ ?_; first | omega | assumption | (simp only [inI]; omega))
  refine okC_if ?_
  simp [go_sem]
  first | refine gC_dec (fun a => ?_) (fun a => ?_) | refine gC_ndec (fun a => ?_) (fun a => ?_) | refine gC_of (fun a => ?_) (fun a => ?_)
  · try simp at a
    refine okC_skip ?_
    refine okC_seq ?_
    refine okC_block ?_
    obtain ⟨c, hc⟩ := at_of (l := l) (i := i) (by omega)
    have hcs := hs c (List.mem_of_getElem? hc)
    refine okC_dr good rfl (by decide) (by kernel_rfl) ?_
    simp [go_sem, hc]
    repeat (with_reducible refine And.intro ?_ ?_; first | omega | assumption | (simp only [inI]; omega))
    first | refine callD_of (fn_laws_eqBatch c hcs.1 (fun o ho => (hcs.2 o ho).1)) (by simp [go_sem]) rfl ?_ | refine callD_fz (fn_laws_eqBatch c hcs.1 (fun o ho => (hcs.2 o ho).1)) (by simp [go_sem]) (by simp [go_sem]) rfl ?_
    simp [go_sem, hc]
    repeat (with_reducible refine And.intro ?_ ?_; first | omega | assumption | (simp only [inI]; omega))
    refine okC_if ?_
    simp [go_sem, hc]
    refine okC_skip ?_
    refine okC_rg1 good ?_
    simp [go_sem, hc]
    repeat (with_reducible refine And.intro ?_ ?_; first | omega | assumption | (simp only [inI]; omega))
    refine normalE hK1 ⟨i + 1, [], (by first | omega | (simp; omega) | grind), (by show _ < _; first | omega | simp; omega), (by simp [go_sem, hc])⟩
  · try simp at a
    refine okC_exit (show K1 _ _ from exitE hK1 ?_)
    refine okC_rg good ?_
    simp [go_sem]
    repeat (with_reducible refine And.intro ?_ ?_; first | omega | assumption | (simp only [inI]; omega))
    refine okC_ret ?_
    simp [go_sem]
    all_goals first | done | omega | grind | (simp; omega) | (simp_all; done) | (simp_all; omega)
end Go.Proofs.YtfhfidecmdhkoaaGreatDoor
end
section
set_option linter.unusedVariables false
set_option linter.unusedSimpArgs false
set_option maxRecDepth 10000
namespace Go.Proofs.YtfhfidecmdhkoaaGreatDoor
open Go.Dv Go.Pl
def mText (k : Int) : Str := 109 :: (if k ≤ 0 then [48] else natDec k.natAbs)
theorem fn_laws_markText (k : Int) (hk : k ≤ 9000000000000000000) : FnOk Tryz.prog 95 [dI k] (fun res' => res' = .val (dS (mText k))) := by
  refine fn_of good (rs := [.tmp 2]) Tryz.func95 rfl Tryz.ntmps95 (by decide) (by simp) rfl fun w0 ow0 => ?_
  refine okC_rg good ?_
  simp [go_sem]
  repeat (with_reducible refine And.intro ?_ ?_; first | omega | assumption | (simp only [inI]; omega))
  refine okC_seq ?_
  refine okC_rg good ?_
  simp [go_sem]
  repeat (with_reducible refine And.intro ?_ ?_; first | omega | assumption | (simp only [inI]; omega))
  refine okC_if ?_
  simp [go_sem]
  first | refine gC_dec (fun e => ?_) (fun e => ?_) | refine gC_ndec (fun e => ?_) (fun e => ?_) | refine gC_of (fun e => ?_) (fun e => ?_)
  · try simp at e
    have hr : mText k = [109, 48] := by rw [mText, if_pos e]
    refine okC_rg good ?_
    simp [go_sem, hr]
    repeat (with_reducible refine And.intro ?_ ?_; first | omega | assumption | (simp only [inI]; omega))
    refine okC_ret ?_
    simp [go_sem, hr]
    all_goals first | done | omega | grind | (simp; omega) | (simp_all; done) | (simp_all; omega)
  · try simp at e
    refine okC_skip ?_
    refine okC_rg good ?_
    simp [go_sem]
    repeat (with_reducible refine And.intro ?_ ?_; first | omega | assumption | (simp only [inI]; omega))
    refine okC_seq ?_
    refine okC_block ?_
    refine okC_rounds (fun (x' : (Int) × (Str)) => match x' with | (j, s) => [(0, .val (dI j)), (3, .val (dS s))]) (fun (x' : (Int) × (Str)) => match x' with | (j, s) => j.toNat) (fun (x' : (Int) × (Str)) => match x' with | (j, s) => (0 ≤ j ∧ j ≤ k) ∧ (natDec j.natAbs ++ s = natDec k.natAbs)) ((k, [])) [] ⟨(by omega), (by simp)⟩ (by simp [go_sem]) ?_
    rintro ⟨j, s⟩ ⟨h0, h1⟩ K1 hK1
    simp only at h0 h1 ⊢
    refine okC_seq ?_
    have hlen : s.length ≤ 19 := by have h3 := congrArg List.length h1; have h4 := natDec_len k.natAbs 19 (by rw [show (10:Nat)^19 = 10000000000000000000 by rfl]; omega); simp only [List.length_append] at h3; omega
    refine okC_rg good ?_
    simp [go_sem]
    repeat (with_reducible refine And.intro ?_ ?_; first | omega | assumption | (simp only [inI]; omega))
    refine okC_if ?_
    simp [go_sem]
    first | refine gC_dec (fun a => ?_) (fun a => ?_) | refine gC_ndec (fun a => ?_) (fun a => ?_) | refine gC_of (fun a => ?_) (fun a => ?_)
    · try simp at a
      refine okC_skip ?_
      refine okC_block ?_
      have ht : j.tmod 10 = (j.natAbs % 10 : Nat) := by rw [Int.tmod_eq_emod_of_nonneg (by omega)]; omega
      have hq : j.tdiv 10 = (j.natAbs / 10 : Nat) := by rw [Int.tdiv_eq_ediv_of_nonneg (by omega)]; omega
      have hdec := natDec_pos (m := j.natAbs) (by omega)
      obtain ⟨c, hc⟩ : ∃ c : UInt8, c = UInt8.ofNat (48 + j.natAbs % 10) := ⟨_, rfl⟩
      have hu8 : (48 + (j.natAbs : Int) % 10) % 256 = (c.toNat : Int) := by rw [hc, UInt8.toNat_ofNat']; omega
      have hu9 : IntKind.u8.wrap (48 + (j.natAbs : Int) % 10) = (c.toNat : Int) := by rw [← hu8]; simp [IntKind.wrap, IntKind.bits, IntKind.signed]
      have hnt : (j.natAbs : Int) = j := by omega
      refine okC_rg good ?_
      simp [go_sem, ht, hq, hu9]
      repeat (with_reducible refine And.intro ?_ ?_; first | omega | assumption | (simp only [inI]; omega))
      refine okC_rg1 good ?_
      simp [go_sem, ht, hq, hu9]
      repeat (with_reducible refine And.intro ?_ ?_; first | omega | assumption | (simp only [inI]; omega))
      refine show K1 .normal _ from normalE hK1 ⟨((j.natAbs / 10 : Nat), c :: s), [], ⟨(by omega), (by rw [Int.natAbs_natCast, ← h1, hdec, hc]; simp)⟩, (by show _ < _; first | omega | simp; omega), (by simp [go_sem, ht, hq, hu9])⟩
    · try simp at a
      refine okC_exit (show K1 _ _ from exitE hK1 ?_)
      have hj : j = 0 := by omega
      rw [hj] at h1
      have hs : s = natDec k.natAbs := by simpa [natDec_zero] using h1
      have hr : mText k = 109 :: s := by rw [mText, if_neg (by omega), hs]
      refine okC_rg good ?_
      simp [go_sem, hr]
      repeat (with_reducible refine And.intro ?_ ?_; first | omega | assumption | (simp only [inI]; omega))
      refine okC_ret ?_
      simp [go_sem, hr]
      all_goals first | done | omega | grind | (simp; omega) | (simp_all; done) | (simp_all; omega)
theorem mText_len {k : Int} (hk : k ≤ 9000000000000000000) : (mText k).length ≤ 20 := by
  unfold mText
  split
  · simp
  · have h4 := natDec_len k.natAbs 19 (by rw [show (10:Nat)^19 = 10000000000000000000 by rfl]; omega)
    simp; omega
def mixS (l : List Str) (k : Int) (i : Nat) : List Str := (List.range i).map (fun j : Nat => mText (k + (j : Int))) ++ l.drop i
theorem mixS_len {l : List Str} {k : Int} {i : Nat} (h : i ≤ l.length) : (mixS l k i).length = l.length := by simp [mixS]; omega
theorem mixS_get {l : List Str} {k : Int} {i : Nat} (h : i < l.length) : (mixS l k i)[i]? = l[i]? := by
  unfold mixS
  rw [List.getElem?_append_right (by simp)]
  simp
theorem mixS_set {l : List Str} {k : Int} {i : Nat} (h : i < l.length) : (mixS l k i).set i (mText (k + i)) = mixS l k (i + 1) := by
  unfold mixS
  rw [List.set_append, if_neg (by simp), List.length_map, List.length_range, Nat.sub_self, List.drop_eq_getElem_cons h, List.set_cons_zero, List.range_succ, List.map_append]
  simp
theorem mixS_zero (l : List Str) (k : Int) : mixS l k 0 = l := by simp [mixS]
def marksS (n : Nat) (k : Int) : List Str := (List.range n).map fun j : Nat => mText (k + (j : Int))
theorem mixS_all (l : List Str) (k : Int) : mixS l k l.length = marksS l.length k := by simp [mixS, marksS]
theorem marksS_get {n : Nat} {k : Int} {i : Nat} (h : i < n) : (marksS n k)[i]? = some (mText (k + i)) := by simp [marksS, h]
theorem marksS_len (n : Nat) (k : Int) : (marksS n k).length = n := by simp [marksS]
theorem fn_laws_markStringS (l : List Str) (k : Int) (hl : l.length ≤ 1048576) (hk : 0 ≤ k ∧ k ≤ 1000000000000) : FnMu Tryz.prog 63 [.one (.bool false), dI k] 0 (oStrs l) (fun r d => r = .val (dI (k + l.length)) ∧ d = oStrs (marksS l.length k)) := by
  refine fn_mut good (rs := [.tmp 4]) Tryz.func63 rfl Tryz.ntmps63 (by decide) (by simp) rfl fun w0 ow0 v0 => ?_
  simp only [mutSt]
  have hz := mixS_zero l k
  rw [show oStrs l = oStrs (mixS l k 0) by rw [hz]]
  refine okC_rg good ?_
  simp [go_sem]
  repeat (with_reducible refine And.intro ?_ ?_; first | omega | assumption | (simp only [inI]; omega))
  refine okC_seq ?_
  refine okC_rg good ?_
  simp [go_sem]
  repeat (with_reducible refine And.intro ?_ ?_; first | omega | assumption | (simp only [inI]; omega))
  refine okC_block ?_
  refine okC_rounds (fun (i : Nat) => [(0, .own (oStrs (mixS l k i))), (1, .val (dI (k + i))), (5, .val (dI i))]) (fun (i : Nat) => l.length - i) (fun (i : Nat) => (i ≤ l.length)) (0) [] (by first | omega | rfl | (simp; done) | (simp; omega) | simp) (by simp [go_sem]) ?_
  rintro i h1 K1 hK1
  refine okC_seq ?_
  have hml := mixS_len (k := k) h1
  refine okC_rg good ?_
  simp [go_sem, hml]
  repeat (with_reducible refine And.intro ?_ ?_; first | omega | assumption | (simp only [inI]; omega))
  refine okC_if ?_
  simp [go_sem, hml]
  first | refine gC_dec (fun a => ?_) (fun a => ?_) | refine gC_ndec (fun a => ?_) (fun a => ?_) | refine gC_of (fun a => ?_) (fun a => ?_)
  · try simp at a
    refine okC_skip ?_
    refine okC_seq ?_
    refine okC_block ?_
    obtain ⟨c, hc⟩ := at_of (l := l) (i := i) (by omega)
    have hg := mixS_get (k := k) (l := l) (i := i) (by omega)
    rw [hc] at hg
    have hst : ((mixS l k i).map dS).set i (dS (mText (k + i))) = (mixS l k (i + 1)).map dS := by rw [← List.map_set, mixS_set (by omega)]
    refine okC_rg good ?_
    simp [go_sem, hml, hg]
    repeat (with_reducible refine And.intro ?_ ?_; first | omega | assumption | (simp only [inI]; omega))
    first | refine callK_of (fn_laws_markText (k + i) (by omega)) (by simp [go_sem]) ?_ | refine callK_fz (fn_laws_markText (k + i) (by omega)) (by simp [go_sem]) (by simp [go_sem]) ?_
    simp [go_sem, hml, hg]
    repeat (with_reducible refine And.intro ?_ ?_; first | omega | assumption | (simp only [inI]; omega))
    have hadd : k + (i : Int) + 1 = k + ((i : Int) + 1) := by omega
    refine okC_rg1 good ?_
    simp [go_sem, hml, hg, hst, hadd]
    repeat (with_reducible refine And.intro ?_ ?_; first | omega | assumption | (simp only [inI]; omega))
    refine okC_rg1 good ?_
    simp [go_sem, hml, hg, hst, hadd]
    repeat (with_reducible refine And.intro ?_ ?_; first | omega | assumption | (simp only [inI]; omega))
    refine normalE hK1 ⟨i + 1, [], (by first | omega | (simp; omega) | grind), (by show _ < _; first | omega | simp; omega), (by simp [go_sem, hml, hg, hst, hadd])⟩
  · try simp at a
    refine okC_exit (show K1 _ _ from exitE hK1 ?_)
    obtain rfl : i = l.length := by omega
    have hfa := mixS_all l k
    refine okC_rg good ?_
    simp [go_sem, hml, hfa]
    repeat (with_reducible refine And.intro ?_ ?_; first | omega | assumption | (simp only [inI]; omega))
    refine okC_ret ?_
    simp [go_sem, hml, hfa]
    all_goals first | done | omega | grind | (simp; omega) | (simp_all; done) | (simp_all; omega)
theorem fn_laws_heldStringS (n : Nat) (k : Int) (hn : n ≤ 1048576) (hk : 0 ≤ k ∧ k ≤ 1000000000000) : FnOk Tryz.prog 64 [nStrs (marksS n k), dI k] (fun res' => res' = .val (dI (k + n))) := by
  refine fn_of good (rs := [.tmp 4]) Tryz.func64 rfl Tryz.ntmps64 (by decide) (by simp) rfl fun w0 ow0 => ?_
  have hml := marksS_len n k
  refine okC_rg good ?_
  simp [go_sem, hml]
  repeat (with_reducible refine And.intro ?_ ?_; first | omega | assumption | (simp only [inI]; omega))
  refine okC_seq ?_
  refine okC_rg good ?_
  simp [go_sem, hml]
  repeat (with_reducible refine And.intro ?_ ?_; first | omega | assumption | (simp only [inI]; omega))
  refine okC_block ?_
  refine okC_rounds (fun (i : Nat) => [(0, .val (nStrs (marksS n k))), (1, .val (dI (k + i))), (5, .val (dI i))]) (fun (i : Nat) => n - i) (fun (i : Nat) => (i ≤ n)) (0) [] (by first | omega | rfl | (simp; done) | (simp; omega) | simp) (by simp [go_sem, hml]) ?_
  rintro i h1 K1 hK1
  refine okC_seq ?_
  refine okC_rg good ?_
  simp [go_sem, hml]
  repeat (with_reducible refine And.intro ?_ ?_; first | omega | assumption | (simp only [inI]; omega))
  refine okC_if ?_
  simp [go_sem, hml]
  first | refine gC_dec (fun a => ?_) (fun a => ?_) | refine gC_ndec (fun a => ?_) (fun a => ?_) | refine gC_of (fun a => ?_) (fun a => ?_)
  · try simp at a
    refine okC_skip ?_
    refine okC_seq ?_
    refine okC_block ?_
    refine okC_seq ?_
    have hg := marksS_get (k := k) (show i < n by omega)
    have hadd : k + (i : Int) + 1 = k + ((i : Int) + 1) := by omega
    refine okC_dr good rfl (by decide) (by kernel_rfl) ?_
    simp [go_sem, hml, hg]
    repeat (with_reducible refine And.intro ?_ ?_; first | omega | assumption | (simp only [inI]; omega))
    first | refine callD_of (fn_laws_markText (k + i) (by omega)) (by simp [go_sem]) rfl ?_ | refine callD_fz (fn_laws_markText (k + i) (by omega)) (by simp [go_sem]) (by simp [go_sem]) rfl ?_
    simp [go_sem, hml, hg]
    repeat (with_reducible refine And.intro ?_ ?_; first | omega | assumption | (simp only [inI]; omega))
    refine okC_if ?_
    simp [go_sem, hml, hg]
    refine okC_skip ?_
    refine okC_rg1 good ?_
    simp [go_sem, hml, hg, hadd]
    repeat (with_reducible refine And.intro ?_ ?_; first | omega | assumption | (simp only [inI]; omega))
    refine okC_rg1 good ?_
    simp [go_sem, hml, hg, hadd]
    repeat (with_reducible refine And.intro ?_ ?_; first | omega | assumption | (simp only [inI]; omega))
    refine normalE hK1 ⟨i + 1, [], (by first | omega | (simp; omega) | grind), (by show _ < _; first | omega | simp; omega), (by simp [go_sem, hml, hg, hadd])⟩
  · try simp at a
    refine okC_exit (show K1 _ _ from exitE hK1 ?_)
    obtain rfl : i = n := by omega
    refine okC_rg good ?_
    simp [go_sem, hml]
    repeat (with_reducible refine And.intro ?_ ?_; first | omega | assumption | (simp only [inI]; omega))
    refine okC_ret ?_
    simp [go_sem, hml]
    all_goals first | done | omega | grind | (simp; omega) | (simp_all; done) | (simp_all; omega)
def mOp (o : Opn) (k : Int) : Opn := ⟨k, ⟨k + 1, k + 2, k + 3, marksS o.rc.fields.length (k + 4)⟩, ⟨k + 4 + o.rc.fields.length, k + 5 + o.rc.fields.length, decide ((k + 6 + o.rc.fields.length).tmod 3 = 0), k + 7 + o.rc.fields.length⟩⟩
def mLen (o : Opn) : Int := 8 + o.rc.fields.length
def mSum (l : List Opn) : Int := (l.map mLen).sum
def mOps : List Opn → Int → List Opn
  | [], _ => []
  | o :: l, k => mOp o k :: mOps l (k + mLen o)
theorem mOps_len : ∀ (l : List Opn) (k : Int), (mOps l k).length = l.length
  | [], _ => rfl
  | o :: l, k => by simp [mOps, mOps_len l]
theorem mSum_snoc {l : List Opn} {i : Nat} {c : Opn} (h : l[i]? = some c) : mSum (l.take (i + 1)) = mSum (l.take i) + mLen c := by unfold mSum; rw [map_snoc mLen h]; simp
theorem mOps_app : ∀ (l : List Opn) (k : Int) (c : Opn), mOps (l ++ [c]) k = mOps l k ++ [mOp c (k + mSum l)]
  | [], k, c => by simp [mOps, mSum]
  | o :: l, k, c => by
    simp only [List.cons_append, mOps, mOps_app l]
    simp [mSum, Int.add_assoc]
def mixO (l : List Opn) (k : Int) (i : Nat) : List Opn := mOps (l.take i) k ++ l.drop i
theorem mixO_len {l : List Opn} {k : Int} {i : Nat} (h : i ≤ l.length) : (mixO l k i).length = l.length := by simp [mixO, mOps_len]; omega
theorem mixO_get {l : List Opn} {k : Int} {i : Nat} (h : i < l.length) : (mixO l k i)[i]? = l[i]? := by
  have hl : (mOps (l.take i) k).length = i := by simp [mOps_len]; omega
  unfold mixO
  rw [List.getElem?_append_right (by omega), hl]
  simp
theorem mixO_set {l : List Opn} {k : Int} {i : Nat} {c : Opn} (h : l[i]? = some c) : (mixO l k i).set i (mOp c (k + mSum (l.take i))) = mixO l k (i + 1) := by
  have hi := getElem?_lt h
  have hl : (mOps (l.take i) k).length = i := by simp [mOps_len]; omega
  unfold mixO
  rw [List.set_append, if_neg (by omega), hl, Nat.sub_self, List.drop_eq_getElem_cons hi, List.set_cons_zero, take_snoc h, mOps_app]
  simp
theorem mixO_zero (l : List Opn) (k : Int) : mixO l k 0 = l := by simp [mixO, mOps]
theorem mixO_all (l : List Opn) (k : Int) : mixO l k l.length = mOps l k := by simp [mixO]
theorem mSum_le {l : List Opn} {m : Nat} (h : ∀ o ∈ l, o.rc.fields.length ≤ m) : 0 ≤ mSum l ∧ mSum l ≤ (8 + m) * l.length := by
  induction l with
  | nil => simp [mSum]
  | cons o l ih =>
    have h1 := h o (by simp)
    have h2 := ih fun x hx => h x (List.mem_cons_of_mem _ hx)
    unfold mSum at h2 ⊢
    simp only [List.map_cons, List.sum_cons, List.length_cons, mLen] at h2 ⊢
    have : ((8 : Int) + m) * ((l.length + 1 : Nat) : Int) = (8 + m) * l.length + (8 + m) := by rw [Int.natCast_add, Int.mul_add]; simp
    omega
theorem fn_laws_markOpS (l : List Opn) (k : Int) (hl : l.length ≤ 6) (hf : ∀ o ∈ l, o.rc.fields.length ≤ 4) (hk : 0 ≤ k ∧ k ≤ 100000000000) : FnMu Tryz.prog 33 [.one (.bool false), dI k] 0 (oOps l) (fun r d => r = .val (dI (k + mSum l)) ∧ d = oOps (mOps l k)) := by
  refine fn_mut good (rs := [.tmp 4]) Tryz.func33 rfl Tryz.ntmps33 (by decide) (by simp) rfl fun w0 ow0 v0 => ?_
  simp only [mutSt]
  have hz := mixO_zero l k
  rw [show oOps l = oOps (mixO l k 0) by rw [hz]]
  have hs0 : mSum [] = 0 := rfl
  refine okC_rg good ?_
  simp [go_sem, hs0]
  repeat (with_reducible refine And.intro ?_ ?_; first | omega | assumption | (simp only [inI]; omega))
  refine okC_seq ?_
  refine okC_rg good ?_
  simp [go_sem, hs0]
  repeat (with_reducible refine And.intro ?_ ?_; first | omega | assumption | (simp only [inI]; omega))
  refine okC_block ?_
  refine okC_rounds (fun (i : Nat) => [(0, .own (oOps (mixO l k i))), (1, .val (dI (k + mSum (l.take i)))), (5, .val (dI i))]) (fun (i : Nat) => l.length - i) (fun (i : Nat) => (i ≤ l.length)) (0) [] (by first | omega | rfl | (simp; done) | (simp; omega) | simp) (by simp [go_sem, hs0]) ?_
  rintro i h1 K1 hK1
  refine okC_seq ?_
  have hml := mixO_len (k := k) h1
  have hsl := mSum_le (l := l.take i) (m := 4) fun o ho => hf o (List.mem_of_mem_take ho)
  have hsl2 : (l.take i).length ≤ 6 := by simp; omega
  refine okC_rg good ?_
  simp [go_sem, hml]
  repeat (with_reducible refine And.intro ?_ ?_; first | omega | assumption | (simp only [inI]; omega))
  refine okC_if ?_
  simp [go_sem, hml]
  first | refine gC_dec (fun a => ?_) (fun a => ?_) | refine gC_ndec (fun a => ?_) (fun a => ?_) | refine gC_of (fun a => ?_) (fun a => ?_)
  · try simp at a
    refine okC_skip ?_
    refine okC_seq ?_
    refine okC_block ?_
    obtain ⟨c, hc⟩ := at_of (l := l) (i := i) (by omega)
    have hg := mixO_get (k := k) (l := l) (i := i) (by omega)
    rw [hc] at hg
    have hcf := hf c (List.mem_of_getElem? hc)
    have hsn := mSum_snoc hc
    have hst := mixO_set (k := k) hc
    obtain ⟨q, hq⟩ : ∃ q, k + mSum (l.take i) = q := ⟨_, rfl⟩
    have hqb : 0 ≤ q ∧ q ≤ 1000000000000 := by omega
    rw [hq] at hst
    have hsg : ∀ v : D, (((mixO l k i).map oOp).set i v)[i]? = some v := fun v => by rw [List.getElem?_set_self (by rw [List.length_map]; omega)]
    have hst2 : ((mixO l k i).map oOp).set i (oOp (mOp c q)) = (mixO l k (i + 1)).map oOp := by rw [← List.map_set, hst]
    obtain ⟨n, hn⟩ : ∃ n, c.rc.fields.length = n := ⟨_, rfl⟩
    have a2 : q + 1 + 1 = q + 2 := by omega
    have a3 : q + 2 + 1 = q + 3 := by omega
    have a4 : q + 3 + 1 = q + 4 := by omega
    have b1 : q + 4 + (n : Int) + 1 = q + 5 + n := by omega
    have b2 : q + 5 + (n : Int) + 1 = q + 6 + n := by omega
    have b3 : q + 6 + (n : Int) + 1 = q + 7 + n := by omega
    have b4 : q + 7 + (n : Int) + 1 = q + 8 + n := by omega
    have hmo : mOp c q = ⟨q, ⟨q + 1, q + 2, q + 3, marksS n (q + 4)⟩, ⟨q + 4 + n, q + 5 + n, decide ((q + 6 + n).tmod 3 = 0), q + 7 + n⟩⟩ := by rw [mOp, hn]
    rw [hmo] at hst2
    have hqn : q + 8 + n = k + mSum (l.take (i + 1)) := by rw [hsn, mLen]; omega
    refine okC_rg good ?_
    simp [go_sem, hml, hg, hq, hsg, hn, a2, a3, a4, b1, b2, b3, b4]
    repeat (with_reducible refine And.intro ?_ ?_; first | omega | assumption | (simp only [inI]; omega))
    refine okC_rg good ?_
    simp [go_sem, hml, hg, hq, hsg, hn, a2, a3, a4, b1, b2, b3, b4]
    repeat (with_reducible refine And.intro ?_ ?_; first | omega | assumption | (simp only [inI]; omega))
    refine okC_rg good ?_
    simp [go_sem, hml, hg, hq, hsg, hn, a2, a3, a4, b1, b2, b3, b4]
    repeat (with_reducible refine And.intro ?_ ?_; first | omega | assumption | (simp only [inI]; omega))
    refine okC_rg good ?_
    simp [go_sem, hml, hg, hq, hsg, hn, a2, a3, a4, b1, b2, b3, b4]
    repeat (with_reducible refine And.intro ?_ ?_; first | omega | assumption | (simp only [inI]; omega))
    refine okC_rg good ?_
    simp [go_sem, hml, hg, hq, hsg, hn, a2, a3, a4, b1, b2, b3, b4]
    repeat (with_reducible refine And.intro ?_ ?_; first | omega | assumption | (simp only [inI]; omega))
    refine okC_rg good ?_
    simp [go_sem, hml, hg, hq, hsg, hn, a2, a3, a4, b1, b2, b3, b4]
    repeat (with_reducible refine And.intro ?_ ?_; first | omega | assumption | (simp only [inI]; omega))
    refine okC_rg good ?_
    simp [go_sem, hml, hg, hq, hsg, hn, a2, a3, a4, b1, b2, b3, b4]
    repeat (with_reducible refine And.intro ?_ ?_; first | omega | assumption | (simp only [inI]; omega))
    refine okC_rg good ?_
    simp [go_sem, hml, hg, hq, hsg, hn, a2, a3, a4, b1, b2, b3, b4]
    repeat (with_reducible refine And.intro ?_ ?_; first | omega | assumption | (simp only [inI]; omega))
    refine okC_rg good ?_
    simp [go_sem, hml, hg, hq, hsg, hn, a2, a3, a4, b1, b2, b3, b4]
    repeat (with_reducible refine And.intro ?_ ?_; first | omega | assumption | (simp only [inI]; omega))
    refine callMK_of rfl (fn_laws_markStringS c.rc.fields (q + 4) (by omega) (by omega)) ?_
    rintro r d ⟨rfl, rfl⟩
    simp [go_sem, hml, hg, hq, hsg, hn, a2, a3, a4, b1, b2, b3, b4]
    repeat (with_reducible refine And.intro ?_ ?_; first | omega | assumption | (simp only [inI]; omega))
    refine okC_rg good ?_
    simp [go_sem, hml, hg, hq, hsg, hn, a2, a3, a4, b1, b2, b3, b4, hst2, hqn]
    repeat (with_reducible refine And.intro ?_ ?_; first | omega | assumption | (simp only [inI]; omega))
    refine okC_rg good ?_
    simp [go_sem, hml, hg, hq, hsg, hn, a2, a3, a4, b1, b2, b3, b4, hst2, hqn]
    repeat (with_reducible refine And.intro ?_ ?_; first | omega | assumption | (simp only [inI]; omega))
    refine okC_rg good ?_
    simp [go_sem, hml, hg, hq, hsg, hn, a2, a3, a4, b1, b2, b3, b4, hst2, hqn]
    repeat (with_reducible refine And.intro ?_ ?_; first | omega | assumption | (simp only [inI]; omega))
    refine okC_rg good ?_
    simp [go_sem, hml, hg, hq, hsg, hn, a2, a3, a4, b1, b2, b3, b4, hst2, hqn]
    repeat (with_reducible refine And.intro ?_ ?_; first | omega | assumption | (simp only [inI]; omega))
    refine okC_rg good ?_
    simp [go_sem, hml, hg, hq, hsg, hn, a2, a3, a4, b1, b2, b3, b4, hst2, hqn]
    repeat (with_reducible refine And.intro ?_ ?_; first | omega | assumption | (simp only [inI]; omega))
    refine okC_rg good ?_
    simp [go_sem, hml, hg, hq, hsg, hn, a2, a3, a4, b1, b2, b3, b4, hst2, hqn]
    repeat (with_reducible refine And.intro ?_ ?_; first | omega | assumption | (simp only [inI]; omega))
    refine okC_rg good ?_
    simp [go_sem, hml, hg, hq, hsg, hn, a2, a3, a4, b1, b2, b3, b4, hst2, hqn]
    repeat (with_reducible refine And.intro ?_ ?_; first | omega | assumption | (simp only [inI]; omega))
    refine okC_rg1 good ?_
    simp [go_sem, hml, hg, hq, hsg, hn, a2, a3, a4, b1, b2, b3, b4, hst2, hqn]
    repeat (with_reducible refine And.intro ?_ ?_; first | omega | assumption | (simp only [inI]; omega))
    refine okC_rg1 good ?_
    simp [go_sem, hml, hg, hq, hsg, hn, a2, a3, a4, b1, b2, b3, b4, hst2, hqn]
    repeat (with_reducible refine And.intro ?_ ?_; first | omega | assumption | (simp only [inI]; omega))
    refine normalE hK1 ⟨i + 1, [], (by first | omega | (simp; omega) | grind), (by show _ < _; first | omega | simp; omega), (by simp [go_sem, hml, hg, hq, hsg, hn, a2, a3, a4, b1, b2, b3, b4, hst2, hqn])⟩
  · try simp at a
    refine okC_exit (show K1 _ _ from exitE hK1 ?_)
    have hil : i = l.length := by omega
    subst hil
    have hfa := mixO_all l k
    have htl : l.take l.length = l := List.take_length
    refine okC_rg good ?_
    simp [go_sem, hml, hfa, htl]
    repeat (with_reducible refine And.intro ?_ ?_; first | omega | assumption | (simp only [inI]; omega))
    refine okC_ret ?_
    simp [go_sem, hml, hfa, htl]
    all_goals first | done | omega | grind | (simp; omega) | (simp_all; done) | (simp_all; omega)
end Go.Proofs.YtfhfidecmdhkoaaGreatDoor
end
section
set_option linter.unusedVariables false
set_option linter.unusedSimpArgs false
set_option maxRecDepth 10000
namespace Go.Proofs.YtfhfidecmdhkoaaGreatDoor
open Go.Dv Go.Pl
theorem mOps_get : ∀ {l : List Opn} {k : Int} {i : Nat} {c : Opn}, l[i]? = some c → (mOps l k)[i]? = some (mOp c (k + mSum (l.take i)))
  | o :: l, k, 0, c, h => by
    simp only [List.getElem?_cons_zero, Option.some.injEq] at h
    subst h
    simp [mOps, mSum]
  | o :: l, k, i + 1, c, h => by
    rw [List.getElem?_cons_succ] at h
    rw [mOps, List.getElem?_cons_succ, mOps_get h]
    simp [mSum, Int.add_assoc]
theorem fn_laws_heldOpS (l : List Opn) (k : Int) (hl : l.length ≤ 6) (hf : ∀ o ∈ l, o.rc.fields.length ≤ 4) (hk : 0 ≤ k ∧ k ≤ 100000000000) : FnOk Tryz.prog 34 [nOps (mOps l k), dI k] (fun res' => res' = .val (dI (k + mSum l))) := by
  refine fn_of good (rs := [.tmp 4]) Tryz.func34 rfl Tryz.ntmps34 (by decide) (by simp) rfl fun w0 ow0 => ?_
  have hs0 : mSum [] = 0 := rfl
  have hml := mOps_len l k
  refine okC_rg good ?_
  simp [go_sem, hs0, hml]
  repeat (with_reducible refine And.intro ?_ ?_; first | omega | assumption | (simp only [inI]; omega))
  refine okC_seq ?_
  refine okC_rg good ?_
  simp [go_sem, hs0, hml]
  repeat (with_reducible refine And.intro ?_ ?_; first | omega | assumption | (simp only [inI]; omega))
  refine okC_block ?_
  refine okC_rounds (fun (i : Nat) => [(0, .val (nOps (mOps l k))), (1, .val (dI (k + mSum (l.take i)))), (5, .val (dI i))]) (fun (i : Nat) => l.length - i) (fun (i : Nat) => (i ≤ l.length)) (0) [] (by first | omega | rfl | (simp; done) | (simp; omega) | simp) (by simp [go_sem, hs0, hml]) ?_
  rintro i h1 K1 hK1
  refine okC_seq ?_
  have hsl := mSum_le (l := l.take i) (m := 4) fun o ho => hf o (List.mem_of_mem_take ho)
  have hsl2 : (l.take i).length ≤ 6 := by simp; omega
  refine okC_rg good ?_
  simp [go_sem, hml]
  repeat (with_reducible refine And.intro ?_ ?_; first | omega | assumption | (simp only [inI]; omega))
  refine okC_if ?_
  simp [go_sem, hml]
  first | refine gC_dec (fun a => ?_) (fun a => ?_) | refine gC_ndec (fun a => ?_) (fun a => ?_) | refine gC_of (fun a => ?_) (fun a => ?_)
  · try simp at a
    refine okC_skip ?_
    refine okC_seq ?_
    refine okC_block ?_
    refine okC_seq ?_
    obtain ⟨c, hc⟩ := at_of (l := l) (i := i) (by omega)
    have hg := mOps_get (k := k) hc
    have hcf := hf c (List.mem_of_getElem? hc)
    have hsn := mSum_snoc hc
    obtain ⟨q, hq⟩ : ∃ q, k + mSum (l.take i) = q := ⟨_, rfl⟩
    have hqb : 0 ≤ q ∧ q ≤ 1000000000000 := by omega
    obtain ⟨n, hn⟩ : ∃ n, c.rc.fields.length = n := ⟨_, rfl⟩
    have a2 : q + 1 + 1 = q + 2 := by omega
    have a3 : q + 2 + 1 = q + 3 := by omega
    have a4 : q + 3 + 1 = q + 4 := by omega
    have b1 : q + 4 + (n : Int) + 1 = q + 5 + n := by omega
    have b2 : q + 5 + (n : Int) + 1 = q + 6 + n := by omega
    have b3 : q + 6 + (n : Int) + 1 = q + 7 + n := by omega
    have b4 : q + 7 + (n : Int) + 1 = q + 8 + n := by omega
    have hmo : mOp c q = ⟨q, ⟨q + 1, q + 2, q + 3, marksS n (q + 4)⟩, ⟨q + 4 + n, q + 5 + n, decide ((q + 6 + n).tmod 3 = 0), q + 7 + n⟩⟩ := by rw [mOp, hn]
    rw [hq, hmo] at hg
    have hqn : q + 8 + n = k + mSum (l.take (i + 1)) := by rw [hsn, mLen]; omega
    have a9 : ¬ q + 4 + (n : Int) < 0 := by omega
    refine okC_rg good ?_
    simp [go_sem, hml, hg, hq, hn, a2, a3, a4, b1, b2, b3, b4, a9]
    repeat (with_reducible refine And.intro ?_ ?_; first | omega | assumption | (simp only [inI]; omega))
    refine okC_if ?_
    simp [go_sem, hml, hg, hq, hn, a2, a3, a4, b1, b2, b3, b4, a9]
    refine okC_skip ?_
    refine okC_rg good ?_
    simp [go_sem, hml, hg, hq, hn, a2, a3, a4, b1, b2, b3, b4, a9]
    repeat (with_reducible refine And.intro ?_ ?_; first | omega | assumption | (simp only [inI]; omega))
    refine okC_seq ?_
    refine okC_rg good ?_
    simp [go_sem, hml, hg, hq, hn, a2, a3, a4, b1, b2, b3, b4, a9]
    repeat (with_reducible refine And.intro ?_ ?_; first | omega | assumption | (simp only [inI]; omega))
    refine okC_if ?_
    simp [go_sem, hml, hg, hq, hn, a2, a3, a4, b1, b2, b3, b4, a9]
    refine okC_skip ?_
    refine okC_rg good ?_
    simp [go_sem, hml, hg, hq, hn, a2, a3, a4, b1, b2, b3, b4, a9]
    repeat (with_reducible refine And.intro ?_ ?_; first | omega | assumption | (simp only [inI]; omega))
    refine okC_seq ?_
    refine okC_rg good ?_
    simp [go_sem, hml, hg, hq, hn, a2, a3, a4, b1, b2, b3, b4, a9]
    repeat (with_reducible refine And.intro ?_ ?_; first | omega | assumption | (simp only [inI]; omega))
    refine okC_if ?_
    simp [go_sem, hml, hg, hq, hn, a2, a3, a4, b1, b2, b3, b4, a9]
    refine okC_skip ?_
    refine okC_rg good ?_
    simp [go_sem, hml, hg, hq, hn, a2, a3, a4, b1, b2, b3, b4, a9]
    repeat (with_reducible refine And.intro ?_ ?_; first | omega | assumption | (simp only [inI]; omega))
    refine okC_seq ?_
    refine okC_rg good ?_
    simp [go_sem, hml, hg, hq, hn, a2, a3, a4, b1, b2, b3, b4, a9]
    repeat (with_reducible refine And.intro ?_ ?_; first | omega | assumption | (simp only [inI]; omega))
    refine okC_if ?_
    simp [go_sem, hml, hg, hq, hn, a2, a3, a4, b1, b2, b3, b4, a9]
    refine okC_skip ?_
    refine okC_rg good ?_
    simp [go_sem, hml, hg, hq, hn, a2, a3, a4, b1, b2, b3, b4, a9]
    repeat (with_reducible refine And.intro ?_ ?_; first | omega | assumption | (simp only [inI]; omega))
    refine okC_rg good ?_
    simp [go_sem, hml, hg, hq, hn, a2, a3, a4, b1, b2, b3, b4, a9]
    repeat (with_reducible refine And.intro ?_ ?_; first | omega | assumption | (simp only [inI]; omega))
    first | refine callK_of (fn_laws_heldStringS n (q + 4) (by omega) (by omega)) (by simp [go_sem]) ?_ | refine callK_fz (fn_laws_heldStringS n (q + 4) (by omega) (by omega)) (by simp [go_sem]) (by simp [go_sem]) ?_
    simp [go_sem, hml, hg, hq, hn, a2, a3, a4, b1, b2, b3, b4, a9]
    repeat (with_reducible refine And.intro ?_ ?_; first | omega | assumption | (simp only [inI]; omega))
    refine okC_seq ?_
    refine okC_rg good ?_
    simp [go_sem, hml, hg, hq, hn, a2, a3, a4, b1, b2, b3, b4, a9]
    repeat (with_reducible refine And.intro ?_ ?_; first | omega | assumption | (simp only [inI]; omega))
    refine okC_if ?_
    simp [go_sem, hml, hg, hq, hn, a2, a3, a4, b1, b2, b3, b4, a9]
    refine okC_skip ?_
    refine okC_seq ?_
    refine okC_rg good ?_
    simp [go_sem, hml, hg, hq, hn, a2, a3, a4, b1, b2, b3, b4, a9]
    repeat (with_reducible refine And.intro ?_ ?_; first | omega | assumption | (simp only [inI]; omega))
    refine okC_if ?_
    simp [go_sem, hml, hg, hq, hn, a2, a3, a4, b1, b2, b3, b4, a9]
    refine okC_skip ?_
    refine okC_rg good ?_
    simp [go_sem, hml, hg, hq, hn, a2, a3, a4, b1, b2, b3, b4, a9]
    repeat (with_reducible refine And.intro ?_ ?_; first | omega | assumption | (simp only [inI]; omega))
    refine okC_seq ?_
    refine okC_rg good ?_
    simp [go_sem, hml, hg, hq, hn, a2, a3, a4, b1, b2, b3, b4, a9]
    repeat (with_reducible refine And.intro ?_ ?_; first | omega | assumption | (simp only [inI]; omega))
    refine okC_if ?_
    simp [go_sem, hml, hg, hq, hn, a2, a3, a4, b1, b2, b3, b4, a9]
    refine okC_skip ?_
    refine okC_rg good ?_
    simp [go_sem, hml, hg, hq, hn, a2, a3, a4, b1, b2, b3, b4, a9]
    repeat (with_reducible refine And.intro ?_ ?_; first | omega | assumption | (simp only [inI]; omega))
    refine okC_seq ?_
    refine okC_rg good ?_
    simp [go_sem, hml, hg, hq, hn, a2, a3, a4, b1, b2, b3, b4, a9]
    repeat (with_reducible refine And.intro ?_ ?_; first | omega | assumption | (simp only [inI]; omega))
    refine okC_if ?_
    simp [go_sem, hml, hg, hq, hn, a2, a3, a4, b1, b2, b3, b4, a9]
    refine okC_skip ?_
    refine okC_rg good ?_
    simp [go_sem, hml, hg, hq, hn, a2, a3, a4, b1, b2, b3, b4, a9]
    repeat (with_reducible refine And.intro ?_ ?_; first | omega | assumption | (simp only [inI]; omega))
    refine okC_seq ?_
    refine okC_rg good ?_
    simp [go_sem, hml, hg, hq, hn, a2, a3, a4, b1, b2, b3, b4, a9]
    repeat (with_reducible refine And.intro ?_ ?_; first | omega | assumption | (simp only [inI]; omega))
    refine okC_if ?_
    simp [go_sem, hml, hg, hq, hn, a2, a3, a4, b1, b2, b3, b4, a9]
    refine okC_skip ?_
    refine okC_rg1 good ?_
    simp [go_sem, hml, hg, hq, hn, a2, a3, a4, b1, b2, b3, b4, a9, hqn]
    repeat (with_reducible refine And.intro ?_ ?_; first | omega | assumption | (simp only [inI]; omega))
    refine okC_rg1 good ?_
    simp [go_sem, hml, hg, hq, hn, a2, a3, a4, b1, b2, b3, b4, a9, hqn]
    repeat (with_reducible refine And.intro ?_ ?_; first | omega | assumption | (simp only [inI]; omega))
    refine normalE hK1 ⟨i + 1, [], (by first | omega | (simp; omega) | grind), (by show _ < _; first | omega | simp; omega), (by simp [go_sem, hml, hg, hq, hn, a2, a3, a4, b1, b2, b3, b4, a9, hqn])⟩
  · try simp at a
    refine okC_exit (show K1 _ _ from exitE hK1 ?_)
    obtain rfl : i = l.length := by omega
    have htl : l.take l.length = l := List.take_length
    refine okC_rg good ?_
    simp [go_sem, hml, htl]
    repeat (with_reducible refine And.intro ?_ ?_; first | omega | assumption | (simp only [inI]; omega))
    refine okC_ret ?_
    simp [go_sem, hml, htl]
    all_goals first | done | omega | grind | (simp; omega) | (simp_all; done) | (simp_all; omega)
def bSum (l : List (List Opn)) : Int := (l.map mSum).sum
def mBats : List (List Opn) → Int → List (List Opn)
  | [], _ => []
  | o :: l, k => mOps o k :: mBats l (k + mSum o)
theorem mBats_len : ∀ (l : List (List Opn)) (k : Int), (mBats l k).length = l.length
  | [], _ => rfl
  | o :: l, k => by simp [mBats, mBats_len l]
theorem bSum_snoc {l : List (List Opn)} {i : Nat} {c : List Opn} (h : l[i]? = some c) : bSum (l.take (i + 1)) = bSum (l.take i) + mSum c := by unfold bSum; rw [map_snoc mSum h]; simp
theorem mBats_app : ∀ (l : List (List Opn)) (k : Int) (c : List Opn), mBats (l ++ [c]) k = mBats l k ++ [mOps c (k + bSum l)]
  | [], k, c => by simp [mBats, bSum]
  | o :: l, k, c => by
    simp only [List.cons_append, mBats, mBats_app l]
    simp [bSum, Int.add_assoc]
theorem mBats_get : ∀ {l : List (List Opn)} {k : Int} {i : Nat} {c : List Opn}, l[i]? = some c → (mBats l k)[i]? = some (mOps c (k + bSum (l.take i)))
  | o :: l, k, 0, c, h => by
    simp only [List.getElem?_cons_zero, Option.some.injEq] at h
    subst h
    simp [mBats, bSum]
  | o :: l, k, i + 1, c, h => by
    rw [List.getElem?_cons_succ] at h
    rw [mBats, List.getElem?_cons_succ, mBats_get h]
    simp [bSum, Int.add_assoc]
def mixB (l : List (List Opn)) (k : Int) (i : Nat) : List (List Opn) := mBats (l.take i) k ++ l.drop i
theorem mixB_len {l : List (List Opn)} {k : Int} {i : Nat} (h : i ≤ l.length) : (mixB l k i).length = l.length := by simp [mixB, mBats_len]; omega
theorem mixB_get {l : List (List Opn)} {k : Int} {i : Nat} (h : i < l.length) : (mixB l k i)[i]? = l[i]? := by
  have hl : (mBats (l.take i) k).length = i := by simp [mBats_len]; omega
  unfold mixB
  rw [List.getElem?_append_right (by omega), hl]
  simp
theorem mixB_set {l : List (List Opn)} {k : Int} {i : Nat} {c : List Opn} (h : l[i]? = some c) : (mixB l k i).set i (mOps c (k + bSum (l.take i))) = mixB l k (i + 1) := by
  have hi := getElem?_lt h
  have hl : (mBats (l.take i) k).length = i := by simp [mBats_len]; omega
  unfold mixB
  rw [List.set_append, if_neg (by omega), hl, Nat.sub_self, List.drop_eq_getElem_cons hi, List.set_cons_zero, take_snoc h, mBats_app]
  simp
theorem mixB_zero (l : List (List Opn)) (k : Int) : mixB l k 0 = l := by simp [mixB, mBats]
theorem mixB_all (l : List (List Opn)) (k : Int) : mixB l k l.length = mBats l k := by simp [mixB]
def fewB (l : List (List Opn)) : Prop := l.length ≤ 1048576 ∧ ∀ b ∈ l, b.length ≤ 6 ∧ ∀ o ∈ b, o.rc.fields.length ≤ 4
theorem bSum_le {l : List (List Opn)} (h : ∀ b ∈ l, b.length ≤ 6 ∧ ∀ o ∈ b, o.rc.fields.length ≤ 4) : 0 ≤ bSum l ∧ bSum l ≤ 72 * l.length := by
  induction l with
  | nil => simp [bSum]
  | cons o l ih =>
    have h1 := h o (by simp)
    have h2 := ih fun x hx => h x (List.mem_cons_of_mem _ hx)
    have h3 := mSum_le (l := o) (m := 4) h1.2
    unfold bSum at h2 ⊢
    simp only [List.map_cons, List.sum_cons, List.length_cons] at h2 ⊢
    have := h1.1
    omega
theorem fn_laws_markBatchS (l : List (List Opn)) (k : Int) (hl : fewB l) (hk : 0 ≤ k ∧ k ≤ 1000000000) : FnMu Tryz.prog 14 [.one (.bool false), dI k] 0 (oBats l) (fun r d => r = .val (dI (k + bSum l)) ∧ d = oBats (mBats l k)) := by
  refine fn_mut good (rs := [.tmp 4]) Tryz.func14 rfl Tryz.ntmps14 (by decide) (by simp) rfl fun w0 ow0 v0 => ?_
  simp only [mutSt]
  have hz := mixB_zero l k
  rw [show oBats l = oBats (mixB l k 0) by rw [hz]]
  have hs0 : bSum [] = 0 := rfl
  have hl1 := hl.1
  refine okC_rg good ?_
  simp [go_sem, hs0]
  repeat (with_reducible refine And.intro ?_ ?_; first | omega | assumption | (simp only [inI]; omega))
  refine okC_seq ?_
  refine okC_rg good ?_
  simp [go_sem, hs0]
  repeat (with_reducible refine And.intro ?_ ?_; first | omega | assumption | (simp only [inI]; omega))
  refine okC_block ?_
  refine okC_rounds (fun (i : Nat) => [(0, .own (oBats (mixB l k i))), (1, .val (dI (k + bSum (l.take i)))), (5, .val (dI i))]) (fun (i : Nat) => l.length - i) (fun (i : Nat) => (i ≤ l.length)) (0) [] (by first | omega | rfl | (simp; done) | (simp; omega) | simp) (by simp [go_sem, hs0]) ?_
  rintro i h1 K1 hK1
  refine okC_seq ?_
  have hml := mixB_len (k := k) h1
  have hsl := bSum_le (l := l.take i) fun o ho => hl.2 o (List.mem_of_mem_take ho)
  have hsl2 : (l.take i).length ≤ 1048576 := by rw [List.length_take]; omega
  refine okC_rg good ?_
  simp [go_sem, hml]
  repeat (with_reducible refine And.intro ?_ ?_; first | omega | assumption | (simp only [inI]; omega))
  refine okC_if ?_
  simp [go_sem, hml]
  first | refine gC_dec (fun a => ?_) (fun a => ?_) | refine gC_ndec (fun a => ?_) (fun a => ?_) | refine gC_of (fun a => ?_) (fun a => ?_)
  · try simp at a
    refine okC_skip ?_
    refine okC_seq ?_
    refine okC_block ?_
    obtain ⟨c, hc⟩ := at_of (l := l) (i := i) (by omega)
    have hg := mixB_get (k := k) (l := l) (i := i) (by omega)
    rw [hc] at hg
    have hcf := hl.2 c (List.mem_of_getElem? hc)
    have hsn := bSum_snoc hc
    have hst := mixB_set (k := k) hc
    obtain ⟨q, hq⟩ : ∃ q, k + bSum (l.take i) = q := ⟨_, rfl⟩
    have hqb : 0 ≤ q ∧ q ≤ 100000000000 := by omega
    rw [hq] at hst
    have hst2 : ((mixB l k i).map oBat).set i (oBat (mOps c q)) = (mixB l k (i + 1)).map oBat := by rw [← List.map_set, hst]
    have hqn : q + mSum c = k + bSum (l.take (i + 1)) := by rw [hsn]; omega
    refine okC_rg1 good ?_
    simp [go_sem, hml, hg, hq]
    repeat (with_reducible refine And.intro ?_ ?_; first | omega | assumption | (simp only [inI]; omega))
    refine callMK_of rfl (fn_laws_markOpS c q hcf.1 hcf.2 hqb) ?_
    rintro r d ⟨rfl, rfl⟩
    simp [go_sem, hml, hg, hq]
    repeat (with_reducible refine And.intro ?_ ?_; first | omega | assumption | (simp only [inI]; omega))
    refine okC_rg1 good ?_
    simp [go_sem, hml, hg, hq, hst2, hqn]
    repeat (with_reducible refine And.intro ?_ ?_; first | omega | assumption | (simp only [inI]; omega))
    refine normalE hK1 ⟨i + 1, [], (by first | omega | (simp; omega) | grind), (by show _ < _; first | omega | simp; omega), (by simp [go_sem, hml, hg, hq, hst2, hqn])⟩
  · try simp at a
    refine okC_exit (show K1 _ _ from exitE hK1 ?_)
    have hil : i = l.length := by omega
    subst hil
    have hfa := mixB_all l k
    have htl : l.take l.length = l := List.take_length
    refine okC_rg good ?_
    simp [go_sem, hml, hfa, htl]
    repeat (with_reducible refine And.intro ?_ ?_; first | omega | assumption | (simp only [inI]; omega))
    refine okC_ret ?_
    simp [go_sem, hml, hfa, htl]
    all_goals first | done | omega | grind | (simp; omega) | (simp_all; done) | (simp_all; omega)
theorem fn_laws_heldBatchS (l : List (List Opn)) (k : Int) (hl : fewB l) (hk : 0 ≤ k ∧ k ≤ 1000000000) : FnOk Tryz.prog 15 [nBats (mBats l k), dI k] (fun res' => res' = .val (dI (k + bSum l))) := by
  refine fn_of good (rs := [.tmp 4]) Tryz.func15 rfl Tryz.ntmps15 (by decide) (by simp) rfl fun w0 ow0 => ?_
  have hs0 : bSum [] = 0 := rfl
  have hml := mBats_len l k
  have hl1 := hl.1
  refine okC_rg good ?_
  simp [go_sem, hs0, hml]
  repeat (with_reducible refine And.intro ?_ ?_; first | omega | assumption | (simp only [inI]; omega))
  refine okC_seq ?_
  refine okC_rg good ?_
  simp [go_sem, hs0, hml]
  repeat (with_reducible refine And.intro ?_ ?_; first | omega | assumption | (simp only [inI]; omega))
  refine okC_block ?_
  refine okC_rounds (fun (i : Nat) => [(0, .val (nBats (mBats l k))), (1, .val (dI (k + bSum (l.take i)))), (5, .val (dI i))]) (fun (i : Nat) => l.length - i) (fun (i : Nat) => (i ≤ l.length)) (0) [] (by first | omega | rfl | (simp; done) | (simp; omega) | simp) (by simp [go_sem, hs0, hml]) ?_
  rintro i h1 K1 hK1
  refine okC_seq ?_
  have hsl := bSum_le (l := l.take i) fun o ho => hl.2 o (List.mem_of_mem_take ho)
  have hsl2 : (l.take i).length ≤ 1048576 := by rw [List.length_take]; omega
  refine okC_rg good ?_
  simp [go_sem, hml]
  repeat (with_reducible refine And.intro ?_ ?_; first | omega | assumption | (simp only [inI]; omega))
  refine okC_if ?_
  simp [go_sem, hml]
  first | refine gC_dec (fun a => ?_) (fun a => ?_) | refine gC_ndec (fun a => ?_) (fun a => ?_) | refine gC_of (fun a => ?_) (fun a => ?_)
  · try simp at a
    refine okC_skip ?_
    refine okC_seq ?_
    refine okC_block ?_
    obtain ⟨c, hc⟩ := at_of (l := l) (i := i) (by omega)
    have hg := mBats_get (k := k) hc
    have hcf := hl.2 c (List.mem_of_getElem? hc)
    have hsn := bSum_snoc hc
    obtain ⟨q, hq⟩ : ∃ q, k + bSum (l.take i) = q := ⟨_, rfl⟩
    have hqb : 0 ≤ q ∧ q ≤ 100000000000 := by omega
    rw [hq] at hg
    have hqn : q + mSum c = k + bSum (l.take (i + 1)) := by rw [hsn]; omega
    have hms := mSum_le (l := c) (m := 4) hcf.2
    have a9 : ¬ q + mSum c < 0 := by omega
    refine okC_rg good ?_
    simp [go_sem, hml, hg, hq]
    repeat (with_reducible refine And.intro ?_ ?_; first | omega | assumption | (simp only [inI]; omega))
    first | refine callK_of (fn_laws_heldOpS c q hcf.1 hcf.2 hqb) (by simp [go_sem]) ?_ | refine callK_fz (fn_laws_heldOpS c q hcf.1 hcf.2 hqb) (by simp [go_sem]) (by simp [go_sem]) ?_
    simp [go_sem, hml, hg, hq]
    repeat (with_reducible refine And.intro ?_ ?_; first | omega | assumption | (simp only [inI]; omega))
    refine okC_rg good ?_
    simp [go_sem, hml, hg, hq, a9]
    repeat (with_reducible refine And.intro ?_ ?_; first | omega | assumption | (simp only [inI]; omega))
    refine okC_if ?_
    simp [go_sem, hml, hg, hq, a9]
    refine okC_skip ?_
    refine okC_rg1 good ?_
    simp [go_sem, hml, hg, hq, a9, hqn]
    repeat (with_reducible refine And.intro ?_ ?_; first | omega | assumption | (simp only [inI]; omega))
    refine normalE hK1 ⟨i + 1, [], (by first | omega | (simp; omega) | grind), (by show _ < _; first | omega | simp; omega), (by simp [go_sem, hml, hg, hq, a9, hqn])⟩
  · try simp at a
    refine okC_exit (show K1 _ _ from exitE hK1 ?_)
    obtain rfl : i = l.length := by omega
    have htl : l.take l.length = l := List.take_length
    refine okC_rg good ?_
    simp [go_sem, hml, htl]
    repeat (with_reducible refine And.intro ?_ ?_; first | omega | assumption | (simp only [inI]; omega))
    refine okC_ret ?_
    simp [go_sem, hml, htl]
    all_goals first | done | omega | grind | (simp; omega) | (simp_all; done) | (simp_all; omega)
end Go.Proofs.YtfhfidecmdhkoaaGreatDoor
end
section
set_option linter.unusedVariables false
namespace Go.Dv
open Go.RowKit
set_option linter.unusedSectionVars false
variable [Glob]
abbrev rnd (l : Nat) : Fence := Fence.wide.inRound l
def noDefer1 (o : Oper) : Bool := match o.op with
  | .defer _ => false
  | _ => true
theorem Rows.inRnd {P : Program} {l m : Nat} {row : String} {args : Array Value} {w : World} {R : Value → World → Prop} (h : Rows P row args w R) : RowsIn (rnd l) m P row args w R := fun c cs _ => by
  obtain ⟨v, w', r, s⟩ := h c cs
  exact ⟨v, w', r, stepsIn_wide.2 s⟩
theorem Calls.inRnd {P : Program} {l m : Nat} {f : FuncId} {args : Array Value} {w : World} {R : Ending → World → Prop} (h : Calls P f args w R) : CallsIn (rnd l) m P f args w R := CallsIn.inRound l (callsIn_wide.2 h)
theorem wp_inRnd {P : Program} {l m : Nat} {o : Oper} {a : Act} {w : World} {next : Act → World → Prop} {Q : Exit → Act → World → Prop} (hd : noDefer1 o = true) (h : o.wp P a w next Q) : o.wpIn (rnd l) m P a w next Q := by
  have hs : o.semAt (rnd l).round a.eval = execOp a.eval o := Oper.semAt_some l _ _ fun c e => by simp [noDefer1, e] at hd
  unfold Oper.wpIn
  rw [hs]
  refine ⟨fun _ _ => trivial, ?_⟩
  unfold Oper.wp at h
  generalize (execOp a.eval o).run P w = r at h
  cases r with
  | ok nx w' =>
    cases nx with
    | enter f args => exact ⟨fun h0 => (by cases h0), Calls.inRnd h⟩
    | row f args => exact ⟨fun h0 => (by cases h0), Rows.inRnd h⟩
    | value v => exact h
    | skip => exact h
    | defer d => exact h
    | _ => exact h.elim
  | halt x w' => cases x <;> first | exact h | exact h.elim
theorem wpIn_nextMono {F : Fence} {P : Program} {m : Nat} {o : Oper} {a : Act} {w : World} {next next' : Act → World → Prop} {Q : Exit → Act → World → Prop} (hn : ∀ a w, next a w → next' a w) (h : o.wpIn F m P a w next Q) : o.wpIn F m P a w next' Q := by
  unfold Oper.wpIn at *
  refine ⟨h.1, ?_⟩
  have h := h.2
  generalize (o.semAt F.round a.eval).run P w = r at h
  cases r with
  | ok nx w' =>
    cases nx with
    | enter f args => exact ⟨h.1, h.2.mono fun e w'' he => by cases e <;> first | exact hn _ _ he | exact he⟩
    | row f args => exact ⟨h.1, h.2.mono fun v w'' he => hn _ _ he⟩
    | round a1 a2 a3 a4 a5 => exact ⟨h.1, h.2.mono fun e w'' he => by cases e <;> first | exact hn _ _ he | exact he⟩
    | value v => exact hn _ _ h
    | skip => exact hn _ _ h
    | defer d => exact hn _ _ h
    | _ => exact h.elim
  | halt x w' => cases x <;> first | exact h | exact h.elim
def PinnedL (ps : List (Nat × Value)) (a : Act) : Prop := ∀ q ∈ ps, Pinned (some q) a
def noDstL (ps : List Nat) (ops : List Oper) : Bool := ops.all fun o => noDefer1 o && ps.all fun m => o.dst != some m
theorem PinnedL.put {ps : List (Nat × Value)} {a : Act} {o : Oper} {v : Value} (h : PinnedL ps a) (hd : (ps.map fun q => q.1).all (fun m => o.dst != some m) = true) : PinnedL ps (a.put o.dst v) := by
  intro q hq
  refine (h q hq).put ?_
  simp only [noDst1]
  exact List.all_eq_true.1 hd q.1 (List.mem_map_of_mem hq)
theorem wp_pinL {P : Program} {ps : List (Nat × Value)} {o : Oper} {a : Act} {w : World} {next : Act → World → Prop} {Q : Exit → Act → World → Prop} (hp : PinnedL ps a) (hd : (ps.map fun q => q.1).all (fun m => o.dst != some m) = true) (h : o.wp P a w next Q) : o.wp P a w (fun a' w' => next a' w' ∧ PinnedL ps a') Q := by
  unfold Oper.wp at *
  generalize (execOp a.eval o).run P w = r at *
  cases r with
  | ok nx w' =>
    cases nx <;> simp only [Oper.upon] at h ⊢ <;>
      first
        | exact ⟨h, hp.put hd⟩
        | exact ⟨h, PinnedL.put (a := { a with defers := _ }) hp hd⟩
        | exact Calls.mono h (fun e w'' he => by cases e <;> first | exact ⟨he, hp.put hd⟩ | exact he)
        | exact Rows.mono h (fun _ _ he => ⟨he, hp.put hd⟩)
  | halt x w' => cases x <;> simp only [Oper.upon] at h ⊢ <;> exact h
def OkR (P : Program) (l m n : Nat) (w0 : World) (ow0 : Own) (ps : List (Nat × Value)) (c : Code) (s : St) (K : Exit → St → Prop) : Prop :=
  ∀ a w, Rel P n w0 ow0 s a w → PinnedL ps a → ∀ Q : Exit → Act → World → Prop, (∀ e s' a' w', K e s' → Rel P n w0 ow0 s' a' w' → PinnedL ps a' → Q e a' w') → c.wpIn (rnd l) m P Q a w
section
variable {P : Program} {l m n : Nat} {w0 : World} {ow0 : Own} {ps : List (Nat × Value)} {s : St} {K : Exit → St → Prop}
theorem okR_skip (h : K .normal s) : OkR P l m n w0 ow0 ps .skip s K := fun a w hR hp Q hQ => wpIn_skip (hQ _ _ _ _ h hR hp)
theorem okR_exit {id : Nat} (h : K (.exit id) s) : OkR P l m n w0 ow0 ps (.exit id) s K := fun a w hR hp Q hQ => wpIn_exit (hQ _ _ _ _ h hR hp)
theorem okR_seq {x y : Code} (h : OkR P l m n w0 ow0 ps x s (thenK (fun s' => OkR P l m n w0 ow0 ps y s' K) K)) : OkR P l m n w0 ow0 ps (.seq x y) s K := fun a w hR hp Q hQ =>
  wpIn_seq (h a w hR hp _ fun e s' a' w' hK hR' hp' => by cases e <;> first | exact hK a' w' hR' hp' Q hQ | exact hQ _ _ _ _ hK hR' hp')
theorem okR_block {id : Nat} {c : Code} (h : OkR P l m n w0 ow0 ps c s (blockK id K)) : OkR P l m n w0 ow0 ps (.block id c) s K := fun a w hR hp Q hQ =>
  wpIn_block (h a w hR hp _ fun e s' a' w' hK hR' hp' => by
    cases e with
    | exit id' =>
      simp only [blockK] at hK
      simp only [Exit.inBlock]
      split
      · rename_i hid; rw [if_pos hid] at hK; exact hQ _ _ _ _ hK hR' hp'
      · rename_i hid; rw [if_neg hid] at hK; exact hQ _ _ _ _ hK hR' hp'
    | _ => exact hQ _ _ _ _ hK hR' hp')
theorem okR_cond {c : Operand} {x y : Code} (h : oneK (evS s c) fun v => match v with | .bool b => (b = true → OkR P l m n w0 ow0 ps x s K) ∧ (b = false → OkR P l m n w0 ow0 ps y s K) | _ => False) : OkR P l m n w0 ow0 ps (.cond c x y) s K := fun a w hR hp Q hQ => by
  obtain ⟨v, hv, h⟩ := oneK_of h
  split at h
  rotate_left
  · exact h.elim
  obtain ⟨h1, h2⟩ := h
  obtain ⟨ow, hf⟩ := hR
  have hc := (hf.one hv).1
  exact wpIn_cond_split hc (fun hb => h1 hb a w ⟨ow, hf⟩ hp Q hQ) (fun hb => h2 hb a w ⟨ow, hf⟩ hp Q hQ)
theorem okR_if {c : Operand} {x y : Code} (h : @gQ (evS s c) ⟨OkR P l m n w0 ow0 ps x s K⟩ ⟨OkR P l m n w0 ow0 ps y s K⟩) : OkR P l m n w0 ow0 ps (.cond c x y) s K := by
  refine okR_cond ?_
  unfold gQ at h
  split at h
  · rename_i b hb
    rw [hb]
    exact h
  · exact h.elim
theorem OkL.wpR {ops : Array Oper} {Q : Exit → Act → World → Prop} : ∀ (ol : List Oper) (s : St) (K : St → Prop), OkL P n w0 ow0 ops ol s K → (∀ o ∈ ol, noDefer1 o = true ∧ (ps.map fun q => q.1).all (fun m => o.dst != some m) = true) → ∀ a w, Rel P n w0 ow0 s a w → PinnedL ps a → (∀ s' a' w', K s' → Rel P n w0 ow0 s' a' w' → PinnedL ps a' → Q .normal a' w') → wpListIn (rnd l) m P ops Q ol a w
  | [], s, K, h, _, a, w, hR, hp, hQ => hQ s a w h hR hp
  | o :: ol, s, K, h, hd, a, w, hR, hp, hQ => by
    have hg := gK_wanted hR h
    unfold wpListIn
    split
    · rename_i hw
      rw [if_pos hw] at hg
      have h1 := hg a w hR (fun a' w' => ∃ s', OkL P n w0 ow0 ops ol s' K ∧ Rel P n w0 ow0 s' a' w') Q fun s' a' w' hK hR' => ⟨s', hK, hR'⟩
      exact wpIn_nextMono (fun a' w' hh => by obtain ⟨⟨s', hK, hR'⟩, hp'⟩ := hh; exact OkL.wpR ol s' K hK (fun o ho => hd o (List.mem_cons_of_mem _ ho)) a' w' hR' hp' hQ) (wp_inRnd (hd o (by simp)).1 (wp_pinL hp (hd o (by simp)).2 h1))
    · rename_i hw
      rw [if_neg hw] at hg
      obtain ⟨ow, hf⟩ := hR
      exact ⟨fun _ _ => trivial, OkL.wpR ol _ K hg.2 (fun o ho => hd o (List.mem_cons_of_mem _ ho)) _ w ⟨ow, hf.setU hg.1⟩ (hp.put (hd o (by simp)).2) hQ⟩
theorem okR_region {id : Nat} {ops : Array Oper} (h : OkL P n w0 ow0 ops ops.toList s (fun s' => K .normal s')) (hd : noDstL (ps.map fun q => q.1) ops.toList = true) : OkR P l m n w0 ow0 ps (.region id ops false) s K := fun a w hR hp Q hQ =>
  wpIn_region_list (OkL.wpR _ _ _ h (fun o ho => by simpa using List.all_eq_true.1 hd o ho) a w hR hp fun s' a' w' hK hR' hp' => hQ _ _ _ _ hK hR' hp')
theorem okR_rg {T : TypeId → TyE} (hG : ∀ t, Good P T t) {id : Nat} {ops : Array Oper} {y : Code} (h : vcL P T n ops ops.toList s (fun s' => @blk St s' ⟨fun s' => OkR P l m n w0 ow0 ps y s' K⟩)) (hd : noDstL (ps.map fun q => q.1) ops.toList = true) : OkR P l m n w0 ow0 ps (.seq (.region id ops false) y) s K := okR_seq (okR_region (stepL_ok hG _ _ _ h) hd)
theorem okR_rg1 {T : TypeId → TyE} (hG : ∀ t, Good P T t) {id : Nat} {ops : Array Oper} (h : vcL P T n ops ops.toList s (fun s' => @blk St s' ⟨fun s' => K .normal s'⟩)) (hd : noDstL (ps.map fun q => q.1) ops.toList = true) : OkR P l m n w0 ow0 ps (.region id ops false) s K := okR_region (stepL_ok hG _ _ _ h) hd
end
def rfLoop : Code → Option (Code × Code)
  | .rangeFunc _ _ x y => some (x, y)
  | .seq x y => (rfLoop x).orElse fun _ => rfLoop y
  | .block _ x => rfLoop x
  | _ => none
end Go.Dv
end
section
set_option linter.unusedVariables false
set_option linter.unusedSimpArgs false
set_option maxRecDepth 10000
namespace Go.Proofs.YtfhfidecmdhkoaaGreatDoor
open Go.Dv Go.Pl
abbrev asg12 : Code := (Go.Code.region 6 #[{ dst := some 6, op := Go.Op.assign (Go.Operand.tmp 15), type := 9, pos := "l31_log.go:47", after := #[], guard := none }] false)
abbrev bod12 : Code := (Go.Code.block 1 ((Go.Code.region 7 #[{ dst := some 17, op := Go.Op.move (Go.Operand.tmp 6), type := 9, pos := "l31_log.go:48", after := #[], guard := none }, { dst := some 18, op := Go.Op.call { callee := Go.Callee.value (Go.Operand.func 19), args := #[Go.Operand.tmp 17], argTypes := #[9] }, type := 45, pos := "l31_log.go:48", after := #[{ on := 0, ground := Go.Ground.data }], guard := none }, { dst := some 16, op := Go.Op.move (Go.Operand.tmp 18), type := 45, pos := "l31_log.go:48", after := #[{ on := 1, ground := Go.Ground.data }], guard := none }, { dst := some 19, op := Go.Op.extract (Go.Operand.tmp 16) 0, type := 3, pos := "l31_log.go:48", after := #[{ on := 2, ground := Go.Ground.data }], guard := none }, { dst := some 20, op := Go.Op.extract (Go.Operand.tmp 16) 1, type := 30, pos := "l31_log.go:48", after := #[{ on := 2, ground := Go.Ground.data }, { on := 7, ground := Go.Ground.gcOnly Go.Departure.lateStores }], guard := none }, { dst := some 21, op := Go.Op.extract (Go.Operand.tmp 16) 2, type := 4, pos := "l31_log.go:48", after := #[{ on := 2, ground := Go.Ground.data }, { on := 8, ground := Go.Ground.gcOnly Go.Departure.lateStores }], guard := none }, { dst := some 8, op := Go.Op.alloc 30, type := 0, pos := "l31_log.go:48", after := #[], guard := none }, { dst := some 7, op := Go.Op.assign (Go.Operand.tmp 19), type := 3, pos := "l31_log.go:48", after := #[{ on := 3, ground := Go.Ground.data }, { on := 1, ground := Go.Ground.chain }, { on := 0, ground := Go.Ground.phase }, { on := 1, ground := Go.Ground.phase }, { on := 2, ground := Go.Ground.phase }, { on := 3, ground := Go.Ground.phase }, { on := 4, ground := Go.Ground.textOnly Go.Departure.lateStores }, { on := 5, ground := Go.Ground.textOnly Go.Departure.lateStores }, { on := 6, ground := Go.Ground.phase }], guard := none }, { dst := none, op := Go.Op.store 30 (Go.Operand.tmp 8) (Go.Operand.tmp 20), type := 0, pos := "l31_log.go:48", after := #[{ on := 6, ground := Go.Ground.data }, { on := 4, ground := Go.Ground.data }, { on := 7, ground := Go.Ground.chain }, { on := 0, ground := Go.Ground.phase }, { on := 1, ground := Go.Ground.phase }, { on := 2, ground := Go.Ground.phase }, { on := 3, ground := Go.Ground.phase }, { on := 4, ground := Go.Ground.phase }, { on := 5, ground := Go.Ground.textOnly Go.Departure.lateStores }, { on := 6, ground := Go.Ground.phase }, { on := 7, ground := Go.Ground.phase }], guard := none }, { dst := some 9, op := Go.Op.assign (Go.Operand.tmp 21), type := 4, pos := "l31_log.go:48", after := #[{ on := 5, ground := Go.Ground.data }, { on := 8, ground := Go.Ground.chain }, { on := 0, ground := Go.Ground.phase }, { on := 1, ground := Go.Ground.phase }, { on := 2, ground := Go.Ground.phase }, { on := 3, ground := Go.Ground.phase }, { on := 4, ground := Go.Ground.phase }, { on := 5, ground := Go.Ground.phase }, { on := 6, ground := Go.Ground.phase }, { on := 7, ground := Go.Ground.phase }, { on := 8, ground := Go.Ground.phase }], guard := none }] false).seq (((Go.Code.region 8 #[{ dst := some 22, op := Go.Op.move (Go.Operand.tmp 9), type := 4, pos := "l31_log.go:49", after := #[], guard := none }, { dst := some 23, op := Go.Op.unOp Go.UnOp.not 4 (Go.Operand.tmp 22), type := 4, pos := "l31_log.go:49", after := #[{ on := 0, ground := Go.Ground.data }], guard := none }, { dst := some 24, op := Go.Op.move (Go.Operand.tmp 23), type := 4, pos := "l31_log.go:49", after := #[{ on := 1, ground := Go.Ground.data }], guard := none }, { dst := some 25, op := Go.Op.move (Go.Operand.tmp 7), type := 3, pos := "l31_log.go:49", after := #[{ on := 2, ground := Go.Ground.guard }], guard := some (2, false) }, { dst := some 26, op := Go.Op.load 34 (Go.Operand.tmp 4), type := 34, pos := "l31_log.go:49", after := #[{ on := 2, ground := Go.Ground.guard }], guard := some (2, false) }, { dst := some 27, op := Go.Op.call { callee := Go.Callee.builtin Go.Builtin.len, args := #[Go.Operand.tmp 26], argTypes := #[34] }, type := 3, pos := "l31_log.go:49", after := #[{ on := 4, ground := Go.Ground.data }, { on := 2, ground := Go.Ground.guard }], guard := some (2, false) }, { dst := some 28, op := Go.Op.binOp Go.BinOp.add 3 (Go.Operand.tmp 27) (Go.Operand.const (Go.Value.int Go.IntKind.i64 1)) 3, type := 3, pos := "l31_log.go:49", after := #[{ on := 5, ground := Go.Ground.data }, { on := 2, ground := Go.Ground.guard }], guard := some (2, false) }, { dst := some 29, op := Go.Op.binOp Go.BinOp.neq 3 (Go.Operand.tmp 25) (Go.Operand.tmp 28) 3, type := 4, pos := "l31_log.go:49", after := #[{ on := 3, ground := Go.Ground.data }, { on := 6, ground := Go.Ground.data }, { on := 2, ground := Go.Ground.guard }], guard := some (2, false) }, { dst := some 30, op := Go.Op.pick (Go.Operand.tmp 24) (Go.Operand.const (Go.Value.bool true)) (Go.Operand.tmp 29), type := 4, pos := "l31_log.go:49", after := #[{ on := 2, ground := Go.Ground.data }, { on := 7, ground := Go.Ground.data }], guard := none }] false).seq (Go.Code.cond (Go.Operand.tmp 30) (Go.Code.exit 0) Go.Code.skip)).seq ((Go.Code.region 9 #[{ dst := some 31, op := Go.Op.load 34 (Go.Operand.tmp 4), type := 34, pos := "l31_log.go:52", after := #[], guard := none }, { dst := some 32, op := Go.Op.load 30 (Go.Operand.tmp 8), type := 30, pos := "l31_log.go:52", after := #[], guard := none }, { dst := some 33, op := Go.Op.buildSlice 34 1 #[(0, Go.Operand.tmp 32)], type := 34, pos := "l31_log.go:52", after := #[{ on := 1, ground := Go.Ground.data }], guard := none }, { dst := some 34, op := Go.Op.call { callee := Go.Callee.builtin Go.Builtin.append, args := #[Go.Operand.tmp 31, Go.Operand.tmp 33], argTypes := #[34, 34] }, type := 34, pos := "l31_log.go:52", after := #[{ on := 0, ground := Go.Ground.data }, { on := 2, ground := Go.Ground.data }], guard := none }, { dst := none, op := Go.Op.store 34 (Go.Operand.tmp 4) (Go.Operand.tmp 34), type := 0, pos := "l31_log.go:52", after := #[{ on := 3, ground := Go.Ground.data }, { on := 3, ground := Go.Ground.chain }, { on := 0, ground := Go.Ground.phase }, { on := 1, ground := Go.Ground.phase }, { on := 2, ground := Go.Ground.phase }, { on := 3, ground := Go.Ground.phase }], guard := none }] false).seq (Go.Code.region 10 #[{ dst := some 35, op := Go.Op.load 3 (Go.Operand.tmp 5), type := 3, pos := "l31_log.go:53", after := #[], guard := none }, { dst := some 36, op := Go.Op.move (Go.Operand.tmp 6), type := 9, pos := "l31_log.go:53", after := #[], guard := none }, { dst := some 37, op := Go.Op.call { callee := Go.Callee.builtin Go.Builtin.len, args := #[Go.Operand.tmp 36], argTypes := #[9] }, type := 3, pos := "l31_log.go:53", after := #[{ on := 1, ground := Go.Ground.data }], guard := none }, { dst := some 38, op := Go.Op.binOp Go.BinOp.add 3 (Go.Operand.tmp 35) (Go.Operand.tmp 37) 3, type := 3, pos := "l31_log.go:53", after := #[{ on := 0, ground := Go.Ground.data }, { on := 2, ground := Go.Ground.data }], guard := none }, { dst := none, op := Go.Op.store 3 (Go.Operand.tmp 5) (Go.Operand.tmp 38), type := 0, pos := "l31_log.go:53", after := #[{ on := 3, ground := Go.Ground.data }, { on := 0, ground := Go.Ground.phase }, { on := 1, ground := Go.Ground.phase }, { on := 2, ground := Go.Ground.phase }, { on := 3, ground := Go.Ground.phase }], guard := none }] false)))))
def slots12 (l : List (List Opn)) (r : Int) : List (Nat × S) := [(4, .own (.bx true (oBats l))), (5, .own (.bx true (dI r)))]
theorem asg12_ok {lid m : Nat} {w0 : World} {ow0 : Go.Dv.Own} {v4 v5 : Value} {x : Str} {l : List (List Opn)} {r : Int} {K : Exit → St → Prop} (hK : ∀ s', Tells Tryz.prog 41 s' (lst ((6, .val (dS x)) :: slots12 l r)) → K .normal s') :
    OkR Tryz.prog lid m 41 w0 ow0 [(4, v4), (5, v5)] asg12 (lst ((15, .val (dS x)) :: slots12 l r)) K := by
  refine okR_rg1 (id := 6) good ?_ (by rfl)
  simp [go_sem, slots12]
  refine hK _ (tells_list [] ?_)
  simp [go_sem, slots12]
theorem bod12_ok {lid m : Nat} {w0 : World} {ow0 : Go.Dv.Own} {v4 v5 : Value} {x : Str} {l : List (List Opn)} {r : Int} {K : Exit → St → Prop} (hx : x.length ≤ 6000) (hl : l.length ≤ 6000) (hr : 0 ≤ r ∧ r ≤ 6000)
    (hyes : ∀ v b s', readEnt x = some (v, b) → v = (l.length : Int) + 1 → Tells Tryz.prog 41 s' (lst (slots12 (l ++ [b]) (r + x.length))) → K .normal s')
    (hno : ∀ s', (∀ v b, readEnt x = some (v, b) → v ≠ (l.length : Int) + 1) → Tells Tryz.prog 41 s' (lst (slots12 l r)) → K (.exit 0) s') :
    OkR Tryz.prog lid m 41 w0 ow0 [(4, v4), (5, v5)] bod12 (lst ((6, .val (dS x)) :: slots12 l r)) K := by
  refine okR_block (id := 1) ?_
  refine okR_rg (id := 7) good ?_ ?_; rotate_left; rfl
  simp [go_sem, slots12]
  refine callK_of (fn_impl_DecodeEntry x (by omega)) (by simp [go_sem]) ?_
  simp [go_sem]
  refine okR_seq ?_
  refine okR_rg (id := 8) good ?_ (by rfl)
  simp [go_sem]
  first | refine gI_dec (fun f => ?_) (fun f => ?_) | refine gI_ndec (fun f => ?_) (fun f => ?_) | refine gI_of (fun f => ?_) (fun f => ?_)
  · simp [go_sem, f]
    refine okR_if ?_
    simp [go_sem, f]
    refine okR_exit ?_
    simp only [blockK, thenK]
    refine hno _ (fun v b hr => by rw [hr] at f; simp at f) (tells_list [] ?_)
    simp [go_sem, slots12]
  · obtain ⟨vb, hrd⟩ := Option.isSome_iff_exists.1 (show (readEnt x).isSome = true by simpa using f)
    obtain ⟨v, bt⟩ := vb
    have ho : entOr x = (v, bt) := by rw [entOr, hrd]; rfl
    simp [go_sem, f, ho]
    repeat (with_reducible refine And.intro ?_ ?_; first | omega | assumption | (simp only [inI]; omega) | exact inI_tdiv (by omega) (by omega) (by omega))
    refine okR_if ?_
    simp [go_sem, f, ho]
    first | refine gC_dec (fun g => ?_) (fun g => ?_) | refine gC_ndec (fun g => ?_) (fun g => ?_) | refine gC_of (fun g => ?_) (fun g => ?_)
    · try simp at g
      refine okR_exit ?_
      simp only [blockK, thenK]
      refine hno _ (fun v' b' hr' => by rw [hrd] at hr'; obtain ⟨rfl, rfl⟩ := Prod.mk.inj (Option.some.inj hr'); exact g) (tells_list [] ?_)
      simp [go_sem, slots12]
    · try simp at g
      refine okR_skip ?_
      simp only [thenK]
      refine okR_rg (id := 9) good ?_ (by rfl)
      simp [go_sem, f, ho]
      refine ⟨by omega, ?_⟩
      simp only [blk]
      refine okR_rg1 (id := 10) good ?_ (by rfl)
      simp [go_sem, f, ho]
      repeat (with_reducible refine And.intro ?_ ?_; first | omega | assumption | (simp only [inI]; omega) | exact inI_tdiv (by omega) (by omega) (by omega))
      refine hyes v bt _ hrd g (tells_list [] ?_)
      simp [go_sem, slots12]
end Go.Proofs.YtfhfidecmdhkoaaGreatDoor
end
section
set_option linter.unusedVariables false
namespace Go.Dv
open Go.RowKit
set_option linter.unusedSectionVars false
variable [Glob]
theorem Fits.rebase {P : Program} {n : Nat} {w0 w : World} {ow0 ow : Own} {s : St} {a : Act} (h : Fits P n w0 ow0 ow s a w) : Fits P n w ow ow s a w :=
  ⟨h.nodef, h.size, h.small, h.laidNow, ⟨rfl, rfl, rfl, Nat.le_refl _, fun _ _ _ => rfl⟩, fun _ _ h => h, h.new, h.far, fun _ _ _ hq => ⟨rfl, hq⟩, h.slot⟩
theorem Fits.onto {P : Program} {n : Nat} {w0 w w' : World} {ow0 ow ow' : Own} {s s' : St} {a a' : Act} (h : Fits P n w0 ow0 ow s a w) (h' : Fits P n w ow ow' s' a' w') : Fits P n w0 ow0 ow' s' a' w' :=
  ⟨h'.nodef, h'.size, h'.small, h.laid, ⟨h'.bel.os.trans h.bel.os, h'.bel.tape.trans h.bel.tape, h'.bel.output.trans h.bel.output, Nat.le_trans h.bel.size h'.bel.size, fun b hb ho => (h'.bel.block b (Nat.lt_of_lt_of_le hb h.bel.size) (h.own b hb ho)).trans (h.bel.block b hb ho)⟩,
    fun b hb ho => h'.own b (Nat.lt_of_lt_of_le hb h.bel.size) (h.own b hb ho), h'.new, h'.far, fun b hb q hq => by
      obtain ⟨h1, h2⟩ := h.keep b hb q hq
      obtain ⟨h3, h4⟩ := h'.keep b (Nat.lt_of_lt_of_le hb h.bel.size) q h2
      exact ⟨h3.trans h1, h4⟩, h'.slot⟩
theorem Fits.turn {P : Program} {n : Nat} {w0 w w' : World} {ow0 ow ow' : Own} {s : St} {a : Act} (h : Fits P n w0 ow0 ow s a w) (hos : w'.os = w.os) (htape : w'.tape = w.tape) (hout : w'.output = w.output) (hsz : w.heap.size ≤ w'.heap.size)
    (hb : ∀ b, b < w.heap.size → ow' b = ow b ∧ (w'.heap[b]? = w.heap[b]? ∨ (w0.heap.size ≤ b ∧ ∃ q, ow b = some (q ++ [far0])))) (hnew : ∀ b, w'.heap.size ≤ b → ow' b = none) : Fits P n w0 ow0 ow' s a w' := by
  have hq : Quiet w ow w' ow' := fun b hlt ho => by
    obtain ⟨h1, h2⟩ := hb b hlt
    rcases h2 with h2 | ⟨_, q, h2⟩
    · exact ⟨h2, by rw [h1]; exact ho⟩
    · rw [ho] at h2; cases h2
  have hl : ∀ j, j ≠ far0 → ∀ b, b < w.heap.size → ∀ q, ow b = some (q ++ [j]) → w'.heap[b]? = w.heap[b]? ∧ ow' b = some (q ++ [j]) := fun j hj b hlt q ho => by
    obtain ⟨h1, h2⟩ := hb b hlt
    rcases h2 with h2 | ⟨_, q', h2⟩
    · exact ⟨h2, by rw [h1]; exact ho⟩
    · rw [ho] at h2
      have := congrArg List.getLast? (Option.some.inj h2)
      simp at this
      exact absurd this hj
  have hlow : ∀ b, b < w0.heap.size → w'.heap[b]? = w.heap[b]? ∧ ow' b = ow b := fun b hlt => by
    obtain ⟨h1, h2⟩ := hb b (Nat.lt_of_lt_of_le hlt h.bel.size)
    rcases h2 with h2 | ⟨h2, _⟩
    · exact ⟨h2, h1⟩
    · omega
  refine ⟨h.nodef, h.size, h.small, h.laid, ⟨hos.trans h.bel.os, htape.trans h.bel.tape, hout.trans h.bel.output, Nat.le_trans h.bel.size hsz, fun b hlt ho => (hlow b hlt).1.trans (h.bel.block b hlt ho)⟩, fun b hlt ho => (hlow b hlt).2.trans (h.own b hlt ho), hnew, h.far, fun b hlt q ho => ?_, fun i => ?_⟩
  · obtain ⟨h1, h2⟩ := h.keep b hlt q ho
    exact ⟨(hlow b hlt).1.trans h1, (hlow b hlt).2.trans h2⟩
  · by_cases hi : i = far0
    · subst hi; rw [h.far]; trivial
    · refine (h.slot i).keep hq (fun _ b hb' q hq' => hl i hi b hb' q hq') (fun j _ d hd _ => ?_) (fun j d hd => by have := h.slot j; rw [hd] at this; exact this)
      have hj : j ≠ far0 := fun e => by rw [e, h.far] at hd; cases hd
      exact ⟨hd, rfl, fun b hb' q hq' => hl j hj b hb' q hq'⟩
theorem Fits.reAct {P : Program} {n : Nat} {w0 w : World} {ow0 ow : Own} {s : St} {a a' : Act} (h : Fits P n w0 ow0 ow s a w) (hd : a'.defers = []) (hn : a'.tmps.size = n) (hv : ∀ i, s i = .un ∨ (∃ d, s i = .own d) ∧ aval a' i = aval a i) : Fits P n w0 ow0 ow s a' w :=
  ⟨hd, hn, h.small, h.laid, h.bel, h.own, h.new, h.far, h.keep, fun i => by
    rcases hv i with h1 | ⟨⟨d, h1⟩, h2⟩
    · rw [h1]; trivial
    · have := h.slot i
      rw [h1] at this ⊢
      rw [h2]
      exact this⟩
theorem ret_out {P : Program} {T : TypeId → TyE} {n : Nat} {rs : List ResultVar} {Q : S → Prop} {w w' : World} {ow ow1 : Own} {s' : St} {a' : Act} {t : Nat} (hG : ∀ t, Good P T t) (hf1 : Fits P n w (fun b => (ow b).map (· ++ [far0])) ow1 s' a' w') (hnew : ∀ b, w.heap.size ≤ b → ow b = none) (hK : retL T rs s' (fun ds _ => Q (retS ds))) :
    ∃ vals : List Value, vals.length = rs.length ∧ (∀ g : ResultVar → Sem Value, (∀ r, g r = rvRun a'.tmps r) → (rs.mapM g).run P w' = .ok vals w') ∧
      ∃ ow' r, Q r ∧ After w ow w' ow' ∧ S.plain r = true ∧ ∀ s a, SV P w' ow' s a t r (if h : vals.toArray.size = 1 then vals.toArray[0] else .tuple vals.toArray) := by
  obtain ⟨vals, ow2, s2, ds2, hQ, hf2, hl1, hl2, hrun, hvals, hkeep⟩ := hf1.retL hG (fun k => if rs.length = 1 then [] else [k]) rs 0 hK
  have hnone : ∀ b, ow2 b = none → leave w ow ow2 t b = none := by
    intro b hb
    unfold leave
    split
    · rename_i hlt
      cases ho : ow b with
      | none => rfl
      | some q =>
        have := (hf2.keep b hlt q (by simp [ho])).2
        rw [hb] at this; cases this
    · simp [hb]
  have hold : ∀ b q, b < w.heap.size → ow2 b ≠ some (q ++ [res0]) := by
    intro b q hlt e
    cases ho : ow b with
    | none =>
      have := hf2.own b hlt (by simp [ho])
      rw [e] at this; cases this
    | some q' =>
      have := (hf2.keep b hlt q' (by simp [ho])).2
      rw [e] at this
      have := congrArg List.getLast? (Option.some.inj this)
      simp [res0, far0] at this
  have hk : ∀ l, Keeps w' ow2 (l ++ [res0]) w' (leave w ow ow2 t) (l ++ [t]) := fun l b _ => ⟨fun ho => ⟨rfl, hnone b ho⟩, fun q hq => ⟨rfl, by
    have hq' : ow2 b = some ((q ++ l) ++ [res0]) := by rw [hq]; simp
    unfold leave
    rw [if_neg fun hlt => hold b _ hlt hq', hq']
    simp⟩⟩
  have hq : Quiet w' ow2 w' (leave w ow ow2 t) := fun b _ ho => ⟨rfl, hnone b ho⟩
  have part : ∀ (j : Nat) (p : D × Bool), ds2[j]? = some p → ∃ v, vals[j]? = some v ∧ (if (p.2 || p.1.frz) = true then V P w' (leave w ow ow2 t) p.1.fz [] v else V P w' (leave w ow ow2 t) p.1 ((if rs.length = 1 then [] else [j]) ++ [t]) v) := by
    intro j p hj
    obtain ⟨v, h1, h2, h3⟩ := hvals j p hj
    rw [Nat.zero_add] at h2
    refine ⟨v, h1, ?_⟩
    by_cases hp : (p.2 || p.1.frz) = true
    · rw [if_pos hp]
      have hfz : p.1.fz = p.1 := by
        rcases Bool.or_eq_true _ _ ▸ hp with hp | hp
        · exact h3 hp
        · exact D.fz_frz hp
      rw [← hfz] at h2
      exact V.trf hq h2
    · rw [if_neg hp]
      exact V.tr (hk _) h2
  refine ⟨vals, by rw [hl2], fun g hg => hrun g hg, leave w ow ow2 t, retS ds2, hQ, ⟨hf2.bel.os, hf2.bel.tape, hf2.bel.output, hf2.bel.size, fun b hb => ⟨?_, by unfold leave; rw [if_pos hb]⟩, fun b hb => hnone b (hf2.new b hb)⟩, ?_, fun s a => ?_⟩
  · cases ho : ow b with
    | none => exact hf2.bel.block b hb (by simp [ho])
    | some q => exact (hf2.keep b hb q (by simp [ho])).1
  · unfold retS
    split
    · split <;> rfl
    · rfl
  · by_cases hone : rs.length = 1
    · have hd1 : ds2.length = 1 := by rw [hl1, hone]
      have hv1 : vals.length = 1 := by rw [hl2, hone]
      obtain ⟨⟨d, b⟩, rfl⟩ := List.length_eq_one_iff.1 hd1
      obtain ⟨v, rfl⟩ := List.length_eq_one_iff.1 hv1
      · obtain ⟨v', h1, h2⟩ := part 0 (d, b) rfl
        obtain rfl : v = v' := by simpa using h1
        rw [if_pos hone] at h2
        simp only [retS]
        by_cases hp : (b || d.frz) = true
        · rw [if_pos hp] at h2 ⊢
          exact h2
        · rw [if_neg hp] at h2 ⊢
          exact h2
    · have hd1 : ∀ p, ds2 ≠ [p] := fun p e => by rw [e] at hl1; simp at hl1; exact hone hl1.symm
      have htup : retS ds2 = .tup (ds2.map fun p => if p.2 || p.1.frz then .val p.1 else .own p.1) := by
        unfold retS
        split
        · rename_i d b; exact absurd rfl (hd1 _)
        · rfl
      rw [htup]
      refine ⟨vals.toArray, ?_, by simp [hl1, hl2], fun j x hx => ?_⟩
      · rw [dif_neg]
        simp [hl2, hone]
      · simp only [List.getElem?_map, Option.map_eq_some_iff] at hx
        obtain ⟨p, hp, rfl⟩ := hx
        obtain ⟨v, h1, h2⟩ := part j p hp
        have hv : vals.toArray.getD j undef = v := by simp [Array.getD_eq_getD_getElem?, h1]
        rw [hv]
        by_cases hpf : (p.2 || p.1.frz) = true
        · rw [if_pos hpf] at h2 ⊢
          exact h2
        · rw [if_neg hpf] at h2 ⊢
          rw [if_neg hone] at h2
          exact h2
end Go.Dv
end
section
set_option linter.unusedVariables false
set_option linter.unusedSimpArgs false
set_option maxRecDepth 10000
namespace Go.Proofs.YtfhfidecmdhkoaaGreatDoor
open Go.Dv Go.Pl
open Go.RowKit Go.Shelf
attribute [local go_sem] Oper.semAt_some
abbrev vS (s : Str) : Value := .string ⟨s.toArray⟩
theorem Tryz.mixed : Tryz.prog.follows .mixedOrders = true := by kernel_rfl
def restLen (B : Nat) (W : World) : Nat := match W.cell? ⟨B, 0, none⟩ with
  | some (.string b) => b.size
  | _ => 0
def ibAt (r : Str) (z : Int) : Prop := z = Lib.indexByte r 10
theorem lineGo_yes : ∀ (r p : Str), (10 : UInt8) ∈ r → (r.takeWhile fun d => decide (d ≠ 10)).length + 1 ≤ r.length ∧ lineGo p r = (p ++ r.take ((r.takeWhile fun d => decide (d ≠ 10)).length + 1)) :: lines (r.drop ((r.takeWhile fun d => decide (d ≠ 10)).length + 1))
  | [], _, h => by simp at h
  | d :: r, p, h => by
    by_cases hd : d = 10
    · subst hd; simp [lineGo, lines]
    · have ih := lineGo_yes r (p ++ [d]) ((List.mem_cons.1 h).resolve_left fun e => hd e.symm)
      rw [List.takeWhile_cons_of_pos (by simpa using hd)]
      simp only [lineGo, if_neg hd, List.length_cons, List.take_succ_cons, List.drop_succ_cons]
      refine ⟨by omega, ?_⟩
      rw [ih.2]
      simp
theorem lineGo_none : ∀ (r p : Str), (10 : UInt8) ∉ r → lineGo p r = if p ++ r = [] then [] else [p ++ r]
  | [], p, _ => by simp [lineGo]
  | d :: r, p, h => by
    have hd : d ≠ 10 := fun e => h (by simp [e])
    rw [lineGo, if_neg hd, lineGo_none r _ fun e => h (List.mem_cons_of_mem _ e)]
    simp
theorem ib_yes {r : Str} {k : Nat} (h : ibAt r k) : k + 1 ≤ r.length ∧ lines r = r.take (k + 1) :: lines (r.drop (k + 1)) := by
  unfold ibAt at h
  rw [indexByte_eq] at h
  split at h
  · rename_i hm
    have := lineGo_yes r [] hm
    have hk : k = (r.takeWhile fun d => decide (d ≠ 10)).length := by omega
    rw [hk]
    exact this
  · omega
theorem ib_no {r : Str} {z : Int} (h : ibAt r z) (hr : r ≠ []) (hz : ¬ 0 ≤ z) : lines r = [r] := by
  unfold ibAt at h
  rw [indexByte_eq] at h
  split at h
  · omega
  · rename_i hm
    unfold lines
    rw [lineGo_none r [] hm]
    simp [hr]
theorem restLen_eq {B : Nat} {W : World} {r : Str} (h : W.cell? ⟨B, 0, none⟩ = some (vS r)) : restLen B W = r.length := by
  unfold restLen
  rw [h]
  exact ba_size r
theorem region_tailW {P : Program} {id : Nat} {Q : Exit → Act → World → Prop} {a : Act} {w : World} {l : List Oper} (n : Nat) (hm : P.follows .mixedOrders = true) (hB : Region.lexTailB .any l.toArray n = true)
    (h : ∀ w2 : World, w2.heap = w.heap → w2.os = w.os → w2.tape = w.tape → w2.output = w.output → wpStill P l.toArray w2 (fun a' => wpList P l.toArray Q (l.drop n) a' w2) (l.take n) a) : (Code.region id l.toArray true).wp P Q a w :=
  wp_region_still_tail n hm hB (h _ rfl rfl rfl rfl)
theorem cell_heap {w w' : World} (h : w'.heap = w.heap) (p : Addr) : w'.cell? p = w.cell? p := by unfold World.cell?; rw [h]
theorem frozen_heap {w w' : World} (h : w'.heap = w.heap) (p : Addr) : w'.frozen? p = w.frozen? p := by unfold World.frozen?; rw [h]
theorem wrap_small {k : Nat} (h : k ≤ 6000) : IntKind.i64.wrap ((k : Int) + 1) = ((k + 1 : Nat) : Int) := by
  simp [IntKind.wrap, IntKind.bits, IntKind.signed]; omega
theorem lines1_in (n l B : Nat) (hn : 3 ≤ n) (J Jx : Str → World → Prop) (Jy : Str → Str → World → Prop)
    (hcell : ∀ r W, J r W → r.length ≤ 6000 ∧ W.cell? ⟨B, 0, none⟩ = some (vS r) ∧ W.frozen? ⟨B, 0, none⟩ = false)
    (hset : ∀ (r x r' : Str) (W W' : World), J r W → r = x ++ r' → lines r = x :: lines r' → W'.heap = W.heap → W'.os = W.os → W'.tape = W.tape → W'.output = W.output → Jy x r' (W'.setCell ⟨B, 0, none⟩ (vS r')))
    (hY : ∀ x r W, Jy x r W → YieldAt Fence.wide (n - 1) Tryz.prog l #[vS x] W fun e W' => (e = .returned (.bool true) ∧ J r W') ∨ (e = .returned (.bool false) ∧ Jx r W'))
    (s : Str) (W : World) (h0 : J s W) :
    CallsIn Fence.wide n Tryz.prog 62 #[.func (.yield l) #[] #[], .pointer (some ⟨B, 0, none⟩)] W fun e W' => (∃ v, e = .returned v) ∧ (J [] W' ∨ ∃ r, Jx r W') := by
  refine callsIn_of_wp Tryz.func62 rfl trivial ?_ rfl
  simp only [Tryz.ntmps62, List.size_toArray, List.length_cons, List.length_nil, Nat.reduceAdd, Nat.reduceSub, Array.replicate_succ, Array.replicate_zero, List.push_toArray, List.append_toArray, List.nil_append, List.cons_append]
  refine wpIn_block ?_
  gi_loopw [] (fun wr => ∃ r, J r wr) (fun wr => restLen B wr)
  case atStart => exact ⟨s, h0⟩
  case round =>
    obtain ⟨r, hJ⟩ := hrel
    obtain ⟨hr6, hc, hfz⟩ := hcell r wr hJ
    have hib : ∃ z : Int, ibAt r z ∧ Calls Tryz.prog 42 #[.string ⟨r.toArray⟩, .int .u8 10] wr fun e w' => e = .returned (.int .i64 z) ∧ w' = wr := ⟨_, rfl, (Tryz.strings_IndexByte ⟨r.toArray⟩ 10 wr)⟩
    obtain ⟨z, hz, hib⟩ := hib
    have hrs := ba_size r
    have hn1 : 1 ≤ n := by omega
    by_cases hr0 : r = []
    · subst hr0
      gi_wp2
      go_end0
      exact ⟨⟨_, rfl⟩, .inl hJ⟩
    have hrl : 0 < r.length := List.length_pos_iff.2 hr0
    by_cases hz0 : 0 ≤ z
    · obtain ⟨k, rfl⟩ : ∃ k : Nat, z = k := ⟨z.toNat, by omega⟩
      have hlk := ib_yes hz
      clear hz
      gi_wp2_with (refine ⟨trivial, ?_⟩; gi_at_call 42; refine (callsIn_wide.2 hib).mono ?_; rintro e w1 ⟨rfl, rfl⟩)
      refine wpIn_wide.2 (region_tailW 9 (by kernel_rfl) (by kernel_rfl) ?_)
      intro w2 e1 e2 e3 e4
      have hc2 := (cell_heap e1 ⟨B, 0, none⟩).trans hc
      have hf2 := (frozen_heap e1 ⟨B, 0, none⟩).trans hfz
      have hw := wrap_small (k := k) (by omega)
      have hJy := hset r (r.take (k + 1)) (r.drop (k + 1)) w1 w2 hJ (by simp) hlk.2 e1 e2 e3 e4
      obtain ⟨fn, tmps, assign, body, hy, hR⟩ := hY _ _ _ hJy
      have hk1 := hlk.1
      have hk2 : (0 : Int) ≤ (k : Int) + 1 := by omega
      have hk3 : (k : Int) + 1 ≤ (r.length : Int) := by omega
      clear hlk
      iterate 9 still_step
      refine wpStill_nil ?_
      go_wp2
      gi_wp2
      refine hR.mono ?_
      rintro e W' (⟨rfl, hJ'⟩ | ⟨rfl, hJx'⟩)
      · gi_wp2
        go_roundw
        case rel => exact ⟨_, hJ'⟩
        case measure =>
          rw [restLen_eq (hcell _ _ hJ').2.1, restLen_eq hc]
          simp; try omega
      · gi_wp2
        refine bodyPost_ret (results_none rfl _ _ _) rfl ?_
        exact ⟨⟨_, rfl⟩, .inr ⟨_, hJx'⟩⟩
    · have hln := ib_no hz hr0 hz0
      clear hz
      have hJy := hset r r [] wr wr hJ (by simp) hln rfl rfl rfl rfl
      obtain ⟨fn, tmps, assign, body, hy, hR⟩ := hY _ _ _ hJy
      gi_wp2_with (refine ⟨trivial, ?_⟩; gi_at_call 42; refine (callsIn_wide.2 hib).mono ?_; rintro e w1 ⟨rfl, rfl⟩)
      refine hR.mono ?_
      rintro e W' (⟨rfl, hJ'⟩ | ⟨rfl, hJx'⟩)
      · gi_wp2
        go_roundw
        case rel => exact ⟨_, hJ'⟩
        case measure =>
          rw [restLen_eq (hcell _ _ hJ').2.1, restLen_eq hc]
          simp; try omega
      · gi_wp2
        refine bodyPost_ret (results_none rfl _ _ _) rfl ?_
        exact ⟨⟨_, rfl⟩, .inr ⟨_, hJx'⟩⟩
end Go.Proofs.YtfhfidecmdhkoaaGreatDoor
end
section
set_option linter.unusedVariables false
set_option linter.unusedSimpArgs false
set_option maxRecDepth 10000
namespace Go.Proofs.YtfhfidecmdhkoaaGreatDoor
open Go.Dv Go.Pl
open Go.RowKit Go.Shelf
def rec12 (fn : FuncId) (T : Array Value) (D : Nat) (st : LoopState) (pe : Option Code) : Loop := { state := st, pending := pe, fn := fn, tmps := T, params := #[15], assign := asg12, body := bod12, defers := D }
def owF (ow : Go.Dv.Own) : Go.Dv.Own := fun b => (ow b).map (· ++ [far0])
structure At12 (w : World) (B D L : Nat) (T : Array Value) : Prop where
  size : T.size = 41
  hB : w.heap.size ≤ B
  hD : w.heap.size ≤ D
  hL : w.heap.size ≤ L
  bd : B ≠ D
  bl : B ≠ L
  dl : D ≠ L
def Mid (w : World) (ow : Go.Dv.Own) (B D L : Nat) (fn : FuncId) (T : Array Value) (st : LoopState) (pe : Option Code) (l : List (List Opn)) (r : Int) (W : World) : Prop :=
  ∃ owA : Go.Dv.Own, Fits Tryz.prog 41 w (owF ow) owA (lst (slots12 l r)) { tmps := T, defers := [] } W ∧ W.heap[L]? = some (.loop (rec12 fn T D st pe)) ∧ W.heap[D]? = some (.deferred (some [])) ∧ B < W.heap.size ∧ owA B = some [far0] ∧ owA D = some [far0] ∧ owA L = some [far0]
theorem Mid.turn {w W W' : World} {ow : Go.Dv.Own} {B D L : Nat} {fn : FuncId} {T : Array Value} {st st' : LoopState} {pe pe' : Option Code} {l : List (List Opn)} {r : Int} (ha : At12 w B D L T) (h : Mid w ow B D L fn T st pe l r W) (hos : W'.os = W.os) (htape : W'.tape = W.tape) (hout : W'.output = W.output) (hsz : W'.heap.size = W.heap.size)
    (hb : ∀ b, b ≠ B → b ≠ L → b ≠ D → W'.heap[b]? = W.heap[b]?) (hL : W'.heap[L]? = some (.loop (rec12 fn T D st' pe'))) (hD : W'.heap[D]? = some (.deferred (some []))) : Mid w ow B D L fn T st' pe' l r W' := by
  obtain ⟨owA, hf, h1, h2, h3, h4, h5, h6⟩ := h
  refine ⟨owA, hf.turn hos htape hout (Nat.le_of_eq hsz.symm) (fun b hlt => ⟨rfl, ?_⟩) (fun b hlt => hf.new b (by omega)), hL, hD, by omega, h4, h5, h6⟩
  by_cases e1 : b = B
  · exact .inr ⟨by rw [e1]; exact ha.hB, [], by rw [e1]; exact h4⟩
  by_cases e2 : b = L
  · exact .inr ⟨by rw [e2]; exact ha.hL, [], by rw [e2]; exact h6⟩
  by_cases e3 : b = D
  · exact .inr ⟨by rw [e3]; exact ha.hD, [], by rw [e3]; exact h5⟩
  exact .inl (hb b e1 e2 e3)
theorem Mid.putL {w W : World} {ow : Go.Dv.Own} {B D L : Nat} {fn : FuncId} {T : Array Value} {st st' : LoopState} {pe pe' : Option Code} {l : List (List Opn)} {r : Int} (ha : At12 w B D L T) (h : Mid w ow B D L fn T st pe l r W) : Mid w ow B D L fn T st' pe' l r (W.putObj L (.loop (rec12 fn T D st' pe'))) := by
  have h' := h
  obtain ⟨owA, hf, h1, h2, h3, h4, h5, h6⟩ := h'
  refine h.turn ha rfl rfl rfl (by simp) (fun b e1 e2 e3 => World.putObj_heap_other e2) (World.putObj_heap_same (Array.getElem?_eq_some_iff.1 h1).1) ((World.putObj_heap_other ha.dl).trans h2)
theorem round12 {w W : World} {ow : Go.Dv.Own} {B D L m : Nat} {fn : FuncId} {T : Array Value} {l : List (List Opn)} {r : Int} {x r' : Str} {R : Ending → World → Prop} (ha : At12 w B D L T) (h : Mid w ow B D L fn T .ready none l r W) (hc : W.cell? ⟨B, 0, none⟩ = some (vS r')) (hfz : W.frozen? ⟨B, 0, none⟩ = false)
    (hx : x.length ≤ 6000) (hl : l.length ≤ 6000) (hr : 0 ≤ r ∧ r ≤ 6000)
    (hyes : ∀ v b W', readEnt x = some (v, b) → v = (l.length : Int) + 1 → Mid w ow B D L fn T .ready none (l ++ [b]) (r + x.length) W' → W'.cell? ⟨B, 0, none⟩ = some (vS r') → W'.frozen? ⟨B, 0, none⟩ = false → R (.returned (.bool true)) W')
    (hno : ∀ W', (∀ v b, readEnt x = some (v, b) → v ≠ (l.length : Int) + 1) → Mid w ow B D L fn T .done (some (.exit 0)) l r W' → R (.returned (.bool false)) W') :
    YieldAt Fence.wide m Tryz.prog L #[vS x] W R := by
  have h' := h
  obtain ⟨owA, hf, h1, h2, h3, h4, h5, h6⟩ := h'
  have hy := run_yield (P := Tryz.prog) (args := #[vS x]) h1 rfl
  refine ⟨fn, _, asg12, bod12, hy, roundIn_of_wpIn trivial ?_⟩
  have hT : ((rec12 fn T D .ready none).params.zip #[vS x]).foldl (fun tmps (t, a) => tmps.setIfInBounds t a) (rec12 fn T D .ready none).tmps = T.setIfInBounds 15 (vS x) := by simp [rec12]
  rw [hT]
  have hf0 : Fits Tryz.prog 41 w (owF ow) owA ((lst (slots12 l r)).set 15 (.val (dS x))) { tmps := T.setIfInBounds 15 (vS x), defers := [] } W := hf.set (by decide) (show V Tryz.prog W owA (dS x).fz [] (vS x) from ⟨rfl, rfl⟩)
  have hB : B < W.heap.size := h3
  have hDs : D < W.heap.size := (Array.getElem?_eq_some_iff.1 h2).1
  have hLs : L < W.heap.size := (Array.getElem?_eq_some_iff.1 h1).1
  have hR1 : Rel Tryz.prog 41 W owA (lst ((15, .val (dS x)) :: slots12 l r)) { tmps := T.setIfInBounds 15 (vS x), defers := [] } W := (tells_list [] (by simp [go_sem, slots12])).rel ⟨owA, hf0.rebase⟩
  have hpins : PinnedL [(4, T.getD 4 undef), (5, T.getD 5 undef)] { tmps := T.setIfInBounds 15 (vS x), defers := [] } := by
    intro q hq i v e
    simp only [List.mem_cons, List.not_mem_nil, or_false] at hq
    rcases hq with rfl | rfl <;> (obtain ⟨rfl, rfl⟩ := Prod.mk.inj (Option.some.inj e).symm; simp [Array.getD_eq_getD_getElem?, Array.getElem?_setIfInBounds])
  refine asg12_ok (K := fun e s' => e = .normal ∧ Tells Tryz.prog 41 s' (lst ((6, .val (dS x)) :: slots12 l r))) (fun s' h => ⟨rfl, h⟩) _ _ hR1 hpins _ ?_
  rintro e s1 a1 w1 ⟨rfl, ht1⟩ hR1' hp1
  obtain ⟨ow1, hf1⟩ := ht1.rel hR1'
  obtain ⟨kB, oB⟩ := hf1.keep B hB [] h4
  obtain ⟨kD, oD⟩ := hf1.keep D hDs [] h5
  obtain ⟨kL, oL⟩ := hf1.keep L hLs [] h6
  have hL1 := kL.trans h1
  have hL1s : L < w1.heap.size := (Array.getElem?_eq_some_iff.1 hL1).1
  refine ⟨_, run_beginRound hL1 rfl, ?_⟩
  obtain ⟨w2, hw2⟩ : ∃ w2, w2 = w1.putObj L (.loop (rec12 fn T D .busy none)) := ⟨_, rfl⟩
  have hf2 : Fits Tryz.prog 41 w (owF ow) ow1 (lst ((6, .val (dS x)) :: slots12 l r)) a1 w2 := by
    rw [hw2]
    refine (hf.onto hf1).turn rfl rfl rfl (by simp) (fun b hlt => ⟨rfl, ?_⟩) (fun b hlt => hf1.new b (by simpa using hlt))
    by_cases e : b = L
    · exact .inr ⟨by rw [e]; exact ha.hL, [], by rw [e]; exact oL⟩
    · exact .inl (World.putObj_heap_other e)
  have hL2 : w2.heap[L]? = some (.loop (rec12 fn T D .busy none)) := by rw [hw2]; exact World.putObj_heap_same hL1s
  have hD2 : w2.heap[D]? = some (.deferred (some [])) := by rw [hw2]; exact (World.putObj_heap_other ha.dl).trans (kD.trans h2)
  have hB2 : w2.heap[B]? = W.heap[B]? := by rw [hw2]; exact (World.putObj_heap_other ha.bl).trans kB
  have hs2 : w2.heap.size = w1.heap.size := by rw [hw2]; simp
  have hbel : W.heap.size ≤ w2.heap.size := by rw [hs2]; exact hf1.bel.size
  show bod12.wpIn _ _ _ _ _ (w1.putObj L (.loop (rec12 fn T D .busy none)))
  rw [← hw2]
  refine bod12_ok (K := fun e s' => (e = .normal ∧ ∃ v b, readEnt x = some (v, b) ∧ v = (l.length : Int) + 1 ∧ Tells Tryz.prog 41 s' (lst (slots12 (l ++ [b]) (r + x.length)))) ∨ (e = .exit 0 ∧ (∀ v b, readEnt x = some (v, b) → v ≠ (l.length : Int) + 1) ∧ Tells Tryz.prog 41 s' (lst (slots12 l r)))) hx hl hr (fun v b s' e1 e2 ht => .inl ⟨rfl, v, b, e1, e2, ht⟩) (fun s' e1 ht => .inr ⟨rfl, e1, ht⟩) a1 w2 ⟨ow1, hf2.rebase⟩ hp1 _ ?_
  intro e s3 a3 w3 hK hR3 hp3
  have p4 : a3.tmps.getD 4 undef = T.getD 4 undef := hp3 (4, _) (by simp) 4 _ rfl
  have p5 : a3.tmps.getD 5 undef = T.getD 5 undef := hp3 (5, _) (by simp) 5 _ rfl
  have back : ∀ (l' : List (List Opn)) (r' : Int) (ow3 : Go.Dv.Own), Fits Tryz.prog 41 w2 ow1 ow3 (lst (slots12 l' r')) a3 w3 → Mid w ow B D L fn T .busy none l' r' w3 ∧ w3.heap[B]? = W.heap[B]? := by
    intro l' r' ow3 hf3
    obtain ⟨kB3, oB3⟩ := hf3.keep B (by omega) [] oB
    obtain ⟨kD3, oD3⟩ := hf3.keep D (by omega) [] oD
    obtain ⟨kL3, oL3⟩ := hf3.keep L (by omega) [] oL
    refine ⟨⟨ow3, (hf2.onto hf3).reAct rfl ha.size (fun i => ?_), kL3.trans hL2, kD3.trans hD2, ?_, oB3, oD3, oL3⟩, kB3.trans hB2⟩
    · by_cases e4 : i = 4
      · subst e4; exact .inr ⟨⟨_, rfl⟩, by simp only [aval, p4]⟩
      by_cases e5 : i = 5
      · subst e5; exact .inr ⟨⟨_, rfl⟩, by simp only [aval, p5]⟩
      · exact .inl (lst_un (by simp [slots12, e4, e5]))
    · have := hf3.bel.size; omega
  have cB : ∀ W' : World, W'.heap[B]? = W.heap[B]? → W'.cell? ⟨B, 0, none⟩ = some (vS r') ∧ W'.frozen? ⟨B, 0, none⟩ = false := fun W' e => ⟨(World.cell?_of_block (a := ⟨B, 0, none⟩) e).trans hc, (World.frozen?_of_block (a := ⟨B, 0, none⟩) e).trans hfz⟩
  rcases hK with ⟨rfl, v, b, e1, e2, ht⟩ | ⟨rfl, e1, ht⟩
  · obtain ⟨ow3, hf3⟩ := ht.rel hR3
    obtain ⟨hm, hb3⟩ := back _ _ _ hf3
    have hm' := hm
    obtain ⟨_, _, hl3, _⟩ := hm'
    have hfin := cB (w3.putObj L (.loop (rec12 fn T D .ready none))) ((World.putObj_heap_other ha.bl).trans hb3)
    exact ⟨_, _, run_endRound none hl3, hyes v b _ e1 e2 (hm.putL ha) hfin.1 hfin.2⟩
  · obtain ⟨ow3, hf3⟩ := ht.rel hR3
    obtain ⟨hm, hb3⟩ := back _ _ _ hf3
    have hm' := hm
    obtain ⟨_, _, hl3, _⟩ := hm'
    exact ⟨_, _, run_endRound (some (.exit 0)) hl3, hno _ e1 (hm.putL ha)⟩
end Go.Proofs.YtfhfidecmdhkoaaGreatDoor
end
section
set_option linter.unusedVariables false
set_option linter.unusedSimpArgs false
set_option maxRecDepth 10000
namespace Go.Proofs.YtfhfidecmdhkoaaGreatDoor
open Go.Dv Go.Pl
open Go.RowKit Go.Shelf
theorem lines32 (s : Str) (w : World) : Calls Tryz.prog 32 #[vS s] w fun e w' => e = .returned (.func (.func 62) #[] #[.pointer (some ⟨w.heap.size, 0, none⟩)]) ∧ w' = w.alloc (.cells #[vS s] 9) := by
  refine calls_of_wp Tryz.func32 rfl ?_
  simp only [Tryz.ntmps32, List.size_toArray, List.length_cons, List.length_nil, Nat.reduceAdd, Nat.reduceSub, Array.replicate_succ, Array.replicate_zero, List.push_toArray, List.append_toArray, List.nil_append, List.cons_append]
  go_wp2
  refine bodyPost_ret (results_tmp rfl _ _ _) rfl ?_
  exact ⟨rfl, rfl⟩
def scan12 (s : Str) (l : List (List Opn)) (u : Nat) (ls : List Str) : Prop := scan s = (l ++ (scanL l.length ls).1, u + (scanL l.length ls).2)
theorem scan12_start {s : Str} (h : s.length ≤ 6000) : scan12 s [] 0 (lines s) := by simp [scan12, scan, h]
theorem scan12_yes {s x : Str} {l : List (List Opn)} {u : Nat} {ls : List Str} {v : Int} {b : List Opn} (h : scan12 s l u (x :: ls)) (hr : readEnt x = some (v, b)) (hv : v = (l.length : Int) + 1) : scan12 s (l ++ [b]) (u + x.length) ls := by
  unfold scan12 at h ⊢
  rw [scanL_some hr hv] at h
  rw [h]
  simp [Nat.add_assoc]
theorem scan12_no {s x : Str} {l : List (List Opn)} {u : Nat} {ls : List Str} (h : scan12 s l u (x :: ls)) (hn : ∀ v b, readEnt x = some (v, b) → v ≠ (l.length : Int) + 1) : scan s = (l, u) := by
  unfold scan12 at h
  rw [scanL_no hn] at h
  simpa using h
theorem scan12_end {s : Str} {l : List (List Opn)} {u : Nat} (h : scan12 s l u (lines [])) : scan s = (l, u) := by
  unfold scan12 at h
  simpa [lines, lineGo, scanL] using h
theorem scan12_len {s : Str} {l : List (List Opn)} {u : Nat} {ls : List Str} (hs : s.length ≤ 6000) (h : scan12 s l u ls) : l.length ≤ 6000 ∧ u ≤ 6000 := by
  have h1 := scan_len s
  unfold scan12 at h
  rw [h] at h1
  simp at h1
  omega
theorem loop12 {w W : World} {ow : Go.Dv.Own} {B D L : Nat} {fn : FuncId} {T : Array Value} {s : Str} (hs : s.length ≤ 6000) (ha : At12 w B D L T) (h : Mid w ow B D L fn T .ready none [] 0 W) (hc : W.cell? ⟨B, 0, none⟩ = some (vS s)) (hfz : W.frozen? ⟨B, 0, none⟩ = false) :
    CallsIn Fence.wide 3 Tryz.prog 62 #[.func (.yield L) #[] #[], .pointer (some ⟨B, 0, none⟩)] W fun e W' => (∃ v, e = .returned v) ∧ (Mid w ow B D L fn T .ready none (scan s).1 (scan s).2 W' ∨ Mid w ow B D L fn T .done (some (.exit 0)) (scan s).1 (scan s).2 W') := by
  refine (lines1_in 3 L B (by omega)
    (fun r W => r.length ≤ 6000 ∧ W.cell? ⟨B, 0, none⟩ = some (vS r) ∧ W.frozen? ⟨B, 0, none⟩ = false ∧ ∃ (l : List (List Opn)) (u : Nat), Mid w ow B D L fn T .ready none l u W ∧ scan12 s l u (lines r))
    (fun _ W => ∃ (l : List (List Opn)) (u : Nat), Mid w ow B D L fn T .done (some (.exit 0)) l u W ∧ scan s = (l, u))
    (fun x r W => x.length ≤ 6000 ∧ r.length ≤ 6000 ∧ W.cell? ⟨B, 0, none⟩ = some (vS r) ∧ W.frozen? ⟨B, 0, none⟩ = false ∧ ∃ (l : List (List Opn)) (u : Nat), Mid w ow B D L fn T .ready none l u W ∧ scan12 s l u (x :: lines r))
    (fun r W hJ => ⟨hJ.1, hJ.2.1, hJ.2.2.1⟩) ?_ ?_ s W ⟨hs, hc, hfz, [], 0, h, scan12_start hs⟩).mono ?_
  · rintro r x r' W1 W2 ⟨j1, j2, j3, l, u, hm, hsc⟩ hr hl e1 e2 e3 e4
    have hlen := congrArg List.length hr
    rw [List.length_append] at hlen
    have hc2 := (cell_heap e1 ⟨B, 0, none⟩).trans j2
    have hf2 := (frozen_heap e1 ⟨B, 0, none⟩).trans j3
    refine ⟨by omega, by omega, World.cell?_setCell_same' _ _ _ (by rw [hc2]; rfl), by rw [World.frozen?_setCell]; exact hf2, l, u, ?_, by rw [← hl]; exact hsc⟩
    have hm' := hm
    obtain ⟨_, _, hL, hD, _⟩ := hm'
    have hb : ∀ b, b ≠ B → (W2.setCell ⟨B, 0, none⟩ (vS r')).heap[b]? = W1.heap[b]? := fun b hb => by rw [Below.heap_setCell W2 ⟨B, 0, none⟩ _ b hb, e1]
    refine hm.turn ha e2 e3 e4 ?_ (fun b e _ _ => hb b e) ((hb L (Ne.symm ha.bl)).trans hL) ((hb D (Ne.symm ha.bd)).trans hD)
    show (W2.heap.modify B _).size = _
    rw [Array.size_modify, e1]
  · rintro x r W1 ⟨j1, j0, j2, j3, l, u, hm, hsc⟩
    have hlen := scan12_len hs hsc
    refine round12 ha hm j2 j3 j1 hlen.1 (by omega) (fun v b W' e1 e2 hm' hc' hf' => .inl ⟨rfl, j0, hc', hf', l ++ [b], u + x.length, by rw [Int.natCast_add]; exact hm', scan12_yes hsc e1 e2⟩) (fun W' e1 hm' => .inr ⟨rfl, l, u, hm', scan12_no hsc e1⟩)
  · rintro e W' ⟨hv, ⟨j1, j2, j3, l, u, hm, hsc⟩ | ⟨_, l, u, hm, hsc⟩⟩
    · rw [scan12_end hsc]; exact ⟨hv, .inl hm⟩
    · rw [hsc]; exact ⟨hv, .inr hm⟩
end Go.Proofs.YtfhfidecmdhkoaaGreatDoor
end
section
set_option linter.unusedVariables false
set_option linter.unusedSimpArgs false
set_option maxRecDepth 10000
namespace Go.Proofs.YtfhfidecmdhkoaaGreatDoor
open Go.Dv Go.Pl
open Go.RowKit Go.Shelf
attribute [local go_sem] Oper.semAt_some
theorem start12 {w W : World} {ow : Go.Dv.Own} {TT : Array Value} {fn : FuncId} {N : Nat} (hN : w.heap.size = N) (hL : Laid w ow) (hnew : ∀ b, N ≤ b → ow b = none) (hsz : TT.size = 41) (h4 : TT.getD 4 undef = .pointer (some ⟨N, 0, none⟩)) (h5 : TT.getD 5 undef = .pointer (some ⟨N + 1, 0, none⟩))
    (hos : W.os = w.os) (htape : W.tape = w.tape) (hout : W.output = w.output) (hs : W.heap.size = N + 5) (hb : ∀ b, b < N → W.heap[b]? = w.heap[b]?) (e0 : W.heap[N]? = some (.cells #[.slice none 0 0] 34)) (e1 : W.heap[N + 1]? = some (.cells #[.int .i64 0] 3))
    (e3 : W.heap[N + 3]? = some (.deferred (some []))) (e4 : W.heap[N + 4]? = some (.loop (rec12 fn TT (N + 3) .ready none))) :
    Mid w ow (N + 2) (N + 3) (N + 4) fn TT .ready none [] 0 W := by
  refine ⟨fun b => if b < N then owF ow b else if b = N then some [4] else if b = N + 1 then some [5] else if b ≤ N + 4 then some [far0] else none, ⟨rfl, hsz, by decide, hL.mono fun b o h1 h2 => ⟨h1, by simp [owF, h2]⟩, ⟨hos, htape, hout, by omega, fun b hlt _ => hb b (by omega)⟩, fun b hlt ho => ?_, fun b hlt => ?_, ?_, fun b hlt q ho => ?_, fun i => ?_⟩, e4, e3, by omega, ?_, ?_, ?_⟩
  · rw [if_pos (by omega)]; exact ho
  · rw [if_neg (by omega), if_neg (by omega), if_neg (by omega), if_neg (by omega)]
  · exact lst_un (by simp [slots12, far0])
  · exact ⟨hb b (by omega), by rw [if_pos (by omega)]; exact ho⟩
  · by_cases i4 : i = 4
    · subst i4
      have ha : aval { tmps := TT, defers := [] } 4 = .pointer (some ⟨N, 0, none⟩) := by simp only [aval]; exact h4
      rw [ha]
      show V _ _ _ (.bx true (oBats [])) [4] _
      simp only [V, R]
      refine ⟨N, 0, #[.slice none 0 0], 34, (0, 0), [.slice none 0 0], rfl, e0, (fun h => by cases h), fun _ => ⟨by simp; try (intro h; exact absurd h (by omega)), unfz0 _, rfl, rfl⟩, rfl, fun j hj => by simp at hj; subst hj; rfl, ?_⟩
      exact ⟨none, 0, rfl, by simp, by decide, .inl ⟨rfl, rfl, rfl⟩⟩
    by_cases i5 : i = 5
    · subst i5
      have ha : aval { tmps := TT, defers := [] } 5 = .pointer (some ⟨N + 1, 0, none⟩) := by simp only [aval]; exact h5
      rw [ha]
      show V _ _ _ (.bx true (dI 0)) [5] _
      simp only [V, R]
      refine ⟨N + 1, 0, #[.int .i64 0], 3, (0, 0), [.int .i64 0], rfl, e1, (fun h => by cases h), fun _ => ⟨by simp; try (intro h; exact absurd h (by omega)), unfz0 _, rfl, rfl⟩, rfl, fun j hj => by simp at hj; subst hj; rfl, ⟨rfl, rfl⟩⟩
    rw [lst_un (by simp [slots12, i4, i5])]
    trivial
  · dsimp only; rw [if_neg (by omega), if_neg (by omega), if_neg (by omega), if_pos (by omega)]
  · dsimp only; rw [if_neg (by omega), if_neg (by omega), if_neg (by omega), if_pos (by omega)]
  · dsimp only; rw [if_neg (by omega), if_neg (by omega), if_neg (by omega), if_pos (by omega)]
theorem region_allW {P : Program} {id : Nat} {Q : Exit → Act → World → Prop} {a : Act} {w : World} {l : List Oper} (hm : P.follows .mixedOrders = true) (hB : Region.lexB .any l.toArray = true)
    (h : ∀ w2 : World, w2.heap = w.heap → w2.os = w.os → w2.tape = w.tape → w2.output = w.output → wpStill P l.toArray w2 (fun a' => Q .normal a' w2) l a) : (Code.region id l.toArray true).wp P Q a w :=
  wp_region_still_lit hm hB (h _ rfl rfl rfl rfl)
theorem cells12 {w W : World} {ow : Go.Dv.Own} {TT : Array Value} {fn : FuncId} {B D L N : Nat} {st : LoopState} {pe : Option Code} {l : List (List Opn)} {r : Int} (ha : At12 w B D L TT) (h4 : TT.getD 4 undef = .pointer (some ⟨N, 0, none⟩)) (h5 : TT.getD 5 undef = .pointer (some ⟨N + 1, 0, none⟩)) (h : Mid w ow B D L fn TT st pe l r W) :
    ∃ v, W.cell? ⟨N, 0, none⟩ = some v ∧ W.frozen? ⟨N, 0, none⟩ = false ∧ W.cell? ⟨N + 1, 0, none⟩ = some (.int .i64 r) ∧ W.frozen? ⟨N + 1, 0, none⟩ = false := by
  obtain ⟨owA, hf, _⟩ := h
  have s4 := hf.slot 4
  have s5 := hf.slot 5
  have a4 : aval { tmps := TT, defers := [] } 4 = .pointer (some ⟨N, 0, none⟩) := by simp only [aval]; exact h4
  have a5 : aval { tmps := TT, defers := [] } 5 = .pointer (some ⟨N + 1, 0, none⟩) := by simp only [aval]; exact h5
  rw [a4] at s4
  rw [a5] at s5
  replace s4 : V Tryz.prog W owA (.bx true (oBats l)) [4] _ := s4
  replace s5 : V Tryz.prog W owA (.bx true (dI r)) [5] _ := s5
  simp only [V, R] at s4 s5
  obtain ⟨b, off, C, e, fz, cs, g1, g2, _, g3, g4, g5, g6⟩ := s4
  obtain ⟨b', off', C', e', fz', cs', k1, k2, _, k3, k4, k5, k6, _⟩ := s5
  obtain ⟨-, u1, u2, u3⟩ := g3 trivial
  obtain ⟨-, v1, v2, v3⟩ := k3 trivial
  simp only [List.cons.injEq, Value.pointer.injEq, Option.some.injEq, and_true, Addr.mk.injEq] at g1 k1
  obtain ⟨rfl, rfl⟩ := g1
  obtain ⟨rfl, rfl⟩ := k1
  obtain ⟨a, cap, rfl, _⟩ := g6
  subst k6
  have g50 := g5 0 (by simp)
  have k50 := k5 0 (by simp)
  simp only [Nat.add_zero, List.getElem?_cons_zero] at g50 k50
  have f1 := u1 0 (by rw [u3]; exact Nat.zero_lt_one)
  have f2 := v1 0 (by rw [v3]; exact Nat.zero_lt_one)
  refine ⟨_, by simp only [World.cell?, g2]; exact g50, ?_, by simp only [World.cell?, k2]; exact k50, ?_⟩
  · simp only [World.frozen?, g2]; simpa using f1
  · simp only [World.frozen?, k2]; simpa using f2
theorem fn_impl_ScanLog (s : Str) (hs : s.length ≤ 1048576) : FnOk Tryz.prog 12 [dS s] (fun res' => res' = .tup [.own (oBats (scan s).1), .val (dI (scan s).2)]) := by
  intro w ow vs t ht hL hnew hvs hargs
  have h0 := hargs 0 _ rfl
  obtain ⟨x, rfl⟩ : ∃ x, vs = #[x] := Array.size_eq_one_iff.1 hvs
  simp only [V, D.fz, R] at h0
  obtain ⟨h0, _⟩ := h0
  obtain rfl : x = vS s := by simpa using h0
  clear h0 hargs hvs
  refine (callsIn_wide (n := 4)).1 (callsIn_of_wp_marks Tryz.func12 rfl trivial ?_ rfl)
  simp only [Tryz.ntmps12, List.size_toArray, List.length_cons, List.length_nil, Nat.reduceAdd, Nat.reduceSub, Array.replicate_succ, Array.replicate_zero, List.push_toArray, List.append_toArray, List.nil_append, List.cons_append]
  have hrs := ba_size s
  have hn1 : 1 ≤ 4 := by omega
  by_cases h6 : s.length ≤ 6000
  · have h6' : ¬ ((6000 : Int) < (s.length : Int)) := by omega
    gi_wp2_with (refine ⟨trivial, ?_⟩; gi_at_call 32; refine (callsIn_wide.2 (lines32 s _)).mono ?_; rintro e w1 ⟨rfl, rfl⟩)
    obtain ⟨W0, hW0⟩ : ∃ W0, W0 = ((w.alloc (.cells #[.slice none 0 0] 34)).alloc (.cells #[.int .i64 0] 3)).alloc (.cells #[vS s] 9) := ⟨_, rfl⟩
    rw [← hW0]
    obtain ⟨N, hN⟩ : ∃ N, w.heap.size = N := ⟨_, rfl⟩
    have hz0 : W0.heap.size = N + 3 := by rw [hW0]; simp [hN]
    have hB0 : ∀ b, b < N → W0.heap[b]? = w.heap[b]? := fun b hb => by
      rw [hW0, Below.heap_alloc _ _ _ (by simp; omega), Below.heap_alloc _ _ _ (by simp; omega), Below.heap_alloc _ _ _ (by omega)]
    have c0 : W0.heap[N]? = some (.cells #[.slice none 0 0] 34) := by
      rw [hW0, Below.heap_alloc _ _ _ (by simp; omega), Below.heap_alloc _ _ _ (by simp; omega), ← hN]; exact World.alloc_heap_new w _
    have c1 : W0.heap[N + 1]? = some (.cells #[.int .i64 0] 3) := by
      rw [hW0, Below.heap_alloc _ _ _ (by simp; omega), ← hN]; have := World.alloc_heap_new (w.alloc (.cells #[.slice none 0 0] 34)) (.cells #[.int .i64 0] 3); simpa using this
    have c2 : W0.heap[N + 2]? = some (.cells #[vS s] 9) := by
      rw [hW0, ← hN]; have := World.alloc_heap_new ((w.alloc (.cells #[.slice none 0 0] 34)).alloc (.cells #[.int .i64 0] 3)) (.cells #[vS s] 9); simpa using this
    have m0 : W0.os = w.os ∧ W0.tape = w.tape ∧ W0.output = w.output := by rw [hW0]; exact ⟨rfl, rfl, rfl⟩
    clear hW0
    rw [hN]
    rename_i Q K hK
    refine wpIn_rangeFunc fun fn hfn => ?_
    obtain ⟨TT, hTT⟩ : ∃ TT : Array Value, TT = #[vS s, undef, Value.slice none 0 0, Value.int IntKind.i64 0, .pointer (some ⟨N, 0, none⟩), .pointer (some ⟨N + 1, 0, none⟩), undef, undef, undef, undef, vS s, .int .i64 s.length, .bool false, vS s, .func (.func 62) #[] #[.pointer (some ⟨N + 1 + 1, 0, none⟩)], undef, undef, undef, undef, undef, undef, undef, undef, undef, undef, undef, undef, undef, undef, undef, undef, undef, undef, undef, undef, undef, undef, undef, undef, undef, undef] := ⟨_, rfl⟩
    obtain ⟨W1, hW1⟩ : ∃ W1, W1 = (W0.alloc (.deferred (some []))).alloc (.loop (rec12 fn TT (N + 3) .ready none)) := ⟨_, rfl⟩
    have hm : Mid w ow (N + 2) (N + 3) (N + 4) fn TT .ready none [] 0 W1 := by
      have hb1 : ∀ b, b < N + 3 → W1.heap[b]? = W0.heap[b]? := fun b hb => by rw [hW1, Below.heap_alloc _ _ _ (by simp; omega), Below.heap_alloc _ _ _ (by omega)]
      refine start12 hN hL (by rw [← hN]; exact hnew) (by rw [hTT]; rfl) (by rw [hTT]; rfl) (by rw [hTT]; rfl) (by rw [hW1]; exact m0.1) (by rw [hW1]; exact m0.2.1) (by rw [hW1]; exact m0.2.2) (by rw [hW1]; simp [hz0]) (fun b hb => (hb1 b (by omega)).trans (hB0 b hb)) ((hb1 _ (by omega)).trans c0) ((hb1 _ (by omega)).trans c1) ?_ ?_
      · rw [hW1, Below.heap_alloc _ _ _ (by simp; omega), ← hz0]; exact World.alloc_heap_new W0 _
      · have := World.alloc_heap_new (W0.alloc (.deferred (some []))) (.loop (rec12 fn TT (N + 3) .ready none)); rw [hW1]; simpa [hz0] using this
    have hcB : W1.cell? ⟨N + 2, 0, none⟩ = some (vS s) ∧ W1.frozen? ⟨N + 2, 0, none⟩ = false := by
      have hb1 : W1.heap[N + 2]? = W0.heap[N + 2]? := by rw [hW1, Below.heap_alloc _ _ _ (by simp; omega), Below.heap_alloc _ _ _ (by omega)]
      rw [World.cell?_of_block (a := ⟨N + 2, 0, none⟩) hb1, World.frozen?_of_block (a := ⟨N + 2, 0, none⟩) hb1]
      simp [World.cell?, World.frozen?, c2]
    have ha : At12 w (N + 2) (N + 3) (N + 4) TT := ⟨by rw [hTT]; rfl, by omega, by omega, by omega, by omega, by omega, by omega⟩
    refine ⟨N + 4, [{ target := .collected (N + 3), args := #[] }], W1, { target := .fn (.func 62) #[.pointer (some ⟨N + 1 + 1, 0, none⟩)], args := #[.func (.yield (N + 4)) #[] #[]] }, W1, 62, #[.func (.yield (N + 4)) #[] #[]] ++ #[.pointer (some ⟨N + 1 + 1, 0, none⟩)], W1, ?_, ?_, ?_, ?_, fun _ => by decide, ?_⟩
    · rw [hW1, hTT, ← hz0]
      have := run_enterLoop_outer (P := Tryz.prog) (w := W0) fn TT #[15] asg12 bod12
      rw [hTT] at this
      simpa [hz0, rec12] using this
    · simp [resolve, go_sem]
    · intro f' hf'; trivial
    · have eg := enters_of Tryz.func62 (by kernel_rfl) rfl
      simp [invoke, go_sem, eg]
    · refine (loop12 h6 ha hm hcB.1 hcB.2).mono ?_
      rintro e W2 ⟨⟨v, rfl⟩, hmid⟩
      have fin : ∀ (a' : Act) W3, a' = { tmps := TT, defers := [{ target := .collected (N + 3), args := #[] }] } → (∃ st pe, Mid w ow (N + 2) (N + 3) (N + 4) fn TT st pe (scan s).1 (scan s).2 W3) → K a' W3 := by
        rintro a' W3 rfl ⟨st, pe, hm3⟩
        refine hK _ _ ?_
        obtain ⟨v4, h4, hf4, h5, hf5⟩ := cells12 ha (by rw [hTT]; rfl) (by rw [hTT]; rfl) hm3
        rw [hTT]
        refine wpIn_seq (wpIn_wide.2 (region_allW (by kernel_rfl) (by kernel_rfl) ?_))
        intro w4 e1 e2 e3 e4
        have h4' := (cell_heap e1 ⟨N, 0, none⟩).trans h4
        have h5' := (cell_heap e1 ⟨N + 1, 0, none⟩).trans h5
        have hf4' := (frozen_heap e1 ⟨N, 0, none⟩).trans hf4
        have hf5' := (frozen_heap e1 ⟨N + 1, 0, none⟩).trans hf5
        iterate 4 still_step
        refine wpStill_nil ?_
        gi_wp2
        obtain ⟨owA, hfit, hL3, hD3, hBs, oB, oD, oL⟩ := hm3
        have hD4 : w4.heap[N + 3]? = some (.deferred (some [])) := by rw [e1]; exact hD3
        refine ⟨by simp, .inl ⟨_, _, rfl, run_takeDeferred hD4, ?_⟩⟩
        refine ⟨_, results_tmp2 rfl _ _ _, ?_⟩
        obtain ⟨W5, hW5⟩ : ∃ W5, W5 = w4.putObj (N + 3) (.deferred none) := ⟨_, rfl⟩
        rw [← hW5]
        have hb5 : ∀ b, b ≠ N + 3 → W5.heap[b]? = W3.heap[b]? := fun b hb => by rw [hW5, World.putObj_heap_other hb, e1]
        have hfit5 : Fits Tryz.prog 41 w (owF ow) owA (lst (slots12 (scan s).1 (scan s).2)) { tmps := TT, defers := [] } W5 := by
          refine hfit.turn (by rw [hW5]; exact e2) (by rw [hW5]; exact e3) (by rw [hW5]; exact e4) (by rw [hW5]; simp [e1]) (fun b hlt => ⟨rfl, ?_⟩) (fun b hlt => hfit.new b (by rw [hW5] at hlt; simpa [e1] using hlt))
          by_cases e : b = N + 3
          · exact .inr ⟨by omega, [], by rw [e]; exact oD⟩
          · exact .inl (hb5 b e)
        obtain ⟨vals, hlen, hrun, ow', r, hr, haf, hpl, hsv⟩ := ret_out (rs := [.cell 4 34, .cell 5 3]) (Q := fun res' => res' = .tup [.own (oBats (scan s).1), .val (dI (scan s).2)]) (t := t) good hfit5 hnew (by simp [go_sem, slots12])
        have c4 : W5.cell? ⟨N, 0, none⟩ = some v4 := (World.cell?_of_block (a := ⟨N, 0, none⟩) (hb5 N (by omega))).trans h4
        have c5 : W5.cell? ⟨N + 1, 0, none⟩ = some (.int .i64 (scan s).2) := (World.cell?_of_block (a := ⟨N + 1, 0, none⟩) (hb5 (N + 1) (by omega))).trans h5
        have hvals := hrun (rvRun TT) (fun _ => rfl)
        have hval2 : vals = [v4, .int .i64 (scan s).2] := by
          have hh : (([.cell 4 34, .cell 5 3] : List ResultVar).mapM (rvRun TT)).run Tryz.prog W5 = .ok [v4, .int .i64 (scan s).2] W5 := by
            rw [hTT]
            simp [rvRun, go_sem, c4, c5]
          rw [hh] at hvals
          injection hvals with hvals
          exact hvals.symm
        rw [hval2] at hsv
        subst hr
        exact ⟨_, rfl, ow', haf, hpl, hsv⟩
      rcases hmid with hmid | hmid
      · have hmid' := hmid
        obtain ⟨_, _, hl3, _⟩ := hmid'
        exact ⟨_, _, run_endLoop hl3 (by simp [rec12]), fin _ _ (by rw [hTT]; rfl) ⟨.exhausted, none, hmid.putL ha⟩⟩
      · have hmid' := hmid
        obtain ⟨_, _, hl3, _⟩ := hmid'
        exact ⟨_, _, run_endLoop hl3 (by simp [rec12]), wpIn_exit (fin _ _ (by rw [hTT]; rfl) ⟨.exhausted, some (.exit 0), hmid.putL ha⟩)⟩
  · have h6' : ((6000 : Int) < (s.length : Int)) := by omega
    gi_wp2
    have hsc : scan s = ([], 0) := by unfold scan; rw [if_neg h6]
    refine ⟨_, results_tmp2 rfl _ _ _, _, ow, _, rfl, rfl, ⟨rfl, rfl, rfl, by simp, fun b hb => ⟨Below.heap_alloc _ _ _ hb, rfl⟩, fun b hb => hnew b (by simp at hb; omega)⟩, rfl, fun st a => ?_⟩
    rw [hsc]
    refine ⟨#[.slice none 0 0, .int .i64 0], rfl, rfl, fun k x hx => ?_⟩
    match k, hx with
    | 0, hx => 
      obtain rfl := Option.some.inj hx
      show V _ _ _ (oBats []) [0, t] _
      simp only [V, R]
      exact ⟨none, 0, rfl, by simp, by decide, .inl ⟨rfl, rfl, rfl⟩⟩
    | 1, hx => 
      obtain rfl := Option.some.inj hx
      exact ⟨rfl, rfl⟩
    | k + 2, hx => simp at hx
end Go.Proofs.YtfhfidecmdhkoaaGreatDoor
end
section
set_option linter.unusedVariables false
set_option linter.unusedSimpArgs false
set_option maxRecDepth 10000
namespace Go.Proofs.YtfhfidecmdhkoaaGreatDoor
open Go.Dv Go.Pl
theorem fn_impl_AppendEntry (s : Str) (l : List Opn) (hs : s.length ≤ 1048576) (hb : smallB l) : FnOk Tryz.prog 9 [dS s, nBat l] (fun res' => res' = .tup [.val (dS (appLog s l).1), .val (dB (appLog s l).2)]) := by
  refine fn_of good (rs := [.tmp 4, .tmp 5]) Tryz.func9 rfl Tryz.ntmps9 (by decide) (by simp) rfl fun w0 ow0 => ?_
  have hsl := scan_len s
  have hel := entStr_len ((scan s).1.length + 1) l
  obtain ⟨E, hE⟩ : ∃ E, entStr ((scan s).1.length + 1) l = E := ⟨_, rfl⟩
  have ha : appLog s l = if (scan s).2 ≠ s.length ∨ E = [] ∨ s.length + E.length > 6000 then (s, false) else (s ++ E, true) := by rw [appLog, hE]
  rw [hE] at hel
  refine okC_rg good ?_
  simp [go_sem]
  repeat (with_reducible refine And.intro ?_ ?_; first | omega | assumption | (simp only [inI]; omega))
  refine okC_rg good ?_
  simp [go_sem]
  repeat (with_reducible refine And.intro ?_ ?_; first | omega | assumption | (simp only [inI]; omega))
  first | refine callK_of (fn_impl_ScanLog s hs) (by simp [go_sem]) ?_ | refine callK_fz (fn_impl_ScanLog s hs) (by simp [go_sem]) (by simp [go_sem]) ?_
  simp [go_sem]
  repeat (with_reducible refine And.intro ?_ ?_; first | omega | assumption | (simp only [inI]; omega))
  refine okC_rg good ?_
  simp [go_sem]
  repeat (with_reducible refine And.intro ?_ ?_; first | omega | assumption | (simp only [inI]; omega))
  first | refine callK_of (fn_impl_EncodeEntry ((scan s).1.length + 1) l hb) (by simp [go_sem]) ?_ | refine callK_fz (fn_impl_EncodeEntry ((scan s).1.length + 1) l hb) (by simp [go_sem]) (by simp [go_sem]) ?_
  simp [go_sem]
  repeat (with_reducible refine And.intro ?_ ?_; first | omega | assumption | (simp only [inI]; omega))
  refine okC_seq ?_
  refine okC_rg good ?_
  simp [go_sem, hE]
  repeat (with_reducible refine And.intro ?_ ?_; first | omega | assumption | (simp only [inI]; omega))
  first | refine gI_dec (fun f => ?_) (fun f => ?_) | refine gI_ndec (fun f => ?_) (fun f => ?_) | refine gI_of (fun f => ?_) (fun f => ?_)
  · have f' := f; try simp at f'
    simp [go_sem, hE, f]
    repeat (with_reducible refine And.intro ?_ ?_; first | omega | assumption | (simp only [inI]; omega))
    refine okC_if ?_
    simp [go_sem, hE, f]
    refine okC_rg good ?_
    simp [go_sem, hE, f]
    repeat (with_reducible refine And.intro ?_ ?_; first | omega | assumption | (simp only [inI]; omega))
    refine okC_ret ?_
    simp [go_sem, hE, f]
    rw [ha, if_pos (.inl (by omega))]; exact ⟨rfl, rfl⟩
  · have f' := f; try simp at f'
    simp [go_sem, hE, f]
    repeat (with_reducible refine And.intro ?_ ?_; first | omega | assumption | (simp only [inI]; omega))
    first | refine gI_dec (fun g => ?_) (fun g => ?_) | refine gI_ndec (fun g => ?_) (fun g => ?_) | refine gI_of (fun g => ?_) (fun g => ?_)
    · have g' := g; try simp at g'
      simp [go_sem, hE, f, g]
      repeat (with_reducible refine And.intro ?_ ?_; first | omega | assumption | (simp only [inI]; omega))
      refine okC_if ?_
      simp [go_sem, hE, f, g]
      refine okC_rg good ?_
      simp [go_sem, hE, f, g]
      repeat (with_reducible refine And.intro ?_ ?_; first | omega | assumption | (simp only [inI]; omega))
      refine okC_ret ?_
      simp [go_sem, hE, f, g]
      rw [ha, if_pos (.inr (.inl (by simpa using g)))]; exact ⟨rfl, rfl⟩
    · have g' := g; try simp at g'
      simp [go_sem, hE, f, g]
      repeat (with_reducible refine And.intro ?_ ?_; first | omega | assumption | (simp only [inI]; omega))
      refine okC_if ?_
      simp [go_sem, hE, f, g]
      first | refine gC_dec (fun k => ?_) (fun k => ?_) | refine gC_ndec (fun k => ?_) (fun k => ?_) | refine gC_of (fun k => ?_) (fun k => ?_)
      · try simp at k
        refine okC_rg good ?_
        simp [go_sem, hE, f, g]
        repeat (with_reducible refine And.intro ?_ ?_; first | omega | assumption | (simp only [inI]; omega))
        refine okC_ret ?_
        simp [go_sem, hE, f, g]
        rw [ha, if_pos (.inr (.inr (by omega)))]; exact ⟨rfl, rfl⟩
      · try simp at k
        refine okC_skip ?_
        refine okC_rg good ?_
        simp [go_sem, hE, f, g]
        repeat (with_reducible refine And.intro ?_ ?_; first | omega | assumption | (simp only [inI]; omega))
        refine okC_ret ?_
        simp [go_sem, hE, f, g]
        rw [ha, if_neg (by rintro (h | h | h); (omega); (exact g h); omega)]; exact ⟨rfl, rfl⟩
end Go.Proofs.YtfhfidecmdhkoaaGreatDoor
end
section
set_option linter.unusedVariables false
set_option linter.unusedSimpArgs false
set_option maxRecDepth 10000
namespace Go.Proofs.YtfhfidecmdhkoaaGreatDoor
open Go.Dv Go.Pl
theorem smallB_fit {l : List Opn} (h : fitB l 1048576) : smallB l := ⟨by have := h.1; omega, fun o ho => by
  have h1 := h.2 o ho
  exact ⟨by have := h1.1; omega, fun x hx => show x.length ≤ 1048576 by have := h1.2 x hx; omega⟩⟩
theorem fewB_scan (s : Str) : fewB (scan s).1 := ⟨by have := (scan_len s).1; omega, fun b hb => by
  have h1 := validBat_iff.1 (scan_valid s b hb)
  exact ⟨h1.2, fun o ho => by
    rcases op_cases (h1.1 o ho) with ⟨r, hr, rfl, ht⟩ | ⟨r, hr, rfl, ht⟩ | ⟨v, hv, rfl, ht⟩ | ⟨v, hv, rfl, ht⟩
    · simp only [validRec, Bool.and_eq_true, decide_eq_true_eq] at hr
      exact Nat.le_of_eq hr.2
    · have := (goneRec_iff.1 hr).2.2.2
      simp [this]
    · simp [rec0]
    · simp [rec0]⟩⟩
theorem fn_laws_FnExactAppendEntry (s : Str) (l : List Opn) (hs : s.length ≤ 9223372036854775807) (hl : bigB l) : FnOk Tryz.prog 3 [dS s, nBat l] (fun res' => res' = .val (dB true)) := by
  refine fn_of good (rs := [.tmp 4]) Tryz.func3 rfl Tryz.ntmps3 (by decide) (by simp) rfl fun w0 ow0 => ?_
  refine okC_rg good ?_
  simp [go_sem]
  repeat (with_reducible refine And.intro ?_ ?_; first | omega | assumption | (simp only [inI]; omega))
  refine okC_seq ?_
  refine okC_rg good ?_
  simp [go_sem]
  repeat (with_reducible refine And.intro ?_ ?_; first | omega | assumption | (simp only [inI]; omega))
  refine okC_if ?_
  simp [go_sem]
  first | refine gC_dec (fun a => ?_) (fun a => ?_) | refine gC_ndec (fun a => ?_) (fun a => ?_) | refine gC_of (fun a => ?_) (fun a => ?_)
  · try simp at a
    refine okC_rg good ?_
    simp [go_sem]
    repeat (with_reducible refine And.intro ?_ ?_; first | omega | assumption | (simp only [inI]; omega))
    refine okC_ret ?_
    simp [go_sem]
    all_goals first | done | omega | grind | (simp; omega) | (simp_all; done) | (simp_all; omega)
  · try simp at a
    refine okC_skip ?_
    refine okC_rg good ?_
    simp [go_sem]
    repeat (with_reducible refine And.intro ?_ ?_; first | omega | assumption | (simp only [inI]; omega))
    refine okC_rg good ?_
    simp [go_sem]
    repeat (with_reducible refine And.intro ?_ ?_; first | omega | assumption | (simp only [inI]; omega))
    refine callK_fx (fn_laws_szBatch l 1048576 hl (by omega)) (by simp [go_sem]) ?_
    rintro r ⟨v, rfl, hv, hf⟩
    refine ⟨by simp [go_sem], ?_⟩
    simp [go_sem]
    repeat (with_reducible refine And.intro ?_ ?_; first | omega | assumption | (simp only [inI]; omega))
    refine okC_seq ?_
    refine okC_rg good ?_
    simp [go_sem]
    repeat (with_reducible refine And.intro ?_ ?_; first | omega | assumption | (simp only [inI]; omega))
    refine okC_if ?_
    simp [go_sem]
    first | refine gC_dec (fun b => ?_) (fun b => ?_) | refine gC_ndec (fun b => ?_) (fun b => ?_) | refine gC_of (fun b => ?_) (fun b => ?_)
    · try simp at b
      refine okC_rg good ?_
      simp [go_sem]
      repeat (with_reducible refine And.intro ?_ ?_; first | omega | assumption | (simp only [inI]; omega))
      refine okC_ret ?_
      simp [go_sem]
      all_goals first | done | omega | grind | (simp; omega) | (simp_all; done) | (simp_all; omega)
    · try simp at b
      refine okC_skip ?_
      have hfit := hf (by omega)
      have hsm := smallB_fit hfit
      refine okC_rg good ?_
      simp [go_sem]
      repeat (with_reducible refine And.intro ?_ ?_; first | omega | assumption | (simp only [inI]; omega))
      first | refine callK_of (fn_laws_toBatch l hfit) (by simp [go_sem]) ?_ | refine callK_fz (fn_laws_toBatch l hfit) (by simp [go_sem]) (by simp [go_sem]) ?_
      simp [go_sem]
      repeat (with_reducible refine And.intro ?_ ?_; first | omega | assumption | (simp only [inI]; omega))
      first | refine callK_of (fn_spec_AppendEntry s l (by omega) hsm) (by simp [go_sem]) ?_ | refine callK_fz (fn_spec_AppendEntry s l (by omega) hsm) (by simp [go_sem]) (by simp [go_sem]) ?_
      simp [go_sem]
      repeat (with_reducible refine And.intro ?_ ?_; first | omega | assumption | (simp only [inI]; omega))
      refine okC_rg good ?_
      simp [go_sem]
      repeat (with_reducible refine And.intro ?_ ?_; first | omega | assumption | (simp only [inI]; omega))
      first | refine callK_of (fn_laws_toBatch l hfit) (by simp [go_sem]) ?_ | refine callK_fz (fn_laws_toBatch l hfit) (by simp [go_sem]) (by simp [go_sem]) ?_
      simp [go_sem]
      repeat (with_reducible refine And.intro ?_ ?_; first | omega | assumption | (simp only [inI]; omega))
      refine okC_rg good ?_
      simp [go_sem]
      repeat (with_reducible refine And.intro ?_ ?_; first | omega | assumption | (simp only [inI]; omega))
      first | refine callK_of (fn_impl_AppendEntry s l (by omega) hsm) (by simp [go_sem]) ?_ | refine callK_fz (fn_impl_AppendEntry s l (by omega) hsm) (by simp [go_sem]) (by simp [go_sem]) ?_
      simp [go_sem]
      repeat (with_reducible refine And.intro ?_ ?_; first | omega | assumption | (simp only [inI]; omega))
      refine okC_seq ?_
      refine okC_rg good ?_
      simp [go_sem]
      repeat (with_reducible refine And.intro ?_ ?_; first | omega | assumption | (simp only [inI]; omega))
      refine okC_if ?_
      simp [go_sem]
      refine okC_skip ?_
      refine okC_seq ?_
      refine okC_dr good rfl (by decide) (by kernel_rfl) ?_
      simp [go_sem]
      repeat (with_reducible refine And.intro ?_ ?_; first | omega | assumption | (simp only [inI]; omega))
      first | refine callD_of (fn_laws_toBatch l hfit) (by simp [go_sem]) rfl ?_ | refine callD_fz (fn_laws_toBatch l hfit) (by simp [go_sem]) (by simp [go_sem]) rfl ?_
      simp [go_sem]
      repeat (with_reducible refine And.intro ?_ ?_; first | omega | assumption | (simp only [inI]; omega))
      first | refine callD_of (fn_laws_eqBatch l (by have := hfit.1; omega) (fun o ho => (hsm.2 o ho).1)) (by simp [go_sem]) rfl ?_ | refine callD_fz (fn_laws_eqBatch l (by have := hfit.1; omega) (fun o ho => (hsm.2 o ho).1)) (by simp [go_sem]) (by simp [go_sem]) rfl ?_
      simp [go_sem]
      repeat (with_reducible refine And.intro ?_ ?_; first | omega | assumption | (simp only [inI]; omega))
      refine okC_if ?_
      simp [go_sem]
      refine okC_skip ?_
      refine okC_rg good ?_
      simp [go_sem]
      repeat (with_reducible refine And.intro ?_ ?_; first | omega | assumption | (simp only [inI]; omega))
      refine okC_ret ?_
      simp [go_sem]
      all_goals first | done | omega | grind | (simp; omega) | (simp_all; done) | (simp_all; omega)
theorem fn_laws_FnExactScanLog (s : Str) (hs : s.length ≤ 9223372036854775807) : FnOk Tryz.prog 4 [dS s] (fun res' => res' = .val (dB true)) := by
  refine fn_of good (rs := [.tmp 2]) Tryz.func4 rfl Tryz.ntmps4 (by decide) (by simp) rfl fun w0 ow0 => ?_
  refine okC_rg good ?_
  simp [go_sem]
  repeat (with_reducible refine And.intro ?_ ?_; first | omega | assumption | (simp only [inI]; omega))
  refine okC_seq ?_
  refine okC_rg good ?_
  simp [go_sem]
  repeat (with_reducible refine And.intro ?_ ?_; first | omega | assumption | (simp only [inI]; omega))
  refine okC_if ?_
  simp [go_sem]
  first | refine gC_dec (fun a => ?_) (fun a => ?_) | refine gC_ndec (fun a => ?_) (fun a => ?_) | refine gC_of (fun a => ?_) (fun a => ?_)
  · try simp at a
    refine okC_rg good ?_
    simp [go_sem]
    repeat (with_reducible refine And.intro ?_ ?_; first | omega | assumption | (simp only [inI]; omega))
    refine okC_ret ?_
    simp [go_sem]
    all_goals first | done | omega | grind | (simp; omega) | (simp_all; done) | (simp_all; omega)
  · try simp at a
    refine okC_skip ?_
    have hfw := fewB_scan s
    have hsb : ∀ b ∈ (scan s).1, smallB b := fun b hb => smallB_of (by have := (hfw.2 b hb).1; omega) (validBat_iff.1 (scan_valid s b hb)).1
    have hbs := bSum_le hfw.2
    have hl6 := (scan_len s).1
    obtain ⟨S, hS⟩ : ∃ S, bSum (scan s).1 = S := ⟨_, rfl⟩
    rw [hS] at hbs
    have hn : ¬ (1 : Int) + S < 0 := by omega
    refine okC_rg good ?_
    simp [go_sem, hS, hn]
    repeat (with_reducible refine And.intro ?_ ?_; first | omega | assumption | (simp only [inI]; omega))
    first | refine callK_of (fn_spec_ScanLog s (by omega)) (by simp [go_sem]) ?_ | refine callK_fz (fn_spec_ScanLog s (by omega)) (by simp [go_sem]) (by simp [go_sem]) ?_
    simp [go_sem, hS, hn]
    repeat (with_reducible refine And.intro ?_ ?_; first | omega | assumption | (simp only [inI]; omega))
    refine okC_rg good ?_
    simp [go_sem, hS, hn]
    repeat (with_reducible refine And.intro ?_ ?_; first | omega | assumption | (simp only [inI]; omega))
    first | refine callK_of (fn_impl_ScanLog s (by omega)) (by simp [go_sem]) ?_ | refine callK_fz (fn_impl_ScanLog s (by omega)) (by simp [go_sem]) (by simp [go_sem]) ?_
    simp [go_sem, hS, hn]
    repeat (with_reducible refine And.intro ?_ ?_; first | omega | assumption | (simp only [inI]; omega))
    refine okC_seq ?_
    refine okC_rg good ?_
    simp [go_sem, hS, hn]
    repeat (with_reducible refine And.intro ?_ ?_; first | omega | assumption | (simp only [inI]; omega))
    first | refine callK_of (fn_laws_eqBatchS (scan s).1 (by omega) hsb) (by simp [go_sem]) ?_ | refine callK_fz (fn_laws_eqBatchS (scan s).1 (by omega) hsb) (by simp [go_sem]) (by simp [go_sem]) ?_
    simp [go_sem, hS, hn]
    repeat (with_reducible refine And.intro ?_ ?_; first | omega | assumption | (simp only [inI]; omega))
    refine okC_if ?_
    simp [go_sem, hS, hn]
    refine okC_skip ?_
    refine okC_rg good ?_
    simp [go_sem, hS, hn]
    repeat (with_reducible refine And.intro ?_ ?_; first | omega | assumption | (simp only [inI]; omega))
    refine okC_rg good ?_
    simp [go_sem, hS, hn]
    repeat (with_reducible refine And.intro ?_ ?_; first | omega | assumption | (simp only [inI]; omega))
    refine callMK_of rfl (fn_laws_markBatchS (scan s).1 1 hfw (by decide)) ?_
    rintro r d ⟨rfl, rfl⟩
    simp [go_sem, hS, hn]
    repeat (with_reducible refine And.intro ?_ ?_; first | omega | assumption | (simp only [inI]; omega))
    refine okC_rg good ?_
    simp [go_sem, hS, hn]
    repeat (with_reducible refine And.intro ?_ ?_; first | omega | assumption | (simp only [inI]; omega))
    refine okC_rg good ?_
    simp [go_sem, hS, hn]
    repeat (with_reducible refine And.intro ?_ ?_; first | omega | assumption | (simp only [inI]; omega))
    first | refine callK_of (fn_laws_heldBatchS (scan s).1 1 hfw (by decide)) (by simp [go_sem]) ?_ | refine callK_fz (fn_laws_heldBatchS (scan s).1 1 hfw (by decide)) (by simp [go_sem]) (by simp [go_sem]) ?_
    simp [go_sem, hS, hn]
    repeat (with_reducible refine And.intro ?_ ?_; first | omega | assumption | (simp only [inI]; omega))
    refine okC_seq ?_
    refine okC_rg good ?_
    simp [go_sem, hS, hn]
    repeat (with_reducible refine And.intro ?_ ?_; first | omega | assumption | (simp only [inI]; omega))
    refine okC_if ?_
    simp [go_sem, hS, hn]
    refine okC_skip ?_
    refine okC_seq ?_
    refine okC_rg good ?_
    simp [go_sem, hS, hn]
    repeat (with_reducible refine And.intro ?_ ?_; first | omega | assumption | (simp only [inI]; omega))
    refine okC_if ?_
    simp [go_sem, hS, hn]
    refine okC_skip ?_
    refine okC_rg good ?_
    simp [go_sem, hS, hn]
    repeat (with_reducible refine And.intro ?_ ?_; first | omega | assumption | (simp only [inI]; omega))
    first | refine callK_of (fn_impl_ScanLog s (by omega)) (by simp [go_sem]) ?_ | refine callK_fz (fn_impl_ScanLog s (by omega)) (by simp [go_sem]) (by simp [go_sem]) ?_
    simp [go_sem, hS, hn]
    repeat (with_reducible refine And.intro ?_ ?_; first | omega | assumption | (simp only [inI]; omega))
    refine okC_seq ?_
    refine okC_rg good ?_
    simp [go_sem, hS, hn]
    repeat (with_reducible refine And.intro ?_ ?_; first | omega | assumption | (simp only [inI]; omega))
    first | refine callK_of (fn_laws_eqBatchS (scan s).1 (by omega) hsb) (by simp [go_sem]) ?_ | refine callK_fz (fn_laws_eqBatchS (scan s).1 (by omega) hsb) (by simp [go_sem]) (by simp [go_sem]) ?_
    simp [go_sem, hS, hn]
    repeat (with_reducible refine And.intro ?_ ?_; first | omega | assumption | (simp only [inI]; omega))
    refine okC_if ?_
    simp [go_sem, hS, hn]
    refine okC_skip ?_
    refine okC_rg good ?_
    simp [go_sem, hS, hn]
    repeat (with_reducible refine And.intro ?_ ?_; first | omega | assumption | (simp only [inI]; omega))
    refine okC_rg good ?_
    simp [go_sem, hS, hn]
    repeat (with_reducible refine And.intro ?_ ?_; first | omega | assumption | (simp only [inI]; omega))
    first | refine callK_of (fn_laws_heldBatchS (scan s).1 1 hfw (by decide)) (by simp [go_sem]) ?_ | refine callK_fz (fn_laws_heldBatchS (scan s).1 1 hfw (by decide)) (by simp [go_sem]) (by simp [go_sem]) ?_
    simp [go_sem, hS, hn]
    repeat (with_reducible refine And.intro ?_ ?_; first | omega | assumption | (simp only [inI]; omega))
    refine okC_seq ?_
    refine okC_rg good ?_
    simp [go_sem, hS, hn]
    repeat (with_reducible refine And.intro ?_ ?_; first | omega | assumption | (simp only [inI]; omega))
    refine okC_if ?_
    simp [go_sem, hS, hn]
    refine okC_skip ?_
    refine okC_seq ?_
    refine okC_rg good ?_
    simp [go_sem, hS, hn]
    repeat (with_reducible refine And.intro ?_ ?_; first | omega | assumption | (simp only [inI]; omega))
    refine okC_if ?_
    simp [go_sem, hS, hn]
    refine okC_skip ?_
    refine okC_rg good ?_
    simp [go_sem, hS, hn]
    repeat (with_reducible refine And.intro ?_ ?_; first | omega | assumption | (simp only [inI]; omega))
    refine okC_ret ?_
    simp [go_sem, hS, hn]
    all_goals first | done | omega | grind | (simp; omega) | (simp_all; done) | (simp_all; omega)
end Go.Proofs.YtfhfidecmdhkoaaGreatDoor
end
section
set_option linter.unusedVariables false
set_option linter.unusedSimpArgs false
set_option maxRecDepth 10000
namespace Go.Er
open Go.ChangeShapes Go.WideShapes Go.ChangeAt Go.RowKit
section
variable {H : Type} {enc : TypeId × Value → H}
theorem law_lifted_open {C : Checked} {f : FuncId} {fn : Func} {s : ChangeSpec} {os : Os} {L : List (String × DataW Unit)} (started : os.Started)
    (own : ownKnob C.prog.godebug = none) (laidOut : laidOutB C.prog = true) (noInit : C.prog.inits.idxOf? f = none) (hfn : C.prog.funcs[f]? = some fn)
    (hvars : s.vars = []) (hspec : ∀ ds : List (DataW H), ds.length = fn.params.size → s.fn H ds = { results := [.lit (.bool true)], args := ds })
    {tb : TypeId} (hres : fn.resultTypes = #[tb]) (hb : C.prog.underlying tb = some .bool)
    (hread : ∀ t ∈ fn.params.toList, C.prog.readableRec t = true ∧ t < C.prog.types.size)
    (witness : ∃ (w : World) (tape : Tape) (i : Input), w.os = os ∧ (w.forCall tape i).Shaped C.prog ∧ i.vars = [] ∧ Input.okWide C.prog (w.forCall tape i) .any w.heap.size f i ∧
      ((s.pre enc C.prog fn [] false (w.forCall tape i).memory i.args ∧ laidMet C.prog L (w.forCall tape i).memory) ∧ sizedMet enc C.prog fn (OpenSpec.ofChange s) false (w.forCall tape i).memory i.args) ∧ ({} : Assume).holds C.prog (lone (Frame.enter C.prog f i.args .normal) [] (w.forCall tape i)))
    (walk : ∀ (W : World) (base : Nat) (args : Array Value) (ds : List (DataW H)) (p : List MemPlace), W.ShapedOpen C.prog →
      (∀ (j : Nat) t v, fn.params[j]? = some t → args[j]? = some v → Value.okWide C.prog W .any base t v) →
      DataW.TrodAll enc C.prog W 0 (fun _ => true) true fn.params.toList args.toList ds p → laidMet C.prog L W →
      Calls C.prog f args W fun e W' => e = .returned (.bool true) ∧ Below W.heap.size W W') :
    ReturnsInHanded {} C os f .any (fun w args => (s.pre enc C.prog fn [] false w args ∧ laidMet C.prog L w) ∧ sizedMet enc C.prog fn (OpenSpec.ofChange s) false w args) (s.post enc C.prog fn false true false false) := by
  refine returnsInHanded_of_calls own started noInit witness ?_
  intro w tape i _ hsh _ hok hpre hholds
  obtain ⟨_, _, _, fn', hfn', _, _, _, _, hval⟩ := hok
  obtain rfl : fn' = fn := Option.some.inj (hfn'.symm.trans hfn)
  obtain ⟨⟨⟨ds, gs, before, hw, hc⟩, hx⟩, hz⟩ := hpre
  have hW := DataW.Whole.of_heap (w' := w.forCall tape i) (by rfl) hw
  have hL : laidMet C.prog L (w.forCall tape i) := hx.of_heap (by rfl)
  have hW' := hW
  obtain ⟨p, q, hA, hV, rfl, _, _⟩ := hW
  rw [hvars] at hV
  obtain ⟨rfl, rfl⟩ := trodVars_none hV
  have hlen := (trodAll_length hA).2
  refine (walk (w.forCall tape i) w.heap.size i.args ds p hsh hval hA hL).mono fun e W' ⟨he, bel⟩ => ?_
  subst he
  refine ChangeSpec.post_blind (v := .bool true) ?_
  refine ⟨ds, [], p ++ [], [], p, [], hW', ?_, ?_, ?_, bel.frame _, fun h => by cases h⟩
  · rw [hspec (ds ++ []) (by simpa using hlen), hres]
    exact trodAll_mk1 (shut_bool hb _)
  · rw [hspec (ds ++ []) (by simpa using hlen)]
    simpa using trodAll_below laidOut bel hread hA
  · rw [hspec (ds ++ []) (by simpa using hlen), hvars]
    rfl
end
end Go.Er
namespace Go.Proofs.YtfhfidecmdhkoaaGreatDoor
open Go.Dv Go.Pl
open Go.ChangeShapes Go.WideShapes Go.ChangeAt Go.RowKit Go.Er
abbrev tables : List (String × DataW Unit) := [("math/bits.deBruijn32tab", Rows.laid_math_bits_deBruijn32tab), ("math/bits.deBruijn64tab", Rows.laid_math_bits_deBruijn64tab), ("internal/strconv.uint64pow10", Rows.laid_internal_strconv_uint64pow10), ("unicode/utf8.acceptRanges", Rows.laid_unicode_utf8_acceptRanges), ("strconv.ErrRange", Rows.laid_strconv_ErrRange), ("strconv.ErrSyntax", Rows.laid_strconv_ErrSyntax), ("unicode/utf8.first", Rows.laid_unicode_utf8_first)]
theorem own : ownKnob Tryz.prog.godebug = none := by kernel_rfl
theorem laidOut : laidOutB Tryz.prog = true := by kernel_rfl
theorem starE : "*" ++ "errors.errorString" = "*errors.errorString" := by decide
theorem row195 (u : TypeId) (h : Tryz.prog.typeName? 3 u = some "*errors.errorString") : u = 195 :=
  typeName_ptr_named (nm := "errors.errorString") (by rw [starE]; kernel_rfl) (by kernel_rfl) (by decide) u (by rw [starE]; exact h)
theorem tabFact {W : World} (hL : laidMet Tryz.prog tables W) : Lib.TabIs Tryz.prog W "internal/strconv.uint64pow10" .u64 Lib.pow10Tab := by
  have h := hL.tail.tail
  rw [show (Rows.laid_internal_strconv_uint64pow10 : DataW Unit) = Lib.tabData .u64 Lib.pow10Tab by kernel_rfl] at h
  exact Lib.tabIs_of_head (g := 3) (by kernel_rfl) (by kernel_rfl) Tryz.underlying190 Tryz.underlying166 (by kernel_rfl) (by kernel_rfl) h
theorem cellOk_int {P : Program} {W : World} {base : Nat} {t : TypeId} {cs : Array Value} (ht : P.cellTypes P.depth t = some [t]) (hu : P.underlying t = some (.int .i64)) (hs : cs.size = 1) (h : Row.ok P W .any base t cs) : ∃ m, cs = #[.int .i64 m] := by
  obtain ⟨ts, h1, _, h3⟩ := h
  rw [ht] at h1
  obtain rfl := Option.some.inj h1
  obtain ⟨v, rfl⟩ := Array.size_eq_one_iff.1 hs
  obtain ⟨u, hu', hv⟩ := h3 0 v rfl
  obtain rfl : t = u := by simpa using hu'
  unfold Cell.ok at hv
  rw [hu] at hv
  cases v with
  | int k n => obtain ⟨rfl, _⟩ := hv; exact ⟨n, rfl⟩
  | _ => exact hv.elim
theorem globFacts {W : World} (hS : W.ShapedOpen Tryz.prog) (hL : laidMet Tryz.prog tables W) : GlobFacts W := by
  refine ⟨tabFact hL, ?_, ?_, ?_⟩
  · obtain ⟨a, s, h, _⟩ := laid_sentinel hL.tail.tail.tail.tail.tail (g := 1) (by kernel_rfl) (by kernel_rfl) Tryz.underlying103 row195 Tryz.underlying195 Tryz.underlying197 rfl rfl Tryz.underlying9 (by kernel_rfl) (by kernel_rfl)
    exact ⟨_, _, h⟩
  · obtain ⟨a, s, h, _⟩ := laid_sentinel hL.tail.tail.tail.tail (g := 2) (by kernel_rfl) (by kernel_rfl) Tryz.underlying103 row195 Tryz.underlying195 Tryz.underlying197 rfl rfl Tryz.underlying9 (by kernel_rfl) (by kernel_rfl)
    exact ⟨_, _, h⟩
  · obtain ⟨cs, h1, h2, h3⟩ := hS.1 0 #[.int .i64 0] 3 (of_decide_eq_true (by kernel_rfl)) (by kernel_rfl)
    obtain ⟨m, rfl⟩ := cellOk_int (by kernel_rfl) Tryz.underlying3 h2 (h3 (by kernel_rfl))
    exact ⟨m, by simp [World.cell?, h1]⟩
theorem glob_heap {W W' : World} (h : ∀ b, b < 8 → W'.heap[b]? = W.heap[b]?) (hg : GlobFacts W) : GlobFacts W' := by
  have hv : ∀ (n : String) (g : Nat), Tryz.prog.globalNamed n = some g → g < 8 → W'.var? Tryz.prog n = W.var? Tryz.prog n := fun n g h1 h2 => by
    unfold World.var?
    rw [h1]
    simp only [Option.bind_some]
    rw [h g h2]
  obtain ⟨h1, h2, h3, m, h4⟩ := hg
  refine ⟨(hv _ 3 (by kernel_rfl) (by decide)).trans h1, ?_, ?_, m, ?_⟩
  · rw [hv _ 1 (by kernel_rfl) (by decide)]; exact h2
  · rw [hv _ 2 (by kernel_rfl) (by decide)]; exact h3
  · exact (World.cell?_of_block (a := ⟨0, 0, none⟩) (h 0 (by decide))).trans h4
theorem laid_of {W : World} (hS : W.ShapedOpen Tryz.prog) (hL : laidMet Tryz.prog tables W) (hsz : 8 ≤ W.heap.size) : Laid W (fun _ => none) := by
  have hg := globFacts hS hL
  refine ⟨(List.range 8).filterMap fun b => (W.heap[b]?).map fun o => (b, o), fun W' h => glob_heap (fun b hb => ?_) hg, fun p hp => ?_⟩
  · have hb2 : b < W.heap.size := by omega
    have h1 := h (b, W.heap[b]) (List.mem_filterMap.2 ⟨b, by simpa using hb, by simp [Array.getElem?_eq_getElem hb2]⟩)
    rw [h1, Array.getElem?_eq_getElem hb2]
  · obtain ⟨b, _, hb⟩ := List.mem_filterMap.1 hp
    simp only [Option.map_eq_some_iff] at hb
    obtain ⟨o, ho, rfl⟩ := hb
    exact ⟨ho, rfl⟩
theorem law_calls {W : World} {f : FuncId} {ds : List D} {args : Array Value} (hf : FnOk Tryz.prog f ds (fun r => r = .val (dB true))) (hlaid : Laid W (fun _ => none)) (hn : args.size = ds.length) (ha : ∀ (i : Nat) (d : D), ds[i]? = some d → V Tryz.prog W (fun _ => none) d.fz [] (args.getD i undef)) :
    Calls Tryz.prog f args W fun e W' => e = .returned (.bool true) ∧ Below W.heap.size W W' := by
  refine (hf W (fun _ => none) args 0 (by decide) hlaid (fun _ _ => rfl) hn ha).mono ?_
  rintro e W' ⟨v, ow', r, rfl, rfl, haf, _, hsv⟩
  have hv := hsv (fun _ => .un) { tmps := #[], defers := [] }
  simp only [SV, V, D.fz, R] at hv
  obtain ⟨hv, _⟩ := hv
  obtain rfl : v = .bool true := by simpa using hv
  exact ⟨rfl, haf.os, haf.tape, haf.output, haf.size, fun b hb => (haf.old b hb).1⟩
def setBlock (h : Array Obj) (i : Nat) (cs : Array Value) : Array Obj := h.modify i fun
  | .cells _ t frozen => .cells cs t frozen
  | o => o
def datCells : DataW Unit → Array Value
  | .agg parts => (parts.flatMap fun | .lit (.int k n) => [Value.int k n] | .agg ps => (ps.map fun | .lit (.int k n) => Value.int k n | _ => undef) | _ => []).toArray
  | _ => #[]
def datText : DataW Unit → ByteArray
  | .iface _ (.ptr (.agg [.lit (.string l)])) => ⟨l.toArray⟩
  | _ => ⟨#[]⟩
noncomputable def low : Nat := (World.holding Tryz.prog default ⟨#[], #[], []⟩).heap.size
noncomputable def laidWorld (os : Os) : World :=
  let w0 := World.holding Tryz.prog os ⟨#[.cells #[.string (datText Rows.laid_strconv_ErrSyntax)] 197, .cells #[.string (datText Rows.laid_strconv_ErrRange)] 197], #[], []⟩
  { w0 with heap := setBlock (setBlock (setBlock (setBlock (setBlock (setBlock (setBlock w0.heap 3 (datCells Rows.laid_internal_strconv_uint64pow10)) 4 (datCells Rows.laid_unicode_utf8_first)) 5 (datCells Rows.laid_unicode_utf8_acceptRanges)) 6 (datCells Rows.laid_math_bits_deBruijn32tab)) 7 (datCells Rows.laid_math_bits_deBruijn64tab)) 1 #[.iface 195 (.pointer (some ⟨low, 0, none⟩))]) 2 #[.iface 195 (.pointer (some ⟨low + 1, 0, none⟩))] }
theorem laid_met (os : Os) (args : Array Value) : laidMet Tryz.prog tables ((laidWorld os).forCall (fun _ _ => 0) ⟨#[], args, []⟩).memory :=
  laidMet_of_run' 8 (by kernel_rfl) (by kernel_rfl)
theorem reads9 : (Tryz.prog.readableRec 9 && decide (9 < Tryz.prog.types.size)) = true := by kernel_rfl
theorem str_of {W : World} {base : Nat} {v : Value} (h : Value.okWide Tryz.prog W .any base 9 v) : ∃ s : Str, v = .string ⟨s.toArray⟩ := by
  unfold Value.okWide at h
  rw [Tryz.underlying9] at h
  unfold Cell.okWide Cell.ok at h
  rw [Tryz.underlying9] at h
  cases v with
  | string b => exact ⟨b.data.toList, by rw [← ba_of b]⟩
  | _ => exact h.elim
theorem size8 {W : World} (hS : W.ShapedOpen Tryz.prog) : 8 ≤ W.heap.size := by
  obtain ⟨cs, h1, _⟩ := hS.1 7 (Array.replicate 64 (.int .u8 0)) 208 (of_decide_eq_true (by kernel_rfl)) (by kernel_rfl)
  exact (Array.getElem?_eq_some_iff.1 h1).1
end Go.Proofs.YtfhfidecmdhkoaaGreatDoor
end
section
namespace Go.Dv
open Go.RowKit Go.ChangeShapes
section
variable {H : Type} {enc : TypeId × Value → H} {P : Program} {W : World} {t e : TypeId} {cs : List Value} {k : Nat}
def Tr (enc : TypeId × Value → H) (P : Program) (W : World) (t : TypeId) (cs : List Value) : Prop := ∃ fuel x, DataW.trod enc P W 0 (fun _ => true) true fuel t cs = some x
def Rd (P : Program) (W : World) (d : D) (cs : List Value) : Prop := ∀ l, R P W (fun _ => none) d l cs
theorem open_int (ht : P.underlying t = some (.int .i64)) (h : Tr enc P W t cs) : ∃ n, Rd P W (dI n) cs := by
  obtain ⟨f, x, h⟩ := h
  obtain ⟨n, rfl, _⟩ := DataW.trod_int ht h
  exact ⟨n, fun l => by simp [R, Value.oneCell']⟩
theorem open_bool (ht : P.underlying t = some .bool) (h : Tr enc P W t cs) : ∃ b, Rd P W (dB b) cs := by
  obtain ⟨f, x, h⟩ := h
  obtain ⟨n, rfl, _⟩ := DataW.trod_bool ht h
  exact ⟨n, fun l => by simp [R, Value.oneCell']⟩
theorem open_str (ht : P.underlying t = some .string) (h : Tr enc P W t cs) : ∃ s : Str, s.length ≤ 9223372036854775807 ∧ Rd P W (dS s) cs := by
  obtain ⟨f, x, h⟩ := h
  obtain ⟨n, rfl, _, hz⟩ := DataW.trod_string ht h
  obtain ⟨s, rfl⟩ : ∃ s : Str, n = ⟨s.toArray⟩ := ⟨n.data.toList, by rw [← ba_of n]⟩
  rw [ba_size] at hz
  have h2 : maxLen = 9223372036854775807 := rfl
  exact ⟨s, by omega, fun l => by simp only [R]; exact ⟨trivial, rfl⟩⟩
theorem open_fld {fs : Array Field} (ht : P.underlying t = some (.struct fs)) (h : Tr enc P W t cs) (i : Nat) (f : Field) (hf : fs[i]? = some f) (o k : Nat) (ho : f.offset = o) (hk : P.cellsOf f.type = k) :
    Tr enc P W f.type ((cs.drop o).take k) := by
  obtain ⟨fu, x, h⟩ := h
  obtain ⟨xs, n, _, _, _, hlen, hfs⟩ := DataW.trod_struct ht h
  have h1 := hfs i f hf
  have h2 : i < xs.length := by rw [hlen]; exact (Array.getElem?_eq_some_iff.1 hf).1
  rw [ho, hk] at h1
  exact ⟨n, xs[i], by rw [h1]; simp [h2]⟩
theorem open_len {fs : Array Field} (ht : P.underlying t = some (.struct fs)) {n : Nat} (hn : P.cellsOf t = n) (h : Tr enc P W t cs) : cs.length ≤ n := by
  obtain ⟨fu, x, h⟩ := h
  obtain ⟨xs, m, _, _, hl, _, _⟩ := DataW.trod_struct ht h
  omega
theorem ra_nil {n : Nat} (h : cs.length ≤ n) (l : List Nat) (i : Nat) : Ra P W (fun _ => none) [] l i (cs.drop n) := by
  simp only [Ra]
  exact List.drop_eq_nil_of_le h
theorem ra_cons {x : D} {xs : List D} {o k : Nat} (h1 : Rd P W x ((cs.drop o).take k)) (h2 : ∀ l i, Ra P W (fun _ => none) xs l i (cs.drop (o + k))) (l : List Nat) (i : Nat) : Ra P W (fun _ => none) (x :: xs) l i (cs.drop o) := by
  simp only [Ra]
  exact ⟨_, _, by rw [← List.drop_drop]; exact (List.take_append_drop k (cs.drop o)).symm, (h1 []).len, h1 _, h2 _ _⟩
theorem rd_agg {xs : List D} (h : ∀ l i, Ra P W (fun _ => none) xs l i (cs.drop 0)) : Rd P W (.agg xs) cs := fun l => by
  simp only [R]
  exact h l 0
theorem rs_of {C : Array Value} : ∀ (xs : List D) (l : List Nat) (i0 off : Nat), (∀ i y, xs[i]? = some y → ∃ vs : List Value, vs.length = k ∧ (∀ j, j < k → C[off + i * k + j]? = vs[j]?) ∧ Rd P W y vs) → Rs P W (fun _ => none) xs l i0 C off k
  | [], _, _, _, _ => by simp only [Rs]
  | x :: xs, l, i0, off, h => by
    obtain ⟨vs, h1, h2, h3⟩ := h 0 x rfl
    simp only [Rs]
    refine ⟨vs, ?_, h1, fun j hj => by simpa using h2 j hj, h3 _, rs_of xs l (i0 + 1) (off + k) fun i y hy => ?_⟩
    · rw [← (h3 []).len]; exact h1
    · obtain ⟨vs, h1, h2, h3⟩ := h (i + 1) y (by simpa using hy)
      exact ⟨vs, h1, fun j hj => by have := h2 j hj; rwa [show off + k + i * k + j = off + (i + 1) * k + j by rw [Nat.succ_mul]; omega], h3⟩
theorem cell_heap {b o : Nat} {v : Value} {C : Array Value} {e : TypeId} {fz : Nat × Nat} (hh : W.heap[b]? = some (.cells C e fz)) (h : W.cell? ⟨b, o, none⟩ = some v) : C[o]? = some v := by
  unfold World.cell? at h
  simpa [hh] using h
theorem heap_cell {b o : Nat} {v : Value} (h : W.cell? ⟨b, o, none⟩ = some v) : ∃ C e fz, W.heap[b]? = some (.cells C e fz) := by
  unfold World.cell? at h
  split at h
  · rename_i C e fz hh; exact ⟨C, e, fz, hh⟩
  · simp at h
theorem open_sl {α : Type} {f : α → D} {Q : α → Prop} (ht : P.underlying t = some (.slice e)) (hk : P.cellsOf e = k) (hk0 : 0 < k)
    (hR : ∀ vs, Tr enc P W e vs → ∃ y, Q y ∧ Rd P W (f y) vs) (h : Tr enc P W t cs) :
    ∃ ys : List α, (ys.length ≤ 9223372036854775807 ∧ ∀ y ∈ ys, Q y) ∧ Rd P W (.sl none (ys.map f)) cs := by
  obtain ⟨fu, x, h⟩ := h
  have h9 : maxLen = 9223372036854775807 := rfl
  rcases DataW.trod_slice ht h with ⟨rfl, _⟩ | ⟨a, len, cap, elems, rest, n, _, rfl, _, _, hl, hm, hlen, hel, _, _⟩
  · exact ⟨[], ⟨by simp, by simp⟩, fun l => by simp only [R]; exact ⟨none, 0, rfl, by simp, by omega, .inl ⟨rfl, rfl, rfl⟩⟩⟩
  · have each : ∀ i : Fin len, ∃ y : α, ∃ vs : List Value, Q y ∧ vs.length = k ∧ (∀ j, (hj : j < vs.length) → W.cell? ((a.add (i.1 * k)).add j) = some vs[j]) ∧ Rd P W (f y) vs := by
      intro i
      have h1 := hel i.1 i.2
      have h2 : i.1 < elems.length := by rw [hlen]; exact i.2
      rw [hk, List.getElem?_eq_getElem h2] at h1
      obtain ⟨vs, hvs, htr⟩ := Option.bind_eq_some_iff.1 h1
      obtain ⟨y, hq, hy⟩ := hR _ ⟨_, _, htr⟩
      have hc : (List.range k).mapM (fun j => W.cell? ((a.add (i.1 * k)).add j)) = some vs := by
        unfold World.cells? at hvs
        rw [if_pos (Nat.zero_le _)] at hvs
        exact hvs
      have hvl : vs.length = k := by rw [mapM_some_length hc, List.length_range]
      refine ⟨y, vs, hq, hvl, fun j hj => ?_, hy⟩
      have h3 := mapM_some_get hc j j (by rw [List.getElem?_range (by omega)])
      rw [h3]
      simp [hj]
    obtain ⟨g, hg⟩ := Classical.axiomOfChoice each
    refine ⟨List.ofFn g, ⟨by simp; omega, fun y hy => ?_⟩, fun l => ?_⟩
    · obtain ⟨i, rfl⟩ := List.mem_ofFn.1 hy
      exact (hg i).choose_spec.1
    · simp only [R]
      refine ⟨some a, cap, by simp, by simp; omega, hm, ?_⟩
      by_cases h0 : len = 0
      · refine .inr (.inl ⟨by simp, ?_⟩)
        apply List.eq_nil_of_length_eq_zero
        simp [h0]
      · obtain ⟨vs0, _, g1, g2, _⟩ := hg ⟨0, by omega⟩
        have hs := World.cell?_spot (g2 0 (by omega))
        obtain ⟨b, o, sp⟩ := a
        obtain rfl : sp = none := by simpa [Addr.add] using hs
        obtain ⟨C, e', fz, hh⟩ := heap_cell (by simpa [Addr.add] using g2 0 (by omega))
        refine .inr (.inr ⟨b, o, k, C, e', fz, rfl, hh, by simp, by simp, rs_of _ _ _ _ fun i y hy => ?_⟩)
        rw [List.getElem?_map, Option.map_eq_some_iff] at hy
        obtain ⟨y', hy, rfl⟩ := hy
        obtain ⟨hi, rfl⟩ := List.getElem?_eq_some_iff.1 hy
        rw [List.getElem_ofFn]
        obtain ⟨vs, _, h1, h2, h3⟩ := hg ⟨i, by simpa using hi⟩
        refine ⟨vs, h1, fun j hj => ?_, h3⟩
        have h5 := h2 j (by omega)
        rw [Addr.add_lit, Addr.add_lit] at h5
        rw [cell_heap hh h5, List.getElem?_eq_getElem (by omega)]
theorem v_agg {xs : List D} {cs : Array Value} (h : Rd P W (.agg xs) cs.toList) : V P W (fun _ => none) (.agg xs) [] (.agg cs) := by
  simp only [V]
  exact ⟨cs, rfl, h []⟩
theorem v_sl {o : Option TypeId} {xs : List D} {v : Value} (h : Rd P W (.sl o xs) [v]) : V P W (fun _ => none) (.sl o xs) [] v := by
  simp only [V]
  exact h []
theorem v_one {u v : Value} (h : Rd P W (.one u) [v]) : V P W (fun _ => none) (.one u) [] v := by
  simp only [V]
  exact h []
end
end Go.Dv
end
section
set_option linter.unusedVariables false
set_option linter.unusedSimpArgs false
set_option maxRecDepth 10000
namespace Go.Proofs.YtfhfidecmdhkoaaGreatDoor
open Go.Dv Go.Pl
open Go.ChangeShapes Go.WideShapes Go.ChangeAt Go.RowKit Go.Er
section
variable {H : Type} {enc : TypeId × Value → H} {W : World} {cs : List Value}
theorem tr_ver (h : Tr enc Tryz.prog W 89 cs) : ∃ v : Ver, Rd Tryz.prog W (dVer v) cs := by
  have hl := open_len Tryz.underlying89 (n := 4) (by kernel_rfl) h
  have hf := open_fld Tryz.underlying89 h
  obtain ⟨a, h0⟩ := open_int Tryz.underlying3 (hf 0 _ rfl 0 1 rfl (by kernel_rfl))
  obtain ⟨b, h1⟩ := open_int Tryz.underlying3 (hf 1 _ rfl 1 1 rfl (by kernel_rfl))
  obtain ⟨s, h2⟩ := open_bool Tryz.underlying4 (hf 2 _ rfl 2 1 rfl (by kernel_rfl))
  obtain ⟨t, h3⟩ := open_int Tryz.underlying3 (hf 3 _ rfl 3 1 rfl (by kernel_rfl))
  exact ⟨⟨a, b, s, t⟩, rd_agg (ra_cons h0 (ra_cons h1 (ra_cons h2 (ra_cons h3 (ra_nil hl)))))⟩
theorem tr_strs (h : Tr enc Tryz.prog W 75 cs) : ∃ l : List Str, bigS l ∧ Rd Tryz.prog W (nStrs l) cs :=
  open_sl Tryz.underlying75 (k := 1) (by kernel_rfl) (by decide) (fun vs h => open_str Tryz.underlying9 h) h
theorem tr_rec (h : Tr enc Tryz.prog W 88 cs) : ∃ r : Rec, bigS r.fields ∧ Rd Tryz.prog W (nRec r) cs := by
  have hl := open_len Tryz.underlying88 (n := 4) (by kernel_rfl) h
  have hf := open_fld Tryz.underlying88 h
  obtain ⟨a, h0⟩ := open_int Tryz.underlying3 (hf 0 _ rfl 0 1 rfl (by kernel_rfl))
  obtain ⟨b, h1⟩ := open_int Tryz.underlying3 (hf 1 _ rfl 1 1 rfl (by kernel_rfl))
  obtain ⟨c, h2⟩ := open_int Tryz.underlying3 (hf 2 _ rfl 2 1 rfl (by kernel_rfl))
  obtain ⟨l, q, h3⟩ := tr_strs (hf 3 _ rfl 3 1 rfl (by kernel_rfl))
  exact ⟨⟨a, b, c, l⟩, q, rd_agg (ra_cons h0 (ra_cons h1 (ra_cons h2 (ra_cons h3 (ra_nil hl)))))⟩
theorem tr_op (h : Tr enc Tryz.prog W 91 cs) : ∃ o : Opn, bigS o.rc.fields ∧ Rd Tryz.prog W (nOp o) cs := by
  have hl := open_len Tryz.underlying91 (n := 9) (by kernel_rfl) h
  have hf := open_fld Tryz.underlying91 h
  obtain ⟨a, h0⟩ := open_int Tryz.underlying3 (hf 0 _ rfl 0 1 rfl (by kernel_rfl))
  obtain ⟨r, q, h1⟩ := tr_rec (hf 1 _ rfl 1 4 rfl (by kernel_rfl))
  obtain ⟨v, h2⟩ := tr_ver (hf 2 _ rfl 5 4 rfl (by kernel_rfl))
  exact ⟨⟨a, r, v⟩, q, rd_agg (ra_cons h0 (ra_cons h1 (ra_cons h2 (ra_nil hl))))⟩
theorem tr_ops (h : Tr enc Tryz.prog W 22 cs) : ∃ l : List Opn, bigB l ∧ Rd Tryz.prog W (nOps l) cs :=
  open_sl Tryz.underlying22 (k := 9) (by kernel_rfl) (by decide) (fun vs h => tr_op h) h
theorem tr_bat (h : Tr enc Tryz.prog W 24 cs) : ∃ l : List Opn, bigB l ∧ Rd Tryz.prog W (nBat l) cs := by
  have hl := open_len Tryz.underlying24 (n := 1) (by kernel_rfl) h
  have hf := open_fld Tryz.underlying24 h
  obtain ⟨l, q, h0⟩ := tr_ops (hf 0 _ rfl 0 1 rfl (by kernel_rfl))
  exact ⟨l, q, rd_agg (ra_cons h0 (ra_nil hl))⟩
end
theorem nBat_free (l : List Opn) : (nBat l).fz = nBat l := by simp [D.fz, D.fzs, D.fzs_map]
theorem readsB : (Tryz.prog.readableRec 24 && decide (24 < Tryz.prog.types.size)) = true := by kernel_rfl
set_option maxRecDepth 100000 in
theorem lifted3 (os : Os) (started : os.Started) (H : Type) (enc : TypeId × Value → H) :
    ReturnsInHanded {} Tryz.checked os 3 .any (fun w args => (Rows.fnExactAppendEntrySpec.pre enc Tryz.prog Tryz.f3 Rows.fnExactAppendEntryRow.domain false w args ∧ laidMet Tryz.prog tables w) ∧ sizedMet enc Tryz.prog Tryz.f3 (OpenSpec.ofChange Rows.fnExactAppendEntrySpec) false w args) (Rows.fnExactAppendEntrySpec.post enc Tryz.prog Tryz.f3 false true false false) := by
  refine law_lifted_open (C := Tryz.checked) (s := Rows.fnExactAppendEntrySpec) started own laidOut (by kernel_rfl) Tryz.func3 rfl ?_ rfl Tryz.underlying4 ?_
    (ChangeSpec.witness_at (enc := enc) (C := Tryz.checked) (os := os) (X := fun w _ => laidMet Tryz.prog tables w) false (laidWorld os) #[.string ⟨#[]⟩, .agg #[.slice none 0 0]] 8 rfl (by kernel_rfl) (by kernel_rfl) (by kernel_rfl) (by kernel_rfl) (by kernel_rfl) (laid_met os _)) ?_
  · intro ds hds
    match ds, hds with
    | [d0, d1], _ => rfl
  · intro t ht
    rw [Tryz.params3] at ht
    simp only [List.mem_cons, List.not_mem_nil, or_false] at ht
    rcases ht with rfl | rfl
    · have h := reads9; rw [Bool.and_eq_true, decide_eq_true_eq] at h; exact h
    · have h := readsB; rw [Bool.and_eq_true, decide_eq_true_eq] at h; exact h
  · intro W base args ds p hS hval hA hL
    rw [Tryz.params3] at hA hval
    obtain ⟨v0, vs0, d0, ds0, p0, q0, hargs, rfl, rfl, h0, r0⟩ := trodAll_cons hA
    obtain ⟨v1, vs1, d1, ds1, p1, q1, rfl, rfl, rfl, h1, r1⟩ := trodAll_cons r0
    obtain ⟨rfl, rfl, rfl⟩ := trodAll_nil r1
    obtain rfl : args = #[v0, v1] := by cases args; simp_all
    obtain ⟨s, rfl⟩ := str_of (hval 0 9 v0 rfl rfl)
    obtain ⟨cs, rfl, _⟩ := okWide_struct Tryz.underlying24 (hval 1 24 v1 rfl rfl)
    obtain ⟨nf, h0⟩ := h0
    obtain ⟨b, hb, _, hbs⟩ := DataW.trod_string Tryz.underlying9 h0
    obtain rfl : ⟨s.toArray⟩ = b := by simpa [Value.cells] using hb
    obtain ⟨nf1, h1⟩ := h1
    obtain ⟨l, hq, hl⟩ := tr_bat (cs := cs.toList) ⟨nf1, _, h1⟩
    have hsz := size8 hS
    refine law_calls (fn_laws_FnExactAppendEntry s l (by rw [ba_size] at hbs; have : maxLen = 9223372036854775807 := rfl; omega) hq) (laid_of hS hL hsz) rfl fun i d hd => ?_
    match i, hd with
    | 0, hd =>
      obtain rfl := Option.some.inj hd
      exact ⟨rfl, rfl⟩
    | 1, hd =>
      obtain rfl := Option.some.inj hd
      rw [nBat_free]
      exact v_agg hl
    | i + 2, hd => simp at hd
theorem appRow : Rows.FnExactAppendEntrySaid :=
  OpenClaim.holds_of_wide 3 Tryz.f3 rfl rfl rfl rfl rfl rfl rfl ⟨rfl, rfl, rfl, rfl, rfl⟩ rfl rfl rfl rfl rfl (by kernel_rfl) Tryz.func3 (by kernel_rfl)
    (of_decide_eq_true (by kernel_rfl)) (by unfold Func.isWrapper; first | (rw [if_pos (by decide +kernel)]; kernel_rfl) | (rw [if_neg (by decide +kernel)]; exact ⟨rfl, rfl⟩))
    (fun os started H enc _ => lifted3 os started H enc)
theorem fnExactAppendEntry.proved : Rows.FnExactAppendEntryCardSaid :=
  Claim7.holds_tied_plain_at .later [] [.data, .data, .data, .data, .sentinel, .sentinel, .pinned] true (true, "0f5da29d48cfd890efb9e0cafcb31fd95b5a34632cf037ef33be82bf584b020a") true
    appRow (fun _ h => by cases h) (by kernel_rfl) (fun _ h => by cases h) fnExactAppendEntry_row_tie rfl ⟨rfl, rfl⟩ (by kernel_rfl) rfl
    (fun f fn hf hfn => by
      obtain rfl : f = 3 := Option.some.inj ((show Tryz.prog.funcNamed "loop.example/g01923/laws.FnExactAppendEntry" = some 3 by kernel_rfl).symm.trans hf) |>.symm
      obtain rfl : fn = Tryz.f3 := (Option.some.inj (Tryz.func3.symm.trans hfn)).symm
      exact ⟨by kernel_rfl, fun j t ht => by
        rw [Tryz.params3] at ht
        rcases j with _ | _ | j
        · obtain rfl : t = 9 := by simpa using ht.symm
          exact (show Tryz.prog.wantsStandIn 9 = false by kernel_rfl)
        · obtain rfl : t = 24 := by simpa using ht.symm
          exact (show Tryz.prog.wantsStandIn 24 = false by kernel_rfl)
        · simp at ht⟩)
    (by kernel_rfl)
end Go.Proofs.YtfhfidecmdhkoaaGreatDoor
end
