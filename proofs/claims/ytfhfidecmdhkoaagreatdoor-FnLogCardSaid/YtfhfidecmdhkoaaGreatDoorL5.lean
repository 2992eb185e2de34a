/- General lemmas (data by value) and the walks on which the law's proof leans, part 5. No condition. -/
import Derived.Test.YtfhfidecmdhkoaaGreatDoorL4
import Derived.Shelf.Strings.Builder1
import Derived.Shelf.Strings.Builder2
import Derived.Shelf.Strings.OnBuilder
import Derived.Shelf.Small.Utf8
import Derived.Shelf.Small.Strs
import Derived.Shelf.Small.Wraps
import Derived.Shelf.Strings.BuilderF
import Derived.Shelf.Strings.BuilderK
import Derived.Shelf.Strings.Builder2Cap
import Derived.Shelf.Strconv.Atoi
import Derived.Shelf.Strconv.Itoa0
import Derived.Shelf.Strconv.Itoa1
import Derived.Shelf.LaysM
import Derived.Shelf.Strconv.Itoa2
import Derived.Shelf.Strconv.Itoa3
import Derived.Shelf.Strconv.AtoiErrFast
import Derived.Shelf.Strconv.ParseIntEmpty
import Derived.Shelf.Strconv.AtoiFail
import Derived.Shelf.Strconv.Clone
import Derived.Shelf.Strconv.SyntaxError
import Derived.Shelf.LaysC
import Derived.Shelf.Strconv.ToError
import Derived.Shelf.Strconv.Lower
import Derived.Shelf.Strconv.ParseUint10
import Derived.Shelf.Strconv.ParseUint10Empty
import Derived.Shelf.Strconv.ParseUint10Any
import Derived.Shelf.Strconv.ParseInt10
import Derived.Shelf.Strconv.AtoiLong
import Derived.Shelf.Strconv.AtoiInnerAll
import Derived.Shelf.Strconv.RangeError
import Derived.Shelf.Strconv.ToErrorRange
import Derived.Shelf.Strconv.AtoiAll
import Derived.Shelf.Strconv.ErrVarAll
import Derived.Shelf.Strings.Search1
import Derived.Shelf.Strings.Search2
import Derived.Shelf.Strings.Search3
import Derived.Shelf.Strings.Cut
import Derived.Shelf.Strings.Count
import Derived.Shelf.Strings.Shaped
import Derived.Shelf.Strings.LastIndex
import Derived.Shelf.Strings.Prefix
import Derived.Shelf.Strings.Split
import Derived.Shelf.Strings.SplitShaped
import Derived.Shelf.Strings.Runes
import Derived.Shelf.Strings.IndexAny
import Derived.Shelf.Strings.AsciiSet
import Derived.Shelf.Strings.IndexAnyAll
import Derived.Shelf.Unicode.DecodeSlow
import Derived.Shelf.Strings.BuilderCap
import Derived.Shelf.Path.Small
import Derived.Test.YtfhfidecmdhkoaaGreatDoorRows
import Derived.Lib.ItoaNum
import Derived.Lib.AtoiTie
import Derived.Lib.SplitLaws
import Derived.Lib.IndexBytes
import Derived.Lib.IndexMore
import Derived.Lib.LastIndexByte
import Derived.Lib.Join
import Derived.Lib.IndexAny
import Derived.Lib.Strings
import Derived.Lib.AtoiErrMem
import Derived.WalkSmall
import Derived.Sort.Grow
set_option linter.unusedVariables false
set_option linter.unusedSimpArgs false
set_option linter.unusedSectionVars false
section
set_option maxRecDepth 10000
namespace Go.Proofs.YtfhfidecmdhkoaaGreatDoor
open Go.Dv Go.Pl
theorem u8_src {s : Int} (h : 0 ≤ s ∧ s ≤ 3) : IntKind.u8.wrap (97 + s) = ((srcB s).toNat : Int) := by
 rw [src_no h]; simp [IntKind.wrap, IntKind.bits, IntKind.signed]; omega
theorem fmtI_len {n : Int} (h : -9000000000000000000 ≤ n ∧ n ≤ 9000000000000000000) : (fmtI n).length ≤ 20 := by
 have h4 := natDec_len n.natAbs 19 (by rw [show (10:Nat)^19 = 10000000000000000000 by rfl]; omega)
 unfold fmtI
 split
 ·simp
 ·rw [List.length_append]
  split
  ·simp; omega
  ·simp; omega
theorem fn_spec_FormatVerdict (v : Ver) : FnOk Tryz.prog 127 [dVer v] (fun res' => res' = .val (dS (verStr v))) := by
 refine fn_of good (rs := [.tmp 2]) Tryz.func127 rfl Tryz.ntmps127 (by decide) (by simp) rfl fun w0 ow0 => ?_
 refine okC_rg good ?_
 simp [go_sem]
 repeat (with_reducible refine And.intro ?_ ?_; first | omega | assumption | (simp only [inI]; omega))
 refine okC_seq ?_
 refine okC_rg good ?_
 simp [go_sem]
 repeat (with_reducible refine And.intro ?_ ?_; first | omega | assumption | (simp only [inI]; omega))
 first | refine callK_of (fn_spec_IsValidVerdict _) (by simp [go_sem]) ?_ | refine callK_fz (fn_spec_IsValidVerdict _) (by simp [go_sem]) (by simp [go_sem]) ?_
 simp [go_sem]
 repeat (with_reducible refine And.intro ?_ ?_; first | omega | assumption | (simp only [inI]; omega))
 refine okC_if ?_
 simp [go_sem]
 first | refine gC_dec (fun b => ?_) (fun b => ?_) | refine gC_ndec (fun b => ?_) (fun b => ?_) | refine gC_of (fun b => ?_) (fun b => ?_)
 ·try simp at b
  refine okC_rg good ?_
  simp [go_sem]
  repeat (with_reducible refine And.intro ?_ ?_; first | omega | assumption | (simp only [inI]; omega))
  refine okC_ret ?_
  simp [go_sem]
  simp [verStr, b]
 ·try simp at b
  refine okC_skip ?_
  refine okC_seq ?_
  have hv := validVer_iff.1 b
  have l1 := fmtI_len (n := v.a) (by omega)
  have l2 := fmtI_len (n := v.b) (by omega)
  have l3 := fmtI_len (n := v.time) (by omega)
  refine okC_rg good ?_
  simp [go_sem]
  repeat (with_reducible refine And.intro ?_ ?_; first | omega | assumption | (simp only [inI]; omega))
  refine okC_if ?_
  simp [go_sem]
  first | refine gC_dec (fun s => ?_) (fun s => ?_) | refine gC_ndec (fun s => ?_) (fun s => ?_) | refine gC_of (fun s => ?_) (fun s => ?_)
  ·try simp at s
   refine okC_dt good 13 rfl (by decide) (by kernel_rfl) ?_
   simp [go_sem]
   repeat (with_reducible refine And.intro ?_ ?_; first | omega | assumption | (simp only [inI]; omega))
   first | refine callD_of (fn_spec_FormatInt v.a (by omega)) (by simp [go_sem]) rfl ?_ | refine callD_fz (fn_spec_FormatInt v.a (by omega)) (by simp [go_sem]) (by simp [go_sem]) rfl ?_
   simp [go_sem]
   repeat (with_reducible refine And.intro ?_ ?_; first | omega | assumption | (simp only [inI]; omega))
   first | refine callD_of (fn_spec_FormatInt v.b (by omega)) (by simp [go_sem]) rfl ?_ | refine callD_fz (fn_spec_FormatInt v.b (by omega)) (by simp [go_sem]) (by simp [go_sem]) rfl ?_
   simp [go_sem]
   repeat (with_reducible refine And.intro ?_ ?_; first | omega | assumption | (simp only [inI]; omega))
   first | refine callD_of (fn_spec_FormatInt v.time (by omega)) (by simp [go_sem]) rfl ?_ | refine callD_fz (fn_spec_FormatInt v.time (by omega)) (by simp [go_sem]) (by simp [go_sem]) rfl ?_
   simp [go_sem]
   repeat (with_reducible refine And.intro ?_ ?_; first | omega | assumption | (simp only [inI]; omega))
   refine okC_ret ?_
   simp [go_sem]
   simp [verStr, b, verTxt, s, signB]
  ·try simp at s
   refine okC_skip ?_
   refine okC_dt good 13 rfl (by decide) (by kernel_rfl) ?_
   simp [go_sem]
   repeat (with_reducible refine And.intro ?_ ?_; first | omega | assumption | (simp only [inI]; omega))
   first | refine callD_of (fn_spec_FormatInt v.a (by omega)) (by simp [go_sem]) rfl ?_ | refine callD_fz (fn_spec_FormatInt v.a (by omega)) (by simp [go_sem]) (by simp [go_sem]) rfl ?_
   simp [go_sem]
   repeat (with_reducible refine And.intro ?_ ?_; first | omega | assumption | (simp only [inI]; omega))
   first | refine callD_of (fn_spec_FormatInt v.b (by omega)) (by simp [go_sem]) rfl ?_ | refine callD_fz (fn_spec_FormatInt v.b (by omega)) (by simp [go_sem]) (by simp [go_sem]) rfl ?_
   simp [go_sem]
   repeat (with_reducible refine And.intro ?_ ?_; first | omega | assumption | (simp only [inI]; omega))
   first | refine callD_of (fn_spec_FormatInt v.time (by omega)) (by simp [go_sem]) rfl ?_ | refine callD_fz (fn_spec_FormatInt v.time (by omega)) (by simp [go_sem]) (by simp [go_sem]) rfl ?_
   simp [go_sem]
   repeat (with_reducible refine And.intro ?_ ?_; first | omega | assumption | (simp only [inI]; omega))
   refine okC_ret ?_
   simp [go_sem]
   simp [verStr, b, verTxt, s, signB]
theorem fn_spec_RecordName (r : Rec) (hs : smallR r) : FnOk Tryz.prog 163 [nRec r] (fun res' => res' = .val (dS (if validRec r = true then nameStr r.source r.key else []))) := by
 refine fn_of good (rs := [.tmp 2]) Tryz.func163 rfl Tryz.ntmps163 (by decide) (by simp) rfl fun w0 ow0 => ?_
 refine okC_rg good ?_
 simp [go_sem]
 repeat (with_reducible refine And.intro ?_ ?_; first | omega | assumption | (simp only [inI]; omega))
 refine okC_seq ?_
 refine okC_rg good ?_
 simp [go_sem]
 repeat (with_reducible refine And.intro ?_ ?_; first | omega | assumption | (simp only [inI]; omega))
 first | refine callK_of (fn_spec_IsValidRecord _ (by first | assumption | omega | (simp; omega) | grind)) (by simp [go_sem]) ?_ | refine callK_fz (fn_spec_IsValidRecord _ (by first | assumption | omega | (simp; omega) | grind)) (by simp [go_sem]) (by simp [go_sem]) ?_
 simp [go_sem]
 repeat (with_reducible refine And.intro ?_ ?_; first | omega | assumption | (simp only [inI]; omega))
 refine okC_if ?_
 simp [go_sem]
 first | refine gC_dec (fun b => ?_) (fun b => ?_) | refine gC_ndec (fun b => ?_) (fun b => ?_) | refine gC_of (fun b => ?_) (fun b => ?_)
 ·try simp at b
  refine okC_rg good ?_
  simp [go_sem]
  repeat (with_reducible refine And.intro ?_ ?_; first | omega | assumption | (simp only [inI]; omega))
  refine okC_ret ?_
  simp [go_sem]
  simp [b]
 ·try simp at b
  refine okC_skip ?_
  have hv := validRec_iff.1 b
  have hu := u8_src hv.1
  have l2 := fmtI_len (n := r.key) (by omega)
  refine okC_df good [(4, [9, 10]), (10, [15, 2])] [(1, .own (.bx true (nRec r)))] [] rfl (by decide) (by kernel_rfl) (by simp [go_sem, hu]) ?_
  simp [go_sem, hu]
  repeat (with_reducible refine And.intro ?_ ?_; first | omega | assumption | (simp only [inI]; omega))
  first | refine callD_of (fn_spec_FormatInt r.key (by omega)) (by simp [go_sem]) rfl ?_ | refine callD_fz (fn_spec_FormatInt r.key (by omega)) (by simp [go_sem]) (by simp [go_sem]) rfl ?_
  simp [go_sem, hu]
  repeat (with_reducible refine And.intro ?_ ?_; first | omega | assumption | (simp only [inI]; omega))
  refine okC_ret ?_
  simp [go_sem, hu]
  simp [b, nameStr]
theorem flat_len (l : List Str) (h : ∀ f ∈ l, f.length ≤ 40) : (barF l).length ≤ 41 * l.length := by
 unfold barF
 induction l with
 | nil => simp
 | cons f l ih => have := h f (by simp); have := ih fun g hg => h g (List.mem_cons_of_mem _ hg); simp only [List.flatMap_cons, List.length_append, List.length_cons]; omega
theorem rec_fields {r : Rec} (h : validRec r = true) : r.fields.length = 4 ∧ ∀ f ∈ r.fields, f.length ≤ 40 := by
 have hv := validRec_iff.1 h
 exact ⟨hv.2.2.2.1, fun f hf => (field_no (hv.2.2.2.2 f hf)).2.2.2⟩
theorem gone_len {r : Rec} (h : (0 ≤ r.source ∧ r.source ≤ 3) ∧ (1 ≤ r.key ∧ r.key ≤ 99) ∧ (1 ≤ r.version ∧ r.version ≤ 999)) : (goneTxt r).length ≤ 42 := by
 have l2 := fmtI_len (n := r.key) (by omega)
 have l3 := fmtI_len (n := r.version) (by omega)
 simp only [goneTxt, nameStr, List.length_append, List.length_cons]; omega
theorem recTxt_len {r : Rec} (h : validRec r = true) : (recTxt r).length ≤ 206 := by
 have hv := validRec_iff.1 h
 have h1 := gone_len (r := r) ⟨hv.1, hv.2.1, hv.2.2.1⟩
 have h2 := rec_fields h
 have h3 := flat_len r.fields h2.2
 unfold recTxt; rw [List.length_append]; omega
theorem verTxt_len {v : Ver} (h : validVer v = true) : (verTxt v).length ≤ 62 := by
 have hv := validVer_iff.1 h
 have l1 := fmtI_len (n := v.a) (by omega)
 have l2 := fmtI_len (n := v.b) (by omega)
 have l3 := fmtI_len (n := v.time) (by omega)
 simp only [verTxt, List.length_append, List.length_cons]; omega
theorem opTxt_len {o : Opn} (h : validOp o = true) : (opTxt o).length ≤ 214 := by
 rcases op_cases h with ⟨r, hr, rfl, ht⟩ | ⟨r, hr, rfl, ht⟩ | ⟨v, hv, rfl, ht⟩ | ⟨v, hv, rfl, ht⟩ <;> rw [ht]
 ·have := recTxt_len hr; simp [wPut]; omega
 ·have hg := goneRec_iff.1 hr; have := gone_len (r := r) ⟨hg.1, hg.2.1, hg.2.2.1⟩; simp [wDel]; omega
 ·have := verTxt_len hv; simp [wVer]; omega
 ·have := verTxt_len hv; simp [wRet]; omega
theorem joinC_len (c : UInt8) (m : Nat) : ∀ (l : List Str), (∀ x ∈ l, x.length ≤ m) → (joinC c l).length ≤ (m + 1) * l.length
 | [], _ => by simp [joinC]
 | [x], h => by have := h x (by simp); simp [joinC]; omega
 | x :: y :: l, h => by
  have h1 := h x (by simp)
  have h2 := joinC_len c m (y :: l) fun z hz => h z (List.mem_cons_of_mem _ hz)
  rw [joinC_cons (by simp)]
  simp only [List.length_append, List.length_cons, Nat.mul_add, Nat.add_mul] at *
  omega
theorem batTxt_len {l : List Opn} (h : validBat l = true) : (batTxt l).length ≤ 1292 := by
 have hv := validBat_iff.1 h
 have := joinC_len 59 214 (l.map opTxt) fun x hx => by obtain ⟨o, ho, rfl⟩ := List.mem_map.1 hx; exact opTxt_len (hv.1 o ho)
 simp only [List.length_map] at this
 simp only [batTxt, List.length_cons, List.length_append, List.length_nil]; omega
theorem fn_spec_FormatRecord (r : Rec) (hs : smallR r) : FnOk Tryz.prog 126 [nRec r] (fun res' => res' = .val (dS (recStr r))) := by
 refine fn_of good (rs := [.tmp 2]) Tryz.func126 rfl Tryz.ntmps126 (by decide) (by simp) rfl fun w0 ow0 => ?_
 refine okC_rg good ?_
 simp [go_sem]
 repeat (with_reducible refine And.intro ?_ ?_; first | omega | assumption | (simp only [inI]; omega))
 refine okC_seq ?_
 refine okC_rg good ?_
 simp [go_sem]
 repeat (with_reducible refine And.intro ?_ ?_; first | omega | assumption | (simp only [inI]; omega))
 first | refine callK_of (fn_spec_IsValidRecord _ (by first | assumption | omega | (simp; omega) | grind)) (by simp [go_sem]) ?_ | refine callK_fz (fn_spec_IsValidRecord _ (by first | assumption | omega | (simp; omega) | grind)) (by simp [go_sem]) (by simp [go_sem]) ?_
 simp [go_sem]
 repeat (with_reducible refine And.intro ?_ ?_; first | omega | assumption | (simp only [inI]; omega))
 refine okC_if ?_
 simp [go_sem]
 first | refine gC_dec (fun b => ?_) (fun b => ?_) | refine gC_ndec (fun b => ?_) (fun b => ?_) | refine gC_of (fun b => ?_) (fun b => ?_)
 ·try simp at b
  refine okC_rg good ?_
  simp [go_sem]
  repeat (with_reducible refine And.intro ?_ ?_; first | omega | assumption | (simp only [inI]; omega))
  refine okC_ret ?_
  simp [go_sem]
  simp [recStr, b]
 ·try simp at b
  refine okC_skip ?_
  have hv := validRec_iff.1 b
  have hf := rec_fields b
  have hg := gone_len (r := r) ⟨hv.1, hv.2.1, hv.2.2.1⟩
  have l2 := fmtI_len (n := r.key) (by omega)
  have l3 := fmtI_len (n := r.version) (by omega)
  have hnl : (nameStr r.source r.key).length ≤ 21 := by simp [nameStr]; omega
  refine okC_dt good 7 rfl (by decide) (by kernel_rfl) ?_
  simp [go_sem, b]
  repeat (with_reducible refine And.intro ?_ ?_; first | omega | assumption | (simp only [inI]; omega))
  first | refine callD_of (fn_spec_RecordName r hs) (by simp [go_sem]) rfl ?_ | refine callD_fz (fn_spec_RecordName r hs) (by simp [go_sem]) (by simp [go_sem]) rfl ?_
  simp [go_sem, b]
  repeat (with_reducible refine And.intro ?_ ?_; first | omega | assumption | (simp only [inI]; omega))
  first | refine callD_of (fn_spec_FormatInt r.version (by omega)) (by simp [go_sem]) rfl ?_ | refine callD_fz (fn_spec_FormatInt r.version (by omega)) (by simp [go_sem]) (by simp [go_sem]) rfl ?_
  simp [go_sem, b]
  repeat (with_reducible refine And.intro ?_ ?_; first | omega | assumption | (simp only [inI]; omega))
  refine okC_seq ?_
  have hgt : goneTxt r = nameStr r.source r.key ++ 46 :: fmtI r.version := rfl
  have hb0 : barF [] = [] := rfl
  refine okC_rg good ?_
  simp [go_sem, hgt, hb0]
  repeat (with_reducible refine And.intro ?_ ?_; first | omega | assumption | (simp only [inI]; omega))
  refine okC_block ?_
  refine okC_rounds (fun (i : Nat) => [(1, .own (.bx true (nRec r))), (3, .val (dS (goneTxt r ++ barF (r.fields.take i)))), (4, .val (dI i))]) (fun (i : Nat) => (r.fields).length - i) (fun (i : Nat) => (i ≤ (r.fields).length)) (0) [] (by first | omega | rfl | (simp; done) | (simp; omega) | simp) (by simp [go_sem, hgt, hb0]) ?_
  rintro i h1 K1 hK1
  refine okC_seq ?_
  refine okC_rg good ?_
  simp [go_sem, hgt, hb0]
  repeat (with_reducible refine And.intro ?_ ?_; first | omega | assumption | (simp only [inI]; omega))
  refine okC_if ?_
  simp [go_sem, hgt, hb0]
  first | refine gC_dec (fun a => ?_) (fun a => ?_) | refine gC_ndec (fun a => ?_) (fun a => ?_) | refine gC_of (fun a => ?_) (fun a => ?_)
  ·try simp at a
   refine okC_skip ?_
   refine okC_seq ?_
   refine okC_block ?_
   obtain ⟨c, hc⟩ := at_of (l := r.fields) (i := i) (by omega)
   have h3 := flat_len (r.fields.take i) fun f hm => hf.2 f (List.mem_of_mem_take hm)
   have h4 := hf.2 c (List.mem_of_getElem? hc)
   have h5 : barF (r.fields.take (i + 1)) = barF (r.fields.take i) ++ 124 :: c := flatMap_snoc (fun f => (124 : UInt8) :: f) hc
   have h6 : (r.fields.take i).length ≤ 4 := by simp; omega
   refine okC_rg1 good ?_
   simp [go_sem, hgt, hb0, hc, h5]
   repeat (with_reducible refine And.intro ?_ ?_; first | omega | assumption | (simp only [inI]; omega))
   refine okC_rg1 good ?_
   simp [go_sem, hgt, hb0, hc, h5]
   repeat (with_reducible refine And.intro ?_ ?_; first | omega | assumption | (simp only [inI]; omega))
   refine normalE hK1 ⟨i + 1, [], (by first | omega | (simp; omega) | grind), (by show _ < _; first | omega | simp <;> omega), (by simp [go_sem, hgt, hb0, hc, h5])⟩
  ·try simp at a
   refine okC_exit (show K1 _ _ from exitE hK1 ?_)
   have hi : i = r.fields.length := by omega
   subst hi
   refine okC_rg good ?_
   simp [go_sem, hgt, hb0]
   repeat (with_reducible refine And.intro ?_ ?_; first | omega | assumption | (simp only [inI]; omega))
   refine okC_ret ?_
   simp [go_sem, hgt, hb0]
   simp [recStr, b, recTxt, hgt]
theorem fn_spec_FormatOp (o : Opn) (hs : smallO o) : FnOk Tryz.prog 83 [nOp o] (fun res' => res' = .val (dS (opStr o))) := by
 refine fn_of good (rs := [.tmp 2]) Tryz.func83 rfl Tryz.ntmps83 (by decide) (by simp) rfl fun w0 ow0 => ?_
 refine okC_rg good ?_
 simp [go_sem]
 repeat (with_reducible refine And.intro ?_ ?_; first | omega | assumption | (simp only [inI]; omega))
 refine okC_seq ?_
 refine okC_rg good ?_
 simp [go_sem]
 repeat (with_reducible refine And.intro ?_ ?_; first | omega | assumption | (simp only [inI]; omega))
 first | refine callK_of (fn_spec_IsValidOp _ (by first | assumption | omega | (simp; omega) | grind)) (by simp [go_sem]) ?_ | refine callK_fz (fn_spec_IsValidOp _ (by first | assumption | omega | (simp; omega) | grind)) (by simp [go_sem]) (by simp [go_sem]) ?_
 simp [go_sem]
 repeat (with_reducible refine And.intro ?_ ?_; first | omega | assumption | (simp only [inI]; omega))
 refine okC_if ?_
 simp [go_sem]
 first | refine gC_dec (fun b => ?_) (fun b => ?_) | refine gC_ndec (fun b => ?_) (fun b => ?_) | refine gC_of (fun b => ?_) (fun b => ?_)
 ·try simp at b
  refine okC_rg good ?_
  simp [go_sem]
  repeat (with_reducible refine And.intro ?_ ?_; first | omega | assumption | (simp only [inI]; omega))
  refine okC_ret ?_
  simp [go_sem]
  simp [opStr, b]
 ·try simp at b
  refine okC_skip ?_
  refine okC_seq ?_
  have ho := op_cases b
  have hs2 : smallR o.rc := hs
  refine okC_rg good ?_
  simp [go_sem]
  repeat (with_reducible refine And.intro ?_ ?_; first | omega | assumption | (simp only [inI]; omega))
  refine okC_block ?_
  refine okC_rg good ?_
  simp [go_sem]
  repeat (with_reducible refine And.intro ?_ ?_; first | omega | assumption | (simp only [inI]; omega))
  refine okC_if ?_
  simp [go_sem]
  first | refine gC_dec (fun k1 => ?_) (fun k1 => ?_) | refine gC_ndec (fun k1 => ?_) (fun k1 => ?_) | refine gC_of (fun k1 => ?_) (fun k1 => ?_)
  ·try simp at k1
   have ht : opStr o = wPut ++ 32 :: recStr o.rc := by rcases ho with ⟨r, hr, rfl, ht⟩ | ⟨r, hr, rfl, ht⟩ | ⟨v, hv, rfl, ht⟩ | ⟨v, hv, rfl, ht⟩ <;> simp_all [opStr, recStr]
   have hl : (recStr o.rc).length ≤ 206 := by unfold recStr; split; (exact recTxt_len (by assumption)); simp
   refine okC_rg good ?_
   simp [go_sem]
   repeat (with_reducible refine And.intro ?_ ?_; first | omega | assumption | (simp only [inI]; omega))
   first | refine callK_of (fn_spec_FormatRecord o.rc hs2) (by simp [go_sem]) ?_ | refine callK_fz (fn_spec_FormatRecord o.rc hs2) (by simp [go_sem]) (by simp [go_sem]) ?_
   simp [go_sem]
   repeat (with_reducible refine And.intro ?_ ?_; first | omega | assumption | (simp only [inI]; omega))
   refine okC_ret ?_
   simp [go_sem]
   simp [ht, wPut]
  ·try simp at k1
   refine okC_rg good ?_
   simp [go_sem]
   repeat (with_reducible refine And.intro ?_ ?_; first | omega | assumption | (simp only [inI]; omega))
   refine okC_if ?_
   simp [go_sem]
   first | refine gC_dec (fun k2 => ?_) (fun k2 => ?_) | refine gC_ndec (fun k2 => ?_) (fun k2 => ?_) | refine gC_of (fun k2 => ?_) (fun k2 => ?_)
   ·try simp at k2
    obtain ⟨hg, ht⟩ : goneRec o.rc = true ∧ opStr o = wDel ++ 32 :: goneTxt o.rc := by rcases ho with ⟨r, hr, rfl, ht⟩ | ⟨r, hr, rfl, ht⟩ | ⟨v, hv, rfl, ht⟩ | ⟨v, hv, rfl, ht⟩ <;> simp_all [opStr]
    have hg2 := goneRec_iff.1 hg
    have hu := u8_src hg2.1
    have l2 := fmtI_len (n := o.rc.key) (by omega)
    have l3 := fmtI_len (n := o.rc.version) (by omega)
    refine okC_df good [(5, [20, 21]), (19, [34, 2])] [(1, .own (.bx true (nOp o)))] [] rfl (by decide) (by kernel_rfl) (by simp [go_sem, hu]) ?_
    simp [go_sem, hu]
    repeat (with_reducible refine And.intro ?_ ?_; first | omega | assumption | (simp only [inI]; omega))
    first | refine callD_of (fn_spec_FormatInt o.rc.key (by omega)) (by simp [go_sem]) rfl ?_ | refine callD_fz (fn_spec_FormatInt o.rc.key (by omega)) (by simp [go_sem]) (by simp [go_sem]) rfl ?_
    simp [go_sem, hu]
    repeat (with_reducible refine And.intro ?_ ?_; first | omega | assumption | (simp only [inI]; omega))
    first | refine callD_of (fn_spec_FormatInt o.rc.version (by omega)) (by simp [go_sem]) rfl ?_ | refine callD_fz (fn_spec_FormatInt o.rc.version (by omega)) (by simp [go_sem]) (by simp [go_sem]) rfl ?_
    simp [go_sem, hu]
    repeat (with_reducible refine And.intro ?_ ?_; first | omega | assumption | (simp only [inI]; omega))
    refine okC_ret ?_
    simp [go_sem, hu]
    simp [ht, wDel, goneTxt, nameStr]
   ·try simp at k2
    refine okC_rg good ?_
    simp [go_sem]
    repeat (with_reducible refine And.intro ?_ ?_; first | omega | assumption | (simp only [inI]; omega))
    refine okC_if ?_
    simp [go_sem]
    first | refine gC_dec (fun k3 => ?_) (fun k3 => ?_) | refine gC_ndec (fun k3 => ?_) (fun k3 => ?_) | refine gC_of (fun k3 => ?_) (fun k3 => ?_)
    ·try simp at k3
     obtain ⟨hv, ht⟩ : validVer o.ver = true ∧ opStr o = wVer ++ 32 :: verStr o.ver := by rcases ho with ⟨r, hr, rfl, ht⟩ | ⟨r, hr, rfl, ht⟩ | ⟨v, hv, rfl, ht⟩ | ⟨v, hv, rfl, ht⟩ <;> simp_all [opStr, verStr]
     have hl : (verStr o.ver).length ≤ 62 := by unfold verStr; rw [if_pos hv]; exact verTxt_len hv
     refine okC_rg good ?_
     simp [go_sem]
     repeat (with_reducible refine And.intro ?_ ?_; first | omega | assumption | (simp only [inI]; omega))
     first | refine callK_of (fn_spec_FormatVerdict o.ver) (by simp [go_sem]) ?_ | refine callK_fz (fn_spec_FormatVerdict o.ver) (by simp [go_sem]) (by simp [go_sem]) ?_
     simp [go_sem]
     repeat (with_reducible refine And.intro ?_ ?_; first | omega | assumption | (simp only [inI]; omega))
     refine okC_ret ?_
     simp [go_sem]
     simp [ht, wVer]
    ·try simp at k3
     refine okC_skip ?_
     obtain ⟨hv, ht⟩ : validVer o.ver = true ∧ opStr o = wRet ++ 32 :: verStr o.ver := by rcases ho with ⟨r, hr, rfl, ht⟩ | ⟨r, hr, rfl, ht⟩ | ⟨v, hv, rfl, ht⟩ | ⟨v, hv, rfl, ht⟩ <;> simp_all [opStr, verStr]
     have hl : (verStr o.ver).length ≤ 62 := by unfold verStr; rw [if_pos hv]; exact verTxt_len hv
     refine okC_rg good ?_
     simp [go_sem]
     repeat (with_reducible refine And.intro ?_ ?_; first | omega | assumption | (simp only [inI]; omega))
     first | refine callK_of (fn_spec_FormatVerdict o.ver) (by simp [go_sem]) ?_ | refine callK_fz (fn_spec_FormatVerdict o.ver) (by simp [go_sem]) (by simp [go_sem]) ?_
     simp [go_sem]
     repeat (with_reducible refine And.intro ?_ ?_; first | omega | assumption | (simp only [inI]; omega))
     refine okC_ret ?_
     simp [go_sem]
     simp [ht, wRet]
end Go.Proofs.YtfhfidecmdhkoaaGreatDoor

end
section
namespace Go.Pl
open Go.Dv
theorem joinC_snoc (c : UInt8) (x : Str) : ∀ (l : List Str), joinC c (l ++ [x]) = if l = [] then x else joinC c l ++ c :: x
  | [] => rfl
  | [y] => by simp [joinC]
  | y :: z :: l => by
    have ih := joinC_snoc c x (z :: l)
    rw [if_neg (by simp)] at ih ⊢
    rw [List.cons_append, joinC_cons (by simp), ih, joinC_cons (l := z :: l) (by simp)]
    simp
def sumStep (n : Int) (c : UInt8) : Int := (n * 263 + c.toNat + 1).tmod 9901
def checksum (s : Str) : Int := s.foldl sumStep 7
theorem sumStep_le {n : Int} (c : UInt8) (h : 0 ≤ n ∧ n < 9901) : 0 ≤ sumStep n c ∧ sumStep n c < 9901 := by
  unfold sumStep
  have h1 : (0 : Int) ≤ n * 263 + c.toNat + 1 := by omega
  rw [Int.tmod_eq_emod_of_nonneg h1]
  omega
theorem checksum_le : ∀ (s : Str) (n : Int), 0 ≤ n ∧ n < 9901 → 0 ≤ s.foldl sumStep n ∧ s.foldl sumStep n < 9901
  | [], n, h => h
  | c :: s, n, h => checksum_le s _ (sumStep_le c h)
def headTxt (v : Int) (l : List Opn) : Str := fmtI v ++ batTxt l
def entTxt (v : Int) (l : List Opn) : Str := headTxt v l ++ (fmtI (checksum (headTxt v l)) ++ [10])
def entB (e : Int × List Opn) : Bool := inR e.1 1 999 && validBat e.2
def entStr (v : Int) (l : List Opn) : Str := if entB (v, l) = true then entTxt v l else []
noncomputable def readEnt : Str → Option (Int × List Opn) := inv? entB fun e => entTxt e.1 e.2
def fst91 (s : Str) : Nat := (s.takeWhile fun c => decide (c ≠ 91)).length
def lst93 (s : Str) : Int := (s.length : Int) - 1 - (s.reverse.takeWhile fun c => decide (c ≠ 93)).length
noncomputable def candEnt (s : Str) : Option (Int × List Opn) :=
  if (fst91 s : Int) < lst93 s then (readI (s.take (fst91 s))).bind fun v => (readBat ((s.drop (fst91 s)).take ((lst93 s).toNat + 1 - fst91 s))).bind fun b => some (v, b) else none
theorem fst91_at {a b : Str} (h : (91 : UInt8) ∉ a) : fst91 (a ++ 91 :: b) = a.length := by
  unfold fst91
  rw [List.takeWhile_append_of_pos]
  · simp
  · intro x hx; simp only [decide_eq_true_eq]; exact fun e => h (e ▸ hx)
theorem lst93_at {a b : Str} (h : (93 : UInt8) ∉ b) : lst93 (a ++ 93 :: b) = a.length := by
  unfold lst93
  have : (a ++ 93 :: b).reverse = b.reverse ++ 93 :: a.reverse := by simp
  rw [this, List.takeWhile_append_of_pos]
  · simp; omega
  · intro x hx; simp only [decide_eq_true_eq]; exact fun e => h (e ▸ List.mem_reverse.1 hx)
theorem candEnt_ok (e : Int × List Opn) (h : entB e = true) : candEnt (entTxt e.1 e.2) = some e := by
  obtain ⟨v, l⟩ := e
  simp only [entB, Bool.and_eq_true, decide_eq_true_eq] at h
  simp only
  have h1 : entTxt v l = fmtI v ++ 91 :: (joinC 59 (l.map opTxt) ++ 93 :: (fmtI (checksum (headTxt v l)) ++ [10])) := by simp [entTxt, headTxt, batTxt]
  have h2 : entTxt v l = (fmtI v ++ 91 :: joinC 59 (l.map opTxt)) ++ 93 :: (fmtI (checksum (headTxt v l)) ++ [10]) := by simp [entTxt, headTxt, batTxt]
  have hf : fst91 (entTxt v l) = (fmtI v).length := by rw [h1]; exact fst91_at dig_no.2.2.2.2.2.2.2.2.1
  have hz : lst93 (entTxt v l) = (fmtI v ++ 91 :: joinC 59 (l.map opTxt)).length := by
    rw [h2]
    refine lst93_at fun hm => ?_
    rcases List.mem_append.1 hm with hm | hm
    · exact dig_no.2.2.2.2.2.2.2.2.2 hm
    · exact absurd hm (by decide)
  unfold candEnt
  rw [hf, hz, if_pos (by simp; omega)]
  have ht : (entTxt v l).take (fmtI v).length = fmtI v := by rw [h1]; simp
  have hd : ((entTxt v l).drop (fmtI v).length).take (((fmtI v ++ 91 :: joinC 59 (l.map opTxt)).length : Int).toNat + 1 - (fmtI v).length) = batTxt l := by
    rw [h1]
    simp only [List.drop_left, Int.toNat_natCast, List.length_append, List.length_cons]
    rw [show (fmtI v).length + ((joinC 59 (l.map opTxt)).length + 1) + 1 - (fmtI v).length = (joinC 59 (l.map opTxt)).length + 1 + 1 by omega]
    simp only [batTxt, List.take_succ_cons, List.take_append]
    rw [List.take_of_length_le (by omega), show (joinC 59 (l.map opTxt)).length + 1 - (joinC 59 (l.map opTxt)).length = 1 by omega]
    rfl
  rw [ht, hd, readI_fmt (by omega), readBat_of h.2]
  rfl
theorem readEnt_of_cand (s : Str) : readEnt s = (candEnt s).bind fun e => if entB e = true ∧ entTxt e.1 e.2 = s then some e else none := inv_cand _ candEnt_ok s
theorem readEnt_ok {v : Int} {l : List Opn} (h : entB (v, l) = true) : readEnt (entTxt v l) = some (v, l) := by rw [readEnt_of_cand, candEnt_ok (v, l) h]; simp [h]
theorem readEnt_some {s : Str} {e : Int × List Opn} (h : readEnt s = some e) : entB e = true ∧ entTxt e.1 e.2 = s := inv_some h
theorem entStr_eq {v : Int} {l : List Opn} {s : Str} (h : s ≠ []) : (entB (v, l) = true ∧ entTxt v l = s) ↔ entStr v l = s := by
  unfold entStr
  split
  · simp [*]
  · constructor
    · rintro ⟨h1, _⟩; contradiction
    · intro e; exact absurd e.symm h
theorem entTxt_ne (v : Int) (l : List Opn) : entTxt v l ≠ [] := by simp [entTxt]
theorem batTxt_no {l : List Opn} (h : ∀ o ∈ l, validOp o = true) : (10 : UInt8) ∉ batTxt l := by
  intro hm
  unfold batTxt at hm
  rcases List.mem_cons.1 hm with hm | hm
  · exact absurd hm (by decide)
  · rcases List.mem_append.1 hm with hm | hm
    · rcases mem_joinC hm with hm | ⟨x, hx, hm⟩
      · exact absurd hm (by decide)
      · obtain ⟨o, ho, rfl⟩ := List.mem_map.1 hx
        exact opTxt_no (h o ho) (.inr rfl) hm
    · exact absurd hm (by decide)
theorem entTxt_line {v : Int} {l : List Opn} (h : entB (v, l) = true) : ∃ p, entTxt v l = p ++ [10] ∧ (10 : UInt8) ∉ p := by
  simp only [entB, Bool.and_eq_true] at h
  refine ⟨headTxt v l ++ fmtI (checksum (headTxt v l)), by simp [entTxt], fun hm => ?_⟩
  rcases List.mem_append.1 hm with hm | hm
  · rcases List.mem_append.1 hm with hm | hm
    · exact dig_no.2.2.2.2.2.2.1 hm
    · exact batTxt_no (validBat_iff.1 h.2).1 hm
  · exact dig_no.2.2.2.2.2.2.1 hm
def lineGo (p : Str) : Str → List Str
  | [] => if p = [] then [] else [p]
  | d :: s => if d = 10 then (p ++ [d]) :: lineGo [] s else lineGo (p ++ [d]) s
def lines (s : Str) : List Str := lineGo [] s
noncomputable def scanL (k : Nat) : List Str → List (List Opn) × Nat
  | [] => ([], 0)
  | x :: ls => match readEnt x with
    | some (v, b) => if v = (k : Int) + 1 then (b :: (scanL (k + 1) ls).1, x.length + (scanL (k + 1) ls).2) else ([], 0)
    | none => ([], 0)
noncomputable def scan (s : Str) : List (List Opn) × Nat := if s.length ≤ 6000 then scanL 0 (lines s) else ([], 0)
noncomputable def appLog (s : Str) (l : List Opn) : Str × Bool :=
  if (scan s).2 ≠ s.length ∨ entStr ((scan s).1.length + 1) l = [] ∨ s.length + (entStr ((scan s).1.length + 1) l).length > 6000 then (s, false) else (s ++ entStr ((scan s).1.length + 1) l, true)
theorem scanL_some {k : Nat} {x : Str} {ls : List Str} {v : Int} {b : List Opn} (h : readEnt x = some (v, b)) (hv : v = (k : Int) + 1) : scanL k (x :: ls) = (b :: (scanL (k + 1) ls).1, x.length + (scanL (k + 1) ls).2) := by
  simp only [scanL, h, hv, if_true]
theorem scanL_no {k : Nat} {x : Str} {ls : List Str} (h : ∀ v b, readEnt x = some (v, b) → v ≠ (k : Int) + 1) : scanL k (x :: ls) = ([], 0) := by
  simp only [scanL]
  cases hr : readEnt x with
  | none => rfl
  | some e => obtain ⟨v, b⟩ := e; simp only; rw [if_neg (h v b hr)]
theorem readEnt_open {p : Str} (h : (10 : UInt8) ∉ p) : readEnt p = none := by
  cases hr : readEnt p with
  | none => rfl
  | some e =>
    obtain ⟨h1, h2⟩ := readEnt_some hr
    obtain ⟨q, hq, _⟩ := entTxt_line (v := e.1) (l := e.2) h1
    rw [hq] at h2
    exact absurd (h2 ▸ by simp) h
theorem scanL_open {k : Nat} {p : Str} (h : (10 : UInt8) ∉ p) : scanL k (lineGo p []) = ([], 0) := by
  unfold lineGo
  split
  · rfl
  · exact scanL_no fun v b hr => by rw [readEnt_open h] at hr; cases hr
theorem scanL_len (k : Nat) (ls : List Str) : (scanL k ls).1.length ≤ ls.length := by
  induction ls generalizing k with
  | nil => simp [scanL]
  | cons x ls ih =>
    simp only [scanL]
    split
    · split
      · have := ih (k + 1); simp; omega
      · simp
    · simp
theorem scanL_used (k : Nat) (ls : List Str) : (scanL k ls).2 ≤ (ls.map List.length).sum := by
  induction ls generalizing k with
  | nil => simp [scanL]
  | cons x ls ih =>
    simp only [scanL]
    split
    · split
      · have := ih (k + 1); simp; omega
      · simp
    · simp
theorem lineGo_sum : ∀ (s p : Str), ((lineGo p s).map List.length).sum = p.length + s.length ∧ (lineGo p s).length ≤ p.length + s.length
  | [], p => by
    unfold lineGo
    split
    · simp [*]
    · rename_i h
      have := List.length_pos_iff.2 h
      simp; omega
  | d :: s, p => by
    unfold lineGo
    split
    · have ⟨h1, h2⟩ := lineGo_sum s []
      have h0 : ([] : Str).length = 0 := rfl
      simp only [List.map_cons, List.sum_cons, h1, List.length_append, List.length_cons, List.length_nil] at h2 ⊢
      omega
    · have ⟨h1, h2⟩ := lineGo_sum s (p ++ [d])
      rw [h1]
      simp only [List.length_append, List.length_cons, List.length_nil] at h2 ⊢
      omega
theorem scan_len (s : Str) : (scan s).1.length ≤ 6000 ∧ (scan s).2 ≤ s.length := by
  unfold scan
  split
  · have h1 := scanL_len 0 (lines s)
    have h2 := scanL_used 0 (lines s)
    have h3 := lineGo_sum s []
    unfold lines at *
    simp at h3
    omega
  · simp
theorem scanL_valid (k : Nat) (ls : List Str) : ∀ b ∈ (scanL k ls).1, validBat b = true := by
  induction ls generalizing k with
  | nil => simp [scanL]
  | cons x ls ih =>
    simp only [scanL]
    split
    · rename_i v b hr
      split
      · intro b' hb'
        rcases List.mem_cons.1 hb' with rfl | hb'
        · have := (readEnt_some hr).1; simp only [entB, Bool.and_eq_true] at this; exact this.2
        · exact ih _ _ hb'
      · simp
    · simp
theorem scan_valid (s : Str) : ∀ b ∈ (scan s).1, validBat b = true := by
  unfold scan
  split
  · exact scanL_valid _ _
  · simp
end Go.Pl
namespace Go.Pl
open Go.Dv
theorem takeWhile_stop {α : Type} {p : α → Bool} {c : α} (hc : p c = false) : ∀ (a b : List α), ((a ++ c :: b).takeWhile p).length ≤ a.length
  | [], b => by rw [List.nil_append, List.takeWhile_cons_of_neg (by simp [hc])]; simp
  | d :: a, b => by
    by_cases hd : p d = true
    · rw [List.cons_append, List.takeWhile_cons_of_pos hd]; have := takeWhile_stop hc a b; simp; omega
    · rw [List.cons_append, List.takeWhile_cons_of_neg hd]; simp
theorem takeWhile_next {α : Type} {p : α → Bool} : ∀ (l : List α) (c : α), l[(l.takeWhile p).length]? = some c → p c = false
  | [], c, h => by simp at h
  | d :: l, c, h => by
    by_cases hd : p d = true
    · rw [List.takeWhile_cons_of_pos hd] at h
      exact takeWhile_next l c (by simpa using h)
    · rw [List.takeWhile_cons_of_neg hd] at h
      obtain rfl : d = c := by simpa using h
      simpa using hd
theorem lst93_in (s : Str) : -1 ≤ lst93 s ∧ lst93 s ≤ (s.length : Int) - 1 := by
  unfold lst93
  have := (List.takeWhile_prefix (l := s.reverse) fun c => decide (c ≠ 93)).length_le
  simp only [List.length_reverse] at this
  omega
theorem lst93_ge {s : Str} {j : Nat} (h : s[j]? = some 93) : (j : Int) ≤ lst93 s := by
  have hj := getElem?_lt h
  have e : s = s.take j ++ 93 :: s.drop (j + 1) := by
    have : s.drop j = 93 :: s.drop (j + 1) := by
      rw [List.drop_eq_getElem_cons hj]; congr 1; simpa [List.getElem?_eq_getElem hj] using h
    rw [← this, List.take_append_drop]
  have h2 : s.reverse = (s.drop (j + 1)).reverse ++ 93 :: (s.take j).reverse := by
    conv => lhs; rw [e]
    simp
  have h3 := takeWhile_stop (p := fun c : UInt8 => decide (c ≠ 93)) (c := 93) (by decide) (s.drop (j + 1)).reverse (s.take j).reverse
  rw [← h2] at h3
  simp only [List.length_reverse, List.length_drop] at h3
  unfold lst93
  omega
theorem lst93_hit {s : Str} (h : 0 ≤ lst93 s) : s[(lst93 s).toNat]? = some 93 := by
  have hm := (List.takeWhile_prefix (l := s.reverse) fun c => decide (c ≠ 93)).length_le
  obtain ⟨m, hM⟩ : ∃ m, (s.reverse.takeWhile fun c => decide (c ≠ 93)).length = m := ⟨_, rfl⟩
  have hl : lst93 s = (s.length : Int) - 1 - m := by unfold lst93; rw [hM]
  rw [hM] at hm
  simp only [List.length_reverse] at hm
  rw [hl] at h ⊢
  have hlt : m < s.reverse.length := by simp; omega
  obtain ⟨c, hc⟩ := at_of (l := s.reverse) (i := m) hlt
  have hp := takeWhile_next (p := fun c : UInt8 => decide (c ≠ 93)) s.reverse c (by rw [hM]; exact hc)
  have hc93 : c = 93 := by simpa using hp
  rw [List.getElem?_reverse (by simpa using hlt)] at hc
  rw [show ((s.length : Int) - 1 - m).toNat = s.length - 1 - m by omega, hc, hc93]
theorem lst93_step {s : Str} {z : Int} {c : UInt8} (h : lst93 s ≤ z) (h0 : 0 ≤ z) (hc : s[z.toNat]? = some c) (hn : c ≠ 93) : lst93 s ≤ z - 1 := by
  rcases Int.lt_or_eq_of_le h with h1 | h1
  · omega
  · have := lst93_hit (s := s) (by omega)
    rw [h1, hc] at this
    exact absurd (Option.some.inj this) hn
theorem lst93_found {s : Str} {z : Int} (h : lst93 s ≤ z) (h0 : 0 ≤ z) (hc : s[z.toNat]? = some 93) : lst93 s = z := by
  have := lst93_ge hc
  omega
theorem fst91_le (s : Str) : fst91 s ≤ s.length := (List.takeWhile_prefix _).length_le
theorem fst91_found {s : Str} {i : Nat} (h : (s.take i).all (fun d => decide (d ≠ 91)) = true) (hc : s[i]? = some 91) : fst91 s = i := by
  have hi := getElem?_lt hc
  have e : s = s.take i ++ 91 :: s.drop (i + 1) := by
    have : s.drop i = 91 :: s.drop (i + 1) := by
      rw [List.drop_eq_getElem_cons hi]; congr 1; simpa [List.getElem?_eq_getElem hi] using hc
    rw [← this, List.take_append_drop]
  have hn : (91 : UInt8) ∉ s.take i := fun hm => by have := List.all_eq_true.1 h _ hm; simp at this
  have h2 := fst91_at (b := s.drop (i + 1)) hn
  rw [← e] at h2
  rw [h2, List.length_take]; omega
theorem fst91_none {s : Str} (h : s.all (fun d => decide (d ≠ 91)) = true) : fst91 s = s.length := by
  unfold fst91
  have := List.takeWhile_append_of_pos (l₂ := []) (List.all_eq_true.1 h)
  simp only [List.append_nil, List.takeWhile_nil] at this
  rw [this]
end Go.Pl

end
section
set_option maxRecDepth 10000
namespace Go.Proofs.YtfhfidecmdhkoaaGreatDoor
open Go.Dv Go.Pl
theorem ops_len {l : List Opn} (h : ∀ o ∈ l, validOp o = true) : ∀ x ∈ l.map opStr, x.length ≤ 214 := by
 intro x hx
 obtain ⟨o, ho, rfl⟩ := List.mem_map.1 hx
 rw [opStr, if_pos (h o ho)]
 exact opTxt_len (h o ho)
theorem ops_txt {l : List Opn} (h : ∀ o ∈ l, validOp o = true) : l.map opStr = l.map opTxt := List.map_congr_left fun o ho => by rw [opStr, if_pos (h o ho)]
def opJ (l : List Opn) : Str := joinC 59 (l.map opStr)
theorem opJ_len {l : List Opn} (h : ∀ o ∈ l, validOp o = true) : (opJ l).length ≤ 215 * l.length := by
 have := joinC_len 59 214 (l.map opStr) (ops_len h)
 simpa [opJ] using this
theorem opJ_snoc {l : List Opn} {i : Nat} {c : Opn} (h : l[i]? = some c) : opJ (l.take (i + 1)) = if i = 0 then opStr c else opJ (l.take i) ++ 59 :: opStr c := by
 have hi := getElem?_lt h
 unfold opJ
 rw [map_snoc opStr h, joinC_snoc]
 by_cases h0 : i = 0
 ·subst h0; simp
 ·rw [if_neg h0, if_neg]
  intro e
  have := congrArg List.length e
  rw [List.length_map, List.length_take, List.length_nil] at this
  omega
theorem fn_spec_FormatBatch (l : List Opn) (hs : smallB l) : FnOk Tryz.prog 49 [nBat l] (fun res' => res' = .val (dS (batStr l))) := by
 refine fn_of good (rs := [.tmp 2]) Tryz.func49 rfl Tryz.ntmps49 (by decide) (by simp) rfl fun w0 ow0 => ?_
 refine okC_rg good ?_
 simp [go_sem]
 repeat (with_reducible refine And.intro ?_ ?_; first | omega | assumption | (simp only [inI]; omega))
 refine okC_seq ?_
 refine okC_rg good ?_
 simp [go_sem]
 repeat (with_reducible refine And.intro ?_ ?_; first | omega | assumption | (simp only [inI]; omega))
 first | refine callK_of (fn_spec_IsValidBatch _ (by first | assumption | omega | (simp; omega) | grind)) (by simp [go_sem]) ?_ | refine callK_fz (fn_spec_IsValidBatch _ (by first | assumption | omega | (simp; omega) | grind)) (by simp [go_sem]) (by simp [go_sem]) ?_
 simp [go_sem]
 repeat (with_reducible refine And.intro ?_ ?_; first | omega | assumption | (simp only [inI]; omega))
 refine okC_if ?_
 simp [go_sem]
 first | refine gC_dec (fun b => ?_) (fun b => ?_) | refine gC_ndec (fun b => ?_) (fun b => ?_) | refine gC_of (fun b => ?_) (fun b => ?_)
 ·try simp at b
  refine okC_rg good ?_
  simp [go_sem]
  repeat (with_reducible refine And.intro ?_ ?_; first | omega | assumption | (simp only [inI]; omega))
  refine okC_ret ?_
  simp [go_sem]
  simp [batStr, b]
 ·try simp at b
  refine okC_skip ?_
  have hv := validBat_iff.1 b
  have hm := ops_txt hv.1
  have hj0 : opJ [] = [] := rfl
  refine okC_rg good ?_
  simp [go_sem, hj0]
  repeat (with_reducible refine And.intro ?_ ?_; first | omega | assumption | (simp only [inI]; omega))
  refine okC_seq ?_
  refine okC_rg good ?_
  simp [go_sem, hj0]
  repeat (with_reducible refine And.intro ?_ ?_; first | omega | assumption | (simp only [inI]; omega))
  refine okC_block ?_
  refine okC_rounds (fun (i : Nat) => [(1, .own (.bx true (nBat l))), (3, .val (dS (91 :: opJ (l.take i)))), (4, .val (dI i))]) (fun (i : Nat) => (l).length - i) (fun (i : Nat) => (i ≤ (l).length)) (0) [] (by first | omega | rfl | (simp; done) | (simp; omega) | simp) (by simp [go_sem, hj0]) ?_
  rintro i h1 K1 hK1
  refine okC_seq ?_
  refine okC_rg good ?_
  simp [go_sem, hj0]
  repeat (with_reducible refine And.intro ?_ ?_; first | omega | assumption | (simp only [inI]; omega))
  refine okC_if ?_
  simp [go_sem, hj0]
  first | refine gC_dec (fun a => ?_) (fun a => ?_) | refine gC_ndec (fun a => ?_) (fun a => ?_) | refine gC_of (fun a => ?_) (fun a => ?_)
  ·try simp at a
   refine okC_skip ?_
   refine okC_seq ?_
   refine okC_block ?_
   refine okC_seq ?_
   obtain ⟨c, hc⟩ := at_of (l := l) (i := i) (by omega)
   have hcm := List.mem_of_getElem? hc
   have hlc := ops_len hv.1 (opStr c) (List.mem_map_of_mem hcm)
   have hlj := opJ_len (l := l.take i) fun o ho => hv.1 o (List.mem_of_mem_take ho)
   have hl6 : (l.take i).length ≤ 6 := by simp; omega
   have hsn := opJ_snoc hc
   refine okC_rg good ?_
   simp [go_sem, hj0, hc]
   repeat (with_reducible refine And.intro ?_ ?_; first | omega | assumption | (simp only [inI]; omega))
   refine okC_if ?_
   simp [go_sem, hj0, hc]
   first | refine gC_dec (fun e => ?_) (fun e => ?_) | refine gC_ndec (fun e => ?_) (fun e => ?_) | refine gC_of (fun e => ?_) (fun e => ?_)
   ·try simp at e
    refine okC_rg1 good ?_
    simp [go_sem, hj0, hc]
    repeat (with_reducible refine And.intro ?_ ?_; first | omega | assumption | (simp only [inI]; omega))
    refine okC_rg1 good ?_
    simp [go_sem, hj0, hc]
    repeat (with_reducible refine And.intro ?_ ?_; first | omega | assumption | (simp only [inI]; omega))
    first | refine callK_of (fn_spec_FormatOp c (hs.2 c hcm)) (by simp [go_sem]) ?_ | refine callK_fz (fn_spec_FormatOp c (hs.2 c hcm)) (by simp [go_sem]) (by simp [go_sem]) ?_
    simp [go_sem, hj0, hc]
    repeat (with_reducible refine And.intro ?_ ?_; first | omega | assumption | (simp only [inI]; omega))
    rw [if_neg (by omega)] at hsn
    refine okC_rg1 good ?_
    simp [go_sem, hj0, hc, hsn]
    repeat (with_reducible refine And.intro ?_ ?_; first | omega | assumption | (simp only [inI]; omega))
    refine normalE hK1 ⟨i + 1, [], (by first | omega | (simp; omega) | grind), (by show _ < _; first | omega | simp <;> omega), (by simp [go_sem, hj0, hc, hsn])⟩
   ·try simp at e
    refine okC_skip ?_
    refine okC_rg1 good ?_
    simp [go_sem, hj0, hc]
    repeat (with_reducible refine And.intro ?_ ?_; first | omega | assumption | (simp only [inI]; omega))
    first | refine callK_of (fn_spec_FormatOp c (hs.2 c hcm)) (by simp [go_sem]) ?_ | refine callK_fz (fn_spec_FormatOp c (hs.2 c hcm)) (by simp [go_sem]) (by simp [go_sem]) ?_
    simp [go_sem, hj0, hc]
    repeat (with_reducible refine And.intro ?_ ?_; first | omega | assumption | (simp only [inI]; omega))
    rw [if_pos (by omega)] at hsn
    obtain rfl : i = 0 := by omega
    refine okC_rg1 good ?_
    simp [go_sem, hj0, hc, hsn]
    repeat (with_reducible refine And.intro ?_ ?_; first | omega | assumption | (simp only [inI]; omega))
    refine normalE hK1 ⟨1, [], (by first | omega | (simp; omega) | grind), (by show _ < _; first | omega | simp <;> omega), (by simp [go_sem, hj0, hc, hsn])⟩
  ·try simp at a
   refine okC_exit (show K1 _ _ from exitE hK1 ?_)
   have hi : i = l.length := by omega
   subst hi
   have hlj := opJ_len hv.1
   have htl : l.take l.length = l := List.take_length
   refine okC_rg good ?_
   simp [go_sem, hj0, htl]
   repeat (with_reducible refine And.intro ?_ ?_; first | omega | assumption | (simp only [inI]; omega))
   refine okC_ret ?_
   simp [go_sem, hj0, htl]
   simp [batStr, b, batTxt, opJ, hm]
theorem fn_spec_Checksum (s : Str) (hs : s.length ≤ 1048576) : FnOk Tryz.prog 25 [dS s] (fun res' => res' = .val (dI (checksum s))) := by
 refine fn_of good (rs := [.tmp 2]) Tryz.func25 rfl Tryz.ntmps25 (by decide) (by simp) rfl fun w0 ow0 => ?_
 refine okC_rg good ?_
 simp [go_sem]
 repeat (with_reducible refine And.intro ?_ ?_; first | omega | assumption | (simp only [inI]; omega))
 refine okC_rg good ?_
 simp [go_sem]
 repeat (with_reducible refine And.intro ?_ ?_; first | omega | assumption | (simp only [inI]; omega))
 refine okC_seq ?_
 refine okC_rg good ?_
 simp [go_sem]
 repeat (with_reducible refine And.intro ?_ ?_; first | omega | assumption | (simp only [inI]; omega))
 refine okC_block ?_
 refine okC_rounds (fun (i : Nat) => [(0, .val (dS s)), (3, .val (dI ((s.take i).foldl sumStep 7))), (4, .val (dI i))]) (fun (i : Nat) => (s).length - i) (fun (i : Nat) => (i ≤ (s).length) ∧ (0 ≤ (s.take i).foldl sumStep 7 ∧ (s.take i).foldl sumStep 7 < 9901)) (0) [] ⟨(by first | omega | rfl | (simp; done) | (simp; omega) | simp), (by first | omega | rfl | (simp; done) | (simp; omega) | simp)⟩ (by simp [go_sem]) ?_
 rintro i ⟨h1, h2⟩ K1 hK1
 refine okC_seq ?_
 refine okC_rg good ?_
 simp [go_sem]
 repeat (with_reducible refine And.intro ?_ ?_; first | omega | assumption | (simp only [inI]; omega))
 refine okC_if ?_
 simp [go_sem]
 first | refine gC_dec (fun a => ?_) (fun a => ?_) | refine gC_ndec (fun a => ?_) (fun a => ?_) | refine gC_of (fun a => ?_) (fun a => ?_)
 ·try simp at a
  refine okC_skip ?_
  refine okC_seq ?_
  refine okC_block ?_
  obtain ⟨c, hc⟩ := at_of (l := s) (i := i) (by omega)
  have hm := foldl_snoc sumStep 7 hc
  have hle := sumStep_le c h2
  have hq : (((s.take i).foldl sumStep 7) * 263 + c.toNat + 1).tmod 9901 = (s.take (i + 1)).foldl sumStep 7 := hm.symm
  rw [← hm] at hle
  have hcn := c.toNat_lt
  refine okC_rg1 good ?_
  simp [go_sem, hc, hq]
  repeat (with_reducible refine And.intro ?_ ?_; first | omega | assumption | (simp only [inI]; omega))
  refine okC_rg1 good ?_
  simp [go_sem, hc, hq]
  repeat (with_reducible refine And.intro ?_ ?_; first | omega | assumption | (simp only [inI]; omega))
  refine normalE hK1 ⟨i + 1, [], ⟨(by omega), (hle)⟩, (by show _ < _; first | omega | simp <;> omega), (by simp [go_sem, hc, hq])⟩
 ·try simp at a
  refine okC_exit (show K1 _ _ from exitE hK1 ?_)
  have hi : i = s.length := by omega
  subst hi
  refine okC_rg good ?_
  simp [go_sem]
  repeat (with_reducible refine And.intro ?_ ?_; first | omega | assumption | (simp only [inI]; omega))
  refine okC_ret ?_
  simp [go_sem]
  simp [checksum]
theorem head_len {v : Int} {l : List Opn} (h1 : 1 ≤ v ∧ v ≤ 999) (h2 : validBat l = true) : (headTxt v l).length ≤ 1312 := by
 have := batTxt_len h2
 have := fmtI_len (n := v) (by omega)
 simp only [headTxt, List.length_append]; omega
theorem entStr_len (v : Int) (l : List Opn) : (entStr v l).length ≤ 1333 := by
 unfold entStr
 split
 ·rename_i h
  simp only [entB, Bool.and_eq_true, decide_eq_true_eq] at h
  have := head_len (v := v) (l := l) h.1 h.2
  have hc := checksum_le (headTxt v l) 7 (by omega)
  have := fmtI_len (n := checksum (headTxt v l)) (by unfold checksum; omega)
  simp only [entTxt, List.length_append, List.length_cons, List.length_nil]; omega
 ·simp
theorem fn_spec_EncodeEntry (v : Int) (l : List Opn) (hs : smallB l) : FnOk Tryz.prog 20 [dI v, nBat l] (fun res' => res' = .val (dS (entStr v l))) := by
 refine fn_of good (rs := [.tmp 4]) Tryz.func20 rfl Tryz.ntmps20 (by decide) (by simp) rfl fun w0 ow0 => ?_
 refine okC_rg good ?_
 simp [go_sem]
 repeat (with_reducible refine And.intro ?_ ?_; first | omega | assumption | (simp only [inI]; omega))
 refine okC_seq ?_
 refine okC_rg good ?_
 simp [go_sem]
 repeat (with_reducible refine And.intro ?_ ?_; first | omega | assumption | (simp only [inI]; omega))
 first | refine callK_of (fn_spec_l1In _ _ _) (by simp [go_sem]) ?_ | refine callK_fz (fn_spec_l1In _ _ _) (by simp [go_sem]) (by simp [go_sem]) ?_
 simp [go_sem]
 repeat (with_reducible refine And.intro ?_ ?_; first | omega | assumption | (simp only [inI]; omega))
 first | refine gI_dec (fun e => ?_) (fun e => ?_) | refine gI_ndec (fun e => ?_) (fun e => ?_) | refine gI_of (fun e => ?_) (fun e => ?_)
 ·have e' := e; try simp at e'
  simp [go_sem, e]
  repeat (with_reducible refine And.intro ?_ ?_; first | omega | assumption | (simp only [inI]; omega))
  refine okC_if ?_
  simp [go_sem, e]
  refine okC_rg good ?_
  simp [go_sem, e]
  repeat (with_reducible refine And.intro ?_ ?_; first | omega | assumption | (simp only [inI]; omega))
  refine okC_ret ?_
  simp [go_sem, e]
  rw [entStr, if_neg]; simp [entB]; omega
 ·have e' := e; try simp at e'
  simp [go_sem, e]
  repeat (with_reducible refine And.intro ?_ ?_; first | omega | assumption | (simp only [inI]; omega))
  first | refine callK_of (fn_spec_IsValidBatch _ (by first | assumption | omega | (simp; omega) | grind)) (by simp [go_sem]) ?_ | refine callK_fz (fn_spec_IsValidBatch _ (by first | assumption | omega | (simp; omega) | grind)) (by simp [go_sem]) (by simp [go_sem]) ?_
  simp [go_sem, e]
  repeat (with_reducible refine And.intro ?_ ?_; first | omega | assumption | (simp only [inI]; omega))
  refine okC_if ?_
  simp [go_sem, e]
  first | refine gC_dec (fun b => ?_) (fun b => ?_) | refine gC_ndec (fun b => ?_) (fun b => ?_) | refine gC_of (fun b => ?_) (fun b => ?_)
  ·try simp at b
   refine okC_rg good ?_
   simp [go_sem, e]
   repeat (with_reducible refine And.intro ?_ ?_; first | omega | assumption | (simp only [inI]; omega))
   refine okC_ret ?_
   simp [go_sem, e]
   simp [entStr, entB, b]
  ·try simp at b
   refine okC_skip ?_
   have hh := head_len (v := v) (l := l) e' b
   have hb := batTxt_len b
   have hbs : batStr l = batTxt l := by simp [batStr, b]
   have hc := checksum_le (headTxt v l) 7 (by omega)
   have hl1 := fmtI_len (n := v) (by omega)
   have hl2 := fmtI_len (n := checksum (headTxt v l)) (by unfold checksum; omega)
   have hht : headTxt v l = fmtI v ++ batTxt l := rfl
   refine okC_dt good 5 rfl (by decide) (by kernel_rfl) ?_
   simp [go_sem, e, hbs]
   repeat (with_reducible refine And.intro ?_ ?_; first | omega | assumption | (simp only [inI]; omega))
   first | refine callD_of (fn_spec_FormatInt v (by omega)) (by simp [go_sem]) rfl ?_ | refine callD_fz (fn_spec_FormatInt v (by omega)) (by simp [go_sem]) (by simp [go_sem]) rfl ?_
   simp [go_sem, e, hbs]
   repeat (with_reducible refine And.intro ?_ ?_; first | omega | assumption | (simp only [inI]; omega))
   first | refine callD_of (fn_spec_FormatBatch l hs) (by simp [go_sem]) rfl ?_ | refine callD_fz (fn_spec_FormatBatch l hs) (by simp [go_sem]) (by simp [go_sem]) rfl ?_
   simp [go_sem, e, hbs]
   repeat (with_reducible refine And.intro ?_ ?_; first | omega | assumption | (simp only [inI]; omega))
   refine okC_rg good ?_
   simp [go_sem, e, hbs, hht.symm]
   repeat (with_reducible refine And.intro ?_ ?_; first | omega | assumption | (simp only [inI]; omega))
   first | refine callK_of (fn_spec_Checksum (headTxt v l) (by omega)) (by simp [go_sem]) ?_ | refine callK_fz (fn_spec_Checksum (headTxt v l) (by omega)) (by simp [go_sem]) (by simp [go_sem]) ?_
   simp [go_sem, e, hbs, hht.symm]
   repeat (with_reducible refine And.intro ?_ ?_; first | omega | assumption | (simp only [inI]; omega))
   first | refine callK_of (fn_spec_FormatInt (checksum (headTxt v l)) (by unfold checksum; omega)) (by simp [go_sem]) ?_ | refine callK_fz (fn_spec_FormatInt (checksum (headTxt v l)) (by unfold checksum; omega)) (by simp [go_sem]) (by simp [go_sem]) ?_
   simp [go_sem, e, hbs, hht.symm]
   repeat (with_reducible refine And.intro ?_ ?_; first | omega | assumption | (simp only [inI]; omega))
   refine okC_ret ?_
   simp [go_sem, e, hbs, hht.symm]
   simp [entStr, entB, e', b, entTxt]
end Go.Proofs.YtfhfidecmdhkoaaGreatDoor

end
section
set_option maxRecDepth 10000
namespace Go.Proofs.YtfhfidecmdhkoaaGreatDoor
open Go.Dv Go.Pl
theorem inv_test {α : Type} {P : α → Bool} {f str : α → Str} (hstr : ∀ a, str a = if P a = true then f a else []) {cand : Str → Option α} (hc : ∀ a, P a = true → cand (f a) = some a) {s : Str} {a : α} (h : cand s = some a) (hs : s ≠ []) : inv? P f s = if str a = s then some a else none := by
 rw [inv_cand cand hc s, h, Option.bind_some, hstr a]
 by_cases hp : P a = true
 ·simp [hp]
 ·rw [if_neg (fun e => hp e.1), if_neg hp, if_neg (Ne.symm hs)]
theorem inv_none {α : Type} {P : α → Bool} {f : α → Str} {cand : Str → Option α} (hc : ∀ a, P a = true → cand (f a) = some a) {s : Str} (h : cand s = none) : inv? P f s = none := by rw [inv_cand cand hc s, h]; rfl
theorem two_of {α : Type} {l : List α} (h : l.length = 2) : ∃ a b, l = [a, b] := by
 match l, h with
 | [a, b], _ => exact ⟨a, b, rfl⟩
theorem getI_in (s : Str) : -999999999 ≤ getI s ∧ getI s ≤ 999999999 := by
 rw [getI_eq]; split
 ·exact parseB_in (by assumption)
 ·omega
theorem candVerS_none {s : Str} (h : (cutS 64 s).length ≠ 2) : candVerS s = none := by
 unfold candVerS
 split
 ·rename_i a b e; rw [e] at h; exact absurd rfl h
 ·rfl
theorem candVerS_none2 {s h t : Str} (e : cutS 64 s = [h, t]) (h1 : (cutS 61 h).length ≠ 2) (h2 : (cutS 33 h).length ≠ 2) : candVerS s = none := by
 unfold candVerS
 rw [e]
 simp only
 split
 ·rename_i a b e; rw [e] at h1; exact absurd rfl h1
 ·split
  ·rename_i a b e; rw [e] at h2; exact absurd rfl h2
  ·rfl
theorem candVerS_one {s h t a b : Str} (e : cutS 64 s = [h, t]) (h1 : cutS 61 h = [a, b]) : candVerS s = some ⟨getI a, getI b, true, getI t⟩ := by
 unfold candVerS
 rw [e]
 simp only [h1]
theorem candVerS_two {s h t a b : Str} (e : cutS 64 s = [h, t]) (h1 : (cutS 61 h).length ≠ 2) (h2 : cutS 33 h = [a, b]) : candVerS s = some ⟨getI a, getI b, false, getI t⟩ := by
 unfold candVerS
 rw [e]
 simp only
 split
 ·rename_i a b e; rw [e] at h1; exact absurd rfl h1
 ·simp only [h2]
theorem fn_spec_ParseVerdict (s : Str) (hs : s.length ≤ 1048576) : FnOk Tryz.prog 137 [dS s] (fun res' => res' = .tup [.val (dVer (verOr s)), .val (dB (readVer s).isSome)]) := by
 refine fn_of good (rs := [.cell 2 79, .tmp 3]) Tryz.func137 rfl Tryz.ntmps137 (by decide) (by simp) rfl fun w0 ow0 => ?_
 have hcl := cutS_len 64 s
 refine okC_rg good ?_
 simp [go_sem]
 repeat (with_reducible refine And.intro ?_ ?_; first | omega | assumption | (simp only [inI]; omega))
 refine okC_rg good ?_
 simp [go_sem]
 repeat (with_reducible refine And.intro ?_ ?_; first | omega | assumption | (simp only [inI]; omega))
 first | refine callK_of (fn_spec_l2Cut s 64 hs) (by simp [go_sem]) ?_ | refine callK_fz (fn_spec_l2Cut s 64 hs) (by simp [go_sem]) (by simp [go_sem]) ?_
 simp [go_sem]
 repeat (with_reducible refine And.intro ?_ ?_; first | omega | assumption | (simp only [inI]; omega))
 refine okC_rg good ?_
 simp [go_sem]
 repeat (with_reducible refine And.intro ?_ ?_; first | omega | assumption | (simp only [inI]; omega))
 refine okC_seq ?_
 refine okC_rg good ?_
 simp [go_sem]
 repeat (with_reducible refine And.intro ?_ ?_; first | omega | assumption | (simp only [inI]; omega))
 refine okC_if ?_
 simp [go_sem]
 first | refine gC_dec (fun b => ?_) (fun b => ?_) | refine gC_ndec (fun b => ?_) (fun b => ?_) | refine gC_of (fun b => ?_) (fun b => ?_)
 ·try simp at b
  have hrd : readVer s = none := inv_none candVerS_ok (candVerS_none (by omega))
  refine okC_rg good ?_
  simp [go_sem]
  repeat (with_reducible refine And.intro ?_ ?_; first | omega | assumption | (simp only [inI]; omega))
  refine okC_ret ?_
  simp [go_sem]
  simp [verOr, hrd, ver0]
 ·try simp at b
  refine okC_skip ?_
  obtain ⟨h, t, hht⟩ := two_of (l := cutS 64 s) (by omega)
  have hsn : s ≠ [] := fun e => by rw [e] at hht; exact absurd (show [[]] = [h, t] from hht) (by simp)
  have hhl := hcl.2 h (by rw [hht]; simp)
  have htl := hcl.2 t (by rw [hht]; simp)
  have hgt := getI_in t
  clear hcl
  refine okC_rg good ?_
  simp [go_sem, hht]
  repeat (with_reducible refine And.intro ?_ ?_; first | omega | assumption | (simp only [inI]; omega))
  first | refine callK_of (fn_spec_ParseInt t (by omega)) (by simp [go_sem]) ?_ | refine callK_fz (fn_spec_ParseInt t (by omega)) (by simp [go_sem]) (by simp [go_sem]) ?_
  simp [go_sem, hht]
  repeat (with_reducible refine And.intro ?_ ?_; first | omega | assumption | (simp only [inI]; omega))
  refine okC_rg good ?_
  simp [go_sem, hht]
  repeat (with_reducible refine And.intro ?_ ?_; first | omega | assumption | (simp only [inI]; omega))
  first | refine callK_of (fn_spec_l2Cut h 61 (by omega)) (by simp [go_sem]) ?_ | refine callK_fz (fn_spec_l2Cut h 61 (by omega)) (by simp [go_sem]) (by simp [go_sem]) ?_
  simp [go_sem, hht]
  repeat (with_reducible refine And.intro ?_ ?_; first | omega | assumption | (simp only [inI]; omega))
  have hcl := cutS_len 61 h
  have hcl2 := cutS_len 33 h
  refine okC_rg good ?_
  simp [go_sem, hht]
  repeat (with_reducible refine And.intro ?_ ?_; first | omega | assumption | (simp only [inI]; omega))
  refine okC_seq ?_
  refine okC_rg good ?_
  simp [go_sem, hht]
  repeat (with_reducible refine And.intro ?_ ?_; first | omega | assumption | (simp only [inI]; omega))
  refine okC_if ?_
  simp [go_sem, hht]
  first | refine gC_dec (fun c => ?_) (fun c => ?_) | refine gC_ndec (fun c => ?_) (fun c => ?_) | refine gC_of (fun c => ?_) (fun c => ?_)
  ·try simp at c
   refine okC_rg1 good ?_
   simp [go_sem, hht]
   repeat (with_reducible refine And.intro ?_ ?_; first | omega | assumption | (simp only [inI]; omega))
   first | refine callK_of (fn_spec_l2Cut h 33 (by omega)) (by simp [go_sem]) ?_ | refine callK_fz (fn_spec_l2Cut h 33 (by omega)) (by simp [go_sem]) (by simp [go_sem]) ?_
   simp [go_sem, hht]
   repeat (with_reducible refine And.intro ?_ ?_; first | omega | assumption | (simp only [inI]; omega))
   refine okC_seq ?_
   refine okC_rg good ?_
   simp [go_sem, hht]
   repeat (with_reducible refine And.intro ?_ ?_; first | omega | assumption | (simp only [inI]; omega))
   refine okC_if ?_
   simp [go_sem, hht]
   first | refine gC_dec (fun d => ?_) (fun d => ?_) | refine gC_ndec (fun d => ?_) (fun d => ?_) | refine gC_of (fun d => ?_) (fun d => ?_)
   ·try simp at d
    have hrd : readVer s = none := inv_none candVerS_ok (candVerS_none2 hht (by omega) (by omega))
    refine okC_rg good ?_
    simp [go_sem, hht]
    repeat (with_reducible refine And.intro ?_ ?_; first | omega | assumption | (simp only [inI]; omega))
    refine okC_ret ?_
    simp [go_sem, hht]
    simp [verOr, hrd, ver0]
   ·try simp at d
    refine okC_skip ?_
    obtain ⟨a, b', hab⟩ := two_of (l := cutS 33 h) (by omega)
    have hal := hcl2.2 a (by rw [hab]; simp)
    have hbl := hcl2.2 b' (by rw [hab]; simp)
    have hrd : readVer s = _ := inv_test (str := verStr) (fun _ => rfl) candVerS_ok (candVerS_two hht (by omega) hab) hsn
    refine okC_rg good ?_
    simp [go_sem, hht, hab, c]
    repeat (with_reducible refine And.intro ?_ ?_; first | omega | assumption | (simp only [inI]; omega))
    first | refine callK_of (fn_spec_ParseInt a (by omega)) (by simp [go_sem]) ?_ | refine callK_fz (fn_spec_ParseInt a (by omega)) (by simp [go_sem]) (by simp [go_sem]) ?_
    simp [go_sem, hht, hab, c]
    repeat (with_reducible refine And.intro ?_ ?_; first | omega | assumption | (simp only [inI]; omega))
    refine okC_rg good ?_
    simp [go_sem, hht, hab, c]
    repeat (with_reducible refine And.intro ?_ ?_; first | omega | assumption | (simp only [inI]; omega))
    first | refine callK_of (fn_spec_ParseInt b' (by omega)) (by simp [go_sem]) ?_ | refine callK_fz (fn_spec_ParseInt b' (by omega)) (by simp [go_sem]) (by simp [go_sem]) ?_
    simp [go_sem, hht, hab, c]
    repeat (with_reducible refine And.intro ?_ ?_; first | omega | assumption | (simp only [inI]; omega))
    refine okC_seq ?_
    refine okC_rg good ?_
    simp [go_sem, hht, hab, c]
    repeat (with_reducible refine And.intro ?_ ?_; first | omega | assumption | (simp only [inI]; omega))
    first | refine callK_of (fn_spec_FormatVerdict ⟨getI a, getI b', false, getI t⟩) (by simp [go_sem]) ?_ | refine callK_fz (fn_spec_FormatVerdict ⟨getI a, getI b', false, getI t⟩) (by simp [go_sem]) (by simp [go_sem]) ?_
    simp [go_sem, hht, hab, c]
    repeat (with_reducible refine And.intro ?_ ?_; first | omega | assumption | (simp only [inI]; omega))
    refine okC_if ?_
    simp [go_sem, hht, hab, c]
    first | refine gC_dec (fun f => ?_) (fun f => ?_) | refine gC_ndec (fun f => ?_) (fun f => ?_) | refine gC_of (fun f => ?_) (fun f => ?_)
    ·try simp at f
     refine okC_rg good ?_
     simp [go_sem, hht, hab, c]
     repeat (with_reducible refine And.intro ?_ ?_; first | omega | assumption | (simp only [inI]; omega))
     refine okC_ret ?_
     simp [go_sem, hht, hab, c]
     simp [verOr, hrd, f, ver0]
    ·try simp at f
     refine okC_skip ?_
     refine okC_rg good ?_
     simp [go_sem, hht, hab, c]
     repeat (with_reducible refine And.intro ?_ ?_; first | omega | assumption | (simp only [inI]; omega))
     refine okC_ret ?_
     simp [go_sem, hht, hab, c]
     simp [verOr, hrd, f]
  ·try simp at c
   refine okC_skip ?_
   refine okC_seq ?_
   obtain ⟨a, b', hab⟩ := two_of (l := cutS 61 h) (by omega)
   have hal := hcl.2 a (by rw [hab]; simp)
   have hbl := hcl.2 b' (by rw [hab]; simp)
   have hrd : readVer s = _ := inv_test (str := verStr) (fun _ => rfl) candVerS_ok (candVerS_one hht hab) hsn
   refine okC_rg good ?_
   simp [go_sem, hht, hab]
   repeat (with_reducible refine And.intro ?_ ?_; first | omega | assumption | (simp only [inI]; omega))
   refine okC_if ?_
   simp [go_sem, hht, hab]
   refine okC_skip ?_
   refine okC_rg good ?_
   simp [go_sem, hht, hab]
   repeat (with_reducible refine And.intro ?_ ?_; first | omega | assumption | (simp only [inI]; omega))
   first | refine callK_of (fn_spec_ParseInt a (by omega)) (by simp [go_sem]) ?_ | refine callK_fz (fn_spec_ParseInt a (by omega)) (by simp [go_sem]) (by simp [go_sem]) ?_
   simp [go_sem, hht, hab]
   repeat (with_reducible refine And.intro ?_ ?_; first | omega | assumption | (simp only [inI]; omega))
   refine okC_rg good ?_
   simp [go_sem, hht, hab]
   repeat (with_reducible refine And.intro ?_ ?_; first | omega | assumption | (simp only [inI]; omega))
   first | refine callK_of (fn_spec_ParseInt b' (by omega)) (by simp [go_sem]) ?_ | refine callK_fz (fn_spec_ParseInt b' (by omega)) (by simp [go_sem]) (by simp [go_sem]) ?_
   simp [go_sem, hht, hab]
   repeat (with_reducible refine And.intro ?_ ?_; first | omega | assumption | (simp only [inI]; omega))
   refine okC_seq ?_
   refine okC_rg good ?_
   simp [go_sem, hht, hab]
   repeat (with_reducible refine And.intro ?_ ?_; first | omega | assumption | (simp only [inI]; omega))
   first | refine callK_of (fn_spec_FormatVerdict ⟨getI a, getI b', true, getI t⟩) (by simp [go_sem]) ?_ | refine callK_fz (fn_spec_FormatVerdict ⟨getI a, getI b', true, getI t⟩) (by simp [go_sem]) (by simp [go_sem]) ?_
   simp [go_sem, hht, hab]
   repeat (with_reducible refine And.intro ?_ ?_; first | omega | assumption | (simp only [inI]; omega))
   refine okC_if ?_
   simp [go_sem, hht, hab]
   first | refine gC_dec (fun f => ?_) (fun f => ?_) | refine gC_ndec (fun f => ?_) (fun f => ?_) | refine gC_of (fun f => ?_) (fun f => ?_)
   ·try simp at f
    refine okC_rg good ?_
    simp [go_sem, hht, hab]
    repeat (with_reducible refine And.intro ?_ ?_; first | omega | assumption | (simp only [inI]; omega))
    refine okC_ret ?_
    simp [go_sem, hht, hab]
    simp [verOr, hrd, f, ver0]
   ·try simp at f
    refine okC_skip ?_
    refine okC_rg good ?_
    simp [go_sem, hht, hab]
    repeat (with_reducible refine And.intro ?_ ?_; first | omega | assumption | (simp only [inI]; omega))
    refine okC_ret ?_
    simp [go_sem, hht, hab]
    simp [verOr, hrd, f]
end Go.Proofs.YtfhfidecmdhkoaaGreatDoor

end
section
set_option maxRecDepth 10000
namespace Go.Proofs.YtfhfidecmdhkoaaGreatDoor
open Go.Dv Go.Pl
theorem cutS_cons (c : UInt8) (s : Str) : ∃ a l, cutS c s = a :: l := by
 cases h : cutS c s with
 | nil => exact absurd h (join_cut c s []).2
 | cons a l => exact ⟨a, l, rfl⟩
theorem cut_ne {c d : UInt8} {s l0 a b : Str} {ls : List Str} (h : cutS c s = l0 :: ls) (h2 : cutS d l0 = [a, b]) : s ≠ [] := by
 intro e
 subst e
 have h3 : ([[]] : List Str) = l0 :: ls := h
 injection h3 with h3 h4
 subst h3
 have h5 : ([[]] : List Str) = [a, b] := h2
 simp at h5
@[go_sem] theorem ba_head (c : UInt8) (l : Str) (h : 0 < (⟨(c :: l).toArray⟩ : ByteArray).size) : (⟨(c :: l).toArray⟩ : ByteArray)[0]'h = c := rfl
@[go_sem] theorem take_map_self {α β : Type} (f : α → β) (l : List α) : (l.map f).take l.length = l.map f := List.take_of_length_le (by simp)
theorem candRecS_none {s l0 : Str} {ls : List Str} (e : cutS 124 s = l0 :: ls) (h : (cutS 46 l0).length ≠ 2) : candRecS s = none := by
 unfold candRecS
 rw [e]
 simp only
 split
 ·rename_i a b e; rw [e] at h; exact absurd rfl h
 ·rfl
theorem candRecS_none2 {s l0 a b : Str} {ls : List Str} (e : cutS 124 s = l0 :: ls) (e2 : cutS 46 l0 = [a, b]) (h : a.length < 2) : candRecS s = none := by
 unfold candRecS
 rw [e]
 simp only [e2]
 match a, h with
 | [], _ => rfl
 | [c], _ => rfl
 | c :: d :: t, h => simp at h; omega
theorem candRecS_some {s l0 t b : Str} {c d : UInt8} {ls : List Str} (e : cutS 124 s = l0 :: ls) (e2 : cutS 46 l0 = [c :: d :: t, b]) : candRecS s = some ⟨(c.toNat : Int) - 97, getI (d :: t), getI b, ls⟩ := by
 unfold candRecS
 rw [e]
 simp only [e2]
theorem fn_spec_ParseRecord (s : Str) (hs : s.length ≤ 1048576) : FnOk Tryz.prog 136 [dS s] (fun res' => res' = .tup [.own (oRec (recOr s)), .val (dB (readRec s).isSome)]) := by
 refine fn_of good (rs := [.cell 2 77, .tmp 3]) Tryz.func136 rfl Tryz.ntmps136 (by decide) (by simp) rfl fun w0 ow0 => ?_
 have hcl := cutS_len 124 s
 obtain ⟨l0, ls, hl⟩ := cutS_cons 124 s
 rw [hl] at hcl
 have hl0 := hcl.2 l0 (by simp)
 have hlsz : ls.length ≤ s.length := by have := hcl.1; simp at this; omega
 refine okC_rg good ?_
 simp [go_sem, hl]
 repeat (with_reducible refine And.intro ?_ ?_; first | omega | assumption | (simp only [inI]; omega))
 refine okC_rg good ?_
 simp [go_sem, hl]
 repeat (with_reducible refine And.intro ?_ ?_; first | omega | assumption | (simp only [inI]; omega))
 first | refine callK_of (fn_spec_l2Cut s 124 hs) (by simp [go_sem]) ?_ | refine callK_fz (fn_spec_l2Cut s 124 hs) (by simp [go_sem]) (by simp [go_sem]) ?_
 simp [go_sem, hl]
 repeat (with_reducible refine And.intro ?_ ?_; first | omega | assumption | (simp only [inI]; omega))
 refine okC_rg good ?_
 simp [go_sem, hl]
 repeat (with_reducible refine And.intro ?_ ?_; first | omega | assumption | (simp only [inI]; omega))
 first | refine callK_of (fn_spec_l2Cut l0 46 (by omega)) (by simp [go_sem]) ?_ | refine callK_fz (fn_spec_l2Cut l0 46 (by omega)) (by simp [go_sem]) (by simp [go_sem]) ?_
 simp [go_sem, hl]
 repeat (with_reducible refine And.intro ?_ ?_; first | omega | assumption | (simp only [inI]; omega))
 refine okC_seq ?_
 have hcl2 := cutS_len 46 l0
 refine okC_rg good ?_
 simp [go_sem, hl]
 repeat (with_reducible refine And.intro ?_ ?_; first | omega | assumption | (simp only [inI]; omega))
 first | refine gI_dec (fun e => ?_) (fun e => ?_) | refine gI_ndec (fun e => ?_) (fun e => ?_) | refine gI_of (fun e => ?_) (fun e => ?_)
 ·have e' := e; try simp at e'
  simp [go_sem, hl, e]
  repeat (with_reducible refine And.intro ?_ ?_; first | omega | assumption | (simp only [inI]; omega))
  refine okC_if ?_
  simp [go_sem, hl, e]
  have hrd : readRec s = none := inv_none candRecS_ok (candRecS_none hl (by omega))
  refine okC_rg good ?_
  simp [go_sem, hl, e]
  repeat (with_reducible refine And.intro ?_ ?_; first | omega | assumption | (simp only [inI]; omega))
  refine okC_ret ?_
  simp [go_sem, hl, e]
  simp [recOr, hrd, rec0]
 ·have e' := e; try simp at e'
  obtain ⟨a, b, hab⟩ := two_of (l := cutS 46 l0) (by omega)
  have hal := hcl2.2 a (by rw [hab]; simp)
  have hbl := hcl2.2 b (by rw [hab]; simp)
  simp [go_sem, hl, e, hab]
  repeat (with_reducible refine And.intro ?_ ?_; first | omega | assumption | (simp only [inI]; omega))
  refine okC_if ?_
  simp [go_sem, hl, e, hab]
  first | refine gC_dec (fun f => ?_) (fun f => ?_) | refine gC_ndec (fun f => ?_) (fun f => ?_) | refine gC_of (fun f => ?_) (fun f => ?_)
  ·try simp at f
   have hrd : readRec s = none := inv_none candRecS_ok (candRecS_none2 hl hab (by omega))
   refine okC_rg good ?_
   simp [go_sem, hl, e, hab]
   repeat (with_reducible refine And.intro ?_ ?_; first | omega | assumption | (simp only [inI]; omega))
   refine okC_ret ?_
   simp [go_sem, hl, e, hab]
   simp [recOr, hrd, rec0]
  ·try simp at f
   refine okC_skip ?_
   obtain ⟨c, d, t, rfl⟩ : ∃ c d t, a = c :: d :: t := by match a, f with | [], f => simp at f | [c], f => simp at f | c :: d :: t, _ => exact ⟨c, d, t, rfl⟩
   have hcn := c.toNat_lt
   have hrd : readRec s = _ := inv_test (str := recStr) (fun _ => rfl) candRecS_ok (candRecS_some hl hab) (cut_ne hl hab)
   simp only [List.length_cons] at hal
   refine okC_rg good ?_
   simp [go_sem, hl, e, hab]
   repeat (with_reducible refine And.intro ?_ ?_; first | omega | assumption | (simp only [inI]; omega))
   first | refine callK_of (fn_spec_ParseInt (d :: t) (by simp; omega)) (by simp [go_sem]) ?_ | refine callK_fz (fn_spec_ParseInt (d :: t) (by simp; omega)) (by simp [go_sem]) (by simp [go_sem]) ?_
   simp [go_sem, hl, e, hab]
   repeat (with_reducible refine And.intro ?_ ?_; first | omega | assumption | (simp only [inI]; omega))
   refine okC_rg good ?_
   simp [go_sem, hl, e, hab]
   repeat (with_reducible refine And.intro ?_ ?_; first | omega | assumption | (simp only [inI]; omega))
   first | refine callK_of (fn_spec_ParseInt b (by omega)) (by simp [go_sem]) ?_ | refine callK_fz (fn_spec_ParseInt b (by omega)) (by simp [go_sem]) (by simp [go_sem]) ?_
   simp [go_sem, hl, e, hab]
   repeat (with_reducible refine And.intro ?_ ?_; first | omega | assumption | (simp only [inI]; omega))
   refine okC_tells ?_ (tells_cool 4)
   refine okC_tells ?_ (tells_cool 5)
   refine okC_df good [(8, [51]), (11, [51, 53, 54]), (12, [48, 49, 50, 54, 55]), (13, [10]), (14, [10, 55])] [(0, .val (dS s)), (2, .own (.bx true (.agg [dI 0, dI 0, dI 0, oStrs []]))), (3, .val (dB false)), (4, .val (nStrs (l0 :: ls))), (5, .val (nStrs [c :: d :: t, b])), (6, .val (dI (getI (d :: t)))), (8, .val (dI (getI b)))] [] rfl (by decide) (by kernel_rfl) (by simp [go_sem, hl, e, hab]) ?_
   simp [go_sem, hl, e, hab]
   repeat (with_reducible refine And.intro ?_ ?_; first | omega | assumption | (simp only [inI]; omega))
   refine okC_seq ?_
   refine okC_rg good ?_
   simp [go_sem, hl, e, hab]
   repeat (with_reducible refine And.intro ?_ ?_; first | omega | assumption | (simp only [inI]; omega))
   first | refine callK_of (fn_spec_FormatRecord ⟨(c.toNat : Int) - 97, getI (d :: t), getI b, ls⟩ ⟨by simpa using (by omega : ls.length ≤ 1048576), fun f hf => by have := hcl.2 f (by simp [hf]); unfold smallS; omega⟩) (by simp [go_sem]) ?_ | refine callK_fz (fn_spec_FormatRecord ⟨(c.toNat : Int) - 97, getI (d :: t), getI b, ls⟩ ⟨by simpa using (by omega : ls.length ≤ 1048576), fun f hf => by have := hcl.2 f (by simp [hf]); unfold smallS; omega⟩) (by simp [go_sem]) (by simp [go_sem]) ?_
   simp [go_sem, hl, e, hab]
   repeat (with_reducible refine And.intro ?_ ?_; first | omega | assumption | (simp only [inI]; omega))
   refine okC_if ?_
   simp [go_sem, hl, e, hab]
   first | refine gC_dec (fun g => ?_) (fun g => ?_) | refine gC_ndec (fun g => ?_) (fun g => ?_) | refine gC_of (fun g => ?_) (fun g => ?_)
   ·try simp at g
    refine okC_rg good ?_
    simp [go_sem, hl, e, hab]
    repeat (with_reducible refine And.intro ?_ ?_; first | omega | assumption | (simp only [inI]; omega))
    refine okC_ret ?_
    simp [go_sem, hl, e, hab]
    simp [recOr, hrd, g, rec0]
   ·try simp at g
    refine okC_skip ?_
    refine okC_rg good ?_
    simp [go_sem, hl, e, hab]
    repeat (with_reducible refine And.intro ?_ ?_; first | omega | assumption | (simp only [inI]; omega))
    refine okC_ret ?_
    simp [go_sem, hl, e, hab]
    simp [recOr, hrd, g]
end Go.Proofs.YtfhfidecmdhkoaaGreatDoor

end
section
set_option maxRecDepth 10000
namespace Go.Proofs.YtfhfidecmdhkoaaGreatDoor
open Go.Dv Go.Pl
theorem ba_at {s : Str} {i : Nat} {c : UInt8} (hc : s[i]? = some c) : ∀ h, (⟨s.toArray⟩ : ByteArray)[i]'h = c := fun h => by
 have := ba_get s i
 rw [hc] at this
 exact Option.some.inj ((getElem?_pos (⟨s.toArray⟩ : ByteArray) i h).symm.trans this)
theorem find_at {c : UInt8} {s : Str} {i : Nat} (h : (s.take i).all (fun d => decide (d ≠ c)) = true) (hc : s[i]? = some c) : bef c s = s.take i ∧ aft c s = s.drop (i + 1) ∧ c ∈ s := by
 have e : s = s.take i ++ c :: s.drop (i + 1) := by rw [← drop_atS hc, List.take_append_drop]
 have hn : c ∉ s.take i := fun hm => by have := List.all_eq_true.1 h c hm; simp at this
 have hb := bef_at (b := s.drop (i + 1)) hn
 rw [← e] at hb
 exact ⟨hb.1, hb.2, List.mem_of_getElem? hc⟩
theorem find_end {c : UInt8} {s : Str} (h : s.all (fun d => decide (d ≠ c)) = true) : bef c s = s ∧ aft c s = [] ∧ c ∉ s := by
 have hn : c ∉ s := fun hm => by have := List.all_eq_true.1 h c hm; simp at this
 exact ⟨(bef_no hn).1, (bef_no hn).2, hn⟩
theorem smallR_val {r : Rec} (h : validRec r = true) : smallR r := by
 have := rec_fields h
 exact ⟨by omega, fun f hf => by have := this.2 f hf; unfold smallS; omega⟩
theorem smallR_or (s : Str) : smallR (recOr s) := by
 unfold recOr
 cases h : readRec s with
 | none => exact ⟨by simp [rec0], fun f hf => by simp [rec0] at hf⟩
 | some r => exact smallR_val (inv_some h).1
noncomputable def opOr (s : Str) : Opn := (readOp s).getD op0
theorem fn_spec_ParseOp (s : Str) (hs : s.length ≤ 1048000) : FnOk Tryz.prog 94 [dS s] (fun res' => res' = .tup [.own (oOp (opOr s)), .val (dB (readOp s).isSome)]) := by
 refine fn_of good (rs := [.cell 2 81, .tmp 3]) Tryz.func94 rfl Tryz.ntmps94 (by decide) (by simp) rfl fun w0 ow0 => ?_
 refine okC_rg good ?_
 simp [go_sem]
 repeat (with_reducible refine And.intro ?_ ?_; first | omega | assumption | (simp only [inI]; omega))
 refine okC_rg good ?_
 simp [go_sem]
 repeat (with_reducible refine And.intro ?_ ?_; first | omega | assumption | (simp only [inI]; omega))
 refine okC_cut (fun (i : Nat) => [(0, .val (dS s)), (2, .own (.bx true (oOp ⟨0, ⟨0, 0, 0, []⟩, ⟨0, 0, false, 0⟩⟩))), (3, .val (dB false)), (4, .val (dI i))]) (fun (i : Nat) => (i ≤ s.length) ∧ (i = s.length ∧ (32 : UInt8) ∉ s ∨ i < s.length ∧ (32 : UInt8) ∈ s ∧ bef 32 s = s.take i ∧ aft 32 s = s.drop (i + 1))) ?_ ?_
 rotate_left
 ·rintro K1 hK1
  refine okC_block ?_
  refine okC_rounds (fun (i : Nat) => [(0, .val (dS s)), (2, .own (.bx true (oOp ⟨0, ⟨0, 0, 0, []⟩, ⟨0, 0, false, 0⟩⟩))), (3, .val (dB false)), (4, .val (dI i))]) (fun (i : Nat) => s.length - i) (fun (i : Nat) => (i ≤ s.length) ∧ ((s.take i).all (fun d => decide (d ≠ 32)) = true)) (0) [] ⟨(by omega), (by simp)⟩ (by simp [go_sem]) ?_
  rintro i ⟨h1, h2⟩ K2 hK2
  refine okC_seq ?_
  refine okC_rg good ?_
  simp [go_sem]
  repeat (with_reducible refine And.intro ?_ ?_; first | omega | assumption | (simp only [inI]; omega))
  first | refine gI_dec (fun a => ?_) (fun a => ?_) | refine gI_ndec (fun a => ?_) (fun a => ?_) | refine gI_of (fun a => ?_) (fun a => ?_)
  ·have a' := a; try simp at a'
   obtain ⟨c, hc⟩ := at_of (l := s) (i := i) (by simpa using a)
   have hcz := ba_at hc
   simp [go_sem, a, hcz]
   repeat (with_reducible refine And.intro ?_ ?_; first | omega | assumption | (simp only [inI]; omega))
   refine okC_if ?_
   simp [go_sem, a, hcz]
   first | refine gC_dec (fun b => ?_) (fun b => ?_) | refine gC_ndec (fun b => ?_) (fun b => ?_) | refine gC_of (fun b => ?_) (fun b => ?_)
   ·try simp at b
    refine okC_skip ?_
    refine okC_block ?_
    refine okC_rg1 good ?_
    simp [go_sem, a, hcz]
    repeat (with_reducible refine And.intro ?_ ?_; first | omega | assumption | (simp only [inI]; omega))
    refine show K2 .normal _ from normalE hK2 ⟨i + 1, [], ⟨(by have := getElem?_lt hc; omega), (all_step hc h2 (by simp; intro e; subst e; exact b rfl))⟩, (by show _ < _; first | omega | simp <;> omega), (by simp [go_sem, a, hcz])⟩
   ·try simp at b
    refine okC_exit (show K2 _ _ from exitE hK2 ?_)
    have hc32 : c = 32 := UInt8.toNat_inj.1 (by show c.toNat = 32; omega)
    subst hc32
    have hfa := find_at h2 hc
    refine normalE hK1 ⟨i, [], ⟨(h1), (.inr ⟨getElem?_lt hc, hfa.2.2, hfa.1, hfa.2.1⟩)⟩, (by simp [go_sem, a, hcz])⟩
  ·have a' := a; try simp at a'
   simp [go_sem, a]
   repeat (with_reducible refine And.intro ?_ ?_; first | omega | assumption | (simp only [inI]; omega))
   refine okC_if ?_
   simp [go_sem, a]
   refine okC_exit (show K2 _ _ from exitE hK2 ?_)
   have hfe := find_end (c := 32) (all_fin h2 (by simpa using a))
   refine normalE hK1 ⟨i, [], ⟨(h1), (.inl ⟨Nat.le_antisymm h1 (by simpa using a), hfe.2.2⟩)⟩, (by simp [go_sem, a])⟩
 rintro i ⟨h1, h2⟩
 refine okC_seq ?_
 refine okC_rg good ?_
 simp [go_sem]
 repeat (with_reducible refine And.intro ?_ ?_; first | omega | assumption | (simp only [inI]; omega))
 refine okC_if ?_
 simp [go_sem]
 first | refine gC_dec (fun e => ?_) (fun e => ?_) | refine gC_ndec (fun e => ?_) (fun e => ?_) | refine gC_of (fun e => ?_) (fun e => ?_)
 ·try simp at e
  have hrd : readOp s = none := inv_none candOpS_ok (by unfold candOpS; rw [if_neg (by rcases h2 with h2 | h2; exact h2.2; omega)])
  refine okC_rg good ?_
  simp [go_sem]
  repeat (with_reducible refine And.intro ?_ ?_; first | omega | assumption | (simp only [inI]; omega))
  refine okC_ret ?_
  simp [go_sem]
  simp [opOr, hrd, op0, rec0, ver0]
 ·try simp at e
  refine okC_skip ?_
  obtain ⟨hlt, hm, hb, ha⟩ := h2.resolve_left (fun h => e (by omega))
  clear h2
  have hsn : s ≠ [] := fun e0 => by rw [e0] at hlt; simp at hlt
  have hal : (aft 32 s).length ≤ s.length := by rw [ha]; simp
  have htk : (aft 32 s).take (s.length - (i + 1)) = aft 32 s := by rw [ha]; exact take_drop_len s (i + 1)
  refine okC_rg good ?_
  simp [go_sem, hb.symm, ha.symm, htk]
  repeat (with_reducible refine And.intro ?_ ?_; first | omega | assumption | (simp only [inI]; omega))
  refine okC_rg good ?_
  simp [go_sem, hb.symm, ha.symm, htk]
  repeat (with_reducible refine And.intro ?_ ?_; first | omega | assumption | (simp only [inI]; omega))
  refine okC_cut (fun (o : Opn) => [(0, .val (dS s)), (2, .own (.bx true (oOp ⟨0, ⟨0, 0, 0, []⟩, ⟨0, 0, false, 0⟩⟩))), (3, .val (dB false)), (5, .own (.bx true (oOp o)))]) (fun (o : Opn) => (candOpS s = some o) ∧ (smallO o)) ?_ ?_
  rotate_left
  ·rintro K3 hK3
   refine okC_rg good ?_
   simp [go_sem, hb.symm, ha.symm, htk]
   repeat (with_reducible refine And.intro ?_ ?_; first | omega | assumption | (simp only [inI]; omega))
   refine okC_block ?_
   refine okC_rg good ?_
   simp [go_sem, hb.symm, ha.symm, htk]
   repeat (with_reducible refine And.intro ?_ ?_; first | omega | assumption | (simp only [inI]; omega))
   refine okC_if ?_
   simp [go_sem, hb.symm, ha.symm, htk]
   first | refine gC_dec (fun k1 => ?_) (fun k1 => ?_) | refine gC_ndec (fun k1 => ?_) (fun k1 => ?_) | refine gC_of (fun k1 => ?_) (fun k1 => ?_)
   ·try simp at k1
    refine okC_rg good ?_
    simp [go_sem, hb.symm, ha.symm, htk]
    repeat (with_reducible refine And.intro ?_ ?_; first | omega | assumption | (simp only [inI]; omega))
    refine okC_rg1 good ?_
    simp [go_sem, hb.symm, ha.symm, htk]
    repeat (with_reducible refine And.intro ?_ ?_; first | omega | assumption | (simp only [inI]; omega))
    first | refine callK_of (fn_spec_ParseRecord (aft 32 s) (by omega)) (by simp [go_sem]) ?_ | refine callK_fz (fn_spec_ParseRecord (aft 32 s) (by omega)) (by simp [go_sem]) (by simp [go_sem]) ?_
    simp [go_sem, hb.symm, ha.symm, htk]
    repeat (with_reducible refine And.intro ?_ ?_; first | omega | assumption | (simp only [inI]; omega))
    refine show K3 .normal _ from normalE hK3 ⟨⟨1, recOr (aft 32 s), ⟨0, 0, false, 0⟩⟩, [], ⟨(by simp [candOpS, hm, k1, wPut, ver0]), (smallR_or _)⟩, (by simp [go_sem, hb.symm, ha.symm, htk])⟩
   ·try simp at k1
    refine okC_rg good ?_
    simp [go_sem, hb.symm, ha.symm, htk]
    repeat (with_reducible refine And.intro ?_ ?_; first | omega | assumption | (simp only [inI]; omega))
    refine okC_if ?_
    simp [go_sem, hb.symm, ha.symm, htk]
    first | refine gC_dec (fun k2 => ?_) (fun k2 => ?_) | refine gC_ndec (fun k2 => ?_) (fun k2 => ?_) | refine gC_of (fun k2 => ?_) (fun k2 => ?_)
    ·try simp at k2
     refine okC_rg good ?_
     simp [go_sem, hb.symm, ha.symm, htk]
     repeat (with_reducible refine And.intro ?_ ?_; first | omega | assumption | (simp only [inI]; omega))
     refine okC_rg good ?_
     simp [go_sem, hb.symm, ha.symm, htk]
     repeat (with_reducible refine And.intro ?_ ?_; first | omega | assumption | (simp only [inI]; omega))
     first | refine callK_of (fn_spec_ParseRecord (aft 32 s ++ [124, 124, 124, 124]) (by simp; omega)) (by simp [go_sem]) ?_ | refine callK_fz (fn_spec_ParseRecord (aft 32 s ++ [124, 124, 124, 124]) (by simp; omega)) (by simp [go_sem]) (by simp [go_sem]) ?_
     simp [go_sem, hb.symm, ha.symm, htk]
     repeat (with_reducible refine And.intro ?_ ?_; first | omega | assumption | (simp only [inI]; omega))
     refine okC_rg1 good ?_
     simp [go_sem, hb.symm, ha.symm, htk]
     repeat (with_reducible refine And.intro ?_ ?_; first | omega | assumption | (simp only [inI]; omega))
     refine show K3 .normal _ from normalE hK3 ⟨⟨2, ⟨(recOr (aft 32 s ++ [124, 124, 124, 124])).source, (recOr (aft 32 s ++ [124, 124, 124, 124])).key, (recOr (aft 32 s ++ [124, 124, 124, 124])).version, []⟩, ⟨0, 0, false, 0⟩⟩, [], ⟨(by simp [candOpS, hm, k1, k2, wPut, wDel, ver0, bars]), (⟨by simp, fun f hf => by simp at hf⟩)⟩, (by simp [go_sem, hb.symm, ha.symm, htk])⟩
    ·try simp at k2
     refine okC_rg good ?_
     simp [go_sem, hb.symm, ha.symm, htk]
     repeat (with_reducible refine And.intro ?_ ?_; first | omega | assumption | (simp only [inI]; omega))
     refine okC_if ?_
     simp [go_sem, hb.symm, ha.symm, htk]
     first | refine gC_dec (fun k3 => ?_) (fun k3 => ?_) | refine gC_ndec (fun k3 => ?_) (fun k3 => ?_) | refine gC_of (fun k3 => ?_) (fun k3 => ?_)
     ·try simp at k3
      refine okC_rg good ?_
      simp [go_sem, hb.symm, ha.symm, htk]
      repeat (with_reducible refine And.intro ?_ ?_; first | omega | assumption | (simp only [inI]; omega))
      refine okC_rg1 good ?_
      simp [go_sem, hb.symm, ha.symm, htk]
      repeat (with_reducible refine And.intro ?_ ?_; first | omega | assumption | (simp only [inI]; omega))
      first | refine callK_of (fn_spec_ParseVerdict (aft 32 s) (by omega)) (by simp [go_sem]) ?_ | refine callK_fz (fn_spec_ParseVerdict (aft 32 s) (by omega)) (by simp [go_sem]) (by simp [go_sem]) ?_
      simp [go_sem, hb.symm, ha.symm, htk]
      repeat (with_reducible refine And.intro ?_ ?_; first | omega | assumption | (simp only [inI]; omega))
      refine show K3 .normal _ from normalE hK3 ⟨⟨3, ⟨0, 0, 0, []⟩, verOr (aft 32 s)⟩, [], ⟨(by simp [candOpS, hm, k1, k2, k3, wPut, wDel, wVer, rec0]), (⟨by simp, fun f hf => by simp at hf⟩)⟩, (by simp [go_sem, hb.symm, ha.symm, htk])⟩
     ·try simp at k3
      refine okC_rg good ?_
      simp [go_sem, hb.symm, ha.symm, htk]
      repeat (with_reducible refine And.intro ?_ ?_; first | omega | assumption | (simp only [inI]; omega))
      refine okC_if ?_
      simp [go_sem, hb.symm, ha.symm, htk]
      first | refine gC_dec (fun k4 => ?_) (fun k4 => ?_) | refine gC_ndec (fun k4 => ?_) (fun k4 => ?_) | refine gC_of (fun k4 => ?_) (fun k4 => ?_)
      ·try simp at k4
       refine okC_rg good ?_
       simp [go_sem, hb.symm, ha.symm, htk]
       repeat (with_reducible refine And.intro ?_ ?_; first | omega | assumption | (simp only [inI]; omega))
       refine okC_rg1 good ?_
       simp [go_sem, hb.symm, ha.symm, htk]
       repeat (with_reducible refine And.intro ?_ ?_; first | omega | assumption | (simp only [inI]; omega))
       first | refine callK_of (fn_spec_ParseVerdict (aft 32 s) (by omega)) (by simp [go_sem]) ?_ | refine callK_fz (fn_spec_ParseVerdict (aft 32 s) (by omega)) (by simp [go_sem]) (by simp [go_sem]) ?_
       simp [go_sem, hb.symm, ha.symm, htk]
       repeat (with_reducible refine And.intro ?_ ?_; first | omega | assumption | (simp only [inI]; omega))
       refine show K3 .normal _ from normalE hK3 ⟨⟨4, ⟨0, 0, 0, []⟩, verOr (aft 32 s)⟩, [], ⟨(by simp [candOpS, hm, k1, k2, k3, k4, wPut, wDel, wVer, wRet, rec0]), (⟨by simp, fun f hf => by simp at hf⟩)⟩, (by simp [go_sem, hb.symm, ha.symm, htk])⟩
      ·try simp at k4
       refine okC_skip ?_
       refine show K3 .normal _ from normalE hK3 ⟨⟨0, ⟨0, 0, 0, []⟩, ⟨0, 0, false, 0⟩⟩, [], ⟨(by simp [candOpS, hm, k1, k2, k3, k4, wPut, wDel, wVer, wRet, rec0, op0, ver0]), (⟨by simp, fun f hf => by simp at hf⟩)⟩, (by simp [go_sem, hb.symm, ha.symm, htk])⟩
  rintro o ⟨hcd, hso⟩
  refine okC_seq ?_
  have hrd : readOp s = _ := inv_test (str := opStr) (fun _ => rfl) candOpS_ok hcd hsn
  refine okC_rg good ?_
  simp [go_sem, hb.symm, ha.symm, htk]
  repeat (with_reducible refine And.intro ?_ ?_; first | omega | assumption | (simp only [inI]; omega))
  first | refine callK_of (fn_spec_FormatOp o hso) (by simp [go_sem]) ?_ | refine callK_fz (fn_spec_FormatOp o hso) (by simp [go_sem]) (by simp [go_sem]) ?_
  simp [go_sem, hb.symm, ha.symm, htk]
  repeat (with_reducible refine And.intro ?_ ?_; first | omega | assumption | (simp only [inI]; omega))
  refine okC_if ?_
  simp [go_sem, hb.symm, ha.symm, htk]
  first | refine gC_dec (fun g => ?_) (fun g => ?_) | refine gC_ndec (fun g => ?_) (fun g => ?_) | refine gC_of (fun g => ?_) (fun g => ?_)
  ·try simp at g
   refine okC_rg good ?_
   simp [go_sem, hb.symm, ha.symm, htk]
   repeat (with_reducible refine And.intro ?_ ?_; first | omega | assumption | (simp only [inI]; omega))
   refine okC_ret ?_
   simp [go_sem, hb.symm, ha.symm, htk]
   simp [opOr, hrd, g, op0, rec0, ver0]
  ·try simp at g
   refine okC_skip ?_
   refine okC_rg good ?_
   simp [go_sem, hb.symm, ha.symm, htk]
   repeat (with_reducible refine And.intro ?_ ?_; first | omega | assumption | (simp only [inI]; omega))
   refine okC_ret ?_
   simp [go_sem, hb.symm, ha.symm, htk]
   simp [opOr, hrd, g]
end Go.Proofs.YtfhfidecmdhkoaaGreatDoor

end
section
set_option maxRecDepth 10000
namespace Go.Proofs.YtfhfidecmdhkoaaGreatDoor
open Go.Dv Go.Pl
noncomputable def batOr (s : Str) : List Opn := (readBat s).getD []
theorem smallO_val {o : Opn} (h : validOp o = true) : smallO o := by
 rcases op_cases h with ⟨r, hr, rfl, ht⟩ | ⟨r, hr, rfl, ht⟩ | ⟨v, hv, rfl, ht⟩ | ⟨v, hv, rfl, ht⟩
 ·exact smallR_val hr
 ·have := (goneRec_iff.1 hr).2.2.2
  exact ⟨by simp [this], fun f hf => by simp [this] at hf⟩
 ·exact ⟨by simp [rec0], fun f hf => by simp [rec0] at hf⟩
 ·exact ⟨by simp [rec0], fun f hf => by simp [rec0] at hf⟩
theorem readOps_valid : ∀ {l : List Str} {r : List Opn}, readOps l = some r → r.length = l.length ∧ ∀ o ∈ r, validOp o = true
 | [], r, h => by obtain rfl := Option.some.inj h; simp
 | x :: l, r, h => by
  simp only [readOps] at h
  cases hx : readOp x with
  | none => rw [hx] at h; cases h
  | some o =>
   cases hl : readOps l with
   | none => rw [hx, hl] at h; cases h
   | some r' =>
    rw [hx, hl] at h
    obtain rfl := Option.some.inj h
    have := readOps_valid hl
    refine ⟨by simp [this.1], fun o' ho' => ?_⟩
    rcases List.mem_cons.1 ho' with rfl | ho'
    ·exact (inv_some hx).1
    ·exact this.2 o' ho'
theorem smallB_of {l : List Opn} (h1 : l.length ≤ 1048576) (h : ∀ o ∈ l, validOp o = true) : smallB l := ⟨h1, fun o ho => smallO_val (h o ho)⟩
theorem opOr_some {x : Str} {o : Opn} (h : readOp x = some o) : opOr x = o := by rw [opOr, h]; rfl
theorem fn_spec_ParseBatch (s : Str) (hs : s.length ≤ 1048000) : FnOk Tryz.prog 61 [dS s] (fun res' => res' = .tup [.own (oBat (batOr s)), .val (dB (readBat s).isSome)]) := by
 refine fn_of good (rs := [.cell 2 30, .tmp 3]) Tryz.func61 rfl Tryz.ntmps61 (by decide) (by simp) rfl fun w0 ow0 => ?_
 refine okC_rg good ?_
 simp [go_sem]
 repeat (with_reducible refine And.intro ?_ ?_; first | omega | assumption | (simp only [inI]; omega))
 refine okC_rg good ?_
 simp [go_sem]
 repeat (with_reducible refine And.intro ?_ ?_; first | omega | assumption | (simp only [inI]; omega))
 refine okC_seq ?_
 refine okC_rg good ?_
 simp [go_sem]
 repeat (with_reducible refine And.intro ?_ ?_; first | omega | assumption | (simp only [inI]; omega))
 refine okC_if ?_
 simp [go_sem]
 first | refine gC_dec (fun e => ?_) (fun e => ?_) | refine gC_ndec (fun e => ?_) (fun e => ?_) | refine gC_of (fun e => ?_) (fun e => ?_)
 ·try simp at e
  have hrd : readBat s = some [] := by rw [e]; exact readBat_of (l := []) rfl
  refine okC_rg good ?_
  simp [go_sem]
  repeat (with_reducible refine And.intro ?_ ?_; first | omega | assumption | (simp only [inI]; omega))
  refine okC_ret ?_
  simp [go_sem]
  simp [batOr, hrd]
 ·try simp at e
  refine okC_skip ?_
  refine okC_seq ?_
  refine okC_rg good ?_
  simp [go_sem]
  repeat (with_reducible refine And.intro ?_ ?_; first | omega | assumption | (simp only [inI]; omega))
  refine okC_if ?_
  simp [go_sem]
  first | refine gC_dec (fun f => ?_) (fun f => ?_) | refine gC_ndec (fun f => ?_) (fun f => ?_) | refine gC_of (fun f => ?_) (fun f => ?_)
  ·try simp at f
   have hrd : readBat s = none := inv_none candBatS_ok (by unfold candBatS; rw [if_neg e, if_pos (by omega)])
   refine okC_rg good ?_
   simp [go_sem]
   repeat (with_reducible refine And.intro ?_ ?_; first | omega | assumption | (simp only [inI]; omega))
   refine okC_ret ?_
   simp [go_sem]
   simp [batOr, hrd]
  ·try simp at f
   refine okC_skip ?_
   have hsn : s ≠ [] := fun e0 => by subst e0; simp at f
   obtain ⟨X, hX⟩ : ∃ X, (s.drop 1).take (s.length - 2) = X := ⟨_, rfl⟩
   have hXl : X.length ≤ s.length := by rw [← hX, List.length_take, List.length_drop]; omega
   have hX2 : s.tail.take (s.length - 1 - 1) = X := by rw [← hX, List.drop_one]; congr 1
   have hn1 : ((s.length : Int) - 1).toNat = s.length - 1 := by omega
   refine okC_rg good ?_
   simp [go_sem, hX, hX2, hn1]
   repeat (with_reducible refine And.intro ?_ ?_; first | omega | assumption | (simp only [inI]; omega))
   first | refine callK_of (fn_spec_l2Cut X 59 (by omega)) (by simp [go_sem]) ?_ | refine callK_fz (fn_spec_l2Cut X 59 (by omega)) (by simp [go_sem]) (by simp [go_sem]) ?_
   simp [go_sem, hX, hX2, hn1]
   repeat (with_reducible refine And.intro ?_ ?_; first | omega | assumption | (simp only [inI]; omega))
   have hcl := cutS_len 59 X
   obtain ⟨T, hT⟩ : ∃ T, cutS 59 X = T := ⟨_, rfl⟩
   rw [hT] at hcl
   have hcand : candBatS s = readOps (T.take 7) := by unfold candBatS; rw [if_neg e, if_neg (by omega), hX, hT]
   refine okC_cut (fun (b : List Opn) => [(0, .val (dS s)), (2, .own (.bx true (oBat []))), (3, .val (dB false)), (4, .own (.bx true (oBat b)))]) (fun (b : List Opn) => (candBatS s = some b) ∧ (b.length ≤ 7) ∧ (∀ o ∈ b, validOp o = true)) ?_ ?_
   rotate_left
   ·rintro K1 hK1
    refine okC_rg good ?_
    simp [go_sem, hX, hX2, hn1, hT]
    repeat (with_reducible refine And.intro ?_ ?_; first | omega | assumption | (simp only [inI]; omega))
    refine okC_block ?_
    refine okC_rounds (fun (x' : (Nat) × (List Opn)) => match x' with | (i, b) => [(0, .val (dS s)), (2, .own (.bx true (oBat []))), (3, .val (dB false)), (4, .own (.bx true (oBat b))), (5, .own (oStrs T)), (6, .val (dI i))]) (fun (x' : (Nat) × (List Opn)) => match x' with | (i, b) => T.length - i) (fun (x' : (Nat) × (List Opn)) => match x' with | (i, b) => (i ≤ T.length ∧ i ≤ 7) ∧ (readOps (T.take i) = some b)) ((0, [])) [] ⟨(by simp), (by simp [readOps])⟩ (by simp [go_sem, hX, hX2, hn1, hT]) ?_
    rintro ⟨i, b⟩ ⟨h1, h2⟩ K2 hK2
    simp only at h1 h2 ⊢
    refine okC_seq ?_
    have hrv := readOps_valid h2
    have hbl : b.length ≤ 7 := by have := hrv.1; rw [List.length_take] at this; omega
    refine okC_rg good ?_
    simp [go_sem, hX, hX2, hn1, hT]
    repeat (with_reducible refine And.intro ?_ ?_; first | omega | assumption | (simp only [inI]; omega))
    first | refine gI_dec (fun a => ?_) (fun a => ?_) | refine gI_ndec (fun a => ?_) (fun a => ?_) | refine gI_of (fun a => ?_) (fun a => ?_)
    ·have a' := a; try simp at a'
     simp [go_sem, hX, hX2, hn1, hT, a]
     repeat (with_reducible refine And.intro ?_ ?_; first | omega | assumption | (simp only [inI]; omega))
     refine okC_if ?_
     simp [go_sem, hX, hX2, hn1, hT, a]
     first | refine gC_dec (fun c => ?_) (fun c => ?_) | refine gC_ndec (fun c => ?_) (fun c => ?_) | refine gC_of (fun c => ?_) (fun c => ?_)
     ·try simp at c
      refine okC_skip ?_
      refine okC_seq ?_
      refine okC_block ?_
      obtain ⟨x, hx⟩ := at_of (l := T) (i := i) (by omega)
      have hxl := hcl.2 x (List.mem_of_getElem? hx)
      refine okC_rg good ?_
      simp [go_sem, hX, hX2, hn1, hT, hx]
      repeat (with_reducible refine And.intro ?_ ?_; first | omega | assumption | (simp only [inI]; omega))
      first | refine callK_of (fn_spec_ParseOp x (by omega)) (by simp [go_sem]) ?_ | refine callK_fz (fn_spec_ParseOp x (by omega)) (by simp [go_sem]) (by simp [go_sem]) ?_
      simp [go_sem, hX, hX2, hn1, hT, hx]
      repeat (with_reducible refine And.intro ?_ ?_; first | omega | assumption | (simp only [inI]; omega))
      refine okC_seq ?_
      refine okC_rg good ?_
      simp [go_sem, hX, hX2, hn1, hT, hx]
      repeat (with_reducible refine And.intro ?_ ?_; first | omega | assumption | (simp only [inI]; omega))
      refine okC_if ?_
      simp [go_sem, hX, hX2, hn1, hT, hx]
      first | refine gC_dec (fun d => ?_) (fun d => ?_) | refine gC_ndec (fun d => ?_) (fun d => ?_) | refine gC_of (fun d => ?_) (fun d => ?_)
      ·try simp at d
       have hrx : readOp x = none := by simpa using d
       have hrd : readBat s = none := inv_none candBatS_ok (by rw [hcand]; exact readOps_none (List.mem_of_getElem? (i := i) (by rw [List.getElem?_take, if_pos (by omega)]; exact hx)) hrx)
       refine okC_rg good ?_
       simp [go_sem, hX, hX2, hn1, hT, hx]
       repeat (with_reducible refine And.intro ?_ ?_; first | omega | assumption | (simp only [inI]; omega))
       refine okC_ret (show K2 _ _ from retE hK2 ?_)
       refine (show K1 _ _ from retE hK1 ?_)
       simp [go_sem, hX, hX2, hn1, hT, hx]
       simp [batOr, hrd]
      ·try simp at d
       refine okC_skip ?_
       obtain ⟨o, ho⟩ := Option.isSome_iff_exists.1 (show (readOp x).isSome = true by simpa using d)
       have hoo := opOr_some ho
       have hsn2 : readOps (T.take (i + 1)) = some (b ++ [o]) := by rw [take_snoc hx, readOps_snoc h2, ho]; rfl
       refine okC_rg1 good ?_
       simp [go_sem, hX, hX2, hn1, hT, hx, hoo]
       repeat (with_reducible refine And.intro ?_ ?_; first | omega | assumption | (simp only [inI]; omega))
       refine okC_rg1 good ?_
       simp [go_sem, hX, hX2, hn1, hT, hx, hoo]
       repeat (with_reducible refine And.intro ?_ ?_; first | omega | assumption | (simp only [inI]; omega))
       refine normalE hK2 ⟨(i + 1, b ++ [o]), [], ⟨(by omega), (hsn2)⟩, (by show _ < _; first | omega | simp <;> omega), (by simp [go_sem, hX, hX2, hn1, hT, hx, hoo])⟩
     ·try simp at c
      refine okC_exit (show K2 _ _ from exitE hK2 ?_)
      obtain rfl : i = 7 := by omega
      refine normalE hK1 ⟨b, [], ⟨(by rw [hcand, h2]), (by have := hrv.1; rw [List.length_take] at this; omega), (hrv.2)⟩, (by simp [go_sem, hX, hX2, hn1, hT, a])⟩
    ·have a' := a; try simp at a'
     simp [go_sem, hX, hX2, hn1, hT, a]
     repeat (with_reducible refine And.intro ?_ ?_; first | omega | assumption | (simp only [inI]; omega))
     refine okC_if ?_
     simp [go_sem, hX, hX2, hn1, hT, a]
     refine okC_exit (show K2 _ _ from exitE hK2 ?_)
     have hle : T.length ≤ i := by omega
     refine normalE hK1 ⟨b, [], ⟨(by rw [hcand, ← h2]; congr 1; rw [List.take_of_length_le hle, List.take_of_length_le (by omega)]), (by have := hrv.1; rw [List.length_take] at this; omega), (hrv.2)⟩, (by simp [go_sem, hX, hX2, hn1, hT, a])⟩
   rintro b ⟨hcd, hb1, hb2⟩
   refine okC_seq ?_
   have hrd : readBat s = _ := inv_test (str := batStr) (fun _ => rfl) candBatS_ok hcd hsn
   refine okC_rg good ?_
   simp [go_sem, hX, hX2, hn1, hT]
   repeat (with_reducible refine And.intro ?_ ?_; first | omega | assumption | (simp only [inI]; omega))
   first | refine callK_of (fn_spec_FormatBatch b (smallB_of (by omega) hb2)) (by simp [go_sem]) ?_ | refine callK_fz (fn_spec_FormatBatch b (smallB_of (by omega) hb2)) (by simp [go_sem]) (by simp [go_sem]) ?_
   simp [go_sem, hX, hX2, hn1, hT]
   repeat (with_reducible refine And.intro ?_ ?_; first | omega | assumption | (simp only [inI]; omega))
   refine okC_if ?_
   simp [go_sem, hX, hX2, hn1, hT]
   first | refine gC_dec (fun g => ?_) (fun g => ?_) | refine gC_ndec (fun g => ?_) (fun g => ?_) | refine gC_of (fun g => ?_) (fun g => ?_)
   ·try simp at g
    refine okC_rg good ?_
    simp [go_sem, hX, hX2, hn1, hT]
    repeat (with_reducible refine And.intro ?_ ?_; first | omega | assumption | (simp only [inI]; omega))
    refine okC_ret ?_
    simp [go_sem, hX, hX2, hn1, hT]
    simp [batOr, hrd, g]
   ·try simp at g
    refine okC_skip ?_
    refine okC_rg good ?_
    simp [go_sem, hX, hX2, hn1, hT]
    repeat (with_reducible refine And.intro ?_ ?_; first | omega | assumption | (simp only [inI]; omega))
    refine okC_ret ?_
    simp [go_sem, hX, hX2, hn1, hT]
    simp [batOr, hrd, g]
end Go.Proofs.YtfhfidecmdhkoaaGreatDoor

end
section
set_option maxRecDepth 10000
namespace Go.Proofs.YtfhfidecmdhkoaaGreatDoor
open Go.Dv Go.Pl
noncomputable def entOr (s : Str) : Int × List Opn := (readEnt s).getD (0, [])
theorem smallB_or (s : Str) : smallB (batOr s) := by
 unfold batOr
 cases h : readBat s with
 | none => exact ⟨by simp, fun o ho => by simp at ho⟩
 | some l =>
  have hv := validBat_iff.1 (inv_some h).1
  exact smallB_of (by simp; omega) hv.1
theorem readI_none {s : Str} (h : parseB s = false) : readI s = none := by rw [readI, if_neg (by simp [h])]
theorem readI_yes {s : Str} (h : parseB s = true) : readI s = some (getI s) := by rw [getI_eq, readI, if_pos h, if_pos h]
theorem candEnt_out {s : Str} (h : lst93 s ≤ fst91 s) : candEnt s = none := by unfold candEnt; rw [if_neg (by omega)]
theorem candEnt_in {s A Y : Str} (h : (fst91 s : Int) < lst93 s) (hA : s.take (fst91 s) = A) (hY : (s.drop (fst91 s)).take ((lst93 s).toNat + 1 - fst91 s) = Y) : candEnt s = (readI A).bind fun v => (readBat Y).bind fun b => some (v, b) := by
 unfold candEnt; rw [if_pos h, hA, hY]
theorem fn_spec_DecodeEntry (s : Str) (hs : s.length ≤ 1048000) : FnOk Tryz.prog 31 [dS s] (fun res' => res' = .tup [.val (dI (entOr s).1), .own (oBat (entOr s).2), .val (dB (readEnt s).isSome)]) := by
 refine fn_of good (rs := [.tmp 2, .cell 3 30, .tmp 4]) Tryz.func31 rfl Tryz.ntmps31 (by decide) (by simp) rfl fun w0 ow0 => ?_
 refine okC_rg good ?_
 simp [go_sem]
 repeat (with_reducible refine And.intro ?_ ?_; first | omega | assumption | (simp only [inI]; omega))
 refine okC_rg good ?_
 simp [go_sem]
 repeat (with_reducible refine And.intro ?_ ?_; first | omega | assumption | (simp only [inI]; omega))
 refine okC_cut (fun (i : Nat) => [(0, .val (dS s)), (2, .val (dI 0)), (3, .own (.bx true (oBat []))), (4, .val (dB false)), (5, .val (dI i))]) (fun (i : Nat) => (i ≤ s.length) ∧ (fst91 s = i)) ?_ ?_
 rotate_left
 ·rintro K1 hK1
  refine okC_block ?_
  refine okC_rounds (fun (i : Nat) => [(0, .val (dS s)), (2, .val (dI 0)), (3, .own (.bx true (oBat []))), (4, .val (dB false)), (5, .val (dI i))]) (fun (i : Nat) => s.length - i) (fun (i : Nat) => (i ≤ s.length) ∧ ((s.take i).all (fun d => decide (d ≠ 91)) = true)) (0) [] ⟨(by omega), (by simp)⟩ (by simp [go_sem]) ?_
  rintro i ⟨h1, h2⟩ K2 hK2
  refine okC_seq ?_
  refine okC_rg good ?_
  simp [go_sem]
  repeat (with_reducible refine And.intro ?_ ?_; first | omega | assumption | (simp only [inI]; omega))
  first | refine gI_dec (fun a => ?_) (fun a => ?_) | refine gI_ndec (fun a => ?_) (fun a => ?_) | refine gI_of (fun a => ?_) (fun a => ?_)
  ·have a' := a; try simp at a'
   obtain ⟨c, hc⟩ := at_of (l := s) (i := i) (by simpa using a)
   have hcz := ba_at hc
   simp [go_sem, a, hcz]
   repeat (with_reducible refine And.intro ?_ ?_; first | omega | assumption | (simp only [inI]; omega))
   refine okC_if ?_
   simp [go_sem, a, hcz]
   first | refine gC_dec (fun b => ?_) (fun b => ?_) | refine gC_ndec (fun b => ?_) (fun b => ?_) | refine gC_of (fun b => ?_) (fun b => ?_)
   ·try simp at b
    refine okC_skip ?_
    refine okC_block ?_
    refine okC_rg1 good ?_
    simp [go_sem, a, hcz]
    repeat (with_reducible refine And.intro ?_ ?_; first | omega | assumption | (simp only [inI]; omega))
    refine show K2 .normal _ from normalE hK2 ⟨i + 1, [], ⟨(by have := getElem?_lt hc; omega), (all_step hc h2 (by simp; intro e; subst e; exact b rfl))⟩, (by show _ < _; first | omega | simp <;> omega), (by simp [go_sem, a, hcz])⟩
   ·try simp at b
    refine okC_exit (show K2 _ _ from exitE hK2 ?_)
    have hc32 : c = 91 := UInt8.toNat_inj.1 (by show c.toNat = 91; omega)
    subst hc32
    refine normalE hK1 ⟨i, [], ⟨(h1), (fst91_found h2 hc)⟩, (by simp [go_sem, a, hcz])⟩
  ·have a' := a; try simp at a'
   simp [go_sem, a]
   repeat (with_reducible refine And.intro ?_ ?_; first | omega | assumption | (simp only [inI]; omega))
   refine okC_if ?_
   simp [go_sem, a]
   refine okC_exit (show K2 _ _ from exitE hK2 ?_)
   refine normalE hK1 ⟨i, [], ⟨(h1), (by rw [fst91_none (all_fin h2 (by simpa using a))]; exact (Nat.le_antisymm h1 (by simpa using a)).symm)⟩, (by simp [go_sem, a])⟩
 rintro i ⟨h1, h2⟩
 have hlb := lst93_in s
 refine okC_rg good ?_
 simp [go_sem]
 repeat (with_reducible refine And.intro ?_ ?_; first | omega | assumption | (simp only [inI]; omega))
 refine okC_cut (fun (z : Int) => [(0, .val (dS s)), (2, .val (dI 0)), (3, .own (.bx true (oBat []))), (4, .val (dB false)), (5, .val (dI i)), (6, .val (dI z))]) (fun (z : Int) => (-1 ≤ z ∧ z < s.length) ∧ (lst93 s ≤ z) ∧ (z ≤ i ∨ i < z ∧ lst93 s = z)) ?_ ?_
 rotate_left
 ·rintro K3 hK3
  refine okC_block ?_
  refine okC_rounds (fun (z : Int) => [(0, .val (dS s)), (2, .val (dI 0)), (3, .own (.bx true (oBat []))), (4, .val (dB false)), (5, .val (dI i)), (6, .val (dI z))]) (fun (z : Int) => (z + 1).toNat) (fun (z : Int) => (-1 ≤ z ∧ z < s.length) ∧ (lst93 s ≤ z)) ((s.length - 1)) [] ⟨(by omega), (by omega)⟩ (by simp [go_sem]) ?_
  rintro z ⟨h3, h4⟩ K4 hK4
  refine okC_seq ?_
  refine okC_rg good ?_
  simp [go_sem]
  repeat (with_reducible refine And.intro ?_ ?_; first | omega | assumption | (simp only [inI]; omega))
  first | refine gI_dec (fun a => ?_) (fun a => ?_) | refine gI_ndec (fun a => ?_) (fun a => ?_) | refine gI_of (fun a => ?_) (fun a => ?_)
  ·have a' := a; try simp at a'
   obtain ⟨c, hc⟩ := at_of (l := s) (i := z.toNat) (by omega)
   have hcz := ba_at hc
   simp [go_sem, a, hc, hcz]
   repeat (with_reducible refine And.intro ?_ ?_; first | omega | assumption | (simp only [inI]; omega))
   refine okC_if ?_
   simp [go_sem, a, hc, hcz]
   first | refine gC_dec (fun b => ?_) (fun b => ?_) | refine gC_ndec (fun b => ?_) (fun b => ?_) | refine gC_of (fun b => ?_) (fun b => ?_)
   ·try simp at b
    refine okC_skip ?_
    refine okC_block ?_
    refine okC_rg1 good ?_
    simp [go_sem, a, hc, hcz]
    repeat (with_reducible refine And.intro ?_ ?_; first | omega | assumption | (simp only [inI]; omega))
    refine show K4 .normal _ from normalE hK4 ⟨z - 1, [], ⟨(by omega), (lst93_step h4 (by omega) hc (fun e => b (by rw [e]; rfl)))⟩, (by show _ < _; first | omega | simp <;> omega), (by simp [go_sem, a, hc, hcz])⟩
   ·try simp at b
    refine okC_exit (show K4 _ _ from exitE hK4 ?_)
    have hc32 : c = 93 := UInt8.toNat_inj.1 (by show c.toNat = 93; omega)
    subst hc32
    refine normalE hK3 ⟨z, [], ⟨(h3), (h4), (.inr ⟨by omega, lst93_found h4 (by omega) hc⟩)⟩, (by simp [go_sem, a, hc, hcz])⟩
  ·have a' := a; try simp at a'
   simp [go_sem, a]
   repeat (with_reducible refine And.intro ?_ ?_; first | omega | assumption | (simp only [inI]; omega))
   refine okC_if ?_
   simp [go_sem, a]
   refine okC_exit (show K4 _ _ from exitE hK4 ?_)
   refine normalE hK3 ⟨z, [], ⟨(h3), (h4), (.inl (by omega))⟩, (by simp [go_sem, a])⟩
 rintro z ⟨h3, h4, h5⟩
 refine okC_seq ?_
 refine okC_rg good ?_
 simp [go_sem]
 repeat (with_reducible refine And.intro ?_ ?_; first | omega | assumption | (simp only [inI]; omega))
 refine okC_if ?_
 simp [go_sem]
 first | refine gC_dec (fun e => ?_) (fun e => ?_) | refine gC_ndec (fun e => ?_) (fun e => ?_) | refine gC_of (fun e => ?_) (fun e => ?_)
 ·try simp at e
  have hrd : readEnt s = none := inv_none candEnt_ok (candEnt_out (by omega))
  refine okC_rg good ?_
  simp [go_sem]
  repeat (with_reducible refine And.intro ?_ ?_; first | omega | assumption | (simp only [inI]; omega))
  refine okC_ret ?_
  simp [go_sem]
  simp [entOr, hrd]
 ·try simp at e
  refine okC_skip ?_
  obtain ⟨hlt, hz⟩ := h5.resolve_left (by omega)
  obtain ⟨A, hA⟩ : ∃ A, s.take i = A := ⟨_, rfl⟩
  obtain ⟨Y, hY⟩ : ∃ Y, (s.drop i).take (z.toNat + 1 - i) = Y := ⟨_, rfl⟩
  have hAl : A.length ≤ s.length := by rw [← hA, List.length_take]; omega
  have hYl : Y.length ≤ s.length := by rw [← hY, List.length_take, List.length_drop]; omega
  have hcd := candEnt_in (s := s) (A := A) (Y := Y) (by omega) (by rw [h2]; exact hA) (by rw [h2, hz]; exact hY)
  have hz1 : (z + 1).toNat = z.toNat + 1 := by omega
  have hgi := getI_in A
  refine okC_rg good ?_
  simp [go_sem, hA, hz1, hY]
  repeat (with_reducible refine And.intro ?_ ?_; first | omega | assumption | (simp only [inI]; omega))
  first | refine callK_of (fn_spec_ParseInt A (by omega)) (by simp [go_sem]) ?_ | refine callK_fz (fn_spec_ParseInt A (by omega)) (by simp [go_sem]) (by simp [go_sem]) ?_
  simp [go_sem, hA, hz1, hY]
  repeat (with_reducible refine And.intro ?_ ?_; first | omega | assumption | (simp only [inI]; omega))
  refine okC_rg good ?_
  simp [go_sem, hA, hz1, hY]
  repeat (with_reducible refine And.intro ?_ ?_; first | omega | assumption | (simp only [inI]; omega))
  first | refine callK_of (fn_spec_ParseBatch Y (by omega)) (by simp [go_sem]) ?_ | refine callK_fz (fn_spec_ParseBatch Y (by omega)) (by simp [go_sem]) (by simp [go_sem]) ?_
  simp [go_sem, hA, hz1, hY]
  repeat (with_reducible refine And.intro ?_ ?_; first | omega | assumption | (simp only [inI]; omega))
  refine okC_seq ?_
  refine okC_rg good ?_
  simp [go_sem, hA, hz1, hY]
  repeat (with_reducible refine And.intro ?_ ?_; first | omega | assumption | (simp only [inI]; omega))
  first | refine gI_dec (fun f => ?_) (fun f => ?_) | refine gI_ndec (fun f => ?_) (fun f => ?_) | refine gI_of (fun f => ?_) (fun f => ?_)
  ·have f' := f; try simp at f'
   simp [go_sem, hA, hz1, hY, f]
   repeat (with_reducible refine And.intro ?_ ?_; first | omega | assumption | (simp only [inI]; omega))
   refine okC_if ?_
   simp [go_sem, hA, hz1, hY, f]
   have hrd : readEnt s = none := inv_none candEnt_ok (by rw [hcd, readI_none (by simpa using f)]; rfl)
   refine okC_rg good ?_
   simp [go_sem, hA, hz1, hY, f]
   repeat (with_reducible refine And.intro ?_ ?_; first | omega | assumption | (simp only [inI]; omega))
   refine okC_ret ?_
   simp [go_sem, hA, hz1, hY, f]
   simp [entOr, hrd]
  ·have f' := f; try simp at f'
   simp [go_sem, hA, hz1, hY, f]
   repeat (with_reducible refine And.intro ?_ ?_; first | omega | assumption | (simp only [inI]; omega))
   first | refine gI_dec (fun g => ?_) (fun g => ?_) | refine gI_ndec (fun g => ?_) (fun g => ?_) | refine gI_of (fun g => ?_) (fun g => ?_)
   ·have g' := g; try simp at g'
    simp [go_sem, hA, hz1, hY, f, g]
    repeat (with_reducible refine And.intro ?_ ?_; first | omega | assumption | (simp only [inI]; omega))
    refine okC_if ?_
    simp [go_sem, hA, hz1, hY, f, g]
    have hrd : readEnt s = none := inv_none candEnt_ok (by rw [hcd, show readBat Y = none by simpa using g]; cases readI A <;> rfl)
    refine okC_rg good ?_
    simp [go_sem, hA, hz1, hY, f, g]
    repeat (with_reducible refine And.intro ?_ ?_; first | omega | assumption | (simp only [inI]; omega))
    refine okC_ret ?_
    simp [go_sem, hA, hz1, hY, f, g]
    simp [entOr, hrd]
   ·have g' := g; try simp at g'
    have hra : readI A = some (getI A) := readI_yes (by simpa using f)
    obtain ⟨l, hl⟩ := Option.isSome_iff_exists.1 (show (readBat Y).isSome = true by simpa using g)
    have hlo : batOr Y = l := by rw [batOr, hl]; rfl
    rw [hra, hl] at hcd
    have hcd : candEnt s = some (getI A, l) := hcd
    have hsn : s ≠ [] := List.ne_nil_of_length_pos (by omega)
    have hrd : readEnt s = _ := inv_test (P := entB) (f := fun e : Int × List Opn => entTxt e.1 e.2) (str := fun e : Int × List Opn => entStr e.1 e.2) (fun _ => rfl) candEnt_ok hcd hsn
    have hsb := smallB_or Y
    rw [hlo] at hsb
    simp [go_sem, hA, hz1, hY, f, g, hlo]
    repeat (with_reducible refine And.intro ?_ ?_; first | omega | assumption | (simp only [inI]; omega))
    first | refine callK_of (fn_spec_EncodeEntry (getI A) l hsb) (by simp [go_sem]) ?_ | refine callK_fz (fn_spec_EncodeEntry (getI A) l hsb) (by simp [go_sem]) (by simp [go_sem]) ?_
    simp [go_sem, hA, hz1, hY, f, g, hlo]
    repeat (with_reducible refine And.intro ?_ ?_; first | omega | assumption | (simp only [inI]; omega))
    refine okC_if ?_
    simp [go_sem, hA, hz1, hY, f, g, hlo]
    first | refine gC_dec (fun k => ?_) (fun k => ?_) | refine gC_ndec (fun k => ?_) (fun k => ?_) | refine gC_of (fun k => ?_) (fun k => ?_)
    ·try simp at k
     refine okC_rg good ?_
     simp [go_sem, hA, hz1, hY, f, g, hlo]
     repeat (with_reducible refine And.intro ?_ ?_; first | omega | assumption | (simp only [inI]; omega))
     refine okC_ret ?_
     simp [go_sem, hA, hz1, hY, f, g, hlo]
     simp [entOr, hrd, k]
    ·try simp at k
     refine okC_skip ?_
     refine okC_df good [(2, [71, 2]), (3, [3, 72, 9]), (4, [4])] [(2, .val (dI 0)), (3, .own (.bx true (oBat []))), (4, .val (dB false)), (7, .val (dI (getI A))), (9, .own (.bx true (oBat l)))] [] rfl (by decide) (by kernel_rfl) (by simp [go_sem, hA, hz1, hY, f, g, hlo]) ?_
     simp [go_sem, hA, hz1, hY, f, g, hlo]
     repeat (with_reducible refine And.intro ?_ ?_; first | omega | assumption | (simp only [inI]; omega))
     refine okC_ret ?_
     simp [go_sem, hA, hz1, hY, f, g, hlo]
     simp [entOr, hrd, k]
end Go.Proofs.YtfhfidecmdhkoaaGreatDoor

end
section
set_option maxRecDepth 10000
namespace Go.Proofs.YtfhfidecmdhkoaaGreatDoor
open Go.Dv Go.Pl
def scanAt (s : Str) (out : List (List Opn)) (used i : Nat) : Prop :=
 scan s = (out ++ (scanL out.length (lineGo ((s.drop used).take (i - used)) (s.drop i))).1, used + (scanL out.length (lineGo ((s.drop used).take (i - used)) (s.drop i))).2)
theorem scanAt_start {s : Str} (h : s.length ≤ 6000) : scanAt s [] 0 0 := by
 unfold scanAt scan lines
 rw [if_pos h]
 simp
theorem scanAt_skip {s : Str} {out : List (List Opn)} {used i : Nat} {c : UInt8} (hu : used ≤ i) (h : scanAt s out used i) (hc : s[i]? = some c) (hn : c ≠ 10) : scanAt s out used (i + 1) := by
 unfold scanAt at h ⊢
 have he : (s.drop used).take (i + 1 - used) = (s.drop used).take (i - used) ++ [c] := by
  rw [show i + 1 - used = (i - used) + 1 by omega]
  exact take_snoc (by rw [List.getElem?_drop, show used + (i - used) = i by omega]; exact hc)
 rw [drop_atS hc, lineGo, if_neg hn] at h
 rw [he]
 exact h
theorem scanAt_no {s x : Str} {out : List (List Opn)} {used i : Nat} (hu : used ≤ i) (h : scanAt s out used i) (hc : s[i]? = some 10) (hx : (s.drop used).take (i + 1 - used) = x) (hn : ∀ v b, readEnt x = some (v, b) → v ≠ (out.length : Int) + 1) : scan s = (out, used) := by
 unfold scanAt at h
 have he : (s.drop used).take (i + 1 - used) = (s.drop used).take (i - used) ++ [10] := by
  rw [show i + 1 - used = (i - used) + 1 by omega]
  exact take_snoc (by rw [List.getElem?_drop, show used + (i - used) = i by omega]; exact hc)
 rw [drop_atS hc, lineGo, if_pos rfl, ← he, hx, scanL_no hn] at h
 simpa using h
theorem scanAt_yes {s x : Str} {out : List (List Opn)} {used i : Nat} {v : Int} {b : List Opn} (hu : used ≤ i) (h : scanAt s out used i) (hc : s[i]? = some 10) (hx : (s.drop used).take (i + 1 - used) = x) (hr : readEnt x = some (v, b)) (hv : v = (out.length : Int) + 1) : scanAt s (out ++ [b]) (i + 1) (i + 1) := by
 unfold scanAt at h ⊢
 have hi := getElem?_lt hc
 have he : (s.drop used).take (i + 1 - used) = (s.drop used).take (i - used) ++ [10] := by
  rw [show i + 1 - used = (i - used) + 1 by omega]
  exact take_snoc (by rw [List.getElem?_drop, show used + (i - used) = i by omega]; exact hc)
 have hxl : x.length = i + 1 - used := by rw [← hx, List.length_take, List.length_drop]; omega
 rw [drop_atS hc, lineGo, if_pos rfl, ← he, hx, scanL_some hr hv] at h
 rw [h]
 simp only [List.append_assoc, List.singleton_append, List.length_append, List.length_cons, List.length_nil, Nat.sub_self, List.take_zero, Nat.zero_add]
 congr 1
 omega
theorem scanAt_end {s : Str} {out : List (List Opn)} {used i : Nat} (h : scanAt s out used i) (hi : s.length ≤ i) (hn : (10 : UInt8) ∉ (s.drop used).take (i - used)) : scan s = (out, used) := by
 unfold scanAt at h
 rw [List.drop_of_length_le hi, scanL_open hn] at h
 simpa using h
theorem scan_fin {s : Str} {out : List (List Opn)} {u i : Nat} (h4 : s.length ≤ 6000 → scanAt s out u i) (h5 : s.length ≤ 6000 ∨ out = [] ∧ u = 0) (hi : s.length ≤ i) (hn : (10 : UInt8) ∉ (s.drop u).take (i - u)) : scan s = (out, u) := by
 by_cases h : s.length ≤ 6000
 ·exact scanAt_end (h4 h) hi hn
 ·obtain ⟨rfl, rfl⟩ := h5.resolve_left h
  unfold scan; rw [if_neg h]
theorem fn_spec_ScanLog (s : Str) (hs : s.length ≤ 1048576) : FnOk Tryz.prog 11 [dS s] (fun res' => res' = .tup [.own (oBats (scan s).1), .val (dI (scan s).2)]) := by
 refine fn_of good (rs := [.tmp 2, .tmp 3]) Tryz.func11 rfl Tryz.ntmps11 (by decide) (by simp) rfl fun w0 ow0 => ?_
 refine okC_rg good ?_
 simp [go_sem]
 repeat (with_reducible refine And.intro ?_ ?_; first | omega | assumption | (simp only [inI]; omega))
 refine okC_rg good ?_
 simp [go_sem]
 repeat (with_reducible refine And.intro ?_ ?_; first | omega | assumption | (simp only [inI]; omega))
 refine okC_rg good ?_
 simp [go_sem]
 repeat (with_reducible refine And.intro ?_ ?_; first | omega | assumption | (simp only [inI]; omega))
 refine okC_seq ?_
 refine okC_rg good ?_
 simp [go_sem]
 repeat (with_reducible refine And.intro ?_ ?_; first | omega | assumption | (simp only [inI]; omega))
 refine okC_block ?_
 refine okC_rounds (fun (x' : (Nat) × (Nat) × (List (List Opn))) => match x' with | (i, u, out) => [(0, .val (dS s)), (4, .own (oBats out)), (5, .val (dI u)), (6, .val (dI i))]) (fun (x' : (Nat) × (Nat) × (List (List Opn))) => match x' with | (i, u, out) => s.length - i) (fun (x' : (Nat) × (Nat) × (List (List Opn))) => match x' with | (i, u, out) => (i ≤ s.length) ∧ (u ≤ i) ∧ (out.length ≤ i) ∧ (s.length ≤ 6000 → scanAt s out u i) ∧ (s.length ≤ 6000 ∨ out = [] ∧ u = 0) ∧ ((10 : UInt8) ∉ (s.drop u).take (i - u))) ((0, 0, [])) [] ⟨(by omega), (by omega), (by simp), (scanAt_start), (by (by_cases h : s.length ≤ 6000 <;> simp [h])), (by simp)⟩ (by simp [go_sem]) ?_
 rintro ⟨i, u, out⟩ ⟨h1, h2, h3, h4, h5, h6⟩ K1 hK1
 simp only at h1 h2 h3 h4 h5 h6 ⊢
 refine okC_seq ?_
 refine okC_rg good ?_
 simp [go_sem]
 repeat (with_reducible refine And.intro ?_ ?_; first | omega | assumption | (simp only [inI]; omega))
 first | refine gI_dec (fun a => ?_) (fun a => ?_) | refine gI_ndec (fun a => ?_) (fun a => ?_) | refine gI_of (fun a => ?_) (fun a => ?_)
 ·have a' := a; try simp at a'
  simp [go_sem, a]
  repeat (with_reducible refine And.intro ?_ ?_; first | omega | assumption | (simp only [inI]; omega))
  refine okC_if ?_
  simp [go_sem, a]
  first | refine gC_dec (fun e => ?_) (fun e => ?_) | refine gC_ndec (fun e => ?_) (fun e => ?_) | refine gC_of (fun e => ?_) (fun e => ?_)
  ·try simp at e
   refine okC_skip ?_
   refine okC_seq ?_
   refine okC_block ?_
   refine okC_seq ?_
   have h6k : s.length ≤ 6000 := by omega
   have hsa := h4 h6k
   obtain ⟨c, hc⟩ := at_of (l := s) (i := i) (by simpa using a)
   have hcz := ba_at hc
   refine okC_rg good ?_
   simp [go_sem, a, hcz]
   repeat (with_reducible refine And.intro ?_ ?_; first | omega | assumption | (simp only [inI]; omega))
   refine okC_if ?_
   simp [go_sem, a, hcz]
   first | refine gC_dec (fun b => ?_) (fun b => ?_) | refine gC_ndec (fun b => ?_) (fun b => ?_) | refine gC_of (fun b => ?_) (fun b => ?_)
   ·try simp at b
    refine okC_exit ?_
    have hcn : c ≠ 10 := fun e => b (by rw [e]; rfl)
    refine okC_rg1 good ?_
    simp [go_sem, a, hcz]
    repeat (with_reducible refine And.intro ?_ ?_; first | omega | assumption | (simp only [inI]; omega))
    refine normalE hK1 ⟨(i + 1, u, out), [], ⟨(by omega), (by omega), (by omega), (fun _ => scanAt_skip h2 hsa hc hcn), (.inl h6k), (by rw [show i + 1 - u = (i - u) + 1 by omega, take_snoc (c := c) (by rw [List.getElem?_drop, show u + (i - u) = i by omega]; exact hc)]; simp [h6]; exact fun e => hcn e.symm)⟩, (by show _ < _; first | omega | simp <;> omega), (by simp [go_sem, a, hcz])⟩
   ·try simp at b
    refine okC_skip ?_
    have hc10 : c = 10 := UInt8.toNat_inj.1 (by show c.toNat = 10; omega)
    subst hc10
    obtain ⟨x, hx⟩ : ∃ x, (s.drop u).take (i + 1 - u) = x := ⟨_, rfl⟩
    have hxl : x.length ≤ 6000 := by rw [← hx, List.length_take, List.length_drop]; omega
    refine okC_rg good ?_
    simp [go_sem, a, hcz, hx]
    repeat (with_reducible refine And.intro ?_ ?_; first | omega | assumption | (simp only [inI]; omega))
    first | refine callK_of (fn_spec_DecodeEntry x (by omega)) (by simp [go_sem]) ?_ | refine callK_fz (fn_spec_DecodeEntry x (by omega)) (by simp [go_sem]) (by simp [go_sem]) ?_
    simp [go_sem, a, hcz, hx]
    repeat (with_reducible refine And.intro ?_ ?_; first | omega | assumption | (simp only [inI]; omega))
    refine okC_seq ?_
    refine okC_rg good ?_
    simp [go_sem, a, hcz, hx]
    repeat (with_reducible refine And.intro ?_ ?_; first | omega | assumption | (simp only [inI]; omega))
    first | refine gI_dec (fun f => ?_) (fun f => ?_) | refine gI_ndec (fun f => ?_) (fun f => ?_) | refine gI_of (fun f => ?_) (fun f => ?_)
    ·have f' := f; try simp at f'
     simp [go_sem, a, hcz, hx, f]
     repeat (with_reducible refine And.intro ?_ ?_; first | omega | assumption | (simp only [inI]; omega))
     refine okC_if ?_
     simp [go_sem, a, hcz, hx, f]
     have hrd : scan s = (out, u) := scanAt_no h2 hsa hc hx (fun v b hr => by rw [hr] at f; simp at f)
     refine okC_rg good ?_
     simp [go_sem, a, hcz, hx, f]
     repeat (with_reducible refine And.intro ?_ ?_; first | omega | assumption | (simp only [inI]; omega))
     refine okC_ret (show K1 _ _ from retE hK1 ?_)
     simp [go_sem, a, hcz, hx, f]
     simp [hrd]
    ·have f' := f; try simp at f'
     obtain ⟨vb, hr⟩ := Option.isSome_iff_exists.1 (show (readEnt x).isSome = true by simpa using f)
     obtain ⟨v, bt⟩ := vb
     have ho : entOr x = (v, bt) := by rw [entOr, hr]; rfl
     simp [go_sem, a, hcz, hx, f, ho]
     repeat (with_reducible refine And.intro ?_ ?_; first | omega | assumption | (simp only [inI]; omega))
     refine okC_if ?_
     simp [go_sem, a, hcz, hx, f, ho]
     first | refine gC_dec (fun g => ?_) (fun g => ?_) | refine gC_ndec (fun g => ?_) (fun g => ?_) | refine gC_of (fun g => ?_) (fun g => ?_)
     ·try simp at g
      have hrd : scan s = (out, u) := scanAt_no h2 hsa hc hx (fun v' b' hr' => by rw [hr] at hr'; obtain ⟨rfl, rfl⟩ := Prod.mk.inj (Option.some.inj hr'); exact g)
      refine okC_rg good ?_
      simp [go_sem, a, hcz, hx, f, ho]
      repeat (with_reducible refine And.intro ?_ ?_; first | omega | assumption | (simp only [inI]; omega))
      refine okC_ret (show K1 _ _ from retE hK1 ?_)
      simp [go_sem, a, hcz, hx, f, ho]
      simp [hrd]
     ·try simp at g
      refine okC_skip ?_
      refine okC_rg good ?_
      simp [go_sem, a, hcz, hx, f, ho]
      repeat (with_reducible refine And.intro ?_ ?_; first | omega | assumption | (simp only [inI]; omega))
      refine okC_rg1 good ?_
      simp [go_sem, a, hcz, hx, f, ho]
      repeat (with_reducible refine And.intro ?_ ?_; first | omega | assumption | (simp only [inI]; omega))
      refine okC_rg1 good ?_
      simp [go_sem, a, hcz, hx, f, ho]
      repeat (with_reducible refine And.intro ?_ ?_; first | omega | assumption | (simp only [inI]; omega))
      refine normalE hK1 ⟨(i + 1, i + 1, out ++ [bt]), [], ⟨(by omega), (by omega), (by simp; omega), (fun _ => scanAt_yes h2 hsa hc hx hr g), (.inl h6k), (by simp)⟩, (by show _ < _; first | omega | simp <;> omega), (by simp [go_sem, a, hcz, hx, f, ho])⟩
  ·try simp at e
   refine okC_exit (show K1 _ _ from exitE hK1 ?_)
   have hrd : scan s = (out, u) := by obtain ⟨rfl, rfl⟩ := h5.resolve_left (by omega); unfold scan; rw [if_neg (by omega)]
   refine okC_rg good ?_
   simp [go_sem, a]
   repeat (with_reducible refine And.intro ?_ ?_; first | omega | assumption | (simp only [inI]; omega))
   refine okC_ret ?_
   simp [go_sem, a]
   simp [hrd]
 ·have a' := a; try simp at a'
  simp [go_sem, a]
  repeat (with_reducible refine And.intro ?_ ?_; first | omega | assumption | (simp only [inI]; omega))
  refine okC_if ?_
  simp [go_sem, a]
  refine okC_exit (show K1 _ _ from exitE hK1 ?_)
  have hrd : scan s = (out, u) := scan_fin h4 h5 (by simpa using a) h6
  refine okC_rg good ?_
  simp [go_sem, a]
  repeat (with_reducible refine And.intro ?_ ?_; first | omega | assumption | (simp only [inI]; omega))
  refine okC_ret ?_
  simp [go_sem, a]
  simp [hrd]
theorem fn_spec_AppendEntry (s : Str) (l : List Opn) (hs : s.length ≤ 1048576) (hb : smallB l) : FnOk Tryz.prog 7 [dS s, nBat l] (fun res' => res' = .tup [.val (dS (appLog s l).1), .val (dB (appLog s l).2)]) := by
 refine fn_of good (rs := [.tmp 4, .tmp 5]) Tryz.func7 rfl Tryz.ntmps7 (by decide) (by simp) rfl fun w0 ow0 => ?_
 have hsl := scan_len s
 have hel := entStr_len ((scan s).1.length + 1) l
 obtain ⟨E, hE⟩ : ∃ E, entStr ((scan s).1.length + 1) l = E := ⟨_, rfl⟩
 have ha : appLog s l = if (scan s).2 ≠ s.length ∨ E = [] ∨ s.length + E.length > 6000 then (s, false) else (s ++ E, true) := by rw [appLog, hE]
 rw [hE] at hel
 refine okC_rg good ?_
 simp [go_sem]
 repeat (with_reducible refine And.intro ?_ ?_; first | omega | assumption | (simp only [inI]; omega))
 refine okC_rg good ?_
 simp [go_sem]
 repeat (with_reducible refine And.intro ?_ ?_; first | omega | assumption | (simp only [inI]; omega))
 first | refine callK_of (fn_spec_ScanLog s hs) (by simp [go_sem]) ?_ | refine callK_fz (fn_spec_ScanLog s hs) (by simp [go_sem]) (by simp [go_sem]) ?_
 simp [go_sem]
 repeat (with_reducible refine And.intro ?_ ?_; first | omega | assumption | (simp only [inI]; omega))
 refine okC_rg good ?_
 simp [go_sem]
 repeat (with_reducible refine And.intro ?_ ?_; first | omega | assumption | (simp only [inI]; omega))
 first | refine callK_of (fn_spec_EncodeEntry ((scan s).1.length + 1) l hb) (by simp [go_sem]) ?_ | refine callK_fz (fn_spec_EncodeEntry ((scan s).1.length + 1) l hb) (by simp [go_sem]) (by simp [go_sem]) ?_
 simp [go_sem]
 repeat (with_reducible refine And.intro ?_ ?_; first | omega | assumption | (simp only [inI]; omega))
 refine okC_seq ?_
 refine okC_rg good ?_
 simp [go_sem, hE]
 repeat (with_reducible refine And.intro ?_ ?_; first | omega | assumption | (simp only [inI]; omega))
 first | refine gI_dec (fun f => ?_) (fun f => ?_) | refine gI_ndec (fun f => ?_) (fun f => ?_) | refine gI_of (fun f => ?_) (fun f => ?_)
 ·have f' := f; try simp at f'
  simp [go_sem, hE, f]
  repeat (with_reducible refine And.intro ?_ ?_; first | omega | assumption | (simp only [inI]; omega))
  refine okC_if ?_
  simp [go_sem, hE, f]
  refine okC_rg good ?_
  simp [go_sem, hE, f]
  repeat (with_reducible refine And.intro ?_ ?_; first | omega | assumption | (simp only [inI]; omega))
  refine okC_ret ?_
  simp [go_sem, hE, f]
  rw [ha, if_pos (.inl (by omega))]; exact ⟨rfl, rfl⟩
 ·have f' := f; try simp at f'
  simp [go_sem, hE, f]
  repeat (with_reducible refine And.intro ?_ ?_; first | omega | assumption | (simp only [inI]; omega))
  first | refine gI_dec (fun g => ?_) (fun g => ?_) | refine gI_ndec (fun g => ?_) (fun g => ?_) | refine gI_of (fun g => ?_) (fun g => ?_)
  ·have g' := g; try simp at g'
   simp [go_sem, hE, f, g]
   repeat (with_reducible refine And.intro ?_ ?_; first | omega | assumption | (simp only [inI]; omega))
   refine okC_if ?_
   simp [go_sem, hE, f, g]
   refine okC_rg good ?_
   simp [go_sem, hE, f, g]
   repeat (with_reducible refine And.intro ?_ ?_; first | omega | assumption | (simp only [inI]; omega))
   refine okC_ret ?_
   simp [go_sem, hE, f, g]
   rw [ha, if_pos (.inr (.inl (by simpa using g)))]; exact ⟨rfl, rfl⟩
  ·have g' := g; try simp at g'
   simp [go_sem, hE, f, g]
   repeat (with_reducible refine And.intro ?_ ?_; first | omega | assumption | (simp only [inI]; omega))
   refine okC_if ?_
   simp [go_sem, hE, f, g]
   first | refine gC_dec (fun k => ?_) (fun k => ?_) | refine gC_ndec (fun k => ?_) (fun k => ?_) | refine gC_of (fun k => ?_) (fun k => ?_)
   ·try simp at k
    refine okC_rg good ?_
    simp [go_sem, hE, f, g]
    repeat (with_reducible refine And.intro ?_ ?_; first | omega | assumption | (simp only [inI]; omega))
    refine okC_ret ?_
    simp [go_sem, hE, f, g]
    rw [ha, if_pos (.inr (.inr (by omega)))]; exact ⟨rfl, rfl⟩
   ·try simp at k
    refine okC_skip ?_
    refine okC_rg good ?_
    simp [go_sem, hE, f, g]
    repeat (with_reducible refine And.intro ?_ ?_; first | omega | assumption | (simp only [inI]; omega))
    refine okC_ret ?_
    simp [go_sem, hE, f, g]
    rw [ha, if_neg (by rintro (h | h | h); (omega); (exact g h); omega)]; exact ⟨rfl, rfl⟩
end Go.Proofs.YtfhfidecmdhkoaaGreatDoor

end
section
namespace Go.Proofs
open Go.Shelf
def Tryz.lays156_ren : Go.Shelf.Ren := ⟨fun | 156 => 73 | 165 => 109 | 166 => 110 | 169 => 111 | 240 => 146 | 241 => 147 | 276 => 175 | 277 => 176 | n => n, fun | 31 => 75 | 9 => 9 | 3 => 3 | 4 => 4 | 0 => 0 | 20 => 20 | 72 => 128 | 76 => 104 | 70 => 126 | 37 => 40 | 75 => 103 | 127 => 153 | 164 => 171 | 5 => 5 | 80 => 130 | n => n, fun | n => n⟩
theorem Tryz.lays156 : Go.Proofs.Lays.n156 Tryz.prog Tryz.lays156_ren := {
  mixed := by kernel_rfl
  f156 := Tryz.func73.trans (congrArg some (by kernel_rfl))
  f165 := Tryz.func109.trans (congrArg some (by kernel_rfl))
  f166 := Tryz.func110.trans (congrArg some (by kernel_rfl))
  f169 := Tryz.func111.trans (congrArg some (by kernel_rfl))
  f240 := Tryz.func146.trans (congrArg some (by kernel_rfl))
  f241 := Tryz.func147.trans (congrArg some (by kernel_rfl))
  f276 := Tryz.func175.trans (congrArg some (by kernel_rfl))
  f277 := Tryz.func176.trans (congrArg some (by kernel_rfl))
  t0 := Tryz.underlying0
  a0 := Tryz.isAgg0
  z0 := Tryz.sizeOf0
  v0 := Tryz.zeroValue0
  t3 := Tryz.underlying3
  a3 := Tryz.isAgg3
  z3 := Tryz.sizeOf3
  v3 := Tryz.zeroValue3
  t4 := Tryz.underlying4
  a4 := Tryz.isAgg4
  z4 := Tryz.sizeOf4
  v4 := Tryz.zeroValue4
  t9 := Tryz.underlying9
  a9 := Tryz.isAgg9
  z9 := Tryz.sizeOf9
  v9 := Tryz.zeroValue9
  t20 := Tryz.underlying20
  a20 := Tryz.isAgg20
  z20 := Tryz.sizeOf20
  v20 := Tryz.zeroValue20
  t31 := Tryz.underlying75
  a31 := Tryz.isAgg75
  z31 := Tryz.sizeOf75
  v31 := Tryz.zeroValue75
  t37 := Tryz.underlying40
  a37 := Tryz.isAgg40
  z37 := Tryz.sizeOf40
  v37 := Tryz.zeroValue40
  t70 := Tryz.underlying126
  a70 := Tryz.isAgg126
  z70 := Tryz.sizeOf126
  v70 := Tryz.zeroValue126
  t72 := Tryz.underlying128
  a72 := Tryz.isAgg128
  z72 := Tryz.sizeOf128
  v72 := Tryz.zeroValue128
  t75 := Tryz.underlying103
  a75 := Tryz.isAgg103
  z75 := Tryz.sizeOf103
  v75 := Tryz.zeroValue103
  t76 := Tryz.underlying104
  a76 := Tryz.isAgg104
  z76 := Tryz.sizeOf104
  v76 := Tryz.zeroValue104
  t127 := Tryz.underlying153
  a127 := Tryz.isAgg153
  z127 := Tryz.sizeOf153
  v127 := Tryz.zeroValue153
  t164 := Tryz.underlying171
  a164 := Tryz.isAgg171
  z164 := Tryz.sizeOf171
  v164 := Tryz.zeroValue171 }
theorem Tryz.Builder_Extra_156 : Builder.Extra Tryz.prog Tryz.lays156_ren := {
  sizeBuilder := by kernel_rfl
  liesBuilder := by kernel_rfl
  t5 := Tryz.underlying5
  a5 := Tryz.isAgg5
  z5 := Tryz.sizeOf5
  v5 := Tryz.zeroValue5
  infoByte := by kernel_rfl
  cellsByte := by kernel_rfl
  sizeByte := by kernel_rfl
  neB5 := by decide }
open Go.RowKit in
theorem Tryz.strings_Join_none (a : Option Addr) (c : Nat) (sep : ByteArray) (w : World) :
    Calls Tryz.prog 73 #[.slice a 0 c, .string sep] w fun e w' => e = .returned (.string ⟨#[]⟩) ∧ w' = w := Any.strings_Join_none Tryz.lays156 Tryz.Builder_Extra_156 a c sep w
open Go.RowKit in
theorem Tryz.strings_Join (bk o c : Nat) (xs : List ByteArray) (sep : ByteArray) (w : World) (hcells : ∀ (j : Nat) x, xs[j]? = some x → w.cell? ⟨bk, o + j, none⟩ = some (.string x)) (hbk : bk < w.heap.size) (hN : xs.length ≤ 140737488355328) (hcap : xs.length ≤ c) (hlen : (Lib.join (xs.map (·.data.toList)) sep.data.toList).length ≤ 140737488355328) :
    Calls Tryz.prog 73 #[.slice (some ⟨bk, o, none⟩) xs.length c, .string sep] w fun e w' => e = .returned (.string ⟨(Lib.join (xs.map (·.data.toList)) sep.data.toList).toArray⟩) ∧ Below w.heap.size w w' := Any.strings_Join Tryz.lays156 Tryz.Builder_Extra_156 bk o c xs sep w hcells hbk hN hcap hlen
def Tryz.lays137_ren : Go.Shelf.Ren := ⟨fun | 137 => 42 | 217 => 74 | 266 => 112 | n => n, fun | 9 => 9 | 5 => 5 | 3 => 3 | n => n, fun | n => n⟩
theorem Tryz.lays137 : Go.Proofs.Lays.n137 Tryz.prog Tryz.lays137_ren := {
  mixed := by kernel_rfl
  f137 := Tryz.func42.trans (congrArg some (by kernel_rfl))
  f217 := Tryz.func74.trans (congrArg some (by kernel_rfl))
  f266 := Tryz.func112.trans (congrArg some (by kernel_rfl))
  t3 := Tryz.underlying3
  a3 := Tryz.isAgg3
  z3 := Tryz.sizeOf3
  v3 := Tryz.zeroValue3
  t5 := Tryz.underlying5
  a5 := Tryz.isAgg5
  z5 := Tryz.sizeOf5
  v5 := Tryz.zeroValue5
  t9 := Tryz.underlying9
  a9 := Tryz.isAgg9
  z9 := Tryz.sizeOf9
  v9 := Tryz.zeroValue9 }
open Go.RowKit in
theorem Tryz.strings_IndexByte (s : ByteArray) (c : Int) (w : World) :
    Calls Tryz.prog 42 #[.string s, .int .u8 c] w fun e w' => e = .returned (.int .i64 (Lib.indexByte s.data.toList c.toNat.toUInt8)) ∧ w' = w := Any.strings_IndexByte Tryz.lays137 s c w
def Tryz.laysM171_ren : Go.Shelf.Ren := ⟨fun | 171 => 71 | 243 => 105 | 246 => 145 | 283 => 171 | 284 => 172 | 285 => 173 | 286 => 174 | 129 => 191 | 317 => 190 | 318 => 192 | 319 => 193 | 320 => 194 | 337 => 202 | 338 => 203 | n => n, fun | 3 => 3 | 9 => 9 | 2 => 2 | 4 => 4 | 171 => 165 | 0 => 0 | 53 => 166 | 37 => 40 | 5 => 5 | 173 => 169 | 212 => 190 | 51 => 191 | 20 => 20 | 213 => 192 | 46 => 144 | 232 => 207 | 233 => 208 | n => n, fun | 17 => 3 | 18 => 6 | 19 => 7 | n => n⟩
theorem Tryz.laysM171 : Go.Proofs.LaysM.n171 Tryz.prog Tryz.laysM171_ren := {
  mixed := by kernel_rfl
  f129 := Tryz.func191.trans (congrArg some (by kernel_rfl))
  f171 := Tryz.func71.trans (congrArg some (by kernel_rfl))
  f243 := Tryz.func105.trans (congrArg some (by kernel_rfl))
  f246 := Tryz.func145.trans (congrArg some (by kernel_rfl))
  f283 := Tryz.func171.trans (congrArg some (by kernel_rfl))
  f284 := Tryz.func172.trans (congrArg some (by kernel_rfl))
  f285 := Tryz.func173.trans (congrArg some (by kernel_rfl))
  f286 := Tryz.func174.trans (congrArg some (by kernel_rfl))
  f317 := Tryz.func190.trans (congrArg some (by kernel_rfl))
  f318 := Tryz.func192.trans (congrArg some (by kernel_rfl))
  f319 := Tryz.func193.trans (congrArg some (by kernel_rfl))
  f320 := Tryz.func194.trans (congrArg some (by kernel_rfl))
  f337 := Tryz.func202.trans (congrArg some (by kernel_rfl))
  f338 := Tryz.func203.trans (congrArg some (by kernel_rfl))
  t0 := Tryz.underlying0
  a0 := Tryz.isAgg0
  z0 := Tryz.sizeOf0
  v0 := Tryz.zeroValue0
  t2 := Tryz.underlying2
  a2 := Tryz.isAgg2
  z2 := Tryz.sizeOf2
  v2 := Tryz.zeroValue2
  t3 := Tryz.underlying3
  a3 := Tryz.isAgg3
  z3 := Tryz.sizeOf3
  v3 := Tryz.zeroValue3
  t4 := Tryz.underlying4
  a4 := Tryz.isAgg4
  z4 := Tryz.sizeOf4
  v4 := Tryz.zeroValue4
  t5 := Tryz.underlying5
  a5 := Tryz.isAgg5
  z5 := Tryz.sizeOf5
  v5 := Tryz.zeroValue5
  t9 := Tryz.underlying9
  a9 := Tryz.isAgg9
  z9 := Tryz.sizeOf9
  v9 := Tryz.zeroValue9
  t20 := Tryz.underlying20
  a20 := Tryz.isAgg20
  z20 := Tryz.sizeOf20
  v20 := Tryz.zeroValue20
  t37 := Tryz.underlying40
  a37 := Tryz.isAgg40
  z37 := Tryz.sizeOf40
  v37 := Tryz.zeroValue40
  t46 := Tryz.underlying144
  a46 := Tryz.isAgg144
  z46 := Tryz.sizeOf144
  v46 := Tryz.zeroValue144
  t51 := Tryz.underlying191
  a51 := Tryz.isAgg191
  z51 := Tryz.sizeOf191
  v51 := Tryz.zeroValue191
  t53 := Tryz.underlying166
  a53 := Tryz.isAgg166
  z53 := Tryz.sizeOf166
  v53 := Tryz.zeroValue166
  t171 := Tryz.underlying165
  a171 := Tryz.isAgg165
  z171 := Tryz.sizeOf165
  v171 := Tryz.zeroValue165
  t173 := Tryz.underlying169
  a173 := Tryz.isAgg169
  z173 := Tryz.sizeOf169
  v173 := Tryz.zeroValue169
  t212 := Tryz.underlying190
  a212 := Tryz.isAgg190
  z212 := Tryz.sizeOf190
  v212 := Tryz.zeroValue190
  t213 := Tryz.underlying192
  a213 := Tryz.isAgg192
  z213 := Tryz.sizeOf192
  t232 := Tryz.underlying207
  a232 := Tryz.isAgg207
  z232 := Tryz.sizeOf207
  v232 := Tryz.zeroValue207
  t233 := Tryz.underlying208
  a233 := Tryz.isAgg208
  z233 := Tryz.sizeOf208
  v233 := Tryz.zeroValue208
  g17 := by kernel_rfl
  g18 := by kernel_rfl
  g19 := by kernel_rfl
  i0 := by kernel_rfl
  i2 := by kernel_rfl
  i3 := by kernel_rfl
  i4 := by kernel_rfl
  i5 := by kernel_rfl
  i9 := by kernel_rfl
  i20 := by kernel_rfl
  i37 := by kernel_rfl
  i46 := by kernel_rfl
  i51 := by kernel_rfl
  i53 := by kernel_rfl
  i171 := by kernel_rfl
  i173 := by kernel_rfl
  i212 := by kernel_rfl
  i232 := by kernel_rfl
  i233 := by kernel_rfl
  m17 := by kernel_rfl
  m18 := by kernel_rfl
  m19 := by kernel_rfl }
open Go.RowKit Go.Sort Go.Lib in
theorem Tryz.strconv_Itoa (n : Int) (h0 : -9223372036854775808 ≤ n) (h1 : n ≤ 9223372036854775807) (w : World) (htab : Lib.TabIs Tryz.prog w "internal/strconv.uint64pow10" .u64 Lib.pow10Tab) :
    Calls Tryz.prog 71 #[.int .i64 n] w fun e w' => e = .returned (.string ⟨(Lib.itoa n).toArray⟩) ∧ ∃ k os, w' = grow (w.drewN k) os := Any.strconv_Itoa Tryz.laysM171 n h0 h1 w htab
def Tryz.laysC172_ren : Go.Shelf.Ren := ⟨fun | 172 => 76 | 244 => 113 | 245 => 114 | 247 => 148 | 279 => 149 | 280 => 150 | 281 => 151 | 282 => 152 | 287 => 177 | 316 => 178 | 171 => 71 | 205 => 179 | 321 => 195 | 322 => 196 | 243 => 105 | 246 => 145 | 283 => 171 | 284 => 172 | 285 => 173 | 286 => 174 | 129 => 191 | 317 => 190 | 318 => 192 | 319 => 193 | 320 => 194 | 337 => 202 | 338 => 203 | n => n, fun | 9 => 9 | 3 => 3 | 75 => 103 | 76 => 104 | 4 => 4 | 5 => 5 | 167 => 154 | 37 => 40 | 0 => 0 | 85 => 155 | 2 => 2 | 168 => 157 | 53 => 166 | 175 => 174 | 46 => 144 | 210 => 178 | 127 => 153 | 145 => 197 | 143 => 195 | 21 => 21 | 171 => 165 | 173 => 169 | 212 => 190 | 51 => 191 | 20 => 20 | 213 => 192 | 232 => 207 | 233 => 208 | 80 => 130 | n => n, fun | 15 => 1 | 16 => 2 | 17 => 3 | 18 => 6 | 19 => 7 | n => n⟩
theorem Tryz.laysC172 : Go.Proofs.LaysC.n172 Tryz.prog Tryz.laysC172_ren := {
  mixed := by kernel_rfl
  f129 := Tryz.func191.trans (congrArg some (by kernel_rfl))
  f171 := Tryz.func71.trans (congrArg some (by kernel_rfl))
  f172 := Tryz.func76.trans (congrArg some (by kernel_rfl))
  f205 := Tryz.func179.trans (congrArg some (by kernel_rfl))
  f243 := Tryz.func105.trans (congrArg some (by kernel_rfl))
  f244 := Tryz.func113.trans (congrArg some (by kernel_rfl))
  f245 := Tryz.func114.trans (congrArg some (by kernel_rfl))
  f246 := Tryz.func145.trans (congrArg some (by kernel_rfl))
  f247 := Tryz.func148.trans (congrArg some (by kernel_rfl))
  f279 := Tryz.func149.trans (congrArg some (by kernel_rfl))
  f280 := Tryz.func150.trans (congrArg some (by kernel_rfl))
  f281 := Tryz.func151.trans (congrArg some (by kernel_rfl))
  f282 := Tryz.func152.trans (congrArg some (by kernel_rfl))
  f283 := Tryz.func171.trans (congrArg some (by kernel_rfl))
  f284 := Tryz.func172.trans (congrArg some (by kernel_rfl))
  f285 := Tryz.func173.trans (congrArg some (by kernel_rfl))
  f286 := Tryz.func174.trans (congrArg some (by kernel_rfl))
  f287 := Tryz.func177.trans (congrArg some (by kernel_rfl))
  f316 := Tryz.func178.trans (congrArg some (by kernel_rfl))
  f317 := Tryz.func190.trans (congrArg some (by kernel_rfl))
  f318 := Tryz.func192.trans (congrArg some (by kernel_rfl))
  f319 := Tryz.func193.trans (congrArg some (by kernel_rfl))
  f320 := Tryz.func194.trans (congrArg some (by kernel_rfl))
  f321 := Tryz.func195.trans (congrArg some (by kernel_rfl))
  f322 := Tryz.func196.trans (congrArg some (by kernel_rfl))
  f337 := Tryz.func202.trans (congrArg some (by kernel_rfl))
  f338 := Tryz.func203.trans (congrArg some (by kernel_rfl))
  t0 := Tryz.underlying0
  a0 := Tryz.isAgg0
  z0 := Tryz.sizeOf0
  v0 := Tryz.zeroValue0
  t2 := Tryz.underlying2
  a2 := Tryz.isAgg2
  z2 := Tryz.sizeOf2
  v2 := Tryz.zeroValue2
  t3 := Tryz.underlying3
  a3 := Tryz.isAgg3
  z3 := Tryz.sizeOf3
  v3 := Tryz.zeroValue3
  t4 := Tryz.underlying4
  a4 := Tryz.isAgg4
  z4 := Tryz.sizeOf4
  v4 := Tryz.zeroValue4
  t5 := Tryz.underlying5
  a5 := Tryz.isAgg5
  z5 := Tryz.sizeOf5
  v5 := Tryz.zeroValue5
  t9 := Tryz.underlying9
  a9 := Tryz.isAgg9
  z9 := Tryz.sizeOf9
  v9 := Tryz.zeroValue9
  t20 := Tryz.underlying20
  a20 := Tryz.isAgg20
  z20 := Tryz.sizeOf20
  v20 := Tryz.zeroValue20
  t21 := Tryz.underlying21
  a21 := Tryz.isAgg21
  z21 := Tryz.sizeOf21
  v21 := Tryz.zeroValue21
  t37 := Tryz.underlying40
  a37 := Tryz.isAgg40
  z37 := Tryz.sizeOf40
  v37 := Tryz.zeroValue40
  t46 := Tryz.underlying144
  a46 := Tryz.isAgg144
  z46 := Tryz.sizeOf144
  v46 := Tryz.zeroValue144
  t51 := Tryz.underlying191
  a51 := Tryz.isAgg191
  z51 := Tryz.sizeOf191
  v51 := Tryz.zeroValue191
  t53 := Tryz.underlying166
  a53 := Tryz.isAgg166
  z53 := Tryz.sizeOf166
  v53 := Tryz.zeroValue166
  t75 := Tryz.underlying103
  a75 := Tryz.isAgg103
  z75 := Tryz.sizeOf103
  v75 := Tryz.zeroValue103
  t76 := Tryz.underlying104
  a76 := Tryz.isAgg104
  z76 := Tryz.sizeOf104
  v76 := Tryz.zeroValue104
  t85 := Tryz.underlying155
  a85 := Tryz.isAgg155
  z85 := Tryz.sizeOf155
  v85 := Tryz.zeroValue155
  t127 := Tryz.underlying153
  a127 := Tryz.isAgg153
  z127 := Tryz.sizeOf153
  v127 := Tryz.zeroValue153
  t143 := Tryz.underlying195
  a143 := Tryz.isAgg195
  z143 := Tryz.sizeOf195
  v143 := Tryz.zeroValue195
  t145 := Tryz.underlying197
  a145 := Tryz.isAgg197
  z145 := Tryz.sizeOf197
  v145 := Tryz.zeroValue197
  t167 := Tryz.underlying154
  a167 := Tryz.isAgg154
  z167 := Tryz.sizeOf154
  v167 := Tryz.zeroValue154
  t168 := Tryz.underlying157
  a168 := Tryz.isAgg157
  z168 := Tryz.sizeOf157
  v168 := Tryz.zeroValue157
  t171 := Tryz.underlying165
  a171 := Tryz.isAgg165
  z171 := Tryz.sizeOf165
  v171 := Tryz.zeroValue165
  t173 := Tryz.underlying169
  a173 := Tryz.isAgg169
  z173 := Tryz.sizeOf169
  v173 := Tryz.zeroValue169
  t175 := Tryz.underlying174
  a175 := Tryz.isAgg174
  z175 := Tryz.sizeOf174
  v175 := Tryz.zeroValue174
  t210 := Tryz.underlying178
  a210 := Tryz.isAgg178
  z210 := Tryz.sizeOf178
  v210 := Tryz.zeroValue178
  t212 := Tryz.underlying190
  a212 := Tryz.isAgg190
  z212 := Tryz.sizeOf190
  v212 := Tryz.zeroValue190
  t213 := Tryz.underlying192
  a213 := Tryz.isAgg192
  z213 := Tryz.sizeOf192
  t232 := Tryz.underlying207
  a232 := Tryz.isAgg207
  z232 := Tryz.sizeOf207
  v232 := Tryz.zeroValue207
  t233 := Tryz.underlying208
  a233 := Tryz.isAgg208
  z233 := Tryz.sizeOf208
  v233 := Tryz.zeroValue208
  g15 := by kernel_rfl
  g16 := by kernel_rfl
  g17 := by kernel_rfl
  g18 := by kernel_rfl
  g19 := by kernel_rfl
  t80 := Tryz.underlying130
  a80 := Tryz.isAgg130
  z80 := Tryz.sizeOf130
  v80 := Tryz.zeroValue130
  i0 := by kernel_rfl
  i2 := by kernel_rfl
  i3 := by kernel_rfl
  i4 := by kernel_rfl
  i5 := by kernel_rfl
  i9 := by kernel_rfl
  i20 := by kernel_rfl
  i21 := by kernel_rfl
  i37 := by kernel_rfl
  i46 := by kernel_rfl
  i51 := by kernel_rfl
  i53 := by kernel_rfl
  i75 := by kernel_rfl
  i76 := by kernel_rfl
  i80 := by kernel_rfl
  i85 := by kernel_rfl
  i127 := by kernel_rfl
  i143 := by kernel_rfl
  i145 := by kernel_rfl
  i167 := by kernel_rfl
  i168 := by kernel_rfl
  i171 := by kernel_rfl
  i173 := by kernel_rfl
  i175 := by kernel_rfl
  i210 := by kernel_rfl
  i212 := by kernel_rfl
  i232 := by kernel_rfl
  i233 := by kernel_rfl
  m15 := by kernel_rfl
  m16 := by kernel_rfl
  m17 := by kernel_rfl
  m18 := by kernel_rfl
  m19 := by kernel_rfl
  c0 := by kernel_rfl
  c2 := by kernel_rfl
  c3 := by kernel_rfl
  c4 := by kernel_rfl
  c5 := by kernel_rfl
  c9 := by kernel_rfl
  c20 := by kernel_rfl
  c21 := by kernel_rfl
  c37 := by kernel_rfl
  c46 := by kernel_rfl
  c51 := by kernel_rfl
  c53 := by kernel_rfl
  c75 := by kernel_rfl
  c76 := by kernel_rfl
  c80 := by kernel_rfl
  c85 := by kernel_rfl
  c127 := by kernel_rfl
  c143 := by kernel_rfl
  c145 := by kernel_rfl
  c167 := by kernel_rfl
  c168 := by kernel_rfl
  c171 := by kernel_rfl
  c173 := by kernel_rfl
  c175 := by kernel_rfl
  c210 := by kernel_rfl
  c212 := by kernel_rfl
  c213 := by kernel_rfl
  c232 := by kernel_rfl
  c233 := by kernel_rfl }
open Go.RowKit in
theorem Tryz.strconv_Atoi_ok (s : ByteArray) (hmax : s.size ≤ 9223372036854775806) (v : Int) (h : Lib.atoiAll s.data.toList = .ok v) (w : World) :
    Calls Tryz.prog 76 #[.string s] w fun e w' => e = .returned (.tuple #[.int .i64 v, .nilIface]) ∧ (w' = w ∨ ∃ t, w' = Lib.bytesWorld w 5 t) := Any.strconv_Atoi_ok Tryz.laysC172 s hmax v h w
open Go.RowKit in
theorem Tryz.strconv_Atoi_syntax_var (s : ByteArray) (hlim : s.size ≤ 281474976710656) (h1 : ∀ v, Lib.atoiAll s.data.toList ≠ .ok v) (h2 : Lib.atoiAll s.data.toList ≠ .range) (tp : TypeId) (p : Value) (w : World) (hvar : w.var? Tryz.prog "strconv.ErrSyntax" = some #[.iface tp p]) :
    Calls Tryz.prog 76 #[.string s] w fun e w' => ∃ N, e = .returned (.tuple #[.int .i64 0, .iface 157 (.pointer (some ⟨N, 0, none⟩))]) ∧ w.heap.size ≤ N ∧ w'.heap[N]? = some (.cells #[.string ⟨#[65, 116, 111, 105]⟩, .string s, .iface tp p] 178 (0, 0)) ∧ Below w.heap.size w w' := by
  cases hx : Lib.atoiAll s.data.toList with
  | ok v => exact absurd hx (h1 v)
  | range => exact absurd hx h2
  | _ => exact Any.strconv_Atoi_syntax_var Tryz.laysC172 s hlim hx tp p w hvar
open Go.RowKit in
theorem Tryz.strconv_Atoi_range_var (s : ByteArray) (hlim : s.size ≤ 281474976710656) (h : Lib.atoiAll s.data.toList = .range) (tp : TypeId) (p : Value) (w : World) (hvar : w.var? Tryz.prog "strconv.ErrRange" = some #[.iface tp p]) :
    Calls Tryz.prog 76 #[.string s] w fun e w' => ∃ N, e = .returned (.tuple #[.int .i64 (Lib.atoiSat s.data.toList), .iface 157 (.pointer (some ⟨N, 0, none⟩))]) ∧ w.heap.size ≤ N ∧ w'.heap[N]? = some (.cells #[.string ⟨#[65, 116, 111, 105]⟩, .string s, .iface tp p] 178 (0, 0)) ∧ Below w.heap.size w w' := Any.strconv_Atoi_range_var Tryz.laysC172 s hlim h tp p w hvar
def Tryz.lays145_ren : Go.Shelf.Ren := ⟨fun | 145 => 118 | 220 => 158 | 219 => 183 | 217 => 74 | 225 => 198 | 224 => 199 | 267 => 200 | 266 => 112 | 314 => 204 | n => n, fun | 9 => 9 | 4 => 4 | 59 => 133 | 3 => 3 | 5 => 5 | 46 => 144 | 146 => 205 | 51 => 191 | n => n, fun | 1 => 0 | n => n⟩
theorem Tryz.lays145 : Go.Proofs.Lays.n145 Tryz.prog Tryz.lays145_ren := {
  mixed := by kernel_rfl
  f145 := Tryz.func118.trans (congrArg some (by kernel_rfl))
  f217 := Tryz.func74.trans (congrArg some (by kernel_rfl))
  f219 := Tryz.func183.trans (congrArg some (by kernel_rfl))
  f220 := Tryz.func158.trans (congrArg some (by kernel_rfl))
  f224 := Tryz.func199.trans (congrArg some (by kernel_rfl))
  f225 := Tryz.func198.trans (congrArg some (by kernel_rfl))
  f266 := Tryz.func112.trans (congrArg some (by kernel_rfl))
  f267 := Tryz.func200.trans (congrArg some (by kernel_rfl))
  f314 := Tryz.func204.trans (congrArg some (by kernel_rfl))
  t3 := Tryz.underlying3
  a3 := Tryz.isAgg3
  z3 := Tryz.sizeOf3
  v3 := Tryz.zeroValue3
  t4 := Tryz.underlying4
  a4 := Tryz.isAgg4
  z4 := Tryz.sizeOf4
  v4 := Tryz.zeroValue4
  t5 := Tryz.underlying5
  a5 := Tryz.isAgg5
  z5 := Tryz.sizeOf5
  v5 := Tryz.zeroValue5
  t9 := Tryz.underlying9
  a9 := Tryz.isAgg9
  z9 := Tryz.sizeOf9
  v9 := Tryz.zeroValue9
  t46 := Tryz.underlying144
  a46 := Tryz.isAgg144
  z46 := Tryz.sizeOf144
  v46 := Tryz.zeroValue144
  t51 := Tryz.underlying191
  a51 := Tryz.isAgg191
  z51 := Tryz.sizeOf191
  v51 := Tryz.zeroValue191
  t59 := Tryz.underlying133
  a59 := Tryz.isAgg133
  z59 := Tryz.sizeOf133
  v59 := Tryz.zeroValue133
  t146 := Tryz.underlying205
  a146 := Tryz.isAgg205
  z146 := Tryz.sizeOf205
  v146 := Tryz.zeroValue205
  g1 := by kernel_rfl }
open Go.RowKit Go.Lib in
theorem Tryz.strings_Cut (s sep : ByteArray) (m : Int) (w : World) (hs : s.size < 4294967281) (hm : w.cell? ⟨0, 0, none⟩ = some (.int .i64 m)) :
    Calls Tryz.prog 118 #[.string s, .string sep] w fun e w' => e = .returned (.tuple #[.string ⟨(Lib.cut s.data.toList sep.data.toList).1.toArray⟩, .string ⟨(Lib.cut s.data.toList sep.data.toList).2.1.toArray⟩, .bool (Lib.cut s.data.toList sep.data.toList).2.2]) ∧ ∃ n, w' = w.drewN n := Any.strings_Cut Tryz.lays145 s sep m w hs hm
def Tryz.lays149_ren : Go.Shelf.Ren := ⟨fun | 149 => 43 | 222 => 75 | n => n, fun | 9 => 9 | 5 => 5 | 3 => 3 | 4 => 4 | n => n, fun | n => n⟩
theorem Tryz.lays149 : Go.Proofs.Lays.n149 Tryz.prog Tryz.lays149_ren := {
  mixed := by kernel_rfl
  f149 := Tryz.func43.trans (congrArg some (by kernel_rfl))
  f222 := Tryz.func75.trans (congrArg some (by kernel_rfl))
  t3 := Tryz.underlying3
  a3 := Tryz.isAgg3
  z3 := Tryz.sizeOf3
  v3 := Tryz.zeroValue3
  t4 := Tryz.underlying4
  a4 := Tryz.isAgg4
  z4 := Tryz.sizeOf4
  v4 := Tryz.zeroValue4
  t5 := Tryz.underlying5
  a5 := Tryz.isAgg5
  z5 := Tryz.sizeOf5
  v5 := Tryz.zeroValue5
  t9 := Tryz.underlying9
  a9 := Tryz.isAgg9
  z9 := Tryz.sizeOf9
  v9 := Tryz.zeroValue9 }
open Go.RowKit Go.Lib in
theorem Tryz.strings_LastIndexByte (s : ByteArray) (c : Int) (hs : s.size < 4611686018427387904) (w : World) :
    Calls Tryz.prog 43 #[.string s, .int .u8 c] w fun e w' => e = .returned (.int .i64 (Lib.lastIndexByte s c)) ∧ w' = w := Any.strings_LastIndexByte Tryz.lays149 s c hs w
def Tryz.lays101_ren : Go.Shelf.Ren := ⟨fun | 101 => 79 | 208 => 117 | 206 => 157 | n => n, fun | 9 => 9 | 4 => 4 | 3 => 3 | n => n, fun | n => n⟩
theorem Tryz.lays101 : Go.Proofs.Lays.n101 Tryz.prog Tryz.lays101_ren := {
  mixed := by kernel_rfl
  f101 := Tryz.func79.trans (congrArg some (by kernel_rfl))
  f206 := Tryz.func157.trans (congrArg some (by kernel_rfl))
  f208 := Tryz.func117.trans (congrArg some (by kernel_rfl))
  t3 := Tryz.underlying3
  a3 := Tryz.isAgg3
  z3 := Tryz.sizeOf3
  v3 := Tryz.zeroValue3
  t4 := Tryz.underlying4
  a4 := Tryz.isAgg4
  z4 := Tryz.sizeOf4
  v4 := Tryz.zeroValue4
  t9 := Tryz.underlying9
  a9 := Tryz.isAgg9
  z9 := Tryz.sizeOf9
  v9 := Tryz.zeroValue9 }
open Go.RowKit Go.Lib in
theorem Tryz.strings_TrimPrefix (s p : ByteArray) (w : World) :
    Calls Tryz.prog 79 #[.string s, .string p] w fun e w' => e = .returned (.string ⟨(Lib.trimPrefix s.data.toList p.data.toList).toArray⟩) ∧ w' = w := Any.strings_TrimPrefix Tryz.lays101 s p w
def Tryz.lays102_ren : Go.Shelf.Ren := ⟨fun | 102 => 78 | 209 => 116 | 207 => 156 | n => n, fun | 9 => 9 | 4 => 4 | 3 => 3 | n => n, fun | n => n⟩
theorem Tryz.lays102 : Go.Proofs.Lays.n102 Tryz.prog Tryz.lays102_ren := {
  mixed := by kernel_rfl
  f102 := Tryz.func78.trans (congrArg some (by kernel_rfl))
  f207 := Tryz.func156.trans (congrArg some (by kernel_rfl))
  f209 := Tryz.func116.trans (congrArg some (by kernel_rfl))
  t3 := Tryz.underlying3
  a3 := Tryz.isAgg3
  z3 := Tryz.sizeOf3
  v3 := Tryz.zeroValue3
  t4 := Tryz.underlying4
  a4 := Tryz.isAgg4
  z4 := Tryz.sizeOf4
  v4 := Tryz.zeroValue4
  t9 := Tryz.underlying9
  a9 := Tryz.isAgg9
  z9 := Tryz.sizeOf9
  v9 := Tryz.zeroValue9 }
open Go.RowKit Go.Lib in
theorem Tryz.strings_TrimSuffix (s p : ByteArray) (w : World) (hs : s.size ≤ 9223372036854775807) :
    Calls Tryz.prog 78 #[.string s, .string p] w fun e w' => e = .returned (.string ⟨(Lib.trimSuffix s.data.toList p.data.toList).toArray⟩) ∧ w' = w := Any.strings_TrimSuffix Tryz.lays102 s p w hs
def Tryz.lays146_ren : Go.Shelf.Ren := ⟨fun | 146 => 77 | 221 => 115 | 268 => 153 | 138 => 154 | 143 => 155 | 195 => 180 | 197 => 181 | 218 => 182 | 219 => 183 | 260 => 197 | 217 => 74 | 225 => 198 | 224 => 199 | 267 => 200 | 266 => 112 | 314 => 204 | n => n, fun | 9 => 9 | 31 => 75 | 3 => 3 | 4 => 4 | 0 => 0 | 105 => 180 | 21 => 21 | 5 => 5 | 46 => 144 | 119 => 201 | 139 => 204 | 138 => 203 | 146 => 205 | 51 => 191 | n => n, fun | 1 => 0 | 3 => 4 | 4 => 5 | n => n⟩
theorem Tryz.lays146 : Go.Proofs.Lays.n146 Tryz.prog Tryz.lays146_ren := {
  mixed := by kernel_rfl
  f138 := Tryz.func154.trans (congrArg some (by kernel_rfl))
  f143 := Tryz.func155.trans (congrArg some (by kernel_rfl))
  f146 := Tryz.func77.trans (congrArg some (by kernel_rfl))
  f195 := Tryz.func180.trans (congrArg some (by kernel_rfl))
  f197 := Tryz.func181.trans (congrArg some (by kernel_rfl))
  f217 := Tryz.func74.trans (congrArg some (by kernel_rfl))
  f218 := Tryz.func182.trans (congrArg some (by kernel_rfl))
  f219 := Tryz.func183.trans (congrArg some (by kernel_rfl))
  f221 := Tryz.func115.trans (congrArg some (by kernel_rfl))
  f224 := Tryz.func199.trans (congrArg some (by kernel_rfl))
  f225 := Tryz.func198.trans (congrArg some (by kernel_rfl))
  f260 := Tryz.func197.trans (congrArg some (by kernel_rfl))
  f266 := Tryz.func112.trans (congrArg some (by kernel_rfl))
  f267 := Tryz.func200.trans (congrArg some (by kernel_rfl))
  f268 := Tryz.func153.trans (congrArg some (by kernel_rfl))
  f314 := Tryz.func204.trans (congrArg some (by kernel_rfl))
  t0 := Tryz.underlying0
  a0 := Tryz.isAgg0
  z0 := Tryz.sizeOf0
  v0 := Tryz.zeroValue0
  t3 := Tryz.underlying3
  a3 := Tryz.isAgg3
  z3 := Tryz.sizeOf3
  v3 := Tryz.zeroValue3
  t4 := Tryz.underlying4
  a4 := Tryz.isAgg4
  z4 := Tryz.sizeOf4
  v4 := Tryz.zeroValue4
  t5 := Tryz.underlying5
  a5 := Tryz.isAgg5
  z5 := Tryz.sizeOf5
  v5 := Tryz.zeroValue5
  t9 := Tryz.underlying9
  a9 := Tryz.isAgg9
  z9 := Tryz.sizeOf9
  v9 := Tryz.zeroValue9
  t21 := Tryz.underlying21
  a21 := Tryz.isAgg21
  z21 := Tryz.sizeOf21
  v21 := Tryz.zeroValue21
  t31 := Tryz.underlying75
  a31 := Tryz.isAgg75
  z31 := Tryz.sizeOf75
  v31 := Tryz.zeroValue75
  t46 := Tryz.underlying144
  a46 := Tryz.isAgg144
  z46 := Tryz.sizeOf144
  v46 := Tryz.zeroValue144
  t51 := Tryz.underlying191
  a51 := Tryz.isAgg191
  z51 := Tryz.sizeOf191
  v51 := Tryz.zeroValue191
  t105 := Tryz.underlying180
  a105 := Tryz.isAgg180
  z105 := Tryz.sizeOf180
  v105 := Tryz.zeroValue180
  t119 := Tryz.underlying201
  a119 := Tryz.isAgg201
  z119 := Tryz.sizeOf201
  t138 := Tryz.underlying203
  a138 := Tryz.isAgg203
  z138 := Tryz.sizeOf203
  v138 := Tryz.zeroValue203
  t139 := Tryz.underlying204
  a139 := Tryz.isAgg204
  z139 := Tryz.sizeOf204
  v139 := Tryz.zeroValue204
  t146 := Tryz.underlying205
  a146 := Tryz.isAgg205
  z146 := Tryz.sizeOf205
  v146 := Tryz.zeroValue205
  g1 := by kernel_rfl
  g3 := by kernel_rfl
  g4 := by kernel_rfl }
open Go.RowKit Go.Lib in
theorem Tryz.strings_Split (s sep : ByteArray) (m : Int) (w : World) (hs : s.size < 4294967281) (hm : w.cell? ⟨0, 0, none⟩ = some (.int .i64 m)) (h1 : 1 ≤ sep.size) :
    Calls Tryz.prog 77 #[.string s, .string sep] w fun e w' =>
      e = .returned (.slice (some ⟨w.heap.size, 0, none⟩) (Lib.countB s sep + 1) (Lib.countB s sep + 1)) ∧ w' = w.alloc (.cells ((Lib.splitB sep 0 (Lib.countB s sep) s).map Value.string).toArray 9) := Any.strings_Split Tryz.lays146 (by kernel_rfl) s sep m w hs hm h1
def Tryz.lays152_ren : Go.Shelf.Ren := ⟨fun | 152 => 184 | 137 => 42 | 119 => 201 | 224 => 199 | 225 => 198 | 217 => 74 | 266 => 112 | n => n, fun | 9 => 9 | 21 => 21 | 3 => 3 | 4 => 4 | 5 => 5 | 0 => 0 | 46 => 144 | n => n, fun | n => n⟩
theorem Tryz.lays152 : Go.Proofs.Lays.n152 Tryz.prog Tryz.lays152_ren := {
  mixed := by kernel_rfl
  f119 := Tryz.func201.trans (congrArg some (by kernel_rfl))
  f137 := Tryz.func42.trans (congrArg some (by kernel_rfl))
  f152 := Tryz.func184.trans (congrArg some (by kernel_rfl))
  f217 := Tryz.func74.trans (congrArg some (by kernel_rfl))
  f224 := Tryz.func199.trans (congrArg some (by kernel_rfl))
  f225 := Tryz.func198.trans (congrArg some (by kernel_rfl))
  f266 := Tryz.func112.trans (congrArg some (by kernel_rfl))
  t0 := Tryz.underlying0
  a0 := Tryz.isAgg0
  z0 := Tryz.sizeOf0
  v0 := Tryz.zeroValue0
  t3 := Tryz.underlying3
  a3 := Tryz.isAgg3
  z3 := Tryz.sizeOf3
  v3 := Tryz.zeroValue3
  t4 := Tryz.underlying4
  a4 := Tryz.isAgg4
  z4 := Tryz.sizeOf4
  v4 := Tryz.zeroValue4
  t5 := Tryz.underlying5
  a5 := Tryz.isAgg5
  z5 := Tryz.sizeOf5
  v5 := Tryz.zeroValue5
  t9 := Tryz.underlying9
  a9 := Tryz.isAgg9
  z9 := Tryz.sizeOf9
  v9 := Tryz.zeroValue9
  t21 := Tryz.underlying21
  a21 := Tryz.isAgg21
  z21 := Tryz.sizeOf21
  v21 := Tryz.zeroValue21
  t46 := Tryz.underlying144
  a46 := Tryz.isAgg144
  z46 := Tryz.sizeOf144
  v46 := Tryz.zeroValue144 }
open Go.RowKit Go.Lib in
theorem Tryz.strings_IndexRune_ascii (s : ByteArray) (r : Int) (w : World) (h0 : 0 ≤ r) (h1 : r < 128) :
    Calls Tryz.prog 184 #[.string s, .int .i32 r] w fun e w' => e = .returned (.int .i64 (Lib.indexByte s.data.toList r.toNat.toUInt8)) ∧ w' = w := Any.strings_IndexRune_ascii Tryz.lays152 s r w h0 h1
def Tryz.lays226_ren : Go.Shelf.Ren := ⟨fun | 226 => 185 | n => n, fun | 3 => 3 | 4 => 4 | n => n, fun | n => n⟩
theorem Tryz.lays226 : Go.Proofs.Lays.n226 Tryz.prog Tryz.lays226_ren := {
  mixed := by kernel_rfl
  f226 := Tryz.func185.trans (congrArg some (by kernel_rfl))
  t3 := Tryz.underlying3
  a3 := Tryz.isAgg3
  z3 := Tryz.sizeOf3
  v3 := Tryz.zeroValue3
  t4 := Tryz.underlying4
  a4 := Tryz.isAgg4
  z4 := Tryz.sizeOf4
  v4 := Tryz.zeroValue4 }
open Go.RowKit Go.Lib in
theorem Tryz.strings_shouldUseASCIISet (n : Int) (w : World) :
    Calls Tryz.prog 185 #[.int .i64 n] w fun e w' => e = .returned (.bool (decide (8 < n))) ∧ w' = w := Any.strings_shouldUseASCIISet Tryz.lays226 n w
def Tryz.lays153_ren : Go.Shelf.Ren := ⟨fun | 153 => 160 | 152 => 184 | 226 => 185 | 227 => 186 | 228 => 187 | 137 => 42 | 119 => 201 | 224 => 199 | 225 => 198 | 217 => 74 | 266 => 112 | n => n, fun | 9 => 9 | 3 => 3 | 4 => 4 | 5 => 5 | 21 => 21 | 117 => 185 | 116 => 184 | 0 => 0 | 46 => 144 | 124 => 199 | n => n, fun | n => n⟩
theorem Tryz.lays153 : Go.Proofs.Lays.n153 Tryz.prog Tryz.lays153_ren := {
  mixed := by kernel_rfl
  f119 := Tryz.func201.trans (congrArg some (by kernel_rfl))
  f137 := Tryz.func42.trans (congrArg some (by kernel_rfl))
  f152 := Tryz.func184.trans (congrArg some (by kernel_rfl))
  f153 := Tryz.func160.trans (congrArg some (by kernel_rfl))
  f217 := Tryz.func74.trans (congrArg some (by kernel_rfl))
  f224 := Tryz.func199.trans (congrArg some (by kernel_rfl))
  f225 := Tryz.func198.trans (congrArg some (by kernel_rfl))
  f226 := Tryz.func185.trans (congrArg some (by kernel_rfl))
  f227 := Tryz.func186.trans (congrArg some (by kernel_rfl))
  f228 := Tryz.func187.trans (congrArg some (by kernel_rfl))
  f266 := Tryz.func112.trans (congrArg some (by kernel_rfl))
  t0 := Tryz.underlying0
  a0 := Tryz.isAgg0
  z0 := Tryz.sizeOf0
  v0 := Tryz.zeroValue0
  t3 := Tryz.underlying3
  a3 := Tryz.isAgg3
  z3 := Tryz.sizeOf3
  v3 := Tryz.zeroValue3
  t4 := Tryz.underlying4
  a4 := Tryz.isAgg4
  z4 := Tryz.sizeOf4
  v4 := Tryz.zeroValue4
  t5 := Tryz.underlying5
  a5 := Tryz.isAgg5
  z5 := Tryz.sizeOf5
  v5 := Tryz.zeroValue5
  t9 := Tryz.underlying9
  a9 := Tryz.isAgg9
  z9 := Tryz.sizeOf9
  v9 := Tryz.zeroValue9
  t21 := Tryz.underlying21
  a21 := Tryz.isAgg21
  z21 := Tryz.sizeOf21
  v21 := Tryz.zeroValue21
  t46 := Tryz.underlying144
  a46 := Tryz.isAgg144
  z46 := Tryz.sizeOf144
  v46 := Tryz.zeroValue144
  t116 := Tryz.underlying184
  a116 := Tryz.isAgg184
  z116 := Tryz.sizeOf184
  t117 := Tryz.underlying185
  a117 := Tryz.isAgg185
  z117 := Tryz.sizeOf185
  v117 := Tryz.zeroValue185
  t124 := Tryz.underlying199
  a124 := Tryz.isAgg199
  z124 := Tryz.sizeOf199
  v124 := Tryz.zeroValue199 }
open Go.RowKit Go.Lib in
theorem Tryz.strings_IndexAny_long (hv116 : ∀ w, (zeroValue 184).run Tryz.prog w = .ok (.agg (Array.replicate 256 (.bool false))) w) (s chars : ByteArray) (w : World) (h2 : 2 ≤ chars.size) (h8 : 8 < s.size) (hs : s.size < 4294967281) (hcs : chars.size < 4294967281) (hascii : ∀ (j : Nat) b, chars.data.toList[j]? = some b → b.toNat < 128) :
    Calls Tryz.prog 160 #[.string s, .string chars] w fun e w' => e = .returned (.int .i64 (Lib.indexAny s.data.toList chars.data.toList)) ∧ w' = ((w.alloc (.cells (Lib.setCells chars.data.toList) 184)).alloc (.cells (Lib.setCells chars.data.toList) 184)) := Any.strings_IndexAny_long Tryz.lays153 hv116 (by kernel_rfl) s chars w h2 h8 hs hcs hascii
def Tryz.lays150_ren : Go.Shelf.Ren := ⟨fun | 150 => 170 | 153 => 160 | 152 => 184 | 226 => 185 | 227 => 186 | 228 => 187 | 137 => 42 | 119 => 201 | 224 => 199 | 225 => 198 | 217 => 74 | 266 => 112 | n => n, fun | 9 => 9 | 4 => 4 | 3 => 3 | 5 => 5 | 21 => 21 | 117 => 185 | 116 => 184 | 0 => 0 | 46 => 144 | 124 => 199 | n => n, fun | n => n⟩
theorem Tryz.lays150 : Go.Proofs.Lays.n150 Tryz.prog Tryz.lays150_ren := {
  mixed := by kernel_rfl
  f119 := Tryz.func201.trans (congrArg some (by kernel_rfl))
  f137 := Tryz.func42.trans (congrArg some (by kernel_rfl))
  f150 := Tryz.func170.trans (congrArg some (by kernel_rfl))
  f152 := Tryz.func184.trans (congrArg some (by kernel_rfl))
  f153 := Tryz.func160.trans (congrArg some (by kernel_rfl))
  f217 := Tryz.func74.trans (congrArg some (by kernel_rfl))
  f224 := Tryz.func199.trans (congrArg some (by kernel_rfl))
  f225 := Tryz.func198.trans (congrArg some (by kernel_rfl))
  f226 := Tryz.func185.trans (congrArg some (by kernel_rfl))
  f227 := Tryz.func186.trans (congrArg some (by kernel_rfl))
  f228 := Tryz.func187.trans (congrArg some (by kernel_rfl))
  f266 := Tryz.func112.trans (congrArg some (by kernel_rfl))
  t0 := Tryz.underlying0
  a0 := Tryz.isAgg0
  z0 := Tryz.sizeOf0
  v0 := Tryz.zeroValue0
  t3 := Tryz.underlying3
  a3 := Tryz.isAgg3
  z3 := Tryz.sizeOf3
  v3 := Tryz.zeroValue3
  t4 := Tryz.underlying4
  a4 := Tryz.isAgg4
  z4 := Tryz.sizeOf4
  v4 := Tryz.zeroValue4
  t5 := Tryz.underlying5
  a5 := Tryz.isAgg5
  z5 := Tryz.sizeOf5
  v5 := Tryz.zeroValue5
  t9 := Tryz.underlying9
  a9 := Tryz.isAgg9
  z9 := Tryz.sizeOf9
  v9 := Tryz.zeroValue9
  t21 := Tryz.underlying21
  a21 := Tryz.isAgg21
  z21 := Tryz.sizeOf21
  v21 := Tryz.zeroValue21
  t46 := Tryz.underlying144
  a46 := Tryz.isAgg144
  z46 := Tryz.sizeOf144
  v46 := Tryz.zeroValue144
  t116 := Tryz.underlying184
  a116 := Tryz.isAgg184
  z116 := Tryz.sizeOf184
  t117 := Tryz.underlying185
  a117 := Tryz.isAgg185
  z117 := Tryz.sizeOf185
  v117 := Tryz.zeroValue185
  t124 := Tryz.underlying199
  a124 := Tryz.isAgg199
  z124 := Tryz.sizeOf199
  v124 := Tryz.zeroValue199 }
open Go.RowKit Go.Lib in
theorem Tryz.strings_IndexAny_laid (s chars : ByteArray) (w : World) (hs : s.size < 4294967281) (hcs : chars.size < 4294967281) (has : ∀ (j : Nat) b, s.data.toList[j]? = some b → b.toNat < 128) (hac : ∀ (j : Nat) b, chars.data.toList[j]? = some b → b.toNat < 128) :
    Calls Tryz.prog 160 #[.string s, .string chars] w fun e w' => e = .returned (.int .i64 (Lib.indexAny s.data.toList chars.data.toList)) ∧ Below w.heap.size w w' := Any.strings_IndexAny_laid Tryz.lays153 (by kernel_rfl) s chars w hs hcs has hac
open Go.RowKit Go.Lib in
theorem Tryz.strings_ContainsAny_laid (s chars : ByteArray) (w : World) (hs : s.size < 4294967281) (hcs : chars.size < 4294967281) (has : ∀ (j : Nat) b, s.data.toList[j]? = some b → b.toNat < 128) (hac : ∀ (j : Nat) b, chars.data.toList[j]? = some b → b.toNat < 128) :
    Calls Tryz.prog 170 #[.string s, .string chars] w fun e w' => e = .returned (.bool (Lib.containsAny s.data.toList chars.data.toList)) ∧ Below w.heap.size w w' := Any.strings_ContainsAny_laid Tryz.lays150 (by kernel_rfl) s chars w hs hcs has hac
end Go.Proofs

end
section
namespace Go.Pl
open Go.Dv
theorem decDigits_eq (u : Nat) : Lib.decDigits u = if u = 0 then [48] else natDec u := by
  induction u using Nat.strongRecOn with
  | ind u ih =>
    rw [Lib.decDigits]
    split
    · rename_i h
      by_cases h0 : u = 0
      · subst h0; rfl
      · rw [if_neg h0, natDec_pos h0, show u / 10 = 0 by omega, natDec_zero, Nat.mod_eq_of_lt h]; rfl
    · rename_i h
      rw [ih (u / 10) (by omega), if_neg (by omega), if_neg (by omega), natDec_pos (m := u) (by omega)]
theorem itoa_eq (n : Int) : Lib.itoa n = fmtI n := by
  unfold Lib.itoa fmtI
  by_cases h0 : n = 0
  · subst h0; rw [if_neg (by omega), if_pos rfl, decDigits_eq]; rfl
  · rw [if_neg h0]
    by_cases hn : n < 0
    · rw [if_pos hn, if_pos hn, decDigits_eq, if_neg (by omega)]; rfl
    · rw [if_neg hn, if_neg hn, decDigits_eq, if_neg (by omega), show n.toNat = n.natAbs by omega]; rfl
theorem indexByte_eq (c : UInt8) : ∀ s : Str, Lib.indexByte s c = if c ∈ s then ((s.takeWhile fun d => decide (d ≠ c)).length : Int) else -1
  | [] => rfl
  | b :: l => by
    unfold Lib.indexByte
    rw [indexByte_eq c l]
    by_cases h : b = c
    · subst h; simp
    · have hb : ¬ (b == c) = true := by simpa using h
      have hmem : c ∈ b :: l ↔ c ∈ l := ⟨fun e => (List.mem_cons.1 e).resolve_left (fun e => h e.symm), fun e => List.mem_cons_of_mem _ e⟩
      rw [if_neg hb, List.takeWhile_cons_of_pos (by simpa using h)]
      by_cases hm : c ∈ l
      · rw [if_pos hm, if_pos (hmem.2 hm), if_neg (by rw [beq_iff_eq]; omega), List.length_cons]; omega
      · rw [if_neg hm, if_neg (fun e => hm (hmem.1 e))]; rfl
theorem bef_split {c : UInt8} : ∀ {s : Str}, c ∈ s → s = bef c s ++ c :: aft c s ∧ c ∉ bef c s
  | [], h => by cases h
  | d :: s, h => by
    by_cases hd : d = c
    · subst hd; simp [bef, aft]
    · have ih := bef_split (s := s) ((List.mem_cons.1 h).resolve_left (fun e => hd e.symm))
      unfold bef aft at ih ⊢
      rw [List.takeWhile_cons_of_pos (by simpa using hd), List.dropWhile_cons_of_pos (by simpa using hd)]
      refine ⟨by rw [List.cons_append, ← ih.1], fun hm => ?_⟩
      rcases List.mem_cons.1 hm with e | hm
      · exact hd e.symm
      · exact ih.2 hm
theorem take_bef {c : UInt8} {s : Str} (h : c ∈ s) : s.take (s.takeWhile fun d => decide (d ≠ c)).length = bef c s ∧ s.drop ((s.takeWhile fun d => decide (d ≠ c)).length + 1) = aft c s := by
  have hs := (bef_split h).1
  have hb : (s.takeWhile fun d => decide (d ≠ c)) = bef c s := rfl
  rw [hb]
  constructor
  · conv => lhs; rw [hs]
    rw [show bef c (bef c s ++ c :: aft c s) = bef c s by rw [← hs]]
    simp
  · conv => lhs; rw [hs]
    rw [show bef c (bef c s ++ c :: aft c s) = bef c s by rw [← hs], List.drop_append, List.drop_of_length_le (by omega), show (bef c s).length + 1 - (bef c s).length = 1 by omega]
    simp
theorem lib_cut (c : UInt8) (s : Str) : Lib.cut s [c] = (bef c s, aft c s, decide (c ∈ s)) := by
  unfold Lib.cut
  rw [Lib.index_one, indexByte_eq]
  by_cases h : c ∈ s
  · have ht := take_bef h
    rw [if_pos h, if_pos (by omega)]
    simp only [Int.toNat_natCast, List.length_singleton, ht.1, ht.2, h, decide_true]
  · rw [if_neg h, if_neg (by omega), (bef_no h).1, (bef_no h).2, decide_eq_false h]
theorem cutS_bef {c : UInt8} {s : Str} (h : c ∈ s) : cutS c s = bef c s :: cutS c (aft c s) := by
  have hs := bef_split h
  conv => lhs; rw [hs.1]
  exact cutS_at hs.2
theorem splitK_eq (c : UInt8) : ∀ (n : Nat) (s : Str), s.count c = n → Lib.splitK [c] 0 n s = cutS c s
  | 0, s, h => by rw [cutS_no (List.count_eq_zero.1 h)]; rfl
  | n + 1, s, h => by
    have hm : c ∈ s := List.count_pos_iff.1 (by omega)
    have ht := take_bef hm
    unfold Lib.splitK
    rw [Lib.index_one, indexByte_eq, if_pos hm, if_neg (by rw [beq_iff_eq]; omega), cutS_bef hm]
    simp only [Int.toNat_natCast, List.length_singleton, Nat.add_zero, ht.1, ht.2]
    rw [splitK_eq c n (aft c s)]
    have hs := bef_split hm
    have h2 : (bef c s ++ c :: aft c s).count c = n + 1 := by rw [← hs.1]; exact h
    rw [List.count_append, List.count_eq_zero.2 hs.2, List.count_cons_self] at h2
    omega
theorem trimL_eq (c : UInt8) (s : Str) : Lib.trimPrefix s [c] = trimL c s := by
  unfold Lib.trimPrefix Lib.hasPrefix trimL
  cases s with
  | nil => simp
  | cons d s =>
    by_cases h : c = d
    · subst h; simp
    · have h2 : ¬ d = c := fun e => h e.symm
      simp [h, h2]
theorem trimR_eq (c : UInt8) (s : Str) : Lib.trimSuffix s [c] = trimR c s := by
  unfold Lib.trimSuffix Lib.hasSuffix trimR
  rcases List.eq_nil_or_concat s with rfl | ⟨t, d, rfl⟩
  · simp
  · rw [List.concat_eq_append]
    have e : ([c].isSuffixOf (t ++ [d])) = decide (c = d) := by
      by_cases h : c = d
      · subst h; simp [List.isSuffixOf_iff_suffix]
      · have h2 : ¬ [c] <:+ t ++ [d] := fun hs => h (by
          obtain ⟨p, hp⟩ := hs
          have := congrArg List.getLast? hp
          simpa using this)
        have : ([c].isSuffixOf (t ++ [d])) ≠ true := fun e => h2 (List.isSuffixOf_iff_suffix.1 e)
        simp [h, this]
    rw [e]
    by_cases h : c = d
    · subst h; simp
    · rw [if_neg (by simpa using h), if_neg]
      simp only [List.getLast?_append, List.getLast?_singleton, Option.some_or, Option.some.injEq]
      exact fun e => h e.symm
theorem indexAny_eq : ∀ s : Str, Lib.indexAny s [61, 33] = if signAt s < s.length then (signAt s : Int) else -1
  | [] => rfl
  | b :: l => by
    unfold Lib.indexAny
    rw [indexAny_eq l]
    unfold signAt
    by_cases h : b = 61 ∨ b = 33
    · rw [if_pos (by simpa using h), List.takeWhile_cons_of_neg (by simp; intro h2; exact h.resolve_left h2)]; simp
    · have h' : b ≠ 61 ∧ b ≠ 33 := ⟨fun e => h (.inl e), fun e => h (.inr e)⟩
      rw [if_neg (by simpa using h'), List.takeWhile_cons_of_pos (by simpa using h')]
      simp only [List.length_cons]
      by_cases h1 : (l.takeWhile fun c => decide (c ≠ 61 ∧ c ≠ 33)).length < l.length
      · rw [if_pos h1, if_neg (by rw [beq_iff_eq]; omega), if_pos (by omega)]; omega
      · rw [if_neg h1, if_neg (show ¬ ((l.takeWhile fun c => decide (c ≠ 61 ∧ c ≠ 33)).length + 1 < l.length + 1) by omega)]; rfl
theorem containsAny_eq : ∀ s : Str, Lib.containsAny s [124, 59] = !s.all fieldB
  | [] => rfl
  | b :: l => by
    have ih := containsAny_eq l
    unfold Lib.containsAny at ih ⊢
    have hge := Lib.indexAny_ge [124, 59] l
    unfold Lib.indexAny
    have hb : fieldB b = !(decide (b = 124) || decide (b = 59)) := by
      unfold fieldB
      have e1 : (b.toNat = 124) ↔ b = 124 := ⟨fun h => UInt8.toNat_inj.1 h, fun h => by rw [h]; rfl⟩
      have e2 : (b.toNat = 59) ↔ b = 59 := ⟨fun h => UInt8.toNat_inj.1 h, fun h => by rw [h]; rfl⟩
      simp only [e1, e2]
    simp only [List.all_cons, hb]
    by_cases h : b = 124 ∨ b = 59
    · rw [if_pos (by simpa using h)]
      rcases h with h | h <;> simp [h]
    · have h' : b ≠ 124 ∧ b ≠ 59 := ⟨fun e => h (.inl e), fun e => h (.inr e)⟩
      rw [if_neg (by simpa using h')]
      simp only [h'.1, h'.2, decide_false, Bool.or_self, Bool.not_false, Bool.true_and]
      rw [← ih]
      split
      · rename_i h1
        have : Lib.indexAny l [124, 59] = -1 := by simpa using h1
        rw [this]
      · rename_i h1
        have : Lib.indexAny l [124, 59] ≠ -1 := by simpa using h1
        simp; omega
theorem decFrom_snoc : ∀ (l : Str) (acc n : Nat) (m : Nat), Lib.decFrom acc l = some n → Lib.decFrom acc (l ++ [UInt8.ofNat (48 + m % 10)]) = some (n * 10 + m % 10)
  | [], acc, n, m, h => by
    obtain rfl : acc = n := by simpa [Lib.decFrom] using h
    have hd := (digB_of m).2
    have hv : Lib.digitVal (UInt8.ofNat (48 + m % 10)) = some (m % 10) := by
      unfold Lib.digitVal
      rw [hd, if_pos (by omega)]
      congr 1; omega
    simp only [List.nil_append, Lib.decFrom, hv]
  | c :: l, acc, n, m, h => by
    simp only [List.cons_append, Lib.decFrom] at h ⊢
    cases hc : Lib.digitVal c with
    | none => rw [hc] at h; cases h
    | some d => rw [hc] at h; exact decFrom_snoc l _ n m h
theorem decFrom_natDec (u : Nat) : Lib.decFrom 0 (natDec u) = some u := by
  induction u using Nat.strongRecOn with
  | ind u ih =>
    by_cases h0 : u = 0
    · subst h0; rw [natDec_zero]; rfl
    · rw [natDec_pos h0, decFrom_snoc _ _ _ u (ih (u / 10) (by omega))]
      congr 1; omega
theorem decNat_natDec {u : Nat} (h : u ≠ 0) : Lib.decNat (natDec u) = some u := by
  unfold Lib.decNat
  rw [if_neg (by simpa using natDec_ne h), decFrom_natDec]
theorem atoi_fmt {n : Int} (h : -999999999 ≤ n ∧ n ≤ 999999999) : Lib.atoiAll (fmtI n) = .ok n := by
  have hl := natDec_len n.natAbs 9 (by omega)
  have hlen : (fmtI n).length ≤ 18 := by
    unfold fmtI; split
    · simp
    · rw [List.length_append]; split <;> simp <;> omega
  rw [Lib.atoiAll_short _ hlen]
  have : Lib.atoi (fmtI n) = some n := by
    by_cases h0 : n = 0
    · subst h0; rfl
    · by_cases hn : n < 0
      · have hf : fmtI n = 45 :: natDec n.natAbs := by rw [fmtI, if_neg h0, if_pos hn]; rfl
        rw [hf, Lib.atoi, if_pos (by rfl), decNat_natDec (by omega), Option.map_some]
        congr 1; omega
      · have hf : fmtI n = natDec n.natAbs := by rw [fmtI, if_neg h0, if_neg hn]; rfl
        rw [hf]
        have hd := decNat_natDec (u := n.natAbs) (by omega)
        cases hx : natDec n.natAbs with
        | nil => exact absurd hx (natDec_ne (by omega))
        | cons c r =>
          have hc := natDec_dig n.natAbs c (by rw [hx]; simp)
          have h1 : ¬ (c == 45) = true := fun e => absurd ((show c = 45 by simpa using e) ▸ hc).1 (by decide)
          have h2 : ¬ (c == 43) = true := fun e => absurd ((show c = 43 by simpa using e) ▸ hc).1 (by decide)
          rw [Lib.atoi, if_neg h1, if_neg h2, ← hx, hd, Option.map_some]
          congr 1; omega
  rw [this]; rfl
theorem lib_join (c : UInt8) : ∀ l : List Str, Lib.join l [c] = joinC c l
  | [] => rfl
  | [x] => Lib.join_one x [c]
  | x :: y :: l => by
    have ih := lib_join c (y :: l)
    rw [Lib.join_cons] at ih ⊢
    rw [joinC_cons (by simp), ← ih]
    simp [Lib.joinTail]
theorem lastIx_eq (s : Str) : Lib.lastIndexByte ⟨s.toArray⟩ 93 = lst93 s := by
  have hb := lst93_in s
  have hget : ∀ j : Nat, j < s.length → ∃ c, s[j]? = some c ∧ (s.toArray[j]! : UInt8) = c := fun j hj => ⟨s[j], by simp [hj], by simp [hj]⟩
  rcases Lib.lastIndexByte_spec ⟨s.toArray⟩ 93 with ⟨h1, h2⟩ | ⟨i, hi, h1, h2, h3⟩
  · rw [h1]
    by_cases h0 : 0 ≤ lst93 s
    · have := lst93_hit h0
      have hlt := getElem?_lt this
      obtain ⟨c, hc, hc2⟩ := hget _ hlt
      have h4 := h2 (lst93 s).toNat (by simpa [ByteArray.size] using hlt)
      rw [this] at hc
      obtain rfl := Option.some.inj hc
      exact absurd (by simp only [hc2]; rfl) h4
    · omega
  · have hi' : i < s.length := by simpa [ByteArray.size] using hi
    rw [h1]
    obtain ⟨c, hc, hc2⟩ := hget i hi'
    simp only [hc2] at h2
    have hc93 : c = 93 := UInt8.toNat_inj.1 (by show c.toNat = 93; omega)
    rw [hc93] at hc
    have hge := lst93_ge hc
    rcases Int.lt_or_eq_of_le hge with hlt | he
    · have h5 := lst93_hit (s := s) (by omega)
      have hlt2 := getElem?_lt h5
      obtain ⟨d, hd, hd2⟩ := hget _ hlt2
      have h4 := h3 (lst93 s).toNat (by omega) (by simpa [ByteArray.size] using hlt2)
      rw [h5] at hd
      obtain rfl := Option.some.inj hd
      exact absurd (by simp only [hd2]; rfl) h4
    · exact he
theorem idx4_eq (c : UInt8) : Lib.indexByte [97, 98, 99, 100] c = idx4 c := by
  by_cases h1 : c = 97
  · subst h1; rfl
  · by_cases h2 : c = 98
    · subst h2; rfl
    · by_cases h3 : c = 99
      · subst h3; rfl
      · by_cases h4 : c = 100
        · subst h4; rfl
        · have hn : ¬ (97 ≤ c.toNat ∧ c.toNat ≤ 100) := fun h => by
            have h5 : c.toNat = 97 ∨ c.toNat = 98 ∨ c.toNat = 99 ∨ c.toNat = 100 := by omega
            rcases h5 with e | e | e | e
            · exact h1 (UInt8.toNat_inj.1 e)
            · exact h2 (UInt8.toNat_inj.1 e)
            · exact h3 (UInt8.toNat_inj.1 e)
            · exact h4 (UInt8.toNat_inj.1 e)
          rw [indexByte_eq, if_neg (by simp [h1, h2, h3, h4]), idx4, if_neg hn]
end Go.Pl

end
section
set_option maxRecDepth 10000
namespace Go.Proofs.YtfhfidecmdhkoaaGreatDoor
open Go.Dv Go.Pl Go.RowKit
theorem arg_one {w : World} {ow : Own} {u v : Value} (h : V Tryz.prog w ow (D.fz (.one u)) [] v) : v = u := by
 simp only [D.fz, V, R] at h
 simpa using h.1
theorem args_1 {w : World} {ow : Own} {vs : Array Value} {u : Value} (hs : vs.size = 1) (h : ∀ (i : Nat) (d : D), [D.one u][i]? = some d → V Tryz.prog w ow d.fz [] (vs.getD i undef)) : vs = #[u] := by
 have h0 := arg_one (h 0 _ rfl)
 apply Array.ext
 ·simpa using hs
 ·intro i h1 h2
  obtain rfl : i = 0 := by simpa using h2
  simpa [Array.getD_eq_getD_getElem?, h1] using h0
theorem args_2 {w : World} {ow : Own} {vs : Array Value} {u u' : Value} (hs : vs.size = 2) (h : ∀ (i : Nat) (d : D), [D.one u, D.one u'][i]? = some d → V Tryz.prog w ow d.fz [] (vs.getD i undef)) : vs = #[u, u'] := by
 have h0 := arg_one (h 0 _ rfl)
 have h1 := arg_one (h 1 _ rfl)
 apply Array.ext
 ·simpa using hs
 ·intro i hi h2
  have : i = 0 ∨ i = 1 := by simp at h2; omega
  rcases this with rfl | rfl
  ·simpa [Array.getD_eq_getD_getElem?, hi] using h0
  ·simpa [Array.getD_eq_getD_getElem?, hi] using h1
theorem fn_tuple {f : FuncId} {ds : List D} {us : List Value} (hu : ∀ u ∈ us, u.oneCell' = true) (h : ∀ (w : World) (ow : Own) (vs : Array Value), Laid w ow → vs.size = ds.length → (∀ (i : Nat) (d : D), ds[i]? = some d → V Tryz.prog w ow d.fz [] (vs.getD i undef)) → Calls Tryz.prog f vs w fun e w' => e = .returned (.tuple us.toArray) ∧ Below w.heap.size w w') :
  FnOk Tryz.prog f ds (fun r => r = .tup (us.map fun u => .val (.one u))) := by
 intro w ow vs t ht hL hnew hvs hargs
 refine (h w ow vs hL hvs hargs).mono ?_
 rintro e w' ⟨rfl, hB⟩
 refine ⟨_, fun b => if b < w.heap.size then ow b else none, _, rfl, rfl, ⟨hB.os, hB.tape, hB.output, hB.size, fun b hb => ⟨hB.block b hb, if_pos hb⟩, fun b hb => if_neg (by have := hB.size; omega)⟩, rfl, fun s a => ?_⟩
 refine ⟨_, rfl, by simp, fun k x hx => ?_⟩
 rw [List.getElem?_map, Option.map_eq_some_iff] at hx
 obtain ⟨u, hu1, rfl⟩ := hx
 have hv : us.toArray.getD k undef = u := by simp [Array.getD_eq_getD_getElem?, hu1]
 rw [hv]
 simp only [D.fz, V, R]
 simpa using hu u (List.mem_of_getElem? hu1)
theorem below_grow {w : World} {k : Nat} {os : Array Obj} : Below w.heap.size w (Go.Sort.grow (w.drewN k) os) := (below_drewN (Below.refl _ w) k).trans ⟨rfl, rfl, rfl, by simp [Go.Sort.grow], fun b hb => by simp [Go.Sort.grow, Array.getElem?_append, hb]⟩
theorem fn_strconv_Itoa (n : Int) (hn : -9223372036854775808 ≤ n ∧ n ≤ 9223372036854775807) : FnOk Tryz.prog 71 [dI n] (fun r => r = .val (dS (fmtI n))) :=
 fn_plain (u := .string ⟨(fmtI n).toArray⟩) rfl fun w ow vs hL hs ha => by
  obtain rfl := args_1 hs ha
  rw [← itoa_eq]
  exact (Tryz.strconv_Itoa n hn.1 hn.2 w (laid_facts hL).1).mono fun e w' ⟨h1, k, os, h2⟩ => ⟨h1, h2 ▸ below_grow⟩
theorem fn_strings_IndexByte (s : Str) (c : UInt8) : FnOk Tryz.prog 42 [dS s, dC c] (fun r => r = .val (dI (Lib.indexByte s c))) :=
 fn_plain (u := .int .i64 (Lib.indexByte s c)) rfl fun w ow vs hL hs ha => by
  obtain rfl := args_2 hs ha
  refine (Tryz.strings_IndexByte ⟨s.toArray⟩ c.toNat w).mono fun e w' ⟨h1, h2⟩ => ⟨?_, h2 ▸ Below.refl _ _⟩
  rw [h1]
  have : ((c.toNat : Int)).toNat.toUInt8 = c := by simp
  rw [this]
theorem fn_strings_LastIndexByte (s : Str) (hs : s.length ≤ 1048576) : FnOk Tryz.prog 43 [dS s, .one (.int .u8 93)] (fun r => r = .val (dI (lst93 s))) :=
 fn_plain (u := .int .i64 (lst93 s)) rfl fun w ow vs hL hsz ha => by
  obtain rfl := args_2 hsz ha
  rw [← lastIx_eq]
  exact (Tryz.strings_LastIndexByte ⟨s.toArray⟩ 93 (by simp [ByteArray.size]; omega) w).mono fun e w' ⟨h1, h2⟩ => ⟨h1, h2 ▸ Below.refl _ _⟩
theorem fn_strings_TrimPrefix (s : Str) (c : UInt8) : FnOk Tryz.prog 79 [dS s, dS [c]] (fun r => r = .val (dS (trimL c s))) :=
 fn_plain (u := .string ⟨(trimL c s).toArray⟩) rfl fun w ow vs hL hsz ha => by
  obtain rfl := args_2 hsz ha
  rw [← trimL_eq]
  exact (Tryz.strings_TrimPrefix ⟨s.toArray⟩ ⟨[c].toArray⟩ w).mono fun e w' ⟨h1, h2⟩ => ⟨h1, h2 ▸ Below.refl _ _⟩
theorem fn_strings_TrimSuffix (s : Str) (c : UInt8) (hs : s.length ≤ 1048576) : FnOk Tryz.prog 78 [dS s, dS [c]] (fun r => r = .val (dS (trimR c s))) :=
 fn_plain (u := .string ⟨(trimR c s).toArray⟩) rfl fun w ow vs hL hsz ha => by
  obtain rfl := args_2 hsz ha
  rw [← trimR_eq]
  exact (Tryz.strings_TrimSuffix ⟨s.toArray⟩ ⟨[c].toArray⟩ w (by simp [ByteArray.size]; omega)).mono fun e w' ⟨h1, h2⟩ => ⟨h1, h2 ▸ Below.refl _ _⟩
theorem fn_strings_ContainsAny (s : Str) (hs : s.length ≤ 1048576) (ht : s.all textB = true) : FnOk Tryz.prog 170 [dS s, dS [124, 59]] (fun r => r = .val (dB (!s.all fieldB))) :=
 fn_plain (u := .bool (!s.all fieldB)) rfl fun w ow vs hL hsz ha => by
  obtain rfl := args_2 hsz ha
  rw [← containsAny_eq]
  refine (Tryz.strings_ContainsAny_laid ⟨s.toArray⟩ ⟨[124, 59].toArray⟩ w (by simp [ByteArray.size]; omega) (by decide) (fun j b hb => ?_) (fun j b hb => ?_))
  ·have hb' : s[j]? = some b := hb
   have := List.all_eq_true.1 ht b (List.mem_of_getElem? hb')
   simp [textB] at this; omega
  ·have hb' : [124, 59][j]? = some b := hb
   have := List.mem_of_getElem? hb'
   simp at this
   rcases this with rfl | rfl <;> decide
theorem fn_strings_Cut (s : Str) (c : UInt8) (hs : s.length ≤ 1048576) : FnOk Tryz.prog 118 [dS s, dS [c]] (fun r => r = .tup [.val (dS (bef c s)), .val (dS (aft c s)), .val (dB (decide (c ∈ s)))]) := by
 refine fn_tuple (us := [.string ⟨(bef c s).toArray⟩, .string ⟨(aft c s).toArray⟩, .bool (decide (c ∈ s))]) (by simp [Value.oneCell']) fun w ow vs hL hsz ha => ?_
 obtain rfl := args_2 hsz ha
 obtain ⟨m, hm⟩ := (laid_facts hL).2.2.2
 refine (Tryz.strings_Cut ⟨s.toArray⟩ ⟨[c].toArray⟩ m w (by simp [ByteArray.size]; omega) hm).mono fun e w' ⟨h1, n, h2⟩ => ⟨?_, h2 ▸ below_drewN (Below.refl _ w) n⟩
 rw [h1]
 simp only [lib_cut]
theorem fn_strconv_Atoi_ok (s : Str) (v : Int) (hs : s.length ≤ 1048576) (h : Lib.atoiAll s = .ok v) : FnOk Tryz.prog 76 [dS s] (fun r => r = .tup [.val (dI v), .val (.one .nilIface)]) := by
 refine fn_tuple (us := [.int .i64 v, .nilIface]) (by simp [Value.oneCell']) fun w ow vs hL hsz ha => ?_
 obtain rfl := args_1 hsz ha
 refine (Tryz.strconv_Atoi_ok ⟨s.toArray⟩ (by simp [ByteArray.size]; omega) v h w).mono fun e w' ⟨h1, h2⟩ => ⟨h1, ?_⟩
 rcases h2 with rfl | ⟨t, rfl⟩
 ·exact Below.refl _ _
 ·exact Lib.bytesWorld_below w _ t
theorem fn_strconv_Atoi_no (s : Str) (hs : s.length ≤ 1048576) (h : ∀ v, Lib.atoiAll s ≠ .ok v) : FnOk Tryz.prog 76 [dS s] (fun r => ∃ k tp p, r = .tup [.val (dI k), .val (.one (.iface tp p))]) := by
 have hsz : (⟨s.toArray⟩ : ByteArray).size ≤ 281474976710656 := by simp [ByteArray.size]; omega
 have key : ∀ (w : World) (ow : Own) (vs : Array Value) (t : Nat), Laid w ow → vs.size = 1 → (∀ (i : Nat) (d : D), [dS s][i]? = some d → V Tryz.prog w ow d.fz [] (vs.getD i undef)) → Calls Tryz.prog 76 vs w fun e w' => ∃ k tp p, e = .returned (.tuple #[.int .i64 k, .iface tp p]) ∧ Below w.heap.size w w' := by
  intro w ow vs t hL h1 h2
  obtain rfl := args_1 h1 h2
  obtain ⟨_, ⟨t1, p1, hv1⟩, ⟨t2, p2, hv2⟩, _⟩ := laid_facts hL
  by_cases hr : Lib.atoiAll s = .range
  ·exact (Tryz.strconv_Atoi_range_var ⟨s.toArray⟩ hsz hr t2 p2 w hv2).mono fun e w' ⟨N, g1, _, _, g4⟩ => ⟨_, _, _, g1, g4⟩
  ·exact (Tryz.strconv_Atoi_syntax_var ⟨s.toArray⟩ hsz h hr t1 p1 w hv1).mono fun e w' ⟨N, g1, _, _, g4⟩ => ⟨_, _, _, g1, g4⟩
 intro w ow vs t ht hL hnew hvs hargs
 refine (key w ow vs t hL hvs hargs).mono ?_
 rintro e w' ⟨k, tp, p, rfl, hB⟩
 refine ⟨_, fun b => if b < w.heap.size then ow b else none, _, rfl, ⟨k, tp, p, rfl⟩, ⟨hB.os, hB.tape, hB.output, hB.size, fun b hb => ⟨hB.block b hb, if_pos hb⟩, fun b hb => if_neg (by have := hB.size; omega)⟩, rfl, fun s a => ?_⟩
 refine ⟨_, rfl, by simp, fun k x hx => ?_⟩
 match k, hx with
 | 0, hx => obtain rfl := Option.some.inj hx; simp [D.fz, V, R, Array.getD_eq_getD_getElem?, Value.oneCell']
 | 1, hx => obtain rfl := Option.some.inj hx; simp [D.fz, V, R, Array.getD_eq_getD_getElem?, Value.oneCell']
end Go.Proofs.YtfhfidecmdhkoaaGreatDoor

end
section
set_option maxRecDepth 10000
namespace Go.Proofs.YtfhfidecmdhkoaaGreatDoor
open Go.Dv Go.Pl
theorem fn_impl_FormatInt (n : Int) (hn : -9223372036854775808 ≤ n ∧ n ≤ 9223372036854775807) : FnOk Tryz.prog 40 [dI n] (fun res' => res' = .val (dS (fmtI n))) := by
 refine fn_of good (rs := [.tmp 2]) Tryz.func40 rfl Tryz.ntmps40 (by decide) (by simp) rfl fun w0 ow0 => ?_
 refine okC_rg good ?_
 simp [go_sem]
 repeat (with_reducible refine And.intro ?_ ?_; first | omega | assumption | (simp only [inI]; omega))
 refine okC_rg good ?_
 simp [go_sem]
 repeat (with_reducible refine And.intro ?_ ?_; first | omega | assumption | (simp only [inI]; omega))
 first | refine callK_of (fn_strconv_Itoa _ (by first | assumption | omega | (simp; omega) | grind)) (by simp [go_sem]) ?_ | refine callK_fz (fn_strconv_Itoa _ (by first | assumption | omega | (simp; omega) | grind)) (by simp [go_sem]) (by simp [go_sem]) ?_
 simp [go_sem]
 repeat (with_reducible refine And.intro ?_ ?_; first | omega | assumption | (simp only [inI]; omega))
 refine okC_ret ?_
 simp [go_sem]
 all_goals first | done | omega | grind | (simp; omega) | (simp_all; done) | (simp_all; omega)
theorem fn_impl_IsText (s : Str) (hs : s.length ≤ 1048576) : FnOk Tryz.prog 169 [dS s] (fun res' => res' = .val (dB (isText s))) := by
 refine fn_of good (rs := [.tmp 2]) Tryz.func169 rfl Tryz.ntmps169 (by decide) (by simp) rfl fun w0 ow0 => ?_
 refine okC_rg good ?_
 simp [go_sem]
 repeat (with_reducible refine And.intro ?_ ?_; first | omega | assumption | (simp only [inI]; omega))
 refine okC_seq ?_
 refine okC_rg good ?_
 simp [go_sem]
 repeat (with_reducible refine And.intro ?_ ?_; first | omega | assumption | (simp only [inI]; omega))
 refine okC_block ?_
 refine okC_rounds (fun (i : Nat) => [(0, .val (dS s)), (5, .val (dI s.length)), (6, .val (dI i))]) (fun (i : Nat) => (s).length - i) (fun (i : Nat) => (i ≤ (s).length) ∧ (((s).take i).all textB = true)) (0) [] ⟨(by first | omega | rfl | (simp; done) | (simp; omega) | simp), (by first | omega | rfl | (simp; done) | (simp; omega) | simp)⟩ (by simp [go_sem]) ?_
 rintro i ⟨h1, h2⟩ K1 hK1
 refine okC_rg good ?_
 simp [go_sem]
 repeat (with_reducible refine And.intro ?_ ?_; first | omega | assumption | (simp only [inI]; omega))
 refine okC_seq ?_
 refine okC_if ?_
 simp [go_sem]
 first | refine gC_dec (fun a => ?_) (fun a => ?_) | refine gC_ndec (fun a => ?_) (fun a => ?_) | refine gC_of (fun a => ?_) (fun a => ?_)
 ·try simp at a
  refine okC_skip ?_
  refine okC_seq ?_
  refine okC_block ?_
  obtain ⟨c, hc⟩ := at_of (l := s) (i := i) (by omega)
  refine okC_rg good ?_
  simp [go_sem, hc]
  repeat (with_reducible refine And.intro ?_ ?_; first | omega | assumption | (simp only [inI]; omega))
  refine okC_rg good ?_
  simp [go_sem, hc]
  repeat (with_reducible refine And.intro ?_ ?_; first | omega | assumption | (simp only [inI]; omega))
  first | refine callK_of (fn_impl_within c.toNat 32 126) (by simp [go_sem]) ?_ | refine callK_fz (fn_impl_within c.toNat 32 126) (by simp [go_sem]) (by simp [go_sem]) ?_
  simp [go_sem, hc]
  repeat (with_reducible refine And.intro ?_ ?_; first | omega | assumption | (simp only [inI]; omega))
  refine okC_if ?_
  simp [go_sem, hc]
  first | refine gC_dec (fun b => ?_) (fun b => ?_) | refine gC_ndec (fun b => ?_) (fun b => ?_) | refine gC_of (fun b => ?_) (fun b => ?_)
  ·try simp at b
   have hn := all_no hc (P := textB) (by simp [textB]; omega)
   refine okC_rg good ?_
   simp [go_sem, hc, hn]
   repeat (with_reducible refine And.intro ?_ ?_; first | omega | assumption | (simp only [inI]; omega))
   refine okC_ret (show K1 _ _ from retE hK1 ?_)
   simp [go_sem, hc, hn]
   all_goals first | done | omega | grind [isText] | (simp; omega) | (simp_all [isText]; done) | (simp_all [isText]; omega)
  ·try simp at b
   refine okC_skip ?_
   refine okC_rg1 good ?_
   simp [go_sem, hc]
   repeat (with_reducible refine And.intro ?_ ?_; first | omega | assumption | (simp only [inI]; omega))
   refine normalE hK1 ⟨i + 1, [], ⟨(by omega), (all_step hc h2 (by simp [textB]; omega))⟩, (by show _ < _; first | omega | simp <;> omega), (by simp [go_sem, hc])⟩
 ·try simp at a
  refine okC_exit (show K1 _ _ from exitE hK1 ?_)
  have hf := all_fin h2 a
  refine okC_rg good ?_
  simp [go_sem, hf]
  repeat (with_reducible refine And.intro ?_ ?_; first | omega | assumption | (simp only [inI]; omega))
  refine okC_ret ?_
  simp [go_sem, hf]
  all_goals first | done | omega | grind [isText] | (simp; omega) | (simp_all [isText]; done) | (simp_all [isText]; omega)
theorem isText_all {s : Str} (h : isText s = true) : s.all textB = true := by simp only [isText, Bool.and_eq_true] at h; exact h.1
theorem fn_impl_isField (s : Str) (hs : s.length ≤ 1048576) : FnOk Tryz.prog 143 [dS s] (fun res' => res' = .val (dB (isField s))) := by
 refine fn_of good (rs := [.tmp 2]) Tryz.func143 rfl Tryz.ntmps143 (by decide) (by simp) rfl fun w0 ow0 => ?_
 refine okC_rg good ?_
 simp [go_sem]
 repeat (with_reducible refine And.intro ?_ ?_; first | omega | assumption | (simp only [inI]; omega))
 refine okC_rg good ?_
 simp [go_sem]
 repeat (with_reducible refine And.intro ?_ ?_; first | omega | assumption | (simp only [inI]; omega))
 first | refine callK_of (fn_impl_IsText _ (by first | assumption | omega | (simp; omega) | grind)) (by simp [go_sem]) ?_ | refine callK_fz (fn_impl_IsText _ (by first | assumption | omega | (simp; omega) | grind)) (by simp [go_sem]) (by simp [go_sem]) ?_
 simp [go_sem]
 repeat (with_reducible refine And.intro ?_ ?_; first | omega | assumption | (simp only [inI]; omega))
 first | refine gI_dec (fun e => ?_) (fun e => ?_) | refine gI_ndec (fun e => ?_) (fun e => ?_) | refine gI_of (fun e => ?_) (fun e => ?_)
 ·have e' := e; try simp at e'
  simp [go_sem, e]
  repeat (with_reducible refine And.intro ?_ ?_; first | omega | assumption | (simp only [inI]; omega))
  first | refine callK_of (fn_strings_ContainsAny s hs (isText_all e)) (by simp [go_sem]) ?_ | refine callK_fz (fn_strings_ContainsAny s hs (isText_all e)) (by simp [go_sem]) (by simp [go_sem]) ?_
  simp [go_sem, e]
  repeat (with_reducible refine And.intro ?_ ?_; first | omega | assumption | (simp only [inI]; omega))
  refine okC_ret ?_
  simp [go_sem, e]
  simp [isField, e]
 ·have e' := e; try simp at e'
  simp [go_sem, e]
  repeat (with_reducible refine And.intro ?_ ?_; first | omega | assumption | (simp only [inI]; omega))
  refine okC_ret ?_
  simp [go_sem, e]
  simp [isField, e]
theorem fn_impl_IsValidRecord_1 (s : Str) (hs : s.length ≤ 1048576) : FnOk Tryz.prog 142 [dS s] (fun res' => res' = .val (dB (!isField s))) := by
 refine fn_of good (rs := [.tmp 2]) Tryz.func142 rfl Tryz.ntmps142 (by decide) (by simp) rfl fun w0 ow0 => ?_
 refine okC_rg good ?_
 simp [go_sem]
 repeat (with_reducible refine And.intro ?_ ?_; first | omega | assumption | (simp only [inI]; omega))
 refine okC_rg good ?_
 simp [go_sem]
 repeat (with_reducible refine And.intro ?_ ?_; first | omega | assumption | (simp only [inI]; omega))
 first | refine callK_of (fn_impl_isField _ (by first | assumption | omega | (simp; omega) | grind)) (by simp [go_sem]) ?_ | refine callK_fz (fn_impl_isField _ (by first | assumption | omega | (simp; omega) | grind)) (by simp [go_sem]) (by simp [go_sem]) ?_
 simp [go_sem]
 repeat (with_reducible refine And.intro ?_ ?_; first | omega | assumption | (simp only [inI]; omega))
 refine okC_ret ?_
 simp [go_sem]
 all_goals first | done | omega | grind | (simp; omega) | (simp_all; done) | (simp_all; omega)
theorem fn_ixf_str (l : List Str) (hl : l.length ≤ 1048576) (hs : ∀ f ∈ l, smallS f) : FnOk Tryz.prog 168 [nStrs l, .one (.func (.func 142) #[] #[])] (fun res' => res' = .val (dI (ix (fun f => !isField f) l))) := by
 refine fn_of good (rs := [.tmp 4]) Tryz.func168 rfl Tryz.ntmps168 (by decide) (by simp) rfl fun w0 ow0 => ?_
 refine okC_rg good ?_
 simp [go_sem]
 repeat (with_reducible refine And.intro ?_ ?_; first | omega | assumption | (simp only [inI]; omega))
 refine okC_seq ?_
 refine okC_rg good ?_
 simp [go_sem]
 repeat (with_reducible refine And.intro ?_ ?_; first | omega | assumption | (simp only [inI]; omega))
 refine okC_block ?_
 refine okC_rounds (fun (i : Nat) => [(0, .val (nStrs l)), (1, .val (.one (.func (.func 142) #[] #[]))), (7, .val (dI l.length)), (8, .val (dI i))]) (fun (i : Nat) => (l).length - i) (fun (i : Nat) => (i ≤ (l).length) ∧ (((l).take i).any (fun f => !isField f) = false)) (0) [] ⟨(by first | omega | rfl | (simp; done) | (simp; omega) | simp), (by first | omega | rfl | (simp; done) | (simp; omega) | simp)⟩ (by simp [go_sem]) ?_
 rintro i ⟨h1, h2⟩ K1 hK1
 refine okC_rg good ?_
 simp [go_sem]
 repeat (with_reducible refine And.intro ?_ ?_; first | omega | assumption | (simp only [inI]; omega))
 refine okC_seq ?_
 refine okC_if ?_
 simp [go_sem]
 first | refine gC_dec (fun a => ?_) (fun a => ?_) | refine gC_ndec (fun a => ?_) (fun a => ?_) | refine gC_of (fun a => ?_) (fun a => ?_)
 ·try simp at a
  refine okC_skip ?_
  refine okC_seq ?_
  refine okC_block ?_
  obtain ⟨c, hc⟩ := at_of (l := l) (i := i) (by omega)
  refine okC_rg good ?_
  simp [go_sem, hc]
  repeat (with_reducible refine And.intro ?_ ?_; first | omega | assumption | (simp only [inI]; omega))
  refine okC_rg good ?_
  simp [go_sem, hc]
  repeat (with_reducible refine And.intro ?_ ?_; first | omega | assumption | (simp only [inI]; omega))
  first | refine callK_of (fn_impl_IsValidRecord_1 c (hs c (List.mem_of_getElem? hc))) (by simp [go_sem]) ?_ | refine callK_fz (fn_impl_IsValidRecord_1 c (hs c (List.mem_of_getElem? hc))) (by simp [go_sem]) (by simp [go_sem]) ?_
  simp [go_sem, hc]
  repeat (with_reducible refine And.intro ?_ ?_; first | omega | assumption | (simp only [inI]; omega))
  refine okC_if ?_
  simp [go_sem, hc]
  first | refine gC_dec (fun b => ?_) (fun b => ?_) | refine gC_ndec (fun b => ?_) (fun b => ?_) | refine gC_of (fun b => ?_) (fun b => ?_)
  ·try simp at b
   have hn := ix_at hc h2 (by simp [b])
   refine okC_rg good ?_
   simp [go_sem, hc, hn]
   repeat (with_reducible refine And.intro ?_ ?_; first | omega | assumption | (simp only [inI]; omega))
   refine okC_ret (show K1 _ _ from retE hK1 ?_)
   simp [go_sem, hc, hn]
   all_goals first | done | omega | grind | (simp; omega) | (simp_all; done) | (simp_all; omega)
  ·try simp at b
   refine okC_skip ?_
   refine okC_rg1 good ?_
   simp [go_sem, hc]
   repeat (with_reducible refine And.intro ?_ ?_; first | omega | assumption | (simp only [inI]; omega))
   refine normalE hK1 ⟨i + 1, [], ⟨(by omega), (any_step hc h2 (by simp [b]))⟩, (by show _ < _; first | omega | simp <;> omega), (by simp [go_sem, hc])⟩
 ·try simp at a
  refine okC_exit (show K1 _ _ from exitE hK1 ?_)
  have hf := any_fin h2 a
  have hx := ix_none hf
  refine okC_rg good ?_
  simp [go_sem, hf, hx]
  repeat (with_reducible refine And.intro ?_ ?_; first | omega | assumption | (simp only [inI]; omega))
  refine okC_ret ?_
  simp [go_sem, hf, hx]
  all_goals first | done | omega | grind | (simp; omega) | (simp_all; done) | (simp_all; omega)
theorem fn_cf_str (l : List Str) (hl : l.length ≤ 1048576) (hs : ∀ f ∈ l, smallS f) : FnOk Tryz.prog 141 [nStrs l, .one (.func (.func 142) #[] #[])] (fun res' => res' = .val (dB (l.any fun f => !isField f))) := by
 refine fn_of good (rs := [.tmp 4]) Tryz.func141 rfl Tryz.ntmps141 (by decide) (by simp) rfl fun w0 ow0 => ?_
 have hq : decide (0 ≤ ix (fun f => !isField f) l) = l.any fun f => !isField f := by rw [Bool.eq_iff_iff, decide_eq_true_eq]; exact ix_nonneg
 refine okC_rg good ?_
 simp [go_sem]
 repeat (with_reducible refine And.intro ?_ ?_; first | omega | assumption | (simp only [inI]; omega))
 refine okC_rg good ?_
 simp [go_sem]
 repeat (with_reducible refine And.intro ?_ ?_; first | omega | assumption | (simp only [inI]; omega))
 first | refine callK_of (fn_ixf_str l hl hs) (by simp [go_sem]) ?_ | refine callK_fz (fn_ixf_str l hl hs) (by simp [go_sem]) (by simp [go_sem]) ?_
 simp [go_sem]
 repeat (with_reducible refine And.intro ?_ ?_; first | omega | assumption | (simp only [inI]; omega))
 refine okC_ret ?_
 simp [go_sem, hq]
 all_goals first | done | omega | grind | (simp; omega) | (simp_all; done) | (simp_all; omega)
theorem fn_impl_IsValidRecord (r : Rec) (hs : smallR r) : FnOk Tryz.prog 101 [nRec r] (fun res' => res' = .val (dB (validRec r))) := by
 refine fn_of good (rs := [.tmp 2]) Tryz.func101 rfl Tryz.ntmps101 (by decide) (by simp) rfl fun w0 ow0 => ?_
 refine okC_rg good ?_
 simp [go_sem]
 repeat (with_reducible refine And.intro ?_ ?_; first | omega | assumption | (simp only [inI]; omega))
 refine okC_seq ?_
 refine okC_rg good ?_
 simp [go_sem]
 repeat (with_reducible refine And.intro ?_ ?_; first | omega | assumption | (simp only [inI]; omega))
 first | refine callK_of (fn_impl_within _ _ _) (by simp [go_sem]) ?_ | refine callK_fz (fn_impl_within _ _ _) (by simp [go_sem]) (by simp [go_sem]) ?_
 simp [go_sem]
 repeat (with_reducible refine And.intro ?_ ?_; first | omega | assumption | (simp only [inI]; omega))
 first | refine gI_dec (fun e => ?_) (fun e => ?_) | refine gI_ndec (fun e => ?_) (fun e => ?_) | refine gI_of (fun e => ?_) (fun e => ?_)
 ·have e' := e; try simp at e'
  simp [go_sem, e]
  repeat (with_reducible refine And.intro ?_ ?_; first | omega | assumption | (simp only [inI]; omega))
  refine okC_if ?_
  simp [go_sem, e]
  refine okC_rg good ?_
  simp [go_sem, e]
  repeat (with_reducible refine And.intro ?_ ?_; first | omega | assumption | (simp only [inI]; omega))
  refine okC_ret ?_
  simp [go_sem, e]
  simp [validRec]; omega
 ·have e' := e; try simp at e'
  simp [go_sem, e]
  repeat (with_reducible refine And.intro ?_ ?_; first | omega | assumption | (simp only [inI]; omega))
  first | refine callK_of (fn_impl_within _ _ _) (by simp [go_sem]) ?_ | refine callK_fz (fn_impl_within _ _ _) (by simp [go_sem]) (by simp [go_sem]) ?_
  simp [go_sem, e]
  repeat (with_reducible refine And.intro ?_ ?_; first | omega | assumption | (simp only [inI]; omega))
  first | refine gI_dec (fun f => ?_) (fun f => ?_) | refine gI_ndec (fun f => ?_) (fun f => ?_) | refine gI_of (fun f => ?_) (fun f => ?_)
  ·have f' := f; try simp at f'
   simp [go_sem, e, f]
   repeat (with_reducible refine And.intro ?_ ?_; first | omega | assumption | (simp only [inI]; omega))
   refine okC_if ?_
   simp [go_sem, e, f]
   refine okC_rg good ?_
   simp [go_sem, e, f]
   repeat (with_reducible refine And.intro ?_ ?_; first | omega | assumption | (simp only [inI]; omega))
   refine okC_ret ?_
   simp [go_sem, e, f]
   simp [validRec]; omega
  ·have f' := f; try simp at f'
   simp [go_sem, e, f]
   repeat (with_reducible refine And.intro ?_ ?_; first | omega | assumption | (simp only [inI]; omega))
   first | refine callK_of (fn_impl_within _ _ _) (by simp [go_sem]) ?_ | refine callK_fz (fn_impl_within _ _ _) (by simp [go_sem]) (by simp [go_sem]) ?_
   simp [go_sem, e, f]
   repeat (with_reducible refine And.intro ?_ ?_; first | omega | assumption | (simp only [inI]; omega))
   refine okC_if ?_
   simp [go_sem, e, f]
   first | refine gC_dec (fun g => ?_) (fun g => ?_) | refine gC_ndec (fun g => ?_) (fun g => ?_) | refine gC_of (fun g => ?_) (fun g => ?_)
   ·try simp at g
    refine okC_rg good ?_
    simp [go_sem, e, f]
    repeat (with_reducible refine And.intro ?_ ?_; first | omega | assumption | (simp only [inI]; omega))
    refine okC_ret ?_
    simp [go_sem, e, f]
    simp [validRec]; omega
   ·try simp at g
    refine okC_skip ?_
    refine okC_rg good ?_
    simp [go_sem, e, f]
    repeat (with_reducible refine And.intro ?_ ?_; first | omega | assumption | (simp only [inI]; omega))
    first | refine gI_dec (fun k => ?_) (fun k => ?_) | refine gI_ndec (fun k => ?_) (fun k => ?_) | refine gI_of (fun k => ?_) (fun k => ?_)
    ·have k' := k; try simp at k'
     simp [go_sem, e, f, k]
     repeat (with_reducible refine And.intro ?_ ?_; first | omega | assumption | (simp only [inI]; omega))
     first | refine callK_of (fn_cf_str r.fields hs.1 hs.2) (by simp [go_sem]) ?_ | refine callK_fz (fn_cf_str r.fields hs.1 hs.2) (by simp [go_sem]) (by simp [go_sem]) ?_
     simp [go_sem, e, f, k]
     repeat (with_reducible refine And.intro ?_ ?_; first | omega | assumption | (simp only [inI]; omega))
     refine okC_ret ?_
     simp [go_sem, e, f, k]
     have h4 : r.fields.length = 4 := by omega
     all_goals (simp [validRec, h4, e', f', g]; rw [List.not_all_eq_any_not])
    ·have k' := k; try simp at k'
     simp [go_sem, e, f, k]
     repeat (with_reducible refine And.intro ?_ ?_; first | omega | assumption | (simp only [inI]; omega))
     refine okC_ret ?_
     simp [go_sem, e, f, k]
     have h4 : ¬ r.fields.length = 4 := by omega
     all_goals simp [validRec, h4]
theorem fn_impl_isDeletion (r : Rec) (hs : r.fields.length ≤ 1048576) : FnOk Tryz.prog 102 [nRec r] (fun res' => res' = .val (dB (goneRec r))) := by
 refine fn_of good (rs := [.tmp 2]) Tryz.func102 rfl Tryz.ntmps102 (by decide) (by simp) rfl fun w0 ow0 => ?_
 refine okC_rg good ?_
 simp [go_sem]
 repeat (with_reducible refine And.intro ?_ ?_; first | omega | assumption | (simp only [inI]; omega))
 refine okC_rg good ?_
 simp [go_sem]
 repeat (with_reducible refine And.intro ?_ ?_; first | omega | assumption | (simp only [inI]; omega))
 first | refine callK_of (fn_impl_within _ _ _) (by simp [go_sem]) ?_ | refine callK_fz (fn_impl_within _ _ _) (by simp [go_sem]) (by simp [go_sem]) ?_
 simp [go_sem]
 repeat (with_reducible refine And.intro ?_ ?_; first | omega | assumption | (simp only [inI]; omega))
 first | refine gI_dec (fun g1 => ?_) (fun g1 => ?_) | refine gI_ndec (fun g1 => ?_) (fun g1 => ?_) | refine gI_of (fun g1 => ?_) (fun g1 => ?_)
 ·have g1' := g1; try simp at g1'
  simp [go_sem, g1]
  repeat (with_reducible refine And.intro ?_ ?_; first | omega | assumption | (simp only [inI]; omega))
  first | refine callK_of (fn_impl_within _ _ _) (by simp [go_sem]) ?_ | refine callK_fz (fn_impl_within _ _ _) (by simp [go_sem]) (by simp [go_sem]) ?_
  simp [go_sem, g1]
  repeat (with_reducible refine And.intro ?_ ?_; first | omega | assumption | (simp only [inI]; omega))
  first | refine gI_dec (fun g2 => ?_) (fun g2 => ?_) | refine gI_ndec (fun g2 => ?_) (fun g2 => ?_) | refine gI_of (fun g2 => ?_) (fun g2 => ?_)
  ·have g2' := g2; try simp at g2'
   simp [go_sem, g1, g2]
   repeat (with_reducible refine And.intro ?_ ?_; first | omega | assumption | (simp only [inI]; omega))
   first | refine callK_of (fn_impl_within _ _ _) (by simp [go_sem]) ?_ | refine callK_fz (fn_impl_within _ _ _) (by simp [go_sem]) (by simp [go_sem]) ?_
   simp [go_sem, g1, g2]
   repeat (with_reducible refine And.intro ?_ ?_; first | omega | assumption | (simp only [inI]; omega))
   first | refine gI_dec (fun g3 => ?_) (fun g3 => ?_) | refine gI_ndec (fun g3 => ?_) (fun g3 => ?_) | refine gI_of (fun g3 => ?_) (fun g3 => ?_)
   ·have g3' := g3; try simp at g3'
    simp [go_sem, g1, g2, g3]
    repeat (with_reducible refine And.intro ?_ ?_; first | omega | assumption | (simp only [inI]; omega))
    refine okC_ret ?_
    simp [go_sem, g1, g2, g3]
    all_goals first | done | omega | grind [goneRec] | (simp; omega) | (simp_all [goneRec]; done) | (simp_all [goneRec]; omega)
   ·have g3' := g3; try simp at g3'
    simp [go_sem, g1, g2, g3]
    repeat (with_reducible refine And.intro ?_ ?_; first | omega | assumption | (simp only [inI]; omega))
    refine okC_ret ?_
    simp [go_sem, g1, g2, g3]
    all_goals first | done | omega | grind [goneRec] | (simp; omega) | (simp_all [goneRec]; done) | (simp_all [goneRec]; omega)
  ·have g2' := g2; try simp at g2'
   simp [go_sem, g1, g2]
   repeat (with_reducible refine And.intro ?_ ?_; first | omega | assumption | (simp only [inI]; omega))
   refine okC_ret ?_
   simp [go_sem, g1, g2]
   all_goals first | done | omega | grind [goneRec] | (simp; omega) | (simp_all [goneRec]; done) | (simp_all [goneRec]; omega)
 ·have g1' := g1; try simp at g1'
  simp [go_sem, g1]
  repeat (with_reducible refine And.intro ?_ ?_; first | omega | assumption | (simp only [inI]; omega))
  refine okC_ret ?_
  simp [go_sem, g1]
  all_goals first | done | omega | grind [goneRec] | (simp; omega) | (simp_all [goneRec]; done) | (simp_all [goneRec]; omega)
theorem fn_impl_isZeroRecord (r : Rec) (hs : r.fields.length ≤ 1048576) : FnOk Tryz.prog 104 [nRec r] (fun res' => res' = .val (dB (zeroRec r))) := by
 refine fn_of good (rs := [.tmp 2]) Tryz.func104 rfl Tryz.ntmps104 (by decide) (by simp) rfl fun w0 ow0 => ?_
 refine okC_rg good ?_
 simp [go_sem]
 repeat (with_reducible refine And.intro ?_ ?_; first | omega | assumption | (simp only [inI]; omega))
 refine okC_rg good ?_
 simp [go_sem]
 repeat (with_reducible refine And.intro ?_ ?_; first | omega | assumption | (simp only [inI]; omega))
 first | refine gI_dec (fun g1 => ?_) (fun g1 => ?_) | refine gI_ndec (fun g1 => ?_) (fun g1 => ?_) | refine gI_of (fun g1 => ?_) (fun g1 => ?_)
 ·have g1' := g1; try simp at g1'
  simp [go_sem, g1]
  repeat (with_reducible refine And.intro ?_ ?_; first | omega | assumption | (simp only [inI]; omega))
  first | refine gI_dec (fun g2 => ?_) (fun g2 => ?_) | refine gI_ndec (fun g2 => ?_) (fun g2 => ?_) | refine gI_of (fun g2 => ?_) (fun g2 => ?_)
  ·have g2' := g2; try simp at g2'
   simp [go_sem, g1, g2]
   repeat (with_reducible refine And.intro ?_ ?_; first | omega | assumption | (simp only [inI]; omega))
   first | refine gI_dec (fun g3 => ?_) (fun g3 => ?_) | refine gI_ndec (fun g3 => ?_) (fun g3 => ?_) | refine gI_of (fun g3 => ?_) (fun g3 => ?_)
   ·have g3' := g3; try simp at g3'
    simp [go_sem, g1, g2, g3]
    repeat (with_reducible refine And.intro ?_ ?_; first | omega | assumption | (simp only [inI]; omega))
    refine okC_ret ?_
    simp [go_sem, g1, g2, g3]
    all_goals first | done | omega | grind [zeroRec] | (simp; omega) | (simp_all [zeroRec]; done) | (simp_all [zeroRec]; omega)
   ·have g3' := g3; try simp at g3'
    simp [go_sem, g1, g2, g3]
    repeat (with_reducible refine And.intro ?_ ?_; first | omega | assumption | (simp only [inI]; omega))
    refine okC_ret ?_
    simp [go_sem, g1, g2, g3]
    all_goals first | done | omega | grind [zeroRec] | (simp; omega) | (simp_all [zeroRec]; done) | (simp_all [zeroRec]; omega)
  ·have g2' := g2; try simp at g2'
   simp [go_sem, g1, g2]
   repeat (with_reducible refine And.intro ?_ ?_; first | omega | assumption | (simp only [inI]; omega))
   refine okC_ret ?_
   simp [go_sem, g1, g2]
   all_goals first | done | omega | grind [zeroRec] | (simp; omega) | (simp_all [zeroRec]; done) | (simp_all [zeroRec]; omega)
 ·have g1' := g1; try simp at g1'
  simp [go_sem, g1]
  repeat (with_reducible refine And.intro ?_ ?_; first | omega | assumption | (simp only [inI]; omega))
  refine okC_ret ?_
  simp [go_sem, g1]
  all_goals first | done | omega | grind [zeroRec] | (simp; omega) | (simp_all [zeroRec]; done) | (simp_all [zeroRec]; omega)
end Go.Proofs.YtfhfidecmdhkoaaGreatDoor

end
section
set_option maxRecDepth 10000
namespace Go.Proofs.YtfhfidecmdhkoaaGreatDoor
open Go.Dv Go.Pl Go.RowKit
theorem strs_in {w : World} {ow : Own} {l : List Str} {v : Value} (h : V Tryz.prog w ow (D.fz (nStrs l)) [] v) : ∃ a cap, v = .slice a l.length cap ∧ l.length ≤ cap ∧ (l = [] ∨ ∃ b off, a = some ⟨b, off, none⟩ ∧ b < w.heap.size ∧ ∀ (j : Nat) x, l[j]? = some x → w.cell? ⟨b, off + j, none⟩ = some (.string ⟨x.toArray⟩)) := by
 have hfz : D.fz (nStrs l) = nStrs l := by simp [D.fz, D.fzs_mapf]
 rw [hfz] at h
 simp only [V, R] at h
 obtain ⟨a, cap, h1, h2, h3, h4⟩ := h
 have h1 : v = .slice a (l.map dS).length cap := by simpa using h1
 rw [List.length_map] at h1 h2
 refine ⟨a, cap, h1, h2, ?_⟩
 rcases h4 with h4 | h4 | ⟨b, off, s, C, e, fz, ha, hh, hn, hs, hr⟩
 ·exact .inl (by simpa using h4.2.1)
 ·exact .inl (by simpa using h4.2)
 ·refine .inr ⟨b, off, ha, lt_of_heap hh, fun j x hx => ?_⟩
  have := (Rs.iff hh).1 hr j (dS x) (by rw [List.getElem?_map, hx]; rfl)
  obtain ⟨hw, C', e', fz', cs, g1, g2, g3⟩ := this
  have hs1 : s = 1 := hw.symm
  subst hs1
  rw [hh] at g1
  obtain ⟨rfl, rfl, rfl⟩ : C = C' ∧ e = e' ∧ fz = fz' := by simpa using g1
  simp only [R] at g3
  obtain ⟨rfl, _⟩ := g3
  rw [cell_of_row w b (off + j) C e fz hh]
  have := g2 0 (by simp [D.w])
  simpa using this
theorem fn_strings_Join (l : List Str) (c : UInt8) (hn : l.length ≤ 1048576) (hl : (joinC c l).length ≤ 1048576) : FnOk Tryz.prog 73 [nStrs l, dS [c]] (fun r => r = .val (dS (joinC c l))) :=
 fn_plain (u := .string ⟨(joinC c l).toArray⟩) rfl fun w ow vs hL hsz ha => by
  have h0 := ha 0 _ rfl
  have h1 := arg_one (ha 1 _ rfl)
  obtain ⟨a, cap, hv, hcap, hc⟩ := strs_in h0
  obtain rfl : vs = #[.slice a l.length cap, .string ⟨[c].toArray⟩] := by
   apply Array.ext
   ·simpa using hsz
   ·intro i hi h2
    have : i = 0 ∨ i = 1 := by simp at h2; omega
    rcases this with rfl | rfl
    ·simpa [Array.getD_eq_getD_getElem?, hi] using hv
    ·simpa [Array.getD_eq_getD_getElem?, hi] using h1
  rcases hc with rfl | ⟨b, off, rfl, hb, hcell⟩
  ·refine (Tryz.strings_Join_none a cap ⟨[c].toArray⟩ w).mono fun e w' ⟨g1, g2⟩ => ⟨?_, g2 ▸ Below.refl _ _⟩
   rw [g1]; rfl
  ·have hj : Lib.join ((l.map fun x => (⟨x.toArray⟩ : ByteArray)).map (·.data.toList)) [c] = joinC c l := by
    rw [← lib_join, List.map_map]
    congr 1
    conv => rhs; rw [← List.map_id l]
    exact List.map_congr_left fun x _ => rfl
   have key := Tryz.strings_Join b off cap (l.map fun x => (⟨x.toArray⟩ : ByteArray)) ⟨[c].toArray⟩ w (fun j x hx => by
    rw [List.getElem?_map, Option.map_eq_some_iff] at hx
    obtain ⟨y, hy, rfl⟩ := hx
    exact hcell j y hy) hb (by simp; omega) (by simpa using hcap) (by rw [show (⟨[c].toArray⟩ : ByteArray).data.toList = [c] from rfl, hj]; omega)
   rw [List.length_map, show (⟨[c].toArray⟩ : ByteArray).data.toList = [c] from rfl, hj] at key
   exact key
theorem fn_strings_Split (s : Str) (c : UInt8) (hs : s.length ≤ 1048576) : FnOk Tryz.prog 77 [dS s, dS [c]] (fun r => r = .own (oStrs (cutS c s))) := by
 intro w ow vs t ht hL hnew hsz ha
 obtain rfl := args_2 hsz ha
 obtain ⟨m, hm⟩ := (laid_facts hL).2.2.2
 refine (Tryz.strings_Split ⟨s.toArray⟩ ⟨[c].toArray⟩ m w (by simp [ByteArray.size]; omega) hm (Nat.le_refl 1)).mono ?_
 rintro e w' ⟨rfl, rfl⟩
 obtain ⟨n, hn⟩ : ∃ n, Lib.countB ⟨s.toArray⟩ ⟨[c].toArray⟩ = n := ⟨_, rfl⟩
 have hn2 : n = s.count c := by rw [← hn]; exact Lib.count_one c s
 have hsd := Lib.splitB_data ⟨[c].toArray⟩ 0 n ⟨s.toArray⟩
 have hsd2 : (Lib.splitB ⟨[c].toArray⟩ 0 n ⟨s.toArray⟩).map (·.data.toList) = cutS c s := hsd.trans (splitK_eq c n s hn2.symm)
 obtain ⟨L, hLs⟩ : ∃ L, Lib.splitB ⟨[c].toArray⟩ 0 n ⟨s.toArray⟩ = L := ⟨_, rfl⟩
 have hall : L.length = n + 1 := by rw [← hLs]; exact Lib.splitB_all ⟨[c].toArray⟩ (Nat.le_refl 1) 0 n _ hn
 rw [hn, hLs]
 rw [hLs] at hsd2
 have hcl : (cutS c s).length = n + 1 := by rw [← hsd2, List.length_map, hall]
 have hcs := (cutS_len c s).1
 have hget : ∀ (j : Nat) (x : Str), (cutS c s)[j]? = some x → (L.map Value.string).toArray[j]? = some (.string ⟨x.toArray⟩) := by
  intro j x hx
  rw [← hsd2, List.getElem?_map, Option.map_eq_some_iff] at hx
  obtain ⟨y, hy, rfl⟩ := hx
  rw [List.getElem?_toArray, List.getElem?_map, hy]
  rfl
 have hnewb : (w.alloc (.cells (L.map Value.string).toArray 9)).heap[w.heap.size]? = some (.cells (L.map Value.string).toArray 9) := by
  show (w.heap.push _)[w.heap.size]? = _
  simp
 refine ⟨_, fun b => if b = w.heap.size then some [t] else if b < w.heap.size then ow b else none, _, rfl, rfl, ⟨rfl, rfl, rfl, by simp, fun b hb => ⟨?_, ?_⟩, fun b hb => ?_⟩, rfl, fun s' a => ?_⟩
 ·show (w.heap.push _)[b]? = _
  rw [Array.getElem?_push_lt hb]; simp [hb]
 ·rw [if_neg (by omega), if_pos hb]
 ·have : w.heap.size + 1 ≤ b := by simpa using hb
  rw [if_neg (by omega), if_neg (by omega)]
 ·simp only [SV, V, R]
  refine ⟨some ⟨w.heap.size, 0, none⟩, n + 1, by simp [hcl], by simp [hcl], by unfold maxLen; omega, .inr (.inr ⟨w.heap.size, 0, 1, _, 9, (0, 0), rfl, hnewb, (by intro h; cases h), fun t' ht' => ?_, ?_⟩)⟩
  ·obtain rfl := Option.some.inj ht'
   obtain ⟨_, i, zv, hi, hsz, _⟩ := (good 9).of (fun x h e => by rw [e] at h; cases h)
   exact ⟨by simp, rfl, unfz0 _, rfl, by simp [hall], i, hi, hsz⟩
  ·rw [Rs.iff hnewb]
   intro j x hx
   rw [List.getElem?_map, Option.map_eq_some_iff] at hx
   obtain ⟨y, hy, rfl⟩ := hx
   refine ⟨rfl, _, _, _, [.string ⟨y.toArray⟩], hnewb, fun k hk => ?_, ?_⟩
   ·obtain rfl : k = 0 := by simpa [D.w] using hk
    simpa using hget j y hy
   ·simp [R, Value.oneCell']
end Go.Proofs.YtfhfidecmdhkoaaGreatDoor

end
