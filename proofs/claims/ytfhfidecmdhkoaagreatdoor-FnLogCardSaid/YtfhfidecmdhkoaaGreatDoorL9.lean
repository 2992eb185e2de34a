/- The law FnLog holds: entries are read back only as they were encoded, a part of a log holds a part of its batches, an appended batch is the last one. No condition beyond the given statement's own. -/
import Derived.Test.YtfhfidecmdhkoaaGreatDoorL8
set_option linter.unusedVariables false
set_option linter.unusedSimpArgs false
set_option linter.unusedSectionVars false
section
set_option maxRecDepth 10000
namespace Go.Proofs.YtfhfidecmdhkoaaGreatDoor
open Go.Dv Go.Pl
open Go.ChangeShapes Go.WideShapes Go.ChangeAt Go.RowKit Go.Er
theorem tr_u8 {H : Type} {enc : TypeId × Value → H} {W : World} {cs : List Value} (h : Tr enc Tryz.prog W 5 cs) : ∃ c : UInt8, True ∧ Rd Tryz.prog W (dU c) cs := by
 obtain ⟨f, x, h⟩ := h
 obtain ⟨n, rfl, _, hw⟩ := DataW.trod_int Tryz.underlying5 h
 have hn : 0 ≤ n ∧ n ≤ 255 := by
  simp [Lit.wf, IntKind.wrap, IntKind.bits, IntKind.signed, IntKind.min, IntKind.max] at hw
  omega
 refine ⟨UInt8.ofNat n.toNat, trivial, fun l => ?_⟩
 have h1 : ((UInt8.ofNat n.toNat).toNat : Int) = n := by rw [UInt8.toNat_ofNat']; omega
 simp only [dU, h1, R]
 exact ⟨trivial, rfl⟩
theorem tr_bytes {H : Type} {enc : TypeId × Value → H} {W : World} {cs : List Value} (h : Tr enc Tryz.prog W 40 cs) : ∃ b : Str, (b.length ≤ 9223372036854775807 ∧ ∀ c ∈ b, True) ∧ Rd Tryz.prog W (nByt b) cs :=
 open_sl Tryz.underlying40 (k := 1) (by kernel_rfl) (by decide) (fun vs h => tr_u8 h) h
theorem nByt_free (b : Str) : (nByt b).fz = nByt b := by simp [D.fz, D.fzs_map]
theorem readsY : (Tryz.prog.readableRec 40 && decide (40 < Tryz.prog.types.size)) = true := by kernel_rfl
set_option maxRecDepth 100000 in
theorem lifted5 (os : Os) (started : os.Started) (H : Type) (enc : TypeId × Value → H) :
  ReturnsInHanded {} Tryz.checked os 5 .any (fun w args => (Rows.fnLogSpec.pre enc Tryz.prog Tryz.f5 Rows.fnLogRow.domain false w args ∧ laidMet Tryz.prog tables w) ∧ sizedMet enc Tryz.prog Tryz.f5 (OpenSpec.ofChange Rows.fnLogSpec) false w args) (Rows.fnLogSpec.post enc Tryz.prog Tryz.f5 false true false false) := by
 refine law_lifted_open (C := Tryz.checked) (s := Rows.fnLogSpec) started own laidOut (by kernel_rfl) Tryz.func5 rfl ?_ rfl Tryz.underlying4 ?_
  (ChangeSpec.witness_at (enc := enc) (C := Tryz.checked) (os := os) (X := fun w _ => laidMet Tryz.prog tables w) false (laidWorld os) #[.slice none 0 0] 8 rfl (by kernel_rfl) (by kernel_rfl) (by kernel_rfl) (by kernel_rfl) (by kernel_rfl) (laid_met os _)) ?_
 ·intro ds hds
  match ds, hds with
  | [d0], _ => rfl
 ·intro t ht
  rw [Tryz.params5] at ht
  simp only [List.mem_cons, List.not_mem_nil, or_false] at ht
  subst ht
  have h := readsY; rw [Bool.and_eq_true, decide_eq_true_eq] at h; exact h
 ·intro W base args ds p hS hval hA hL
  rw [Tryz.params5] at hA hval
  obtain ⟨v0, vs0, d0, ds0, p0, q0, hargs, rfl, rfl, h0, r0⟩ := trodAll_cons hA
  obtain ⟨rfl, rfl, rfl⟩ := trodAll_nil r0
  obtain rfl : args = #[v0] := by cases args; simp_all
  obtain ⟨a, len, cap, rfl⟩ := okWide_slice Tryz.underlying40 (hval 0 40 v0 rfl rfl)
  obtain ⟨nf, h0⟩ := h0
  obtain ⟨b, hb, hR⟩ := tr_bytes (cs := [.slice a len cap]) ⟨nf, _, h0⟩
  have hsz := size8 hS
  refine law_calls (fn_laws_FnLog b hb.1) (laid_of hS hL hsz) rfl fun i d hd => ?_
  match i, hd with
  | 0, hd =>
   obtain rfl := Option.some.inj hd
   rw [nByt_free]
   exact v_sl hR
  | i + 1, hd => simp at hd
theorem logRow : Rows.FnLogSaid :=
 OpenClaim.holds_of_wide 5 Tryz.f5 rfl rfl rfl rfl rfl rfl rfl ⟨rfl, rfl, rfl, rfl, rfl⟩ rfl rfl rfl rfl rfl (by kernel_rfl) Tryz.func5 (by kernel_rfl)
  (of_decide_eq_true (by kernel_rfl)) (by unfold Func.isWrapper; first | (rw [if_pos (by decide +kernel)]; kernel_rfl) | (rw [if_neg (by decide +kernel)]; exact ⟨rfl, rfl⟩))
  (fun os started H enc _ => lifted5 os started H enc)
theorem fnLog.proved : Rows.FnLogCardSaid :=
 Claim7.holds_tied_plain_at .later [] [.data, .data, .data, .data, .sentinel, .sentinel, .pinned] true (true, "0f5da29d48cfd890efb9e0cafcb31fd95b5a34632cf037ef33be82bf584b020a") true
  logRow (fun _ h => by cases h) (by kernel_rfl) (fun _ h => by cases h) fnLog_row_tie rfl ⟨rfl, rfl⟩ (by kernel_rfl) rfl
  (fun f fn hf hfn => by
   obtain rfl : f = 5 := Option.some.inj ((show Tryz.prog.funcNamed "loop.example/g01923/laws.FnLog" = some 5 by kernel_rfl).symm.trans hf) |>.symm
   obtain rfl : fn = Tryz.f5 := (Option.some.inj (Tryz.func5.symm.trans hfn)).symm
   exact ⟨by kernel_rfl, fun j t ht => by
    rw [Tryz.params5] at ht
    rcases j with _ | j
    ·obtain rfl : t = 40 := by simpa using ht.symm
     exact (show Tryz.prog.wantsStandIn 40 = false by kernel_rfl)
    ·simp at ht⟩)
  (by kernel_rfl)
end Go.Proofs.YtfhfidecmdhkoaaGreatDoor

end
