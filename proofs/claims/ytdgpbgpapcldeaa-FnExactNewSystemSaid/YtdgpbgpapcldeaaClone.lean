/- slices.Clone. -/
import Derived.Test.YtdgpbgpapcldeaaCLib
import Derived.Test.YtdgpbgpapcldeaaMIntS
import Derived.Test.YtdgpbgpapcldeaaMTest
import Derived.Lib.SliceRun
set_option linter.unusedVariables false
set_option linter.unusedSimpArgs false
namespace Go.Proofs.Ytdgpbgpapcldeaa
open Go.RowKit Go.Er Go.BigFrame
theorem enc_Test : Enc 3 TestO TestR (fun x => [.int .i64 x.feature, .int .i64 x.threshold, .bool x.below]) (fun _ => True) := ⟨fun _ => rfl, fun x u h => by simp only [List.mem_cons, List.not_mem_nil, or_false] at h; rcases h with rfl | rfl | rfl <;> rfl, fun h => ⟨h, trivial⟩, fun _ => rfl⟩

set_option maxRecDepth 8000 in
set_option maxHeartbeats 800000 in
theorem cloneIntS_any (l : List Int) (hl : l.length ≤ 1048576) (a : Option Addr) (c : Nat) (B : Nat) (w : World) (h : RowR 1 IntR B w a l) :
    Calls Try.prog 131 #[.slice a l.length c] w (MadeSO 1 IntO w l) := by
  have HA := Lib.hid h; clear h
  cases a with
  | none =>
    obtain rfl : l = [] := by
      cases l with
      | nil => rfl
      | cons x l => obtain ⟨b, o, vs, h, _⟩ := HA.out.2 0 (by simp); cases h
    have qT : ∀ (w : World) (a : Option Addr) (n c : Nat), (binOp .eql 36 (.slice a n c) (.slice none 0 0)).run Try.prog w = .ok (.bool a.isNone) w := fun w a n c => Lib.run_eql_slice_nil w _ _ a n c 0 0 Try.underlying36
    go_enter Try.func131, Try.ntmps131
    go_wp2_with fail
    go_ret
    exact ⟨none, 0, rfl, RowO.nil, Ext.refl _⟩
  | some ad =>
    have qT : ∀ (w : World) (a : Option Addr) (n c : Nat), (binOp .eql 36 (.slice a n c) (.slice none 0 0)).run Try.prog w = .ok (.bool a.isNone) w := fun w a n c => Lib.run_eql_slice_nil w _ _ a n c 0 0 Try.underlying36
    go_enter Try.func131, Try.ntmps131
    go_wp2_with (at_builtin; refine wpList_append_all enc_int (B := w.heap.size) (B' := B) rfl _ _ 36 rfl Try.underlying36 info_IntS rfl (by decide) (by decide) (.slice (some ⟨w.heap.size, 0, none⟩) 0 0) rfl (AppO.lit0 (Nat.le_refl _) (heap_alloc_new w _)) (by simp) (some ad) l c rfl (HA.out.ext good_int (Ext.alloc _ _)) (by omega) ?_; intro v' w2 hv hC hB)
    obtain ⟨a2, c2, rfl, hr⟩ := hv.rowOf
    have hE : Ext w w2 := hC.ext (Ext.alloc _ _) (fun c hc => (hB c hc).1)
    have HE := Lib.hid hE; have HR := Lib.hid hr
    clear hv hC hB hE hr
    go_wp2_with fail
    go_ret
    exact ⟨_, _, rfl, HR.out, HE.out⟩

set_option maxRecDepth 8000 in
set_option maxHeartbeats 800000 in
theorem cloneTestS_any (l : List DTest) (hl : l.length ≤ 1048576) (a : Option Addr) (c : Nat) (B : Nat) (w : World) (h : RowR 3 TestR B w a l) :
    Calls Try.prog 151 #[.slice a l.length c] w (MadeSO 3 TestO w l) := by
  have HA := Lib.hid h; clear h
  cases a with
  | none =>
    obtain rfl : l = [] := by
      cases l with
      | nil => rfl
      | cons x l => obtain ⟨b, o, vs, h, _⟩ := HA.out.2 0 (by simp); cases h
    have qT : ∀ (w : World) (a : Option Addr) (n c : Nat), (binOp .eql 102 (.slice a n c) (.slice none 0 0)).run Try.prog w = .ok (.bool a.isNone) w := fun w a n c => Lib.run_eql_slice_nil w _ _ a n c 0 0 Try.underlying102
    go_enter Try.func151, Try.ntmps151
    go_wp2_with fail
    go_ret
    exact ⟨none, 0, rfl, RowO.nil, Ext.refl _⟩
  | some ad =>
    have qT : ∀ (w : World) (a : Option Addr) (n c : Nat), (binOp .eql 102 (.slice a n c) (.slice none 0 0)).run Try.prog w = .ok (.bool a.isNone) w := fun w a n c => Lib.run_eql_slice_nil w _ _ a n c 0 0 Try.underlying102
    go_enter Try.func151, Try.ntmps151
    go_wp2_with (at_builtin; refine wpList_append_all enc_Test (B := w.heap.size) (B' := B) rfl _ _ 102 rfl Try.underlying102 info_TestS rfl (by decide) (by decide) (.slice (some ⟨w.heap.size, 0, none⟩) 0 0) rfl (AppO.lit0 (Nat.le_refl _) (heap_alloc_new w _)) (by simp) (some ad) l c rfl (HA.out.ext good_Test (Ext.alloc _ _)) (by omega) ?_; intro v' w2 hv hC hB)
    obtain ⟨a2, c2, rfl, hr⟩ := hv.rowOf
    have hE : Ext w w2 := hC.ext (Ext.alloc _ _) (fun c hc => (hB c hc).1)
    have HE := Lib.hid hE; have HR := Lib.hid hr
    clear hv hC hB hE hr
    go_wp2_with fail
    go_ret
    exact ⟨_, _, rfl, HR.out, HE.out⟩
end Go.Proofs.Ytdgpbgpapcldeaa
