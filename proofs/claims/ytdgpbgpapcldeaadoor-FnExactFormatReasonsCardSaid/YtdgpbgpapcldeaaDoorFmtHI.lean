/- The program's FormatInt and FormatHits. -/
import Derived.Test.YtdgpbgpapcldeaaDoorFmtHS
import Derived.Test.YtdgpbgpapcldeaaDoorShelf
import Derived.Lib.AppendIntMem
set_option linter.unusedVariables false
set_option linter.unusedSimpArgs false
namespace Go.Proofs.YtdgpbgpapcldeaaDoor
open Go.RowKit Go.Er Go.BigFrame

abbrev Tab (w : World) : Prop := Lib.TabIs Tryd.prog w "internal/strconv.uint64pow10" .u64 Lib.pow10Tab
theorem tab_ext {w w' : World} (h : Tab w) (hE : Ext w w') : Tab w' := Lib.tabBelow_of_tabIs h w' hE
theorem ext_grow (w : World) (k : Nat) (os : Array Obj) : Ext w (Sort.grow (w.drewN k) os) := by
  refine ⟨rfl, rfl, rfl, by simp [Sort.grow, World.drewN], fun j hj => ?_⟩
  simp only [Sort.grow, World.drewN]
  exact Array.getElem?_append_left hj

theorem implFormatInt_any (n : Int) (hn : inI64 n) (w : World) (hT : Tab w) :
    Calls Tryd.prog 17 #[.int .i64 n] w fun e w' => e = .returned (.string ⟨(Lib.itoa n).toArray⟩) ∧ Ext w w' := by
  have HT := Lib.hid hT; clear hT
  go_enter Tryd.func17, Tryd.ntmps17
  go_wp2_with fail
  refine (Tryd.strconv_Itoa n hn.1 hn.2 _ HT.out).mono ?_
  rintro e w1 ⟨rfl, k, os, hw⟩
  have HE : Hid (Ext w w1) := by subst hw; exact ext_grow w k os
  clear hw
  go_wp2_with fail
  go_ret
  exact ⟨rfl, HE.out⟩

theorem info_str : (Tryd.prog.info? 9).map (fun i => (i.zero, i.size, i.bytes)) = some (some (.string ⟨#[]⟩), 1, 16) := by kernel_rfl
theorem joinTail_len : ∀ (r : List (List UInt8)), (∀ x ∈ r, x.length ≤ 41) → (Lib.joinTail [32] r).length ≤ 42 * r.length
  | [], _ => by simp [Lib.joinTail]
  | x :: r, h => by
    have h1 := h x (by simp)
    have h2 := joinTail_len r (fun y hy => h y (by simp [hy]))
    simp only [Lib.joinTail, List.map_cons, List.flatten_cons, List.length_append, List.length_cons, List.length_nil] at h2 ⊢
    omega
theorem join_len (l : List DHit) (hin : ∀ h ∈ l, hitIn h) : (Lib.join (l.map hitStr) [32]).length ≤ 42 * l.length := by
  cases l with
  | nil => simp [Lib.join_nil]
  | cons x r =>
    rw [List.map_cons, Lib.join_cons, List.length_append]
    have h1 := hitStr_len x (hin x (by simp))
    have h2 := joinTail_len (r.map hitStr) (fun y hy => by
      obtain ⟨z, hz, rfl⟩ := List.mem_map.1 hy
      exact hitStr_len z (hin z (by simp [hz])))
    rw [List.length_map] at h2
    simp only [List.length_cons]
    omega
def bs (s : List UInt8) : ByteArray := ⟨s.toArray⟩

set_option maxHeartbeats 3200000 in
theorem implFormatHits_any (l : List DHit) (hin : ∀ h ∈ l, hitIn h) (a : Option Addr) (c : Nat) (w : World) (hT : Tab w) (h : RowR 2 HitR 0 w a l) :
    Calls Tryd.prog 8 #[.slice a l.length c] w fun e w' => e = .returned (.string ⟨(hitsStr l).toArray⟩) ∧ Ext w w' := by
  have hl : (l.length : Int) ≤ 9223372036854775807 := by have := h.1; unfold maxLen at this; omega
  have HA := Lib.hid h; have HIN := Lib.hid hin; have HT := Lib.hid hT; clear h hin hT
  by_cases h0 : l.length = 0
  · have hr : hitsStr l = [110, 111, 110, 101] := by unfold hitsStr; rw [if_pos (List.length_eq_zero_iff.1 h0)]
    have HR := Lib.hid hr
    have h0b : ((l.length : Int) == 0) = true := by simp [h0]
    clear hr h0
    go_enter Tryd.func8, Tryd.ntmps8
    go_wp2_with fail
    go_ret
    exact ⟨by rw [HR.out]; rfl, Ext.refl _⟩
  · have h0b : ((l.length : Int) == 0) = false := by rw [beq_eq_false_iff_ne]; omega
    have hne : ¬ l = [] := fun e => h0 (by rw [e]; rfl)
    by_cases h20 : l.length ≤ 20
    · have hr : hitsStr l = Lib.join (l.map hitStr) [32] := by unfold hitsStr; rw [if_neg hne, if_pos h20]
      have HR := Lib.hid hr
      clear hr hne
      go_enter Tryd.func8, Tryd.ntmps8
      go_wp2_with fail
      go_loopw [3, 16] (fun s3 s16 wr => ∃ i : Nat, i ≤ l.length ∧ s16 = .int .i64 i ∧ Ext w wr ∧ Own1 wr w.heap.size 9 s3 ((l.take i).map (fun x => .string (bs (hitStr x))))) (fun _ i _ => l.length - (intOf i).toNat)
      case atStart => exact ⟨0, Nat.zero_le _, rfl, Ext.refl _, by simpa using Own1.nil w w.heap.size 9⟩
      case round =>
        obtain ⟨i, hi, rfl, hE, hO⟩ := hrel
        have HE := Lib.hid hE; have HO := Lib.hid hO; clear hE hO
        by_cases hlt : i < l.length
        · obtain ⟨b, o, vs, rfl, _, _, hc, hR1⟩ := (HA.out.ext good_Hit HE.out).2 i hlt
          have hxin := HIN.out _ (List.getElem_mem hlt)
          have htk : (l.take i).map (fun x => Value.string (bs (hitStr x))) ++ [.string (bs (hitStr l[i]))] = (l.take (i + 1)).map (fun x => .string (bs (hitStr x))) := by
            rw [List.take_succ_eq_append_getElem hlt, List.map_append, List.map_cons, List.map_nil]
          obtain ⟨x, hx⟩ : ∃ x, x = l[i] := ⟨_, rfl⟩
          rw [← hx] at hR1 hxin htk
          obtain rfl := hR1
          have hi1 := itoa_len _ hxin.1; have hi2 := itoa_len _ hxin.2
          have HXI := Lib.hid hxin; have HTK := Lib.hid htk
          clear hx hxin htk
          have q0 := hc 0 (by simp)
          have q1 := hc 1 (by simp)
          simp only [List.getElem_cons_zero, List.getElem_cons_succ, Nat.mul_one, Nat.add_zero] at q0 q1
          clear hc
          have ql := lt_of_cell q0
          obtain ⟨e1, he1⟩ : ∃ e1, e1 = Lib.itoa x.entity := ⟨_, rfl⟩
          obtain ⟨e2, he2⟩ : ∃ e2, e2 = Lib.itoa x.score := ⟨_, rfl⟩
          have HC1 : Hid (∀ w1 : World, Ext w w1 → Calls Tryd.prog 17 #[.int .i64 x.entity] w1 fun e w' => e = .returned (.string ⟨e1.toArray⟩) ∧ Ext w1 w') := fun w1 h => by rw [he1]; exact implFormatInt_any _ HXI.out.1 w1 (tab_ext HT.out h)
          have HC2 : Hid (∀ w1 : World, Ext w w1 → Calls Tryd.prog 17 #[.int .i64 x.score] w1 fun e w' => e = .returned (.string ⟨e2.toArray⟩) ∧ Ext w1 w') := fun w1 h => by rw [he2]; exact implFormatInt_any _ HXI.out.2 w1 (tab_ext HT.out h)
          have hxs : bs (hitStr x) = ⟨e1.toArray⟩ ++ ⟨#[58]⟩ ++ ⟨e2.toArray⟩ := by
            rw [he1, he2]; unfold bs hitStr; ext1; simp
          have HXS := Lib.hid hxs
          rw [← he1] at hi1
          rw [← he2] at hi2
          clear he1 he2 hxs
          go_wp2_with fail
          obtain ⟨w1, hw1⟩ : ∃ w1, w1 = wr.alloc (.cells #[.int .i64 x.entity, .int .i64 x.score] 38) := ⟨_, rfl⟩
          have HX : Hid (Box w1 wr.heap.size 38 #[.int .i64 x.entity, .int .i64 x.score]) := by rw [hw1]; exact Box.new' _ _ _ _ rfl
          have HE1 : Hid (Ext w w1) := by rw [hw1]; exact HE.out.alloc' _
          have HO1 : Hid (Own1 w1 w.heap.size 9 u3 ((l.take i).map (fun x => .string (bs (hitStr x))))) := by rw [hw1]; exact HO.out.alloc _
          rw [← hw1]
          clear hw1 q0 q1 ql HE HO
          have bx := HX.out
          have k0 := bx.cell 0
          have k1 := bx.cell 1
          have klt := bx.lt
          simp only [List.getElem?_toArray, List.getElem?_cons_zero, List.getElem?_cons_succ] at k0 k1
          clear bx
          have hb1 : ¬ 9223372036854775807 < e1.length + 1 := by omega
          have hb2 : ¬ 9223372036854775807 < e1.length + 1 + e2.length := by omega
          go_region_law (first
            | (refine step_append_one (w0 := w) rfl (.tmp 20) (.tmp 29) 41 rfl Tryd.underlying41 info_str rfl (by decide) u3 ((l.take i).map (fun x => .string (bs (hitStr x)))) rfl (by have h8 := HE3.out; (repeat' (first | with_reducible assumption | with_reducible exact Below.refl _ _ | (with_reducible refine Ext.alloc' ?_ _) | (with_reducible refine Ext.drew' ?_) | (with_reducible refine Ext.drewN' ?_ _) | (with_reducible refine Ext.set_ ?_ (by first | omega | (simp; done) | (simp; omega)) _ _) | (refine Ext.trans ?_ (by with_reducible assumption))))) (HO3.out.ext (by (repeat' (first | with_reducible assumption | with_reducible exact Below.refl _ _ | (with_reducible refine Ext.alloc' ?_ _) | (with_reducible refine Ext.drew' ?_) | (with_reducible refine Ext.drewN' ?_ _) | (with_reducible refine Ext.set_ ?_ (by first | omega | (simp; done) | (simp; omega)) _ _) | (refine Ext.trans ?_ (by with_reducible assumption)))))) (by simp; omega) ⟨_, 0, none⟩ 1 (.string (bs (hitStr x))) rfl (by rw [HXS.out]; simp) rfl ?_; intro v' w4 hv4 hE4 hg4 hb4; have HV4 := Lib.hid hv4; have HE4 := Lib.hid hE4; clear hv4 hE4 hg4 hb4)
            | (go_simp; go_at_call_of 17 (Value.int IntKind.i64 x.entity); refine (HC1.out _ (by have h8 := HE1.out; (repeat' (first | with_reducible assumption | with_reducible exact Below.refl _ _ | (with_reducible refine Ext.alloc' ?_ _) | (with_reducible refine Ext.drew' ?_) | (with_reducible refine Ext.drewN' ?_ _) | (with_reducible refine Ext.set_ ?_ (by first | omega | (simp; done) | (simp; omega)) _ _) | (refine Ext.trans ?_ (by with_reducible assumption)))))).mono ?_; rintro e w2 ⟨rfl, hE2⟩
               have hF2 : Ext w1 w2 := (show Ext w1 w2 from by have h9 := hE2; (repeat' (first | with_reducible assumption | with_reducible exact Below.refl _ _ | (with_reducible refine Ext.alloc' ?_ _) | (with_reducible refine Ext.drew' ?_) | (with_reducible refine Ext.drewN' ?_ _) | (with_reducible refine Ext.set_ ?_ (by first | omega | (simp; done) | (simp; omega)) _ _) | (refine Ext.trans ?_ (by with_reducible assumption)))))
               have HE2 := Lib.hid (HE1.out.trans hF2); have HO2 := Lib.hid (HO1.out.ext hF2)
               have k0' := hF2.at k0; have k1' := hF2.at k1
               clear hE2 hF2)
            | (go_simp; go_at_call_of 17 (Value.int IntKind.i64 x.score); refine (HC2.out _ (by have h8 := HE2.out; (repeat' (first | with_reducible assumption | with_reducible exact Below.refl _ _ | (with_reducible refine Ext.alloc' ?_ _) | (with_reducible refine Ext.drew' ?_) | (with_reducible refine Ext.drewN' ?_ _) | (with_reducible refine Ext.set_ ?_ (by first | omega | (simp; done) | (simp; omega)) _ _) | (refine Ext.trans ?_ (by with_reducible assumption)))))).mono ?_; rintro e w3 ⟨rfl, hE3⟩
               have hF3 : Ext w2 w3 := (show Ext w2 w3 from by have h9 := hE3; (repeat' (first | with_reducible assumption | with_reducible exact Below.refl _ _ | (with_reducible refine Ext.alloc' ?_ _) | (with_reducible refine Ext.drew' ?_) | (with_reducible refine Ext.drewN' ?_ _) | (with_reducible refine Ext.set_ ?_ (by first | omega | (simp; done) | (simp; omega)) _ _) | (refine Ext.trans ?_ (by with_reducible assumption)))))
               have HE3 := Lib.hid (HE2.out.trans hF3); have HO3 := Lib.hid (HO2.out.ext hF3)
               clear hE3 hF3))
          all_goals
            clear k0 k1 klt hb1 hb2
            go_wp2_with fail
            go_roundw
            case rel => exact ⟨i + 1, by omega, by go_num, HE4.out, by rw [← HTK.out]; exact HV4.out⟩
            case measure => (simp [intOf] <;> omega)
        · obtain hie : i = l.length := by omega
          have hge : ¬ (i : Int) < l.length := by omega
          have hO2 := HO.out
          rw [hie, List.take_length] at hO2
          obtain ⟨g, cap, hs⟩ := hO2.shape (by simp; omega)
          rw [hs] at hO2
          have hcells : ∀ (j : Nat) (x : ByteArray), (l.map (fun x => bs (hitStr x)))[j]? = some x → wr.cell? ⟨g, 0 + j, none⟩ = some (.string x) := fun j x hj => by
            have hjl : j < l.length := by have := (List.getElem?_eq_some_iff.1 hj).1; simpa using this
            have hc := hO2.cellAt j (by simpa using hjl)
            rw [Nat.zero_add, hc]
            simp [hjl] at hj ⊢
            exact hj
          have hcap : (l.map (fun x => bs (hitStr x))).length ≤ cap := by
            rcases hO2.2 with ⟨h9, _⟩ | ⟨g', cap', cur, h9, _, _, h8, _⟩
            · cases h9
            · cases h9; simpa using h8
          have hmm : (l.map (fun x => bs (hitStr x))).map (·.data.toList) = l.map hitStr := by simp [bs]
          have hJ := Tryd.strings_Join g 0 cap (l.map (fun x => bs (hitStr x))) ⟨#[32]⟩ wr hcells (hO2.lt rfl) (by simp; omega) hcap (by rw [hmm]; exact Nat.le_trans (join_len l HIN.out) (by omega))
          rw [hmm] at hJ
          simp only [List.length_map] at hJ hs
          have HJ := Lib.hid hJ
          have HR2 : Hid (Lib.join (l.map hitStr) [32] = hitsStr l) := HR.out.symm
          clear hJ hmm hcap hcells hO2 hie
          subst hs
          go_wp2_with fail
          refine HJ.out.mono ?_
          rintro e w2 ⟨rfl, hE2⟩
          have HE2 := Lib.hid (HE.out.trans hE2)
          clear hE2
          go_wp2_with fail
          go_ret
          exact ⟨by rw [← HR2.out]; rfl, HE2.out⟩
    · have hr : hitsStr l = [] := by unfold hitsStr; rw [if_neg hne, if_neg h20]
      have HR := Lib.hid hr
      have h20b : (20 : Int) < l.length := by omega
      clear hr hne h0 h20
      go_enter Tryd.func8, Tryd.ntmps8
      go_wp2_with fail
      go_ret
      exact ⟨by rw [HR.out]; rfl, Ext.refl _⟩
end Go.Proofs.YtdgpbgpapcldeaaDoor
