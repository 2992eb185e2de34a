/- The program's FormatReasons. -/
import Derived.Test.YtdgpbgpapcldeaaDoorFmtRS
import Derived.Test.YtdgpbgpapcldeaaDoorFmtHI
set_option linter.unusedVariables false
set_option linter.unusedSimpArgs false
namespace Go.Proofs.YtdgpbgpapcldeaaDoor
open Go.RowKit Go.Er Go.BigFrame

theorem joinTail_len2 : ∀ (r : List (List UInt8)), (∀ x ∈ r, x.length ≤ 68) → (Lib.joinTail [59, 32] r).length ≤ 70 * r.length
  | [], _ => by simp [Lib.joinTail]
  | x :: r, h => by
    have h1 := h x (by simp)
    have h2 := joinTail_len2 r (fun y hy => h y (by simp [hy]))
    simp only [Lib.joinTail, List.map_cons, List.flatten_cons, List.length_append, List.length_cons, List.length_nil] at h2 ⊢
    omega
theorem join_len2 (l : List DReason) (hin : ∀ h ∈ l, reasonIn h) : (Lib.join (l.map reasonStr) [59, 32]).length ≤ 70 * l.length := by
  cases l with
  | nil => simp [Lib.join_nil]
  | cons x r =>
    rw [List.map_cons, Lib.join_cons, List.length_append]
    have h1 := reasonStr_len x (hin x (by simp))
    have h2 := joinTail_len2 (r.map reasonStr) (fun y hy => by
      obtain ⟨z, hz, rfl⟩ := List.mem_map.1 hy
      exact reasonStr_len z (hin z (by simp [hz])))
    rw [List.length_map] at h2
    simp only [List.length_cons]
    omega

set_option maxHeartbeats 6400000 in
theorem implFormatReasons_any (l : List DReason) (hin : ∀ h ∈ l, reasonIn h) (a : Option Addr) (c : Nat) (w : World) (hT : Tab w) (h : RowR 4 ReasonR 0 w a l) :
    Calls Tryd.prog 13 #[.slice a l.length c] w fun e w' => e = .returned (.string ⟨(reasonsStr l).toArray⟩) ∧ Ext w w' := by
  have hl : (l.length : Int) ≤ 9223372036854775807 := by have := h.1; unfold maxLen at this; omega
  have HA := Lib.hid h; have HIN := Lib.hid hin; have HT := Lib.hid hT; clear h hin hT
  by_cases h0 : l.length = 0
  · have hr : reasonsStr l = [110, 111, 110, 101] := by unfold reasonsStr; rw [if_pos (List.length_eq_zero_iff.1 h0)]
    have HR := Lib.hid hr
    have h0b : ((l.length : Int) == 0) = true := by simp [h0]
    clear hr h0
    go_enter Tryd.func13, Tryd.ntmps13
    go_wp2_with fail
    go_ret
    exact ⟨by rw [HR.out]; rfl, Ext.refl _⟩
  · have h0b : ((l.length : Int) == 0) = false := by rw [beq_eq_false_iff_ne]; omega
    have hne : ¬ l = [] := fun e => h0 (by rw [e]; rfl)
    by_cases h20 : l.length ≤ 20
    · have hr : reasonsStr l = Lib.join (l.map reasonStr) [59, 32] := by unfold reasonsStr; rw [if_neg hne, if_pos h20]
      have HR := Lib.hid hr
      clear hr hne
      go_enter Tryd.func13, Tryd.ntmps13
      go_wp2_with fail
      go_loopw [3, 17] (fun s3 s16 wr => ∃ i : Nat, i ≤ l.length ∧ s16 = .int .i64 i ∧ Ext w wr ∧ Own1 wr w.heap.size 9 s3 ((l.take i).map (fun x => .string (bs (reasonStr x))))) (fun _ i _ => l.length - (intOf i).toNat)
      case atStart => exact ⟨0, Nat.zero_le _, rfl, Ext.refl _, by simpa using Own1.nil w w.heap.size 9⟩
      case round =>
        obtain ⟨i, hi, rfl, hE, hO⟩ := hrel
        have HE := Lib.hid hE; have HO := Lib.hid hO; clear hE hO
        by_cases hlt : i < l.length
        · obtain ⟨b, o, vs, rfl, _, _, hc, hR1⟩ := (HA.out.ext good_Reason HE.out).2 i hlt
          have hxin := HIN.out _ (List.getElem_mem hlt)
          have htk : (l.take i).map (fun x => Value.string (bs (reasonStr x))) ++ [.string (bs (reasonStr l[i]))] = (l.take (i + 1)).map (fun x => .string (bs (reasonStr x))) := by
            rw [List.take_succ_eq_append_getElem hlt, List.map_append, List.map_cons, List.map_nil]
          obtain ⟨x, hx⟩ : ∃ x, x = l[i] := ⟨_, rfl⟩
          rw [← hx] at hR1 hxin htk
          obtain rfl := hR1
          have hi1 := itoa_len _ hxin.1; have hi2 := itoa_len _ hxin.2.1; have hi3 := itoa_len _ hxin.2.2.2
          have HXI := Lib.hid hxin; have HTK := Lib.hid htk
          clear hx hxin htk
          have t0 := hc 0 (by simp)
          have t1 := hc 1 (by simp)
          have t2 := hc 2 (by simp)
          have t3 := hc 3 (by simp)
          simp only [List.getElem_cons_zero, List.getElem_cons_succ, Nat.mul_one, Nat.add_zero] at t0 t1 t2 t3
          clear hc
          have tl := lt_of_cell t0
          obtain ⟨e1, he1⟩ : ∃ e1, e1 = Lib.itoa x.a := ⟨_, rfl⟩
          obtain ⟨e2, he2⟩ : ∃ e2, e2 = Lib.itoa x.b := ⟨_, rfl⟩
          obtain ⟨e3, he3⟩ : ∃ e3, e3 = Lib.itoa x.rule := ⟨_, rfl⟩
          have HC1 : Hid (∀ w1 : World, Ext w w1 → Calls Tryd.prog 17 #[.int .i64 x.a] w1 fun e w' => e = .returned (.string ⟨e1.toArray⟩) ∧ Ext w1 w') := fun w1 h => by rw [he1]; exact implFormatInt_any _ HXI.out.1 w1 (tab_ext HT.out h)
          have HC2 : Hid (∀ w1 : World, Ext w w1 → Calls Tryd.prog 17 #[.int .i64 x.b] w1 fun e w' => e = .returned (.string ⟨e2.toArray⟩) ∧ Ext w1 w') := fun w1 h => by rw [he2]; exact implFormatInt_any _ HXI.out.2.1 w1 (tab_ext HT.out h)
          have HC3 : Hid (∀ w1 : World, Ext w w1 → Calls Tryd.prog 17 #[.int .i64 x.rule] w1 fun e w' => e = .returned (.string ⟨e3.toArray⟩) ∧ Ext w1 w') := fun w1 h => by rw [he3]; exact implFormatInt_any _ HXI.out.2.2.2 w1 (tab_ext HT.out h)
          rw [← he1] at hi1
          rw [← he2] at hi2
          rw [← he3] at hi3
          go_wp2_with fail
          obtain ⟨w1, hw1⟩ : ∃ w1, w1 = wr.alloc (.cells #[.int .i64 x.a, .int .i64 x.b, .int .i64 x.kind, .int .i64 x.rule] 45) := ⟨_, rfl⟩
          have HX : Hid (Box w1 wr.heap.size 45 #[.int .i64 x.a, .int .i64 x.b, .int .i64 x.kind, .int .i64 x.rule]) := by rw [hw1]; exact Box.new' _ _ _ _ rfl
          have HE1 : Hid (Ext w w1) := by rw [hw1]; exact HE.out.alloc' _
          have HO1 : Hid (Own1 w1 w.heap.size 9 u3 ((l.take i).map (fun x => .string (bs (reasonStr x))))) := by rw [hw1]; exact HO.out.alloc _
          rw [← hw1]
          clear hw1 t0 t1 t2 t3 tl HE HO
          have bx := HX.out
          have q0 := bx.cell 0
          have q1 := bx.cell 1
          have q2 := bx.cell 2
          have q3 := bx.cell 3
          have qlt := bx.lt
          simp only [List.getElem?_toArray, List.getElem?_cons_zero, List.getElem?_cons_succ] at q0 q1 q2 q3
          clear bx
          by_cases hk1 : x.kind = 1
          · skip
            have hkb1 : (x.kind == 1) = true := by simpa using hk1
            have hxs : bs (reasonStr x) = ⟨e1.toArray⟩ ++ ⟨#[45]⟩ ++ ⟨e2.toArray⟩ ++ ⟨#[32]⟩ ++ (⟨#[114, 117, 108, 101, 32]⟩ ++ ⟨e3.toArray⟩) := by rw [he1, he2, he3]; unfold bs reasonStr reasonTail; rw [if_pos hk1]; ext1; simp
            have HXS := Lib.hid hxs
            clear hxs he1 he2 he3 hk1
            have HEB := HE1
            refine wp_region_ext (by kernel_rfl) (by kernel_rfl) ?_
            repeat (first
              | go_big_quiet_skip
              | (go_big_quiet_want; go_big_quiet_op; first
                  | go_big_quiet_on
                  | (refine ⟨_, fun w' hw' => rfl, ?_⟩; go_big_quiet_on)
                  | (refine ⟨.int .i64 x.a, fun w' hw' => ?_, ?_⟩
                     · have u0 := hw'.at q0
                       simp [go_sem, u0]; done
                     go_big_quiet_on)
                  | (refine ⟨.int .i64 x.b, fun w' hw' => ?_, ?_⟩
                     · have u0 := hw'.at q1
                       simp [go_sem, u0]; done
                     go_big_quiet_on)
                  | (with_reducible refine ⟨.string ⟨e1.toArray⟩, fun w' hw' => ((HC1.out w' (Ext.trans HEB.out hw')).mono (fun e w'' h => ⟨h.1, Ext.trans hw' h.2⟩)), ?_⟩
                     go_big_quiet_on)
                  | (with_reducible refine ⟨.string ⟨e2.toArray⟩, fun w' hw' => ((HC2.out w' (Ext.trans HEB.out hw')).mono (fun e w'' h => ⟨h.1, Ext.trans hw' h.2⟩)), ?_⟩
                     go_big_quiet_on)))
            refine wpQuiet_nil ?_
            intro w2 hE2
            have HE2 := Lib.hid (HEB.out.trans hE2)
            have HO2 := Lib.hid (HO1.out.ext hE2)
            have k2 := hE2.at q2; have k3 := hE2.at q3
            clear hE2 q0 q1 q2 q3 qlt
            go_wp2_with fail
            refine (HC3.out _ HE2.out).mono ?_
            rintro e w3 ⟨rfl, hE3⟩
            have HE3 := Lib.hid (HE2.out.trans hE3); have HO3 := Lib.hid (HO2.out.ext hE3)
            clear hE3 k2 k3
            go_wp2_with (at_builtin; (refine wpList_append_one (w0 := w) rfl (.tmp 46) (.tmp 48) 41 rfl Tryd.underlying41 info_str rfl (by decide) u3 ((l.take i).map (fun x => .string (bs (reasonStr x)))) rfl (by have h8 := HE3.out; (repeat' (first | with_reducible assumption | with_reducible exact Below.refl _ _ | (with_reducible refine Ext.alloc' ?_ _) | (with_reducible refine Ext.drew' ?_) | (with_reducible refine Ext.drewN' ?_ _) | (with_reducible refine Ext.set_ ?_ (by first | omega | (simp; done) | (simp; omega)) _ _) | (refine Ext.trans ?_ (by with_reducible assumption))))) (HO3.out.alloc _) (by simp; omega) ⟨_, 0, none⟩ 1 (.string (bs (reasonStr x))) rfl (by rw [HXS.out]; simp) rfl ?_); intro v' w4 hv4 hE4 hg4 hb4; have HV4 := Lib.hid hv4; have HE4 := Lib.hid hE4; clear hv4 hE4 hg4 hb4)
            go_roundw
            case rel => exact ⟨i + 1, by omega, by go_num, HE4.out, by rw [← HTK.out]; exact HV4.out⟩
            case measure => (simp [intOf] <;> omega)
          · by_cases hk2 : x.kind = 2
            · skip
              have hkb1 : (x.kind == 1) = false := by simpa using hk1
              have hkb2 : (x.kind == 2) = true := by simpa using hk2
              have hxs : bs (reasonStr x) = ⟨e1.toArray⟩ ++ ⟨#[45]⟩ ++ ⟨e2.toArray⟩ ++ ⟨#[32]⟩ ++ ⟨#[118, 101, 114, 100, 105, 99, 116]⟩ := by rw [he1, he2]; unfold bs reasonStr reasonTail; rw [if_neg hk1, if_pos hk2]; ext1; simp
              have HXS := Lib.hid hxs
              clear hxs he1 he2 he3 hk1 hk2
              have HEB := HE1
              refine wp_region_ext (by kernel_rfl) (by kernel_rfl) ?_
              repeat (first
                | go_big_quiet_skip
                | (go_big_quiet_want; go_big_quiet_op; first
                    | go_big_quiet_on
                    | (refine ⟨_, fun w' hw' => rfl, ?_⟩; go_big_quiet_on)
                    | (refine ⟨.int .i64 x.a, fun w' hw' => ?_, ?_⟩
                       · have u0 := hw'.at q0
                         simp [go_sem, u0]; done
                       go_big_quiet_on)
                    | (refine ⟨.int .i64 x.b, fun w' hw' => ?_, ?_⟩
                       · have u0 := hw'.at q1
                         simp [go_sem, u0]; done
                       go_big_quiet_on)
                    | (with_reducible refine ⟨.string ⟨e1.toArray⟩, fun w' hw' => ((HC1.out w' (Ext.trans HEB.out hw')).mono (fun e w'' h => ⟨h.1, Ext.trans hw' h.2⟩)), ?_⟩
                       go_big_quiet_on)
                    | (with_reducible refine ⟨.string ⟨e2.toArray⟩, fun w' hw' => ((HC2.out w' (Ext.trans HEB.out hw')).mono (fun e w'' h => ⟨h.1, Ext.trans hw' h.2⟩)), ?_⟩
                       go_big_quiet_on)))
              refine wpQuiet_nil ?_
              intro w2 hE2
              have HE2 := Lib.hid (HEB.out.trans hE2)
              have HO2 := Lib.hid (HO1.out.ext hE2)
              have k2 := hE2.at q2; have k3 := hE2.at q3
              clear hE2 q0 q1 q2 q3 qlt
              go_wp2_with (at_builtin; (refine wpList_append_one (w0 := w) rfl (.tmp 46) (.tmp 48) 41 rfl Tryd.underlying41 info_str rfl (by decide) u3 ((l.take i).map (fun x => .string (bs (reasonStr x)))) rfl (by have h8 := HE2.out; (repeat' (first | with_reducible assumption | with_reducible exact Below.refl _ _ | (with_reducible refine Ext.alloc' ?_ _) | (with_reducible refine Ext.drew' ?_) | (with_reducible refine Ext.drewN' ?_ _) | (with_reducible refine Ext.set_ ?_ (by first | omega | (simp; done) | (simp; omega)) _ _) | (refine Ext.trans ?_ (by with_reducible assumption))))) (HO2.out.alloc _) (by simp; omega) ⟨_, 0, none⟩ 1 (.string (bs (reasonStr x))) rfl (by rw [HXS.out]; simp) rfl ?_); intro v' w4 hv4 hE4 hg4 hb4; have HV4 := Lib.hid hv4; have HE4 := Lib.hid hE4; clear hv4 hE4 hg4 hb4)
              go_roundw
              case rel => exact ⟨i + 1, by omega, by go_num, HE4.out, by rw [← HTK.out]; exact HV4.out⟩
              case measure => (simp [intOf] <;> omega)
            · skip
              have hkb1 : (x.kind == 1) = false := by simpa using hk1
              have hkb2 : (x.kind == 2) = false := by simpa using hk2
              have hxs : bs (reasonStr x) = ⟨e1.toArray⟩ ++ ⟨#[45]⟩ ++ ⟨e2.toArray⟩ ++ ⟨#[32]⟩ ++ ⟨#[63]⟩ := by rw [he1, he2]; unfold bs reasonStr reasonTail; rw [if_neg hk1, if_neg hk2]; ext1; simp
              have HXS := Lib.hid hxs
              clear hxs he1 he2 he3 hk1 hk2
              have HEB := HE1
              refine wp_region_ext (by kernel_rfl) (by kernel_rfl) ?_
              repeat (first
                | go_big_quiet_skip
                | (go_big_quiet_want; go_big_quiet_op; first
                    | go_big_quiet_on
                    | (refine ⟨_, fun w' hw' => rfl, ?_⟩; go_big_quiet_on)
                    | (refine ⟨.int .i64 x.a, fun w' hw' => ?_, ?_⟩
                       · have u0 := hw'.at q0
                         simp [go_sem, u0]; done
                       go_big_quiet_on)
                    | (refine ⟨.int .i64 x.b, fun w' hw' => ?_, ?_⟩
                       · have u0 := hw'.at q1
                         simp [go_sem, u0]; done
                       go_big_quiet_on)
                    | (with_reducible refine ⟨.string ⟨e1.toArray⟩, fun w' hw' => ((HC1.out w' (Ext.trans HEB.out hw')).mono (fun e w'' h => ⟨h.1, Ext.trans hw' h.2⟩)), ?_⟩
                       go_big_quiet_on)
                    | (with_reducible refine ⟨.string ⟨e2.toArray⟩, fun w' hw' => ((HC2.out w' (Ext.trans HEB.out hw')).mono (fun e w'' h => ⟨h.1, Ext.trans hw' h.2⟩)), ?_⟩
                       go_big_quiet_on)))
              refine wpQuiet_nil ?_
              intro w2 hE2
              have HE2 := Lib.hid (HEB.out.trans hE2)
              have HO2 := Lib.hid (HO1.out.ext hE2)
              have k2 := hE2.at q2; have k3 := hE2.at q3
              clear hE2 q0 q1 q2 q3 qlt
              go_wp2_with (at_builtin; (refine wpList_append_one (w0 := w) rfl (.tmp 46) (.tmp 48) 41 rfl Tryd.underlying41 info_str rfl (by decide) u3 ((l.take i).map (fun x => .string (bs (reasonStr x)))) rfl (by have h8 := HE2.out; (repeat' (first | with_reducible assumption | with_reducible exact Below.refl _ _ | (with_reducible refine Ext.alloc' ?_ _) | (with_reducible refine Ext.drew' ?_) | (with_reducible refine Ext.drewN' ?_ _) | (with_reducible refine Ext.set_ ?_ (by first | omega | (simp; done) | (simp; omega)) _ _) | (refine Ext.trans ?_ (by with_reducible assumption))))) (HO2.out.alloc _) (by simp; omega) ⟨_, 0, none⟩ 1 (.string (bs (reasonStr x))) rfl (by rw [HXS.out]; simp) rfl ?_); intro v' w4 hv4 hE4 hg4 hb4; have HV4 := Lib.hid hv4; have HE4 := Lib.hid hE4; clear hv4 hE4 hg4 hb4)
              go_roundw
              case rel => exact ⟨i + 1, by omega, by go_num, HE4.out, by rw [← HTK.out]; exact HV4.out⟩
              case measure => (simp [intOf] <;> omega)
        · obtain hie : i = l.length := by omega
          have hge : ¬ (i : Int) < l.length := by omega
          have hO2 := HO.out
          rw [hie, List.take_length] at hO2
          obtain ⟨g, cap, hs⟩ := hO2.shape (by simp; omega)
          rw [hs] at hO2
          have hcells : ∀ (j : Nat) (x : ByteArray), (l.map (fun x => bs (reasonStr x)))[j]? = some x → wr.cell? ⟨g, 0 + j, none⟩ = some (.string x) := fun j x hj => by
            have hjl : j < l.length := by have := (List.getElem?_eq_some_iff.1 hj).1; simpa using this
            have hc := hO2.cellAt j (by simpa using hjl)
            rw [Nat.zero_add, hc]
            simp [hjl] at hj ⊢
            exact hj
          have hcap : (l.map (fun x => bs (reasonStr x))).length ≤ cap := by
            rcases hO2.2 with ⟨h9, _⟩ | ⟨g', cap', cur, h9, _, _, h8, _⟩
            · cases h9
            · cases h9; simpa using h8
          have hmm : (l.map (fun x => bs (reasonStr x))).map (·.data.toList) = l.map reasonStr := by simp [bs]
          have hJ := Tryd.strings_Join g 0 cap (l.map (fun x => bs (reasonStr x))) ⟨#[59, 32]⟩ wr hcells (hO2.lt rfl) (by simp; omega) hcap (by rw [hmm]; exact Nat.le_trans (join_len2 l HIN.out) (by omega))
          rw [hmm] at hJ
          simp only [List.length_map] at hJ hs
          have HJ := Lib.hid hJ
          have HR2 : Hid (Lib.join (l.map reasonStr) [59, 32] = reasonsStr l) := HR.out.symm
          clear hJ hmm hcap hcells hO2 hie
          subst hs
          go_wp2_with fail
          refine HJ.out.mono ?_
          rintro e w2 ⟨rfl, hE2⟩
          have HE2 := Lib.hid (HE.out.trans hE2)
          clear hE2
          go_wp2_with fail
          go_ret
          exact ⟨by rw [← HR2.out]; rfl, HE2.out⟩
    · have hr : reasonsStr l = [] := by unfold reasonsStr; rw [if_neg hne, if_neg h20]
      have HR := Lib.hid hr
      have h20b : (20 : Int) < l.length := by omega
      clear hr hne h0 h20
      go_enter Tryd.func13, Tryd.ntmps13
      go_wp2_with fail
      go_ret
      exact ⟨by rw [HR.out]; rfl, Ext.refl _⟩
end Go.Proofs.YtdgpbgpapcldeaaDoor
