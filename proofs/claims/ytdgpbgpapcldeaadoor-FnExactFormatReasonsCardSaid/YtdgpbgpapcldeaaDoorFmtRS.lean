/- The reference's FormatReasons. -/
import Derived.Test.YtdgpbgpapcldeaaDoorFmtHS
import Derived.Test.YtdgpbgpapcldeaaDoorKReason
set_option linter.unusedVariables false
set_option linter.unusedSimpArgs false
namespace Go.Proofs.YtdgpbgpapcldeaaDoor
open Go.RowKit Go.Er Go.BigFrame

def reasonIn (r : DReason) : Prop := inI64 r.a ∧ inI64 r.b ∧ inI64 r.kind ∧ inI64 r.rule
def reasonTail (r : DReason) : List UInt8 := if r.kind = 1 then [114, 117, 108, 101, 32] ++ Lib.itoa r.rule else if r.kind = 2 then [118, 101, 114, 100, 105, 99, 116] else [63]
def reasonStr (r : DReason) : List UInt8 := Lib.itoa r.a ++ [45] ++ Lib.itoa r.b ++ [32] ++ reasonTail r
def reasonsStr (l : List DReason) : List UInt8 := if l = [] then [110, 111, 110, 101] else if l.length ≤ 20 then Lib.join (l.map reasonStr) [59, 32] else []
theorem reasonStr_len (r : DReason) (h : reasonIn r) : (reasonStr r).length ≤ 68 := by
  have h1 := itoa_len _ h.1; have h2 := itoa_len _ h.2.1; have h3 := itoa_len _ h.2.2.2
  unfold reasonStr reasonTail
  split
  · simp; omega
  · split <;> simp <;> omega

set_option maxRecDepth 100000 in
set_option maxHeartbeats 6400000 in
theorem specFormatReasons_any (l : List DReason) (hin : ∀ h ∈ l, reasonIn h) (a : Option Addr) (c : Nat) (w : World) (h : RowR 4 ReasonR 0 w a l) :
    Calls Tryd.prog 11 #[.slice a l.length c] w fun e w' => e = .returned (.string ⟨(reasonsStr l).toArray⟩) ∧ Ext w w' := by
  have hl : (l.length : Int) ≤ 9223372036854775807 := by have := h.1; unfold maxLen at this; omega
  have HA := Lib.hid h; have HIN := Lib.hid hin; clear h hin
  by_cases h0 : l.length = 0
  · have hr : reasonsStr l = [110, 111, 110, 101] := by unfold reasonsStr; rw [if_pos (List.length_eq_zero_iff.1 h0)]
    have HR := Lib.hid hr
    have h0b : ((l.length : Int) == 0) = true := by simp [h0]
    clear hr h0
    go_enter Tryd.func11, Tryd.ntmps11
    go_wp2_with fail
    go_ret
    exact ⟨by rw [HR.out]; rfl, Ext.refl _⟩
  · have h0b : ((l.length : Int) == 0) = false := by rw [beq_eq_false_iff_ne]; omega
    have hne : ¬ l = [] := fun e => h0 (by rw [e]; rfl)
    by_cases h20 : l.length ≤ 20
    · have hr : reasonsStr l = Lib.join (l.map reasonStr) [59, 32] := by unfold reasonsStr; rw [if_neg hne, if_pos h20]
      have HR := Lib.hid hr
      clear hr hne h0
      go_enter Tryd.func11, Tryd.ntmps11
      go_wp2_with fail
      go_loopw [3, 4] (fun s3 s4 wr => ∃ (i : Nat) (s : List UInt8), i ≤ l.length ∧ s4 = .int .i64 i ∧ s3 = .string ⟨s.toArray⟩ ∧ Ext w wr ∧ s.length ≤ 70 * i ∧ Hid (s = Lib.join ((l.take i).map reasonStr) [59, 32])) (fun _ i _ => l.length - (intOf i).toNat)
      case atStart => exact ⟨0, [], Nat.zero_le _, rfl, rfl, Ext.refl _, by simp, by show _ = _; simp [Lib.join_nil]⟩
      case round =>
        obtain ⟨i, s, hi, rfl, rfl, hE, hsl, hR⟩ := hrel
        have HE := Lib.hid hE; clear hE
        by_cases hlt : i < l.length
        · obtain ⟨b, o, vs, rfl, _, _, hc, hR1⟩ := (HA.out.ext good_Reason HE.out).2 i hlt
          have hxin := HIN.out _ (List.getElem_mem hlt)
          have hj := join_snoc [59, 32] (reasonStr l[i]) ((l.take i).map reasonStr)
          rw [show (l.take i).map reasonStr ++ [reasonStr l[i]] = (l.take (i + 1)).map reasonStr by rw [List.take_succ_eq_append_getElem hlt, List.map_append, List.map_cons, List.map_nil]] at hj
          obtain ⟨x, hx⟩ : ∃ x, x = l[i] := ⟨_, rfl⟩
          rw [← hx] at hR1 hxin hj
          obtain rfl := hR1
          have hi1 := itoa_len _ hxin.1; have hi2 := itoa_len _ hxin.2.1; have hi3 := itoa_len _ hxin.2.2.2
          have HXI := Lib.hid hxin
          clear hx hxin
          have q0 := hc 0 (by simp)
          have q1 := hc 1 (by simp)
          have q2 := hc 2 (by simp)
          have q3 := hc 3 (by simp)
          simp only [List.getElem_cons_zero, List.getElem_cons_succ, Nat.mul_one, Nat.add_zero] at q0 q1 q2 q3
          clear hc
          have hlt1 : (i : Int) < l.length := by omega
          obtain ⟨e1, he1⟩ : ∃ e1, e1 = Lib.itoa x.a := ⟨_, rfl⟩
          obtain ⟨e2, he2⟩ : ∃ e2, e2 = Lib.itoa x.b := ⟨_, rfl⟩
          obtain ⟨e3, he3⟩ : ∃ e3, e3 = Lib.itoa x.rule := ⟨_, rfl⟩
          have HC1 : Hid (∀ w1 : World, Ext w w1 → Calls Tryd.prog 15 #[.int .i64 x.a] w1 fun e w' => e = .returned (.string ⟨e1.toArray⟩) ∧ Ext w1 w') := fun w1 _ => by rw [he1]; exact specFormatInt_any _ HXI.out.1.1 HXI.out.1.2 w1
          have HC2 : Hid (∀ w1 : World, Ext w w1 → Calls Tryd.prog 15 #[.int .i64 x.b] w1 fun e w' => e = .returned (.string ⟨e2.toArray⟩) ∧ Ext w1 w') := fun w1 _ => by rw [he2]; exact specFormatInt_any _ HXI.out.2.1.1 HXI.out.2.1.2 w1
          have HC3 : Hid (∀ w1 : World, Ext w w1 → Calls Tryd.prog 15 #[.int .i64 x.rule] w1 fun e w' => e = .returned (.string ⟨e3.toArray⟩) ∧ Ext w1 w') := fun w1 _ => by rw [he3]; exact specFormatInt_any _ HXI.out.2.2.2.1 HXI.out.2.2.2.2 w1
          rw [← he1] at hi1
          rw [← he2] at hi2
          rw [← he3] at hi3
          have hs1400 : s.length ≤ 1400 := by omega
          rcases Nat.eq_zero_or_pos i with hi0 | hip
          · by_cases hk1 : x.kind = 1
            · skip
              have hkb1 : (x.kind == 1) = true := by simpa using hk1
              have hxs : reasonStr x = e1 ++ [45] ++ e2 ++ [32] ++ ([114, 117, 108, 101, 32] ++ e3) := by rw [he1, he2, he3]; unfold reasonStr reasonTail; rw [if_pos hk1]
              have hsnil : s = [] := by have h := hR.out; rw [hi0] at h; simpa [Lib.join_nil] using h
              have HJ : Hid (e1 ++ [45] ++ e2 ++ [32] ++ ([114, 117, 108, 101, 32] ++ e3) = Lib.join ((l.take (i + 1)).map reasonStr) [59, 32]) := by
                show _ = _
                rw [hj, if_pos (by rw [hi0]; simp), hxs]
              have hi0a : decide (0 < (i : Int)) = false := by simp; omega
              have hi0b : decide (0 < i) = false := by simp; omega
              subst hsnil
              clear hj hxs hR hi0 hk1 he1 he2 he3
              go_wp2_with fail
              have HEB := HE
              refine wp_region_ext (by kernel_rfl) (by kernel_rfl) ?_
              repeat (first
                | go_big_quiet_skip
                | (go_big_quiet_want; go_big_quiet_op; first
                    | go_big_quiet_on
                    | (refine ⟨_, fun w' hw' => rfl, ?_⟩; go_big_quiet_on)
                    | (refine ⟨.int .i64 x.a, fun w' hw' => ?_, ?_⟩
                       · have u0 := hw'.at q0
                         simp [go_sem, u0]; done
                       go_big_quiet_on)
                    | (refine ⟨.int .i64 x.b, fun w' hw' => ?_, ?_⟩
                       · have u0 := hw'.at q1
                         simp [go_sem, u0]; done
                       go_big_quiet_on)
                    | (with_reducible refine ⟨.string ⟨e1.toArray⟩, fun w' hw' => ((HC1.out w' (Ext.trans HEB.out hw')).mono (fun e w'' h => ⟨h.1, Ext.trans hw' h.2⟩)), ?_⟩
                       go_big_quiet_on)
                    | (with_reducible refine ⟨.string ⟨e2.toArray⟩, fun w' hw' => ((HC2.out w' (Ext.trans HEB.out hw')).mono (fun e w'' h => ⟨h.1, Ext.trans hw' h.2⟩)), ?_⟩
                       go_big_quiet_on)))
              refine wpQuiet_nil ?_
              intro w2 hE2
              have HE2 := Lib.hid (HEB.out.trans hE2)
              have k2 := hE2.at q2; have k3 := hE2.at q3
              clear hE2 q0 q1 q2 q3
              go_wp2_with fail
              refine (HC3.out _ HE2.out).mono ?_
              rintro e w3 ⟨rfl, hE3⟩
              have HE3 := Lib.hid (HE2.out.trans hE3)
              clear hE3 k2 k3
              go_wp2_with fail
              go_roundw
              case rel => exact ⟨i + 1, e1 ++ [45] ++ e2 ++ [32] ++ ([114, 117, 108, 101, 32] ++ e3), by omega, by go_num, (by first | (congr 1; ext1; simp; done) | rfl | (simp; done)), HE3.out, by (simp <;> omega), HJ⟩
              case measure => (simp [intOf] <;> omega)
            · by_cases hk2 : x.kind = 2
              · skip
                have hkb1 : (x.kind == 1) = false := by simpa using hk1
                have hkb2 : (x.kind == 2) = true := by simpa using hk2
                have hxs : reasonStr x = e1 ++ [45] ++ e2 ++ [32] ++ [118, 101, 114, 100, 105, 99, 116] := by rw [he1, he2]; unfold reasonStr reasonTail; rw [if_neg hk1, if_pos hk2]
                have hsnil : s = [] := by have h := hR.out; rw [hi0] at h; simpa [Lib.join_nil] using h
                have HJ : Hid (e1 ++ [45] ++ e2 ++ [32] ++ [118, 101, 114, 100, 105, 99, 116] = Lib.join ((l.take (i + 1)).map reasonStr) [59, 32]) := by
                  show _ = _
                  rw [hj, if_pos (by rw [hi0]; simp), hxs]
                have hi0a : decide (0 < (i : Int)) = false := by simp; omega
                have hi0b : decide (0 < i) = false := by simp; omega
                subst hsnil
                clear hj hxs hR hi0 hk1 hk2 he1 he2 he3
                go_wp2_with fail
                have HEB := HE
                refine wp_region_ext (by kernel_rfl) (by kernel_rfl) ?_
                repeat (first
                  | go_big_quiet_skip
                  | (go_big_quiet_want; go_big_quiet_op; first
                      | go_big_quiet_on
                      | (refine ⟨_, fun w' hw' => rfl, ?_⟩; go_big_quiet_on)
                      | (refine ⟨.int .i64 x.a, fun w' hw' => ?_, ?_⟩
                         · have u0 := hw'.at q0
                           simp [go_sem, u0]; done
                         go_big_quiet_on)
                      | (refine ⟨.int .i64 x.b, fun w' hw' => ?_, ?_⟩
                         · have u0 := hw'.at q1
                           simp [go_sem, u0]; done
                         go_big_quiet_on)
                      | (with_reducible refine ⟨.string ⟨e1.toArray⟩, fun w' hw' => ((HC1.out w' (Ext.trans HEB.out hw')).mono (fun e w'' h => ⟨h.1, Ext.trans hw' h.2⟩)), ?_⟩
                         go_big_quiet_on)
                      | (with_reducible refine ⟨.string ⟨e2.toArray⟩, fun w' hw' => ((HC2.out w' (Ext.trans HEB.out hw')).mono (fun e w'' h => ⟨h.1, Ext.trans hw' h.2⟩)), ?_⟩
                         go_big_quiet_on)))
                refine wpQuiet_nil ?_
                intro w2 hE2
                have HE2 := Lib.hid (HEB.out.trans hE2)
                have k2 := hE2.at q2; have k3 := hE2.at q3
                clear hE2 q0 q1 q2 q3
                go_wp2_with fail
                go_roundw
                case rel => exact ⟨i + 1, e1 ++ [45] ++ e2 ++ [32] ++ [118, 101, 114, 100, 105, 99, 116], by omega, by go_num, (by first | (congr 1; ext1; simp; done) | rfl | (simp; done)), HE2.out, by (simp <;> omega), HJ⟩
                case measure => (simp [intOf] <;> omega)
              · skip
                have hkb1 : (x.kind == 1) = false := by simpa using hk1
                have hkb2 : (x.kind == 2) = false := by simpa using hk2
                have hxs : reasonStr x = e1 ++ [45] ++ e2 ++ [32] ++ [63] := by rw [he1, he2]; unfold reasonStr reasonTail; rw [if_neg hk1, if_neg hk2]
                have hsnil : s = [] := by have h := hR.out; rw [hi0] at h; simpa [Lib.join_nil] using h
                have HJ : Hid (e1 ++ [45] ++ e2 ++ [32] ++ [63] = Lib.join ((l.take (i + 1)).map reasonStr) [59, 32]) := by
                  show _ = _
                  rw [hj, if_pos (by rw [hi0]; simp), hxs]
                have hi0a : decide (0 < (i : Int)) = false := by simp; omega
                have hi0b : decide (0 < i) = false := by simp; omega
                subst hsnil
                clear hj hxs hR hi0 hk1 hk2 he1 he2 he3
                go_wp2_with fail
                have HEB := HE
                refine wp_region_ext (by kernel_rfl) (by kernel_rfl) ?_
                repeat (first
                  | go_big_quiet_skip
                  | (go_big_quiet_want; go_big_quiet_op; first
                      | go_big_quiet_on
                      | (refine ⟨_, fun w' hw' => rfl, ?_⟩; go_big_quiet_on)
                      | (refine ⟨.int .i64 x.a, fun w' hw' => ?_, ?_⟩
                         · have u0 := hw'.at q0
                           simp [go_sem, u0]; done
                         go_big_quiet_on)
                      | (refine ⟨.int .i64 x.b, fun w' hw' => ?_, ?_⟩
                         · have u0 := hw'.at q1
                           simp [go_sem, u0]; done
                         go_big_quiet_on)
                      | (with_reducible refine ⟨.string ⟨e1.toArray⟩, fun w' hw' => ((HC1.out w' (Ext.trans HEB.out hw')).mono (fun e w'' h => ⟨h.1, Ext.trans hw' h.2⟩)), ?_⟩
                         go_big_quiet_on)
                      | (with_reducible refine ⟨.string ⟨e2.toArray⟩, fun w' hw' => ((HC2.out w' (Ext.trans HEB.out hw')).mono (fun e w'' h => ⟨h.1, Ext.trans hw' h.2⟩)), ?_⟩
                         go_big_quiet_on)))
                refine wpQuiet_nil ?_
                intro w2 hE2
                have HE2 := Lib.hid (HEB.out.trans hE2)
                have k2 := hE2.at q2; have k3 := hE2.at q3
                clear hE2 q0 q1 q2 q3
                go_wp2_with fail
                go_roundw
                case rel => exact ⟨i + 1, e1 ++ [45] ++ e2 ++ [32] ++ [63], by omega, by go_num, (by first | (congr 1; ext1; simp; done) | rfl | (simp; done)), HE2.out, by (simp <;> omega), HJ⟩
                case measure => (simp [intOf] <;> omega)
          · by_cases hk1 : x.kind = 1
            · skip
              have hkb1 : (x.kind == 1) = true := by simpa using hk1
              have hxs : reasonStr x = e1 ++ [45] ++ e2 ++ [32] ++ ([114, 117, 108, 101, 32] ++ e3) := by rw [he1, he2, he3]; unfold reasonStr reasonTail; rw [if_pos hk1]
              have HJ : Hid (s ++ [59, 32] ++ (e1 ++ [45] ++ e2 ++ [32] ++ ([114, 117, 108, 101, 32] ++ e3)) = Lib.join ((l.take (i + 1)).map reasonStr) [59, 32]) := by
                show _ = _
                rw [hj, if_neg (fun e => by have h9 := congrArg List.length e; rw [List.length_map, List.length_take, List.length_nil] at h9; omega), hxs, hR.out]
              clear hj hxs hR hk1 he1 he2 he3
              go_wp2_with fail
              have HEB := HE
              refine wp_region_ext (by kernel_rfl) (by kernel_rfl) ?_
              repeat (first
                | go_big_quiet_skip
                | (go_big_quiet_want; go_big_quiet_op; first
                    | go_big_quiet_on
                    | (refine ⟨_, fun w' hw' => rfl, ?_⟩; go_big_quiet_on)
                    | (refine ⟨.int .i64 x.a, fun w' hw' => ?_, ?_⟩
                       · have u0 := hw'.at q0
                         simp [go_sem, u0]; done
                       go_big_quiet_on)
                    | (refine ⟨.int .i64 x.b, fun w' hw' => ?_, ?_⟩
                       · have u0 := hw'.at q1
                         simp [go_sem, u0]; done
                       go_big_quiet_on)
                    | (with_reducible refine ⟨.string ⟨e1.toArray⟩, fun w' hw' => ((HC1.out w' (Ext.trans HEB.out hw')).mono (fun e w'' h => ⟨h.1, Ext.trans hw' h.2⟩)), ?_⟩
                       go_big_quiet_on)
                    | (with_reducible refine ⟨.string ⟨e2.toArray⟩, fun w' hw' => ((HC2.out w' (Ext.trans HEB.out hw')).mono (fun e w'' h => ⟨h.1, Ext.trans hw' h.2⟩)), ?_⟩
                       go_big_quiet_on)))
              refine wpQuiet_nil ?_
              intro w2 hE2
              have HE2 := Lib.hid (HEB.out.trans hE2)
              have k2 := hE2.at q2; have k3 := hE2.at q3
              clear hE2 q0 q1 q2 q3
              go_wp2_with fail
              refine (HC3.out _ HE2.out).mono ?_
              rintro e w3 ⟨rfl, hE3⟩
              have HE3 := Lib.hid (HE2.out.trans hE3)
              clear hE3 k2 k3
              go_wp2_with fail
              go_roundw
              case rel => exact ⟨i + 1, s ++ [59, 32] ++ (e1 ++ [45] ++ e2 ++ [32] ++ ([114, 117, 108, 101, 32] ++ e3)), by omega, by go_num, (by first | (congr 1; ext1; simp; done) | rfl | (simp; done)), HE3.out, by (simp <;> omega), HJ⟩
              case measure => (simp [intOf] <;> omega)
            · by_cases hk2 : x.kind = 2
              · skip
                have hkb1 : (x.kind == 1) = false := by simpa using hk1
                have hkb2 : (x.kind == 2) = true := by simpa using hk2
                have hxs : reasonStr x = e1 ++ [45] ++ e2 ++ [32] ++ [118, 101, 114, 100, 105, 99, 116] := by rw [he1, he2]; unfold reasonStr reasonTail; rw [if_neg hk1, if_pos hk2]
                have HJ : Hid (s ++ [59, 32] ++ (e1 ++ [45] ++ e2 ++ [32] ++ [118, 101, 114, 100, 105, 99, 116]) = Lib.join ((l.take (i + 1)).map reasonStr) [59, 32]) := by
                  show _ = _
                  rw [hj, if_neg (fun e => by have h9 := congrArg List.length e; rw [List.length_map, List.length_take, List.length_nil] at h9; omega), hxs, hR.out]
                clear hj hxs hR hk1 hk2 he1 he2 he3
                go_wp2_with fail
                have HEB := HE
                refine wp_region_ext (by kernel_rfl) (by kernel_rfl) ?_
                repeat (first
                  | go_big_quiet_skip
                  | (go_big_quiet_want; go_big_quiet_op; first
                      | go_big_quiet_on
                      | (refine ⟨_, fun w' hw' => rfl, ?_⟩; go_big_quiet_on)
                      | (refine ⟨.int .i64 x.a, fun w' hw' => ?_, ?_⟩
                         · have u0 := hw'.at q0
                           simp [go_sem, u0]; done
                         go_big_quiet_on)
                      | (refine ⟨.int .i64 x.b, fun w' hw' => ?_, ?_⟩
                         · have u0 := hw'.at q1
                           simp [go_sem, u0]; done
                         go_big_quiet_on)
                      | (with_reducible refine ⟨.string ⟨e1.toArray⟩, fun w' hw' => ((HC1.out w' (Ext.trans HEB.out hw')).mono (fun e w'' h => ⟨h.1, Ext.trans hw' h.2⟩)), ?_⟩
                         go_big_quiet_on)
                      | (with_reducible refine ⟨.string ⟨e2.toArray⟩, fun w' hw' => ((HC2.out w' (Ext.trans HEB.out hw')).mono (fun e w'' h => ⟨h.1, Ext.trans hw' h.2⟩)), ?_⟩
                         go_big_quiet_on)))
                refine wpQuiet_nil ?_
                intro w2 hE2
                have HE2 := Lib.hid (HEB.out.trans hE2)
                have k2 := hE2.at q2; have k3 := hE2.at q3
                clear hE2 q0 q1 q2 q3
                go_wp2_with fail
                go_roundw
                case rel => exact ⟨i + 1, s ++ [59, 32] ++ (e1 ++ [45] ++ e2 ++ [32] ++ [118, 101, 114, 100, 105, 99, 116]), by omega, by go_num, (by first | (congr 1; ext1; simp; done) | rfl | (simp; done)), HE2.out, by (simp <;> omega), HJ⟩
                case measure => (simp [intOf] <;> omega)
              · skip
                have hkb1 : (x.kind == 1) = false := by simpa using hk1
                have hkb2 : (x.kind == 2) = false := by simpa using hk2
                have hxs : reasonStr x = e1 ++ [45] ++ e2 ++ [32] ++ [63] := by rw [he1, he2]; unfold reasonStr reasonTail; rw [if_neg hk1, if_neg hk2]
                have HJ : Hid (s ++ [59, 32] ++ (e1 ++ [45] ++ e2 ++ [32] ++ [63]) = Lib.join ((l.take (i + 1)).map reasonStr) [59, 32]) := by
                  show _ = _
                  rw [hj, if_neg (fun e => by have h9 := congrArg List.length e; rw [List.length_map, List.length_take, List.length_nil] at h9; omega), hxs, hR.out]
                clear hj hxs hR hk1 hk2 he1 he2 he3
                go_wp2_with fail
                have HEB := HE
                refine wp_region_ext (by kernel_rfl) (by kernel_rfl) ?_
                repeat (first
                  | go_big_quiet_skip
                  | (go_big_quiet_want; go_big_quiet_op; first
                      | go_big_quiet_on
                      | (refine ⟨_, fun w' hw' => rfl, ?_⟩; go_big_quiet_on)
                      | (refine ⟨.int .i64 x.a, fun w' hw' => ?_, ?_⟩
                         · have u0 := hw'.at q0
                           simp [go_sem, u0]; done
                         go_big_quiet_on)
                      | (refine ⟨.int .i64 x.b, fun w' hw' => ?_, ?_⟩
                         · have u0 := hw'.at q1
                           simp [go_sem, u0]; done
                         go_big_quiet_on)
                      | (with_reducible refine ⟨.string ⟨e1.toArray⟩, fun w' hw' => ((HC1.out w' (Ext.trans HEB.out hw')).mono (fun e w'' h => ⟨h.1, Ext.trans hw' h.2⟩)), ?_⟩
                         go_big_quiet_on)
                      | (with_reducible refine ⟨.string ⟨e2.toArray⟩, fun w' hw' => ((HC2.out w' (Ext.trans HEB.out hw')).mono (fun e w'' h => ⟨h.1, Ext.trans hw' h.2⟩)), ?_⟩
                         go_big_quiet_on)))
                refine wpQuiet_nil ?_
                intro w2 hE2
                have HE2 := Lib.hid (HEB.out.trans hE2)
                have k2 := hE2.at q2; have k3 := hE2.at q3
                clear hE2 q0 q1 q2 q3
                go_wp2_with fail
                go_roundw
                case rel => exact ⟨i + 1, s ++ [59, 32] ++ (e1 ++ [45] ++ e2 ++ [32] ++ [63]), by omega, by go_num, (by first | (congr 1; ext1; simp; done) | rfl | (simp; done)), HE2.out, by (simp <;> omega), HJ⟩
                case measure => (simp [intOf] <;> omega)
        · obtain hie : i = l.length := by omega
          have hge : ¬ (i : Int) < l.length := by omega
          have HR2 : Hid (s = reasonsStr l) := by show _ = _; rw [HR.out, hR.out, hie, List.take_length]
          clear hR hie
          go_wp2_with fail
          go_ret
          exact ⟨by rw [HR2.out]; rfl, HE.out⟩
    · have hr : reasonsStr l = [] := by unfold reasonsStr; rw [if_neg hne, if_neg h20]
      have HR := Lib.hid hr
      clear hr hne h0
      go_enter Tryd.func11, Tryd.ntmps11
      go_wp2_with fail
      go_loopw [3, 4] (fun s3 s4 wr => s4 = .int .i64 0 ∧ s3 = .string ⟨#[]⟩ ∧ wr = w) (fun _ i _ => 0)
      case atStart => exact ⟨rfl, rfl, rfl⟩
      case round =>
        obtain ⟨rfl, rfl, rfl⟩ := hrel
        have h20b : ¬ (l.length : Int) ≤ 20 := by omega
        go_wp2_with fail
        go_ret
        exact ⟨by rw [HR.out]; rfl, Ext.refl _⟩
end Go.Proofs.YtdgpbgpapcldeaaDoor
