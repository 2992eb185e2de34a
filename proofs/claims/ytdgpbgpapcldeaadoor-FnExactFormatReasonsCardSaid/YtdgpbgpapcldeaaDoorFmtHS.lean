/- The reference's FormatHits. -/
import Derived.Test.YtdgpbgpapcldeaaDoorFmtS
import Derived.Test.YtdgpbgpapcldeaaDoorKHit
import Derived.Lib.Join
set_option linter.unusedVariables false
set_option linter.unusedSimpArgs false
namespace Go.Proofs.YtdgpbgpapcldeaaDoor
open Go.RowKit Go.Er Go.BigFrame

def inI64 (n : Int) : Prop := -9223372036854775808 ≤ n ∧ n ≤ 9223372036854775807
def hitIn (h : DHit) : Prop := inI64 h.entity ∧ inI64 h.score
def hitStr (h : DHit) : List UInt8 := Lib.itoa h.entity ++ [58] ++ Lib.itoa h.score
def hitsStr (l : List DHit) : List UInt8 := if l = [] then [110, 111, 110, 101] else if l.length ≤ 20 then Lib.join (l.map hitStr) [32] else []
theorem itoa_len (n : Int) (h : inI64 n) : (Lib.itoa n).length ≤ 20 := by
  obtain ⟨h0, h1⟩ := h
  have hd : ∀ u : Nat, u ≤ 9223372036854775808 → (Lib.decDigits u).length ≤ 19 := fun u hu => by
    by_cases h0 : u = 0
    · subst h0; rw [Lib.decDigits]; simp
    · have := decE_len 19 u (by omega)
      unfold decE at this; rw [if_neg h0] at this; exact this
  unfold Lib.itoa
  split
  · have := hd n.natAbs (by omega); simp; omega
  · have := hd n.toNat (by omega); omega
theorem hitStr_len (h : DHit) (hh : hitIn h) : (hitStr h).length ≤ 41 := by
  have h1 := itoa_len _ hh.1; have h2 := itoa_len _ hh.2
  simp [hitStr]; omega
theorem join_snoc (sep y : List UInt8) : ∀ (xs : List (List UInt8)), Lib.join (xs ++ [y]) sep = if xs = [] then y else Lib.join xs sep ++ sep ++ y
  | [] => by simp [Lib.join_one]
  | x :: r => by
    rw [if_neg (by simp), List.cons_append, Lib.join_cons, Lib.join_cons]
    simp [Lib.joinTail]
theorem str_app (a b : List UInt8) : (⟨a.toArray⟩ ++ ⟨b.toArray⟩ : ByteArray) = ⟨(a ++ b).toArray⟩ := by
  ext1
  simp

set_option maxHeartbeats 3200000 in
theorem specFormatHits_any (l : List DHit) (hin : ∀ h ∈ l, hitIn h) (a : Option Addr) (c : Nat) (w : World) (h : RowR 2 HitR 0 w a l) :
    Calls Tryd.prog 6 #[.slice a l.length c] w fun e w' => e = .returned (.string ⟨(hitsStr l).toArray⟩) ∧ Ext w w' := by
  have hl : (l.length : Int) ≤ 9223372036854775807 := by have := h.1; unfold maxLen at this; omega
  have HA := Lib.hid h; have HIN := Lib.hid hin; clear h hin
  by_cases h0 : l.length = 0
  · have hr : hitsStr l = [110, 111, 110, 101] := by unfold hitsStr; rw [if_pos (List.length_eq_zero_iff.1 h0)]
    have HR := Lib.hid hr
    have h0b : ((l.length : Int) == 0) = true := by simp [h0]
    clear hr h0
    go_enter Tryd.func6, Tryd.ntmps6
    go_wp2_with fail
    go_ret
    exact ⟨by rw [HR.out]; rfl, Ext.refl _⟩
  · have h0b : ((l.length : Int) == 0) = false := by rw [beq_eq_false_iff_ne]; omega
    have hne : ¬ l = [] := fun e => h0 (by rw [e]; rfl)
    by_cases h20 : l.length ≤ 20
    · have hr : hitsStr l = Lib.join (l.map hitStr) [32] := by unfold hitsStr; rw [if_neg hne, if_pos h20]
      have HR := Lib.hid hr
      clear hr hne h0
      go_enter Tryd.func6, Tryd.ntmps6
      go_wp2_with fail
      go_loopw [3, 4] (fun s3 s4 wr => ∃ (i : Nat) (s : List UInt8), i ≤ l.length ∧ s4 = .int .i64 i ∧ s3 = .string ⟨s.toArray⟩ ∧ Ext w wr ∧ s.length ≤ 42 * i ∧ Hid (s = Lib.join ((l.take i).map hitStr) [32])) (fun _ i _ => l.length - (intOf i).toNat)
      case atStart => exact ⟨0, [], Nat.zero_le _, rfl, rfl, Ext.refl _, by simp, by show _ = _; simp [Lib.join_nil]⟩
      case round =>
        obtain ⟨i, s, hi, rfl, rfl, hE, hsl, hR⟩ := hrel
        have HE := Lib.hid hE; clear hE
        by_cases hlt : i < l.length
        · obtain ⟨b, o, vs, rfl, _, _, hc, hR1⟩ := (HA.out.ext good_Hit HE.out).2 i hlt
          have hxin := HIN.out _ (List.getElem_mem hlt)
          have hj := join_snoc [32] (hitStr l[i]) ((l.take i).map hitStr)
          rw [show (l.take i).map hitStr ++ [hitStr l[i]] = (l.take (i + 1)).map hitStr by rw [List.take_succ_eq_append_getElem hlt, List.map_append, List.map_cons, List.map_nil]] at hj
          obtain ⟨x, hx⟩ : ∃ x, x = l[i] := ⟨_, rfl⟩
          rw [← hx] at hR1 hxin hj
          obtain rfl := hR1
          have hsx := hitStr_len x hxin
          have hi1 := itoa_len _ hxin.1; have hi2 := itoa_len _ hxin.2
          have HXI := Lib.hid hxin
          clear hx hxin
          have q0 := hc 0 (by simp)
          have q1 := hc 1 (by simp)
          simp only [List.getElem_cons_zero, List.getElem_cons_succ, Nat.mul_one, Nat.add_zero] at q0 q1
          clear hc
          have hlt1 : (i : Int) < l.length := by omega
          obtain ⟨e1, he1⟩ : ∃ e1, e1 = Lib.itoa x.entity := ⟨_, rfl⟩
          obtain ⟨e2, he2⟩ : ∃ e2, e2 = Lib.itoa x.score := ⟨_, rfl⟩
          have HC1 : Hid (∀ w : World, Calls Tryd.prog 15 #[.int .i64 x.entity] w fun e w' => e = .returned (.string ⟨e1.toArray⟩) ∧ Ext w w') := fun w => by rw [he1]; exact specFormatInt_any _ HXI.out.1.1 HXI.out.1.2 w
          have HC2 : Hid (∀ w : World, Calls Tryd.prog 15 #[.int .i64 x.score] w fun e w' => e = .returned (.string ⟨e2.toArray⟩) ∧ Ext w w') := fun w => by rw [he2]; exact specFormatInt_any _ HXI.out.2.1 HXI.out.2.2 w
          have hxs : hitStr x = e1 ++ [58] ++ e2 := by rw [he1, he2]; rfl
          rw [← he1] at hi1
          rw [← he2] at hi2
          clear he1 he2
          have hs840 : s.length ≤ 840 := by omega
          rcases Nat.eq_zero_or_pos i with hi0 | hip
          · have hsnil : s = [] := by have h := hR.out; rw [hi0] at h; simpa [Lib.join_nil] using h
            have HJ : Hid (e1 ++ [58] ++ e2 = Lib.join ((l.take (i + 1)).map hitStr) [32]) := by
              show _ = _
              rw [hj, if_pos (by rw [hi0]; simp), hxs]
            have hi0a : decide (0 < (i : Int)) = false := by simp; omega
            have hi0b : decide (0 < i) = false := by simp; omega
            subst hsnil
            clear hj hxs hR hi0
            go_wp2_with fail
            refine wp_region_ext (by kernel_rfl) (by kernel_rfl) ?_
            repeat (first
              | go_big_quiet_skip
              | (go_big_quiet_want; go_big_quiet_op; first
                  | go_big_quiet_on
                  | (refine ⟨_, fun w' hw' => rfl, ?_⟩; go_big_quiet_on)
                  | (refine ⟨.int .i64 x.entity, fun w' hw' => ?_, ?_⟩
                     · have u0 := hw'.at q0
                       simp [go_sem, u0]; done
                     go_big_quiet_on)
                  | (refine ⟨.int .i64 x.score, fun w' hw' => ?_, ?_⟩
                     · have u0 := hw'.at q1
                       simp [go_sem, u0]; done
                     go_big_quiet_on)
                  | (with_reducible refine ⟨.string ⟨e1.toArray⟩, fun w' hw' => ((HC1.out w').mono (fun e w'' h => ⟨h.1, Ext.trans hw' h.2⟩)), ?_⟩
                     go_big_quiet_on)
                  | (with_reducible refine ⟨.string ⟨e2.toArray⟩, fun w' hw' => ((HC2.out w').mono (fun e w'' h => ⟨h.1, Ext.trans hw' h.2⟩)), ?_⟩
                     go_big_quiet_on)))
            refine wpQuiet_nil ?_
            intro w2 hE2
            have HE2 := Lib.hid (HE.out.trans hE2)
            clear hE2 q0 q1
            go_wp2_with fail
            go_roundw
            case rel => exact ⟨i + 1, e1 ++ [58] ++ e2, by omega, by go_num, (by first | (congr 1; ext1; simp; done) | rfl | (simp; done)), HE2.out, by (simp <;> omega), HJ⟩
            case measure => (simp [intOf] <;> omega)
          · have HJ : Hid (s ++ [32] ++ (e1 ++ [58] ++ e2) = Lib.join ((l.take (i + 1)).map hitStr) [32]) := by
              show _ = _
              rw [hj, if_neg (fun e => by have h9 := congrArg List.length e; rw [List.length_map, List.length_take, List.length_nil] at h9; omega), hxs, hR.out]
            clear hj hxs hR
            go_wp2_with fail
            refine wp_region_ext (by kernel_rfl) (by kernel_rfl) ?_
            repeat (first
              | go_big_quiet_skip
              | (go_big_quiet_want; go_big_quiet_op; first
                  | go_big_quiet_on
                  | (refine ⟨_, fun w' hw' => rfl, ?_⟩; go_big_quiet_on)
                  | (refine ⟨.int .i64 x.entity, fun w' hw' => ?_, ?_⟩
                     · have u0 := hw'.at q0
                       simp [go_sem, u0]; done
                     go_big_quiet_on)
                  | (refine ⟨.int .i64 x.score, fun w' hw' => ?_, ?_⟩
                     · have u0 := hw'.at q1
                       simp [go_sem, u0]; done
                     go_big_quiet_on)
                  | (with_reducible refine ⟨.string ⟨e1.toArray⟩, fun w' hw' => ((HC1.out w').mono (fun e w'' h => ⟨h.1, Ext.trans hw' h.2⟩)), ?_⟩
                     go_big_quiet_on)
                  | (with_reducible refine ⟨.string ⟨e2.toArray⟩, fun w' hw' => ((HC2.out w').mono (fun e w'' h => ⟨h.1, Ext.trans hw' h.2⟩)), ?_⟩
                     go_big_quiet_on)))
            refine wpQuiet_nil ?_
            intro w2 hE2
            have HE2 := Lib.hid (HE.out.trans hE2)
            clear hE2 q0 q1
            go_wp2_with fail
            go_roundw
            case rel => exact ⟨i + 1, s ++ [32] ++ (e1 ++ [58] ++ e2), by omega, by go_num, (by first | (congr 1; ext1; simp; done) | rfl | (simp; done)), HE2.out, by (simp <;> omega), HJ⟩
            case measure => (simp [intOf] <;> omega)
        · obtain hie : i = l.length := by omega
          have hge : ¬ (i : Int) < l.length := by omega
          have HR2 : Hid (s = hitsStr l) := by show _ = _; rw [HR.out, hR.out, hie, List.take_length]
          clear hR hie
          go_wp2_with fail
          go_ret
          exact ⟨by rw [HR2.out]; rfl, HE.out⟩
    · have hr : hitsStr l = [] := by unfold hitsStr; rw [if_neg hne, if_neg h20]
      have HR := Lib.hid hr
      clear hr hne h0
      go_enter Tryd.func6, Tryd.ntmps6
      go_wp2_with fail
      go_loopw [3, 4] (fun s3 s4 wr => s4 = .int .i64 0 ∧ s3 = .string ⟨#[]⟩ ∧ wr = w) (fun _ i _ => 0)
      case atStart => exact ⟨rfl, rfl, rfl⟩
      case round =>
        obtain ⟨rfl, rfl, rfl⟩ := hrel
        have h20b : ¬ (l.length : Int) ≤ 20 := by omega
        go_wp2_with fail
        go_ret
        exact ⟨by rw [HR.out]; rfl, Ext.refl _⟩
end Go.Proofs.YtdgpbgpapcldeaaDoor
