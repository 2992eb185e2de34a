/- How often a log mentions a verdict. -/
import Derived.Test.YtdgpbgpapcldeaaKBatch
set_option linter.unusedVariables false
set_option linter.unusedSimpArgs false
namespace Go.Proofs.Ytdgpbgpapcldeaa
open Go.RowKit Go.Er Go.BigFrame

def verEq (x y : DVerdict) : Bool := x.a == y.a && x.b == y.b && x.same == y.same && x.time == y.time
def mentionsB (o : DOp) (v : DVerdict) : Bool := (o.kind == 3 || o.kind == 4) && verEq o.verdict v
def cntOps (v : DVerdict) : List DOp → Nat → Nat
  | [], n => n
  | o :: os, n => cntOps v os (n + if mentionsB o v then 1 else 0)
def cntBs (v : DVerdict) : List DBatch → Nat → Nat
  | [], n => n
  | b :: bs, n => cntBs v bs (cntOps v b.ops n)

set_option maxHeartbeats 800000 in
theorem mentions_any (x : DOp) (v : DVerdict) (us : List Value) (B : Nat) (w : World) (h : OpR B w us x) :
    Calls Try.prog 41 #[.agg us.toArray, .agg #[.int .i64 v.a, .int .i64 v.b, .bool v.same, .int .i64 v.time]] w fun e w' => e = .returned (.bool (mentionsB x v)) ∧ Ext w w' := by
  obtain ⟨p0, c0, rfl, r0⟩ := h
  clear r0
  by_cases h3 : x.kind = 3
  · go_enter Try.func41, Try.ntmps41
    go_wp2_with fail
    all_goals (go_ret; exact ⟨ret_bool (by simp [mentionsB, verEq, *]), by (repeat' (first | with_reducible assumption | with_reducible exact Below.refl _ _ | (with_reducible refine Ext.alloc' ?_ _) | (with_reducible refine Ext.drew' ?_) | (with_reducible refine Ext.drewN' ?_ _) | (with_reducible refine Ext.set_ ?_ (by first | omega | (simp; done) | (simp; omega)) _ _) | (refine Ext.trans ?_ (by with_reducible assumption))))⟩)
  · by_cases h4 : x.kind = 4
    · go_enter Try.func41, Try.ntmps41
      go_wp2_with fail
      all_goals (go_ret; exact ⟨ret_bool (by simp [mentionsB, verEq, *]), by (repeat' (first | with_reducible assumption | with_reducible exact Below.refl _ _ | (with_reducible refine Ext.alloc' ?_ _) | (with_reducible refine Ext.drew' ?_) | (with_reducible refine Ext.drewN' ?_ _) | (with_reducible refine Ext.set_ ?_ (by first | omega | (simp; done) | (simp; omega)) _ _) | (refine Ext.trans ?_ (by with_reducible assumption))))⟩)
    · go_enter Try.func41, Try.ntmps41
      go_wp2_with fail
      all_goals (go_ret; exact ⟨ret_bool (by simp [mentionsB, verEq, *]), by (repeat' (first | with_reducible assumption | with_reducible exact Below.refl _ _ | (with_reducible refine Ext.alloc' ?_ _) | (with_reducible refine Ext.drew' ?_) | (with_reducible refine Ext.drewN' ?_ _) | (with_reducible refine Ext.set_ ?_ (by first | omega | (simp; done) | (simp; omega)) _ _) | (refine Ext.trans ?_ (by with_reducible assumption))))⟩)

set_option maxHeartbeats 1600000 in
theorem implCountMentions_any (l : List DBatch) (hs : SmallL (fun y => SmallBatch y) l) (v : DVerdict) (a : Option Addr) (c : Nat) (w : World) (h : RowR 1 BatchR 0 w a l) :
    Calls Try.prog 14 #[.slice a l.length c, .agg #[.int .i64 v.a, .int .i64 v.b, .bool v.same, .int .i64 v.time]] w fun e w' => e = .returned (.int .i64 (cntBs v l 0)) ∧ Ext w w' := by
  have hlen := hs.1
  have HA := Lib.hid h; have HS := Lib.hid hs.2; clear h hs
  have HB := Lib.hid (Box.new w 29 #[.int .i64 v.a, .int .i64 v.b, .bool v.same, .int .i64 v.time])
  have HE := Lib.hid (Ext.alloc w (.cells #[.int .i64 v.a, .int .i64 v.b, .bool v.same, .int .i64 v.time] 29))
  go_enter Try.func14, Try.ntmps14
  go_wp2_with fail
  go_loopw [5, 12] (fun s5 s12 wr => ∃ i n : Nat, i ≤ l.length ∧ s12 = .int .i64 i ∧ s5 = .int .i64 n ∧ n ≤ i * 1048576 ∧ Hid (cntBs v (l.drop i) n = cntBs v l 0) ∧ Box wr w.heap.size 29 #[.int .i64 v.a, .int .i64 v.b, .bool v.same, .int .i64 v.time] ∧ Ext w wr) (fun _ i _ => l.length - (intOf i).toNat)
  case atStart => exact ⟨0, 0, Nat.zero_le _, rfl, rfl, by omega, rfl, HB.out, HE.out⟩
  case round =>
    obtain ⟨i, n, hi, rfl, rfl, hn, hR, hB1, hE1⟩ := hrel
    have HB1 := Lib.hid hB1; have HE1 := Lib.hid hE1; clear hB1 hE1
    by_cases hlt : i < l.length
    · obtain ⟨b, o, vs, rfl, _, _, hc, hR2⟩ := (HA.out.ext good_Batch HE1.out).2 i hlt
      have hsm := HS.out l[i] (List.getElem_mem hlt)
      have hR1 := hR.out
      rw [List.drop_eq_getElem_cons hlt, cntBs] at hR1
      obtain ⟨x, hx⟩ : ∃ x, x = l[i] := ⟨_, rfl⟩
      rw [← hx] at hR1 hR2 hsm
      obtain ⟨p0, c0, rfl, r0⟩ := hR2
      have hol : x.ops.length ≤ 1048576 := hsm.1
      have HR := Lib.hid hR1; have HX := Lib.hid hx; have HR0 := Lib.hid r0
      clear hR1 hR hx r0 hsm
      have q0 := hc 0 (by simp)
      simp only [List.getElem_cons_zero, List.getElem_cons_succ, Nat.mul_one, Nat.add_zero] at q0
      clear hc
      go_wp2_with fail
      obtain ⟨wo, hwo, HW⟩ : ∃ wo : World, wo = wr ∧ Hid (Ext wo (wr.alloc (.cells #[.slice p0 x.ops.length c0] 85))) := ⟨wr, rfl, Lib.hid (Ext.alloc _ _)⟩
      rw [← hwo] at HB1 HE1 HR0
      clear hwo q0
      go_loopw [5, 19] (fun s5 s19 wr => ∃ j m : Nat, j ≤ x.ops.length ∧ s19 = .int .i64 j ∧ s5 = .int .i64 m ∧ m ≤ i * 1048576 + j ∧ Hid (cntOps v (x.ops.drop j) m = cntOps v x.ops n) ∧ Ext wo wr) (fun _ j _ => x.ops.length - (intOf j).toNat)
      case atStart => exact ⟨0, n, Nat.zero_le _, rfl, rfl, Nat.le_trans hn (Nat.le_add_right _ _), rfl, HW.out⟩
      case round =>
        obtain ⟨j, m, hj, rfl, rfl, hm, hR5, hE5⟩ := hrel
        have HE5 := Lib.hid hE5; have HR5 := hR5
        clear hE5 hR5
        by_cases hlt2 : j < x.ops.length
        · obtain ⟨b2, o2, vs2, rfl, _, _, hc2, hR6⟩ := (HR0.out.ext good_Op HE5.out).2 j hlt2
          have hR7 := HR5.out
          rw [List.drop_eq_getElem_cons hlt2, cntOps] at hR7
          obtain ⟨y, hy⟩ : ∃ y, y = x.ops[j] := ⟨_, rfl⟩
          rw [← hy] at hR6 hR7
          have HR7 := Lib.hid hR7
          obtain ⟨p0k, c0k, rfl, r0k⟩ := hR6
          have HOR : Hid (OpR 0 wr [.int .i64 y.kind, .int .i64 y.record.source, .int .i64 y.record.key, .int .i64 y.record.version, .slice p0k y.record.fields.length c0k, .int .i64 y.verdict.a, .int .i64 y.verdict.b, .bool y.verdict.same, .int .i64 y.verdict.time] y) := ⟨p0k, c0k, rfl, r0k⟩
          clear hy hR7 r0k
          have q0 := hc2 0 (by simp)
          have q1 := hc2 1 (by simp)
          have q2 := hc2 2 (by simp)
          have q3 := hc2 3 (by simp)
          have q4 := hc2 4 (by simp)
          have q5 := hc2 5 (by simp)
          have q6 := hc2 6 (by simp)
          have q7 := hc2 7 (by simp)
          have q8 := hc2 8 (by simp)
          simp only [List.getElem_cons_zero, List.getElem_cons_succ, Nat.mul_one, Nat.add_zero] at q0 q1 q2 q3 q4 q5 q6 q7 q8
          clear hc2
          have HB5 := HB1.out.ext HE5.out
          have k0 := HB5.cell 0
          have k1 := HB5.cell 1
          have k2 := HB5.cell 2
          have k3 := HB5.cell 3
          have klt := HB5.lt
          simp only [List.getElem?_toArray, List.getElem?_cons_zero, List.getElem?_cons_succ] at k0 k1 k2 k3
          clear HB5
          go_wp2_with fail
          refine (mentions_any y v [.int .i64 y.kind, .int .i64 y.record.source, .int .i64 y.record.key, .int .i64 y.record.version, .slice p0k y.record.fields.length c0k, .int .i64 y.verdict.a, .int .i64 y.verdict.b, .bool y.verdict.same, .int .i64 y.verdict.time] 0 _ (good_Op.ext HOR.out (by (repeat' (first | with_reducible assumption | with_reducible exact Below.refl _ _ | (with_reducible refine Ext.alloc' ?_ _) | (with_reducible refine Ext.drew' ?_) | (with_reducible refine Ext.drewN' ?_ _) | (with_reducible refine Ext.set_ ?_ (by first | omega | (simp; done) | (simp; omega)) _ _) | (refine Ext.trans ?_ (by with_reducible assumption))))))).mono ?_
          rintro e w6 ⟨rfl, hE6⟩
          have HE6 : Hid (Ext wo w6) := (show Ext wo w6 from by have h9 := HE5.out; (repeat' (first | with_reducible assumption | with_reducible exact Below.refl _ _ | (with_reducible refine Ext.alloc' ?_ _) | (with_reducible refine Ext.drew' ?_) | (with_reducible refine Ext.drewN' ?_ _) | (with_reducible refine Ext.set_ ?_ (by first | omega | (simp; done) | (simp; omega)) _ _) | (refine Ext.trans ?_ (by with_reducible assumption)))))
          clear hE6 q0 q1 q2 q3 q4 q5 q6 q7 q8 k0 k1 k2 k3 klt
          cases hmm : mentionsB y v
          · rw [hmm] at HR7
            clear hmm
            go_wp2_with fail
            go_roundw
            case rel => exact ⟨j + 1, m, by omega, by go_num, rfl, by omega, by simpa using HR7, HE6.out⟩
            case measure => (simp [intOf] <;> omega)
          · rw [hmm] at HR7
            clear hmm
            go_wp2_with fail
            go_roundw
            case rel => exact ⟨j + 1, m + 1, by omega, by go_num, by go_num, by omega, by simpa using HR7, HE6.out⟩
            case measure => (simp [intOf] <;> omega)
        · obtain rfl : j = x.ops.length := by omega
          have hR7 : m = cntOps v x.ops n := by have h := HR5.out; rw [List.drop_eq_nil_of_le (Nat.le_refl _)] at h; exact h
          have HR7 := Lib.hid hR7
          clear hR7
          go_wp2_with fail
          go_roundw
          case rel => exact ⟨i + 1, m, by omega, by go_num, rfl, by omega, by rw [HR7.out]; exact HR, HB1.out.ext HE5.out, HE1.out.trans HE5.out⟩
          case measure => (simp [intOf] <;> omega)
    · obtain rfl : i = l.length := by omega
      have hR7 : n = cntBs v l 0 := by have h := hR.out; rw [List.drop_eq_nil_of_le (Nat.le_refl _)] at h; exact h
      have HR7 := Lib.hid hR7
      clear hR7
      go_wp2_with fail
      go_ret
      exact ⟨ret_int (by rw [HR7.out]), HE1.out⟩

theorem mention_cases (y : DOp) (v : DVerdict) :
    (mentionsB y v = true ∧ (y.kind = 3 ∨ ¬ y.kind = 3 ∧ y.kind = 4) ∧ y.verdict.a = v.a ∧ y.verdict.b = v.b ∧ y.verdict.same = v.same ∧ y.verdict.time = v.time) ∨
    (mentionsB y v = false ∧ ((¬ y.kind = 3 ∧ ¬ y.kind = 4) ∨ ((y.kind = 3 ∨ ¬ y.kind = 3 ∧ y.kind = 4) ∧ (¬ y.verdict.a = v.a ∨ y.verdict.a = v.a ∧ ¬ y.verdict.b = v.b ∨ y.verdict.a = v.a ∧ y.verdict.b = v.b ∧ ¬ y.verdict.same = v.same ∨ y.verdict.a = v.a ∧ y.verdict.b = v.b ∧ y.verdict.same = v.same ∧ ¬ y.verdict.time = v.time)))) := by
  by_cases h3 : y.kind = 3 <;> by_cases h4 : y.kind = 4 <;> by_cases ha : y.verdict.a = v.a <;> by_cases hb : y.verdict.b = v.b <;> by_cases hs : y.verdict.same = v.same <;> by_cases ht : y.verdict.time = v.time <;>
    simp [mentionsB, verEq, h3, h4, ha, hb, hs, ht] <;> omega

set_option maxHeartbeats 3200000 in
theorem specCountMentions_any (l : List DBatch) (hs : SmallL (fun y => SmallBatch y) l) (v : DVerdict) (a : Option Addr) (c : Nat) (w : World) (h : RowR 1 BatchR 0 w a l) :
    Calls Try.prog 11 #[.slice a l.length c, .agg #[.int .i64 v.a, .int .i64 v.b, .bool v.same, .int .i64 v.time]] w fun e w' => e = .returned (.int .i64 (cntBs v l 0)) ∧ Ext w w' := by
  have hlen := hs.1
  have HA := Lib.hid h; have HS := Lib.hid hs.2; clear h hs
  have HB := Lib.hid (Box.new w 29 #[.int .i64 v.a, .int .i64 v.b, .bool v.same, .int .i64 v.time])
  have HE := Lib.hid (Ext.alloc w (.cells #[.int .i64 v.a, .int .i64 v.b, .bool v.same, .int .i64 v.time] 29))
  go_enter Try.func11, Try.ntmps11
  go_wp2_with fail
  go_loopw [5, 6] (fun s5 s6 wr => ∃ i n : Nat, i ≤ l.length ∧ s6 = .int .i64 i ∧ s5 = .int .i64 n ∧ n ≤ i * 1048576 ∧ Hid (cntBs v (l.drop i) n = cntBs v l 0) ∧ Box wr w.heap.size 29 #[.int .i64 v.a, .int .i64 v.b, .bool v.same, .int .i64 v.time] ∧ Ext w wr) (fun _ i _ => l.length - (intOf i).toNat)
  case atStart => exact ⟨0, 0, Nat.zero_le _, rfl, rfl, by omega, rfl, HB.out, HE.out⟩
  case round =>
    obtain ⟨i, n, hi, rfl, rfl, hn, hR, hB1, hE1⟩ := hrel
    have HB1 := Lib.hid hB1; have HE1 := Lib.hid hE1; clear hB1 hE1
    by_cases hlt : i < l.length
    · obtain ⟨b, o, vs, rfl, _, _, hc, hR2⟩ := (HA.out.ext good_Batch HE1.out).2 i hlt
      have hsm := HS.out l[i] (List.getElem_mem hlt)
      have hR1 := hR.out
      rw [List.drop_eq_getElem_cons hlt, cntBs] at hR1
      obtain ⟨x, hx⟩ : ∃ x, x = l[i] := ⟨_, rfl⟩
      rw [← hx] at hR1 hR2 hsm
      obtain ⟨p0, c0, rfl, r0⟩ := hR2
      have hol : x.ops.length ≤ 1048576 := hsm.1
      have HR := Lib.hid hR1; have HX := Lib.hid hx; have HR0 := Lib.hid r0
      clear hR1 hR hx r0 hsm
      have q0 := hc 0 (by simp)
      simp only [List.getElem_cons_zero, List.getElem_cons_succ, Nat.mul_one, Nat.add_zero] at q0
      have HQ := Lib.hid q0
      clear hc q0
      go_wp2_with fail
      obtain ⟨wo, hwo, HW⟩ : ∃ wo : World, wo = wr ∧ Hid (Ext wo wr) := ⟨wr, rfl, Lib.hid (Ext.refl _)⟩
      rw [← hwo] at HB1 HE1 HR0 HQ
      clear hwo
      go_loopw [5, 7] (fun s5 s7 wr => ∃ j m : Nat, j ≤ x.ops.length ∧ s7 = .int .i64 j ∧ s5 = .int .i64 m ∧ m ≤ i * 1048576 + j ∧ Hid (cntOps v (x.ops.drop j) m = cntOps v x.ops n) ∧ Ext wo wr) (fun _ j _ => x.ops.length - (intOf j).toNat)
      case atStart => exact ⟨0, n, Nat.zero_le _, rfl, rfl, Nat.le_trans hn (Nat.le_add_right _ _), rfl, HW.out⟩
      case round =>
        obtain ⟨j, m, hj, rfl, rfl, hm, hR5, hE5⟩ := hrel
        have HE5 := Lib.hid hE5; have HR5 := hR5
        have q0 := hE5.at HQ.out
        clear hE5 hR5
        by_cases hlt2 : j < x.ops.length
        · obtain ⟨b2, o2, vs2, rfl, _, _, hc2, hR6⟩ := (HR0.out.ext good_Op HE5.out).2 j hlt2
          have hR7 := HR5.out
          rw [List.drop_eq_getElem_cons hlt2, cntOps] at hR7
          obtain ⟨y, hy⟩ : ∃ y, y = x.ops[j] := ⟨_, rfl⟩
          rw [← hy] at hR6 hR7
          have HR7 := Lib.hid hR7
          obtain ⟨p0k, c0k, rfl, r0k⟩ := hR6
          clear hy hR7 r0k
          have t0 := hc2 0 (by simp)
          have t1 := hc2 1 (by simp)
          have t2 := hc2 2 (by simp)
          have t3 := hc2 3 (by simp)
          have t4 := hc2 4 (by simp)
          have t5 := hc2 5 (by simp)
          have t6 := hc2 6 (by simp)
          have t7 := hc2 7 (by simp)
          have t8 := hc2 8 (by simp)
          simp only [List.getElem_cons_zero, List.getElem_cons_succ, Nat.mul_one, Nat.add_zero] at t0 t1 t2 t3 t4 t5 t6 t7 t8
          clear hc2
          have HB5 := HB1.out.ext HE5.out
          have k0 := HB5.cell 0
          have k1 := HB5.cell 1
          have k2 := HB5.cell 2
          have k3 := HB5.cell 3
          have klt := HB5.lt
          simp only [List.getElem?_toArray, List.getElem?_cons_zero, List.getElem?_cons_succ] at k0 k1 k2 k3
          clear HB5
          rcases mention_cases y v with ⟨hmm, hk | ⟨hk1, hk⟩, ha, hb, hs, ht⟩ | ⟨hmm, ⟨hk1, hk⟩ | ⟨hk | ⟨hk1, hk⟩, hd | ⟨ha, hd⟩ | ⟨ha, hb, hd⟩ | ⟨ha, hb, hs, hd⟩⟩⟩
          all_goals
            rw [hmm] at HR7
            clear hmm
            go_wp2_with fail
            go_roundw
            case rel => first | exact ⟨j + 1, m, by omega, by go_num, rfl, by omega, by simpa using HR7, (by have h9 := HE5.out; (repeat' (first | with_reducible assumption | with_reducible exact Below.refl _ _ | (with_reducible refine Ext.alloc' ?_ _) | (with_reducible refine Ext.drew' ?_) | (with_reducible refine Ext.drewN' ?_ _) | (with_reducible refine Ext.set_ ?_ (by first | omega | (simp; done) | (simp; omega)) _ _) | (refine Ext.trans ?_ (by with_reducible assumption)))))⟩ | exact ⟨j + 1, m + 1, by omega, by go_num, by go_num, by omega, by simpa using HR7, (by have h9 := HE5.out; (repeat' (first | with_reducible assumption | with_reducible exact Below.refl _ _ | (with_reducible refine Ext.alloc' ?_ _) | (with_reducible refine Ext.drew' ?_) | (with_reducible refine Ext.drewN' ?_ _) | (with_reducible refine Ext.set_ ?_ (by first | omega | (simp; done) | (simp; omega)) _ _) | (refine Ext.trans ?_ (by with_reducible assumption)))))⟩
            case measure => (simp [intOf] <;> omega)
        · obtain rfl : j = x.ops.length := by omega
          have hR7 : m = cntOps v x.ops n := by have h := HR5.out; rw [List.drop_eq_nil_of_le (Nat.le_refl _)] at h; exact h
          have HR7 := Lib.hid hR7
          clear hR7
          go_wp2_with fail
          go_roundw
          case rel => exact ⟨i + 1, m, by omega, by go_num, rfl, by omega, by rw [HR7.out]; exact HR, HB1.out.ext HE5.out, HE1.out.trans HE5.out⟩
          case measure => (simp [intOf] <;> omega)
    · obtain rfl : i = l.length := by omega
      have hR7 : n = cntBs v l 0 := by have h := hR.out; rw [List.drop_eq_nil_of_le (Nat.le_refl _)] at h; exact h
      have HR7 := Lib.hid hR7
      clear hR7
      go_wp2_with fail
      go_ret
      exact ⟨ret_int (by rw [HR7.out]), HE1.out⟩
end Go.Proofs.Ytdgpbgpapcldeaa
