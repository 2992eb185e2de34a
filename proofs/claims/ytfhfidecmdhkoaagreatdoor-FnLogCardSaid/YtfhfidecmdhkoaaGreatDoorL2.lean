/- General lemmas (data by value) and the walks on which the law's proof leans, part 2. No condition. -/
import Derived.Test.YtfhfidecmdhkoaaGreatDoorL1
import Derived.Great.BuildSlice
import Derived.Laws.MakeOwn
import Derived.Laws.AppendOwn
import Derived.Laws.OwnMore
import Derived.Lib.SlBytesRow
import Derived.Lib.ConvBytes
import Derived.Laws.StructEq
set_option linter.unusedVariables false
set_option linter.unusedSimpArgs false
set_option linter.unusedSectionVars false
section
namespace Go.Dv
open Go.RowKit
variable [Glob]
def relabS (l1 l2 : List Nat) (ow : Own) : Own := fun b => match ow b with
  | some l => if l.drop (l.length - l1.length) = l1 then some (l.take (l.length - l1.length) ++ l2) else some l
  | none => none
theorem relabS_none {l1 l2 : List Nat} {ow : Own} {b : Nat} (h : ow b = none) : relabS l1 l2 ow b = none := by simp [relabS, h]
theorem relabS_hit {l1 l2 q : List Nat} {ow : Own} {b : Nat} (h : ow b = some (q ++ l1)) : relabS l1 l2 ow b = some (q ++ l2) := by
  simp [relabS, h]
theorem relabS_miss {l1 l2 l : List Nat} {ow : Own} {b : Nat} (h : ow b = some l) (hm : ∀ q, l ≠ q ++ l1) : relabS l1 l2 ow b = some l := by
  simp only [relabS, h]
  rw [if_neg]
  intro he
  refine hm (l.take (l.length - l1.length)) ?_
  have := List.take_append_drop (l.length - l1.length) l
  rw [he] at this
  exact this.symm
theorem Keeps.relabS {w : World} {ow : Own} {l1 l2 : List Nat} : Keeps w ow l1 w (relabS l1 l2 ow) l2 := fun b _ => ⟨fun ho => ⟨rfl, relabS_none ho⟩, fun q hq => ⟨rfl, relabS_hit hq⟩⟩
theorem Keeps.relabS_off {w : World} {ow : Own} {l1 l2 l : List Nat} (h : ∀ q q', q ++ l ≠ q' ++ l1) : Keeps w ow l w (Dv.relabS l1 l2 ow) l := fun b _ => ⟨fun ho => ⟨rfl, relabS_none ho⟩, fun q hq => ⟨rfl, relabS_miss hq fun q' => h q q'⟩⟩
theorem suffix_last {q q' l : List Nat} {i j : Nat} (h : q ++ [i] = q' ++ (l ++ [j])) : i = j := by
  have := congrArg List.getLast? h
  simpa [← List.append_assoc] using this
theorem R.gone_kid {P : Program} {w : World} {ow ow' : Own} : ∀ (p : List Nat) {d n : D} {l : List Nat} {cs : List Value}, D.sub p d = some n →
    (∀ b, b < w.heap.size → (∀ q, ow b ≠ some (q ++ (p.reverse ++ l))) → ow' b = ow b) → R P w ow d l cs → R P w ow' (D.upd p d (.any n.w)) l cs
  | [], d, n, l, cs, hs, hk, h => by
    simp only [D.sub, Option.some.injEq] at hs
    subst hs
    simp only [D.upd, R]
    exact ⟨h.len, h.cells1⟩
  | i :: p, d, n, l, cs, hs, hk, h => by
    simp only [D.sub] at hs
    cases hki : d.kid i with
    | none => rw [hki] at hs; cases hs
    | some x =>
      rw [hki] at hs
      have hxw := D.upd_w p x (.any n.w) n hs rfl
      have hkeepj : ∀ j, j ≠ i → Keeps w ow (j :: l) w ow' (j :: l) := by
        intro j hj b hb
        refine ⟨fun h0 => ⟨rfl, by rw [hk b hb (fun q hq => by rw [h0] at hq; cases hq)]; exact h0⟩, fun q hq => ⟨rfl, ?_⟩⟩
        rw [hk b hb (fun q' hq' => ?_)]
        · exact hq
        · rw [hq] at hq'
          have : q ++ j :: l = (q' ++ p.reverse) ++ i :: l := by simpa using hq'
          exact hj (suffix_inj this)
      have hnone : ∀ b, b < w.heap.size → ow b = none → ow' b = none := fun b hb h0 => by rw [hk b hb (fun q hq => by rw [h0] at hq; cases hq)]; exact h0
      have hself : ∀ b, b < w.heap.size → ow b = some l → ow' b = some l := fun b hb h0 => by
        rw [hk b hb (fun q hq => ?_)]
        · exact h0
        · rw [h0] at hq
          have := congrArg List.length (Option.some.inj hq)
          simp at this
          omega
      have ih : ∀ cs, R P w ow x (i :: l) cs → R P w ow' (D.upd p x (.any n.w)) (i :: l) cs := fun cs hx => R.gone_kid p hs (fun b hb hq => hk b hb (fun q hq' => hq q (by simpa using hq'))) hx
      simp only [D.upd, hki]
      cases d with
      | one _ => cases hki
      | any _ => cases hki
      | bx o y =>
        have hi0 := kid_bx hki
        subst hi0
        simp only [D.kid, if_true, Option.some.injEq] at hki
        subst hki
        simp only [R, D.setKid] at h ⊢
        obtain ⟨b, off, C, e, fz, cs', h1, hh, hn, hs', hl, hc, hr⟩ := h
        exact ⟨b, off, C, e, fz, cs', h1, hh, fun ho => hnone b (lt_of_heap hh) (hn ho), fun ho => ⟨hself b (lt_of_heap hh) (hs' ho).1, by rw [hxw]; exact (hs' ho).2⟩, by rw [hxw]; exact hl, hc, ih _ hr⟩
      | sl o xs =>
        simp only [D.kid] at hki
        simp only [R, D.setKid] at h ⊢
        obtain ⟨a, cap, h1, h2, h3, h4⟩ := h
        refine ⟨a, cap, by simpa using h1, by simpa using h2, h3, ?_⟩
        rcases h4 with ⟨_, h4, _⟩ | ⟨_, h4⟩ | ⟨b, off, s, C, e, fz, ha, hh, hn, hs', hr⟩
        · rw [h4] at hki; simp at hki
        · rw [h4] at hki; simp at hki
        · refine .inr (.inr ⟨b, off, s, C, e, fz, ha, hh, fun ho => hnone b (lt_of_heap hh) (hn ho), fun t ht => ⟨hself b (lt_of_heap hh) (hs' t ht).1, (hs' t ht).2⟩, ?_⟩)
          refine (Rs.iff hh).2 fun j y hj => ?_
          have hall := (Rs.iff hh).1 hr
          by_cases hij : j = i
          · subst hij
            obtain ⟨g1, C2, e2, fz2, cs2, g2, g3, g4⟩ := hall j x hki
            rw [List.getElem?_set_self (List.getElem?_eq_some_iff.1 hki).1] at hj
            obtain rfl : D.upd p x (.any n.w) = y := by simpa using hj
            refine ⟨by rw [hxw]; exact g1, C2, e2, fz2, cs2, g2, by rw [hxw]; exact g3, ?_⟩
            rw [Nat.zero_add] at g4 ⊢
            exact ih _ g4
          · rw [List.getElem?_set_ne (Ne.symm hij)] at hj
            obtain ⟨g1, C2, e2, fz2, cs2, g2, g3, g4⟩ := hall j y hj
            rw [Nat.zero_add] at g4
            refine ⟨g1, C2, e2, fz2, cs2, g2, g3, ?_⟩
            rw [Nat.zero_add]
            exact g4.tr (hkeepj j hij)
      | agg xs =>
        simp only [D.kid] at hki
        simp only [R, D.setKid] at h ⊢
        have key : ∀ (xs : List D) (k i' : Nat) (cs : List Value), xs[i']? = some x → k + i' = i → Ra P w ow xs l k cs → Ra P w ow' (xs.set i' (D.upd p x (.any n.w))) l k cs := by
          intro xs
          induction xs with
          | nil => intro k i' cs h; simp at h
          | cons z xs ihx =>
            intro k i' cs hi' hki' hra
            simp only [Ra] at hra
            obtain ⟨c1, c2, hcs, g1, g2, g3⟩ := hra
            cases i' with
            | zero =>
              simp at hi'; subst hi'
              obtain rfl : k = i := by omega
              simp only [List.set_cons_zero, Ra]
              refine ⟨c1, c2, hcs, by rw [hxw]; exact g1, ih _ g2, ?_⟩
              have rest : ∀ (xs : List D) (k2 : Nat) (cs : List Value), k < k2 → Ra P w ow xs l k2 cs → Ra P w ow' xs l k2 cs := by
                intro xs
                induction xs with
                | nil => intro k2 cs _ h; simpa only [Ra] using h
                | cons z xs ih2 =>
                  intro k2 cs hlt h
                  simp only [Ra] at h ⊢
                  obtain ⟨c1, c2, q1, q2, q3, q4⟩ := h
                  exact ⟨c1, c2, q1, q2, q3.tr (hkeepj k2 (by omega)), ih2 (k2 + 1) c2 (by omega) q4⟩
              exact rest xs (k + 1) c2 (by omega) g3
            | succ i' =>
              simp only [List.set_cons_succ, Ra]
              exact ⟨c1, c2, hcs, g1, g2.tr (hkeepj k (by omega)), ihx (k + 1) i' c2 (by simpa using hi') (by omega) g3⟩
        exact key xs 0 i cs hki (by omega) h
theorem V.gone {P : Program} {w : World} {ow ow' : Own} {p : List Nat} {d m : D} {l : List Nat} {v : Value} (h : V P w ow d l v) (hm : D.sub p d = some m) (hp : p ≠ []) (hk : ∀ b, b < w.heap.size → (∀ q, ow b ≠ some (q ++ (p.reverse ++ l))) → ow' b = ow b) :
    V P w ow' (D.upd p d (.any m.w)) l v := by
  cases p with
  | nil => exact absurd rfl hp
  | cons k p =>
    by_cases hda : ∃ xs, d = .agg xs
    · obtain ⟨xs, rfl⟩ := hda
      obtain ⟨cs, h1, h2⟩ := h
      have := R.gone_kid (k :: p) hm hk h2
      cases hx : xs[k]? with
      | none => simp [D.sub, D.kid, hx] at hm
      | some x =>
        have hup : D.upd (k :: p) (.agg xs) (.any m.w) = .agg (xs.set k (D.upd p x (.any m.w))) := by simp only [D.upd, D.kid, hx, D.setKid]
        rw [hup] at this ⊢
        exact ⟨cs, h1, this⟩
    · have hda' : ∀ xs, d ≠ .agg xs := fun xs e => hda ⟨xs, e⟩
      have hR : R P w ow d l [v] := by
        cases d with
        | agg xs => exact absurd rfl (hda' xs)
        | one _ => exact h
        | sl _ _ => exact h
        | bx _ _ => exact h
        | any _ => exact h
      have := R.gone_kid (k :: p) hm hk hR
      have hna := upd_ne_agg (i := k) (p := p) (n := .any m.w) hda'
      cases hd : D.upd (k :: p) d (.any m.w) with
      | agg ys => exact absurd hd (hna ys)
      | one _ => rw [hd] at this; exact this
      | sl _ _ => rw [hd] at this; exact this
      | bx _ _ => rw [hd] at this; exact this
      | any _ => rw [hd] at this; exact this
theorem Fits.take {P : Program} {n : Nat} {w0 w : World} {ow0 ow : Own} {s : St} {a : Act} {r : Nat} {p : List Nat} {d m : D} {v : Value} (h : Fits P n w0 ow0 ow s a w) (hs : s r = .own d) (hm : D.sub p d = some m) (hp : p ≠ [])
    (L : List Nat) (hV : V P w ow m (p.reverse ++ [r]) v) :
    Fits P n w0 ow0 (relabS (p.reverse ++ [r]) L ow) ((s.kill r).put r (.own (D.upd p d (.any m.w)))) a w ∧ V P w (relabS (p.reverse ++ [r]) L ow) m L v := by
  have hVr := h.slot r
  rw [hs] at hVr
  refine ⟨?_, V.tr Keeps.relabS hV⟩
  refine h.change h.nodef h.size rfl rfl rfl (Nat.le_refl _) (fun b _ ho => ⟨rfl, relabS_none ho⟩) (fun b hb => relabS_none (h.new b hb)) (fun j => j = r) ?_ ?_ ?_ (fun e => by have h9 := h.far; rw [show far0 = r from e, hs] at h9; cases h9)
  · intro j hj b _ q hq
    exact ⟨rfl, relabS_miss hq fun q' hq' => hj (suffix_last hq')⟩
  · intro i hi
    refine ⟨rfl, ?_⟩
    have hp : ((s.kill r).put r (.own (D.upd p d (.any m.w)))) i = (s.kill r) i := by simp [St.put, show i ≠ r from hi]
    rw [hp]
    rcases kill_at s r i with h1 | ⟨h1, _, h2⟩
    · exact .inl h1
    · right
      refine ⟨h1, fun j hj => ?_⟩
      have hjr : j ≠ r := by rintro rfl; exact h2 hj
      exact ⟨hjr, by simp [St.put, hjr, kill_own ((h.slot i).root hj) hjr]⟩
  · rintro i rfl
    simp only [St.put, if_true, SV]
    refine V.gone hVr hm hp fun b _ hq => ?_
    cases hb : ow b with
    | none => exact relabS_none hb
    | some lab => exact relabS_miss hb fun q hq' => hq q (by rw [hb, hq'])
theorem Fits.takeAll {P : Program} {n : Nat} {w0 w : World} {ow0 ow : Own} {s : St} {a : Act} {r : Nat} {d : D} (h : Fits P n w0 ow0 ow s a w) (hs : s r = .own d) (L : List Nat) :
    Fits P n w0 ow0 (relabS [r] L ow) (s.kill r) a w ∧ V P w (relabS [r] L ow) d L (aval a r) := by
  have hVr := h.slot r
  rw [hs] at hVr
  refine ⟨?_, V.tr Keeps.relabS hVr⟩
  refine h.change h.nodef h.size rfl rfl rfl (Nat.le_refl _) (fun b _ ho => ⟨rfl, relabS_none ho⟩) (fun b hb => relabS_none (h.new b hb)) (fun j => j = r) ?_ ?_ ?_ (fun e => by have h9 := h.far; rw [show far0 = r from e, hs] at h9; cases h9)
  · intro j hj b _ q hq
    refine ⟨rfl, relabS_miss hq fun q' hq' => ?_⟩
    have := congrArg List.getLast? hq'
    simp at this
    exact hj this
  · intro i hi
    refine ⟨rfl, ?_⟩
    rcases kill_at s r i with h1 | ⟨h1, _, h2⟩
    · exact .inl h1
    · right
      refine ⟨h1, fun j hj => ?_⟩
      have hjr : j ≠ r := by rintro rfl; exact h2 hj
      exact ⟨hjr, kill_own ((h.slot i).root hj) hjr⟩
  · rintro i rfl
    simp [St.kill, SV]
theorem V.fzV {P : Program} {w : World} {ow : Own} {d : D} {l l2 : List Nat} {v : Value} (h : V P w ow d.fz l v) : V P w ow d.fz l2 v := V.trf (fun b _ hb => ⟨rfl, hb⟩) h
inductive Src where
  | fr (d : D)
  | all (r : Nat) (d : D)
  | nd (r : Nat) (p : List Nat) (d m : D)
  | no
def srcOf (s : St) (i : Nat) (x : S) : Src :=
  match x with
  | .val d => .fr d
  | .own d => .all i d
  | .al r [] => match s r with
    | .own d => .all r d
    | _ => .no
  | .al r p => match s r with
    | .own d => match D.sub p d with
      | some m => if D.free p d then .nd r p d m else .no
      | none => .no
    | _ => .no
  | .ag r (k :: p) => match s r with
    | .own d => match D.sub (k :: p) d with
      | some m => if D.free (k :: p) d then .nd r (k :: p) d m else .no
      | none => .no
    | _ => .no
  | _ => .no
def Src.data : Src → D
  | .fr d => d.fz
  | .all _ d => d
  | .nd _ _ _ m => m
  | .no => .any 0
def Src.st (s : St) : Src → St
  | .all r _ => s.kill r
  | .nd r p d m => (s.kill r).put r (.own (D.upd p d (.any m.w)))
  | _ => s
def Src.from : Src → Option Nat
  | .all r _ => some r
  | .nd r _ _ _ => some r
  | _ => none
theorem al_V {P : Program} {n : Nat} {w0 w : World} {ow0 ow : Own} {s : St} {a : Act} {r : Nat} {p : List Nat} {d m : D} {v : Value} (h : Fits P n w0 ow0 ow s a w) (hs : s r = .own d) (hm : D.sub p d = some m) (hw : m.w = 1 ∧ m.isAgg = false ∧ (p = [] ∨ m.isHd = true))
    (h4 : (p = [] ∧ v = aval a r) ∨ ∃ b off, loc w p d (aval a r) = some (b, off) ∧ w.cell? ⟨b, off, none⟩ = some v) : V P w ow m (p.reverse ++ [r]) v := by
  have hV := h.slot r
  rw [hs] at hV
  rcases h4 with ⟨rfl, rfl⟩ | ⟨b, off, hl, hc⟩
  · simp only [D.sub, Option.some.injEq] at hm
    subst hm
    exact hV
  · have hR : R P w ow d [r] [aval a r] := by
      cases p with
      | nil => simp [loc] at hl
      | cons k p => exact V.one hV hl
    obtain ⟨hL, _, _⟩ := hR.at hl hm
    obtain ⟨v', hv', hr⟩ := hL.cell hw.1
    rw [hc] at hv'
    obtain rfl : v = v' := by simpa using hv'
    cases m with
    | agg xs => exact absurd hw.2.1 (by simp [D.isAgg])
    | one _ => exact hr
    | sl _ _ => exact hr
    | bx _ _ => exact hr
    | any _ => exact hr
theorem keeps_take {w : World} {ow : Own} {q1 l : List Nat} {r u : Nat} {L : List Nat} (h : r ≠ u) : Keeps w ow (l ++ [u]) w (relabS (q1 ++ [r]) L ow) (l ++ [u]) := by
  refine Keeps.relabS_off fun q q' e => h ?_
  have := congrArg List.getLast? e
  simp [← List.append_assoc] at this
  exact this.symm
theorem Fits.src {P : Program} {n : Nat} {w0 w : World} {ow0 ow : Own} {s : St} {a : Act} (h : Fits P n w0 ow0 ow s a w) (x : Operand) (L : List Nat) (z : Src) (hz : srcOf s (slotOf x) (evS s x) = z) (hno : z ≠ .no) :
    ∃ ow', Fits P n w0 ow0 ow' (z.st s) a w ∧ V P w ow' z.data L (a.eval x) ∧ ∀ l u, z.from ≠ some u → Keeps w ow (l ++ [u]) w ow' (l ++ [u]) := by
  subst hz
  have hv := h.eval x
  cases hx : evS s x with
  | un => rw [hx] at hno; exact absurd rfl hno
  | rp d => rw [hx] at hno; exact absurd rfl hno
  | rf r p => rw [hx] at hno; exact absurd rfl hno
  | tup l => rw [hx] at hno; exact absurd rfl hno
  | val d =>
    rw [hx] at hv
    exact ⟨ow, h, V.fzV hv, fun l u _ b _ => ⟨fun h => ⟨rfl, h⟩, fun q h => ⟨rfl, h⟩⟩⟩
  | own d =>
    have hs := slotOf_own hx (.inl rfl)
    have he := slotOf_val h.size h.small hx (.inl rfl)
    obtain ⟨h1, h2⟩ := h.takeAll hs L
    exact ⟨_, h1, by rw [he]; exact h2, fun l u hu => keeps_take (q1 := []) (fun e => hu (by rw [e]; rfl))⟩
  | al r p =>
    rw [hx] at hv hno
    obtain ⟨d, m, hs, hm, hw, h4⟩ := hv
    have hV := al_V h hs hm hw h4
    cases p with
    | nil =>
      simp only [srcOf, hs]
      simp only [D.sub, Option.some.injEq] at hm
      subst hm
      have he : a.eval x = aval a r := by
        rcases h4 with ⟨_, h4⟩ | ⟨b, off, h4, _⟩
        · exact h4
        · simp [loc] at h4
      obtain ⟨h1, h2⟩ := h.takeAll hs L
      exact ⟨_, h1, by rw [he]; exact h2, fun l u hu => keeps_take (q1 := []) (fun e => hu (by rw [e]; rfl))⟩
    | cons k p =>
      simp only [srcOf, hs, hm] at hno ⊢
      split at hno
      · rename_i hf
        rw [if_pos hf]
        obtain ⟨h1, h2⟩ := h.take hs hm (by simp) L hV
        exact ⟨_, h1, h2, fun l u hu => keeps_take (fun e => hu (by rw [e]; rfl))⟩
      · exact absurd rfl hno
  | ag r p =>
    rw [hx] at hv hno
    obtain ⟨d, m, hs, hm, hagg, hV⟩ := hv
    cases p with
    | nil => exact absurd rfl hno
    | cons k p =>
      simp only [srcOf, hs, hm] at hno ⊢
      split at hno
      · rename_i hf
        rw [if_pos hf]
        obtain ⟨h1, h2⟩ := h.take hs hm (by simp) L hV
        exact ⟨_, h1, h2, fun l u hu => keeps_take (fun e => hu (by rw [e]; rfl))⟩
      · exact absurd rfl hno
end Go.Dv

end
section
namespace Go.Dv
open Go.RowKit
variable [Glob]
theorem Src.st_own {s : St} {z : Src} {r : Nat} (h : (s r).isOwn = true) (hr : z.from ≠ some r) : (z.st s) r = s r := by
  cases z with
  | fr d => rfl
  | no => rfl
  | all j d =>
    have : r ≠ j := fun e => hr (by simp [Src.from, e])
    exact kill_own h this
  | nd j p d m =>
    have : r ≠ j := fun e => hr (by simp [Src.from, e])
    simp [Src.st, St.put, this, kill_own h this]
def dstore (e : TyE) (x : S) (z : Src) (s : St) (K : St → Prop) : Prop :=
  match x with
  | .rf r p => match s r with
    | .own d => match D.sub p d with
      | some m => D.free p d = true ∧ m.w = e.w ∧ 0 < e.w ∧ match z, m with
        | .fr (.one u), .one _ => K ((s.dropAg r).put r (.own (D.upd p d (.one u))))
        | z, m => (match z with | .no => False | _ => True) ∧ z.data.w = m.w ∧ z.from ≠ some r ∧ K (((z.st s).kill r).put r (.own (D.upd p d z.data)))
      | none => False
    | _ => False
  | _ => False
theorem run_storeAt {P : Program} {T : TypeId → TyE} {t : TypeId} {w w' : World} {b off : Nat} {v : Value} (hg : Good P T t) (hn : ∀ x, (T t).ty = x → x ≠ .no) (hsz : v.cells.toList.length = (T t).w) (hr : (storeCells ⟨b, off, none⟩ v.cells.toList).run P w = .ok () w') :
    (Instr.storeAt t (.pointer (some ⟨b, off, none⟩)) v).run P w = .ok () w' := by
  obtain ⟨_, i, zv, hi, hs, _⟩ := hg.of hn
  simp only [Instr.storeAt, Instr.sureAddr, Sem.run_bind, Sem.run_pure, Result.andThen_ok, storeVar, run_size hi]
  rw [if_neg (by simp at hsz ⊢; omega)]
  simpa using hr
theorem ok_store {P : Program} {T : TypeId → TyE} {n : Nat} {w0 : World} {ow0 : Own} {o : Oper} {s : St} {K : St → Prop} {t : TypeId} {x y : Operand} (hg : Good P T t) (hn : ∀ x, (T t).ty = x → x ≠ .no) (ho : o.op = .store t x y) (hd : o.dst = none)
    (h : dstore (T t) (asPtr s (slotOf x) (evS s x)) (srcOf s (slotOf y) (evS s y)) s K) : Ok P n w0 ow0 o s K := by
  refine ok_skip fun a w ow hf => ?_
  have hx := hf.asPtr x
  have hput : a.put o.dst undef = a := by rw [hd]; rfl
  rw [hput]
  unfold dstore at h
  split at h
  · rename_i r p hxr
    rw [hxr] at hx
    obtain ⟨d, m, b1, o1, hs, hm, hl, hv⟩ := hx
    rw [hs] at h
    simp only [hm] at h
    obtain ⟨hfree, hmw, hpos, h⟩ := h
    have run : ∀ w', (storeCells ⟨b1, o1, none⟩ (a.eval y).cells.toList).run P w = .ok () w' → (a.eval y).cells.toList.length = (T t).w → (execOp a.eval o).run P w = .ok .skip w' := by
      intro w' hr hsz
      unfold execOp; rw [ho]
      simp only [hv, Sem.run_bind, run_storeAt hg hn hsz hr, Result.andThen_ok]
      rfl
    have gen : ∀ z, srcOf s (slotOf y) (evS s y) = z → ((match z with | .no => False | _ => True) ∧ z.data.w = m.w ∧ z.from ≠ some r ∧ K (((z.st s).kill r).put r (.own (D.upd p d z.data)))) →
        ∃ w', (execOp a.eval o).run P w = .ok .skip w' ∧ ∃ s', K s' ∧ Rel P n w0 ow0 s' a w' := by
      rintro z hz ⟨h1, h2, h3, h4⟩
      obtain ⟨ow', g1, g2, _⟩ := hf.src y (p.reverse ++ [r]) z hz (by rintro rfl; exact h1)
      have hs' : (z.st s) r = .own d := by rw [Src.st_own (by rw [hs]; rfl) h3]; exact hs
      obtain ⟨w', k1, k2, _⟩ := g1.store hs' hl hm hfree g2 h2 (by omega)
      refine ⟨w', run w' k1 ?_, _, h4, ow', k2⟩
      rw [g2.cells.len, h2, hmw]
    split at h
    · rename_i _ _ u u0 hz
      obtain ⟨ow', g1, g2, _⟩ := hf.src y (p.reverse ++ [r]) _ hz (by simp)
      obtain ⟨w', k1, _, k3⟩ := g1.store hs hl hm hfree g2 rfl (by simp [D.w])
      refine ⟨w', run w' k1 ?_, _, h, ow', k3 _ _ rfl rfl⟩
      rw [g2.cells.len, ← hmw]; rfl
    · exact gen _ rfl h
  · exact h.elim
def dfield (off : Nat) (f : Nat) (u : Nat) (x : S) (s : St) (K : St → Prop) : Prop :=
  match x with
  | .rp (.agg xs) => match xs[f]? with
    | some z => D.ws (xs.take f) = off ∧ K (s.set u (.rp z))
    | none => False
  | .rf r p => match s r with
    | .own d => match D.sub p d with
      | some (.agg xs) => match xs[f]? with
        | some z => D.ws (xs.take f) = off ∧ u ≠ r ∧ K (s.set u (.rf r (p ++ [f])))
        | none => False
      | _ => False
    | _ => False
  | _ => False
theorem run_field {P : Program} {T : TypeId → TyE} {t : TypeId} {fs : List (Nat × TypeId)} {f off : Nat} {ft : TypeId} {w : World} {b o1 : Nat} (hg : Good P T t) (hty : (T t).ty = .agg fs) (hf : fs[f]? = some (off, ft)) :
    (Instr.fieldAt t (.pointer (some ⟨b, o1, none⟩)) f).run P w = .ok (.pointer (some ⟨b, o1 + off, none⟩)) w := by
  obtain ⟨hdesc, _⟩ := hg.of (fun x h e => by rw [hty] at h; subst h; cases e)
  rw [hty] at hdesc
  obtain ⟨fields, hu, hmap, hall, _⟩ := hdesc
  have : ∃ fl, fields[f]? = some fl ∧ fl.offset = off ∧ fl.type = ft := by
    rw [← hmap] at hf
    simp only [List.getElem?_map, Option.map_eq_some_iff, Prod.mk.injEq] at hf
    obtain ⟨fl, h1, h2, h3⟩ := hf
    exact ⟨fl, by simpa using h1, h2, h3⟩
  obtain ⟨fl, hfl, rfl, rfl⟩ := this
  obtain ⟨_, i, hi, hpos⟩ := hall fl (by have := List.mem_of_getElem? (l := fields.toList) (by simpa using hfl); exact this)
  have hne : ¬ i.size = 0 := by omega
  simp only [Instr.fieldAt, Sem.run_bind, run_underlying hu, Result.andThen_ok, hfl, Instr.sureAddr, Sem.run_pure, fieldPlace, run_size hi, if_neg hne, Addr.add_mid]
theorem ok_place {P : Program} {n : Nat} {w0 : World} {ow0 : Own} {o : Oper} {s : St} {K : St → Prop} {f off : Nat} {x : Operand} {u : Nat} (hrun : ∀ (a : Act) (w : World) (ow : Own) (b o1 : Nat), Fits P n w0 ow0 ow s a w → a.eval x = .pointer (some ⟨b, o1, none⟩) → (execOp a.eval o).run P w = .ok (.value (.pointer (some ⟨b, o1 + off, none⟩))) w) (hd : o.dst = some u) (hu : u < n)
    (h : dfield off f u (asPtr s (slotOf x) (evS s x)) s K) : Ok P n w0 ow0 o s K := by
  refine ok_value fun a w ow hf => ?_
  have hx := hf.asPtr x
  unfold dfield at h
  split at h
  · rename_i xs hxr
    rw [hxr] at hx
    obtain ⟨b, o1, hv, hb, hL⟩ := hx
    cases hz : xs[f]? with
    | none => rw [hz] at h; exact h.elim
    | some z =>
      rw [hz] at h
      obtain ⟨hoff, hK⟩ := h
      refine ⟨.pointer (some ⟨b, o1 + off, none⟩), w, ?_, _, hK, ow, ?_⟩
      · exact hrun a w ow _ _ hf hv
      · rw [hd]
        refine hf.set hu ⟨b, o1 + off, rfl, hb, ?_⟩
        simp only [D.fz] at hL
        have := hL.agg_kid (fzs_get hz)
        have hw : D.ws ((D.fzs xs).take f) = off := by
          rw [← hoff, ← D.fzs_ws (xs.take f), D.fzs_map, D.fzs_map, List.map_take]
        rw [hw] at this
        exact this.fz0
  · rename_i r p hxr
    rw [hxr] at hx
    obtain ⟨d, m, b1, o1, hs, hm, hl, hv⟩ := hx
    rw [hs] at h
    simp only [hm] at h
    split at h
    · rename_i xs hm1
      obtain rfl : m = .agg xs := by simpa using hm1
      cases hz : xs[f]? with
      | none => rw [hz] at h; exact h.elim
      | some z =>
        rw [hz] at h
        obtain ⟨hoff, hne, hK⟩ := h
        refine ⟨.pointer (some ⟨b1, o1 + off, none⟩), w, ?_, _, hK, ow, ?_⟩
        · exact hrun a w ow _ _ hf hv
        · rw [hd]
          refine hf.set hu ⟨d, z, b1, o1 + off, by rw [free_own (by rw [hs]; rfl) (Ne.symm hne)]; exact hs, ?_, ?_, rfl⟩
          · rw [D.sub_append, hm]; simp [D.sub, D.kid, hz]
          · rw [loc_append hl hm]
            simp only [locAt, hz, hoff]
    · exact h.elim
  · exact h.elim
theorem ok_fieldAddr {P : Program} {T : TypeId → TyE} {n : Nat} {w0 : World} {ow0 : Own} {o : Oper} {s : St} {K : St → Prop} {t : TypeId} {fs : List (Nat × TypeId)} {f off : Nat} {ft : TypeId} {x : Operand} {u : Nat} (hg : Good P T t) (hty : (T t).ty = .agg fs) (hfs : fs[f]? = some (off, ft)) (ho : o.op = .fieldAddr t x f) (hd : o.dst = some u) (hu : u < n)
    (h : dfield off f u (asPtr s (slotOf x) (evS s x)) s K) : Ok P n w0 ow0 o s K :=
  ok_place (fun a w ow b o1 hf hv => by unfold execOp; rw [ho]; simp only [hv, Sem.run_bind, run_field hg hty hfs, Result.andThen_ok]; rfl) hd hu h
theorem ok_indexA {P : Program} {n : Nat} {w0 : World} {ow0 : Own} {o : Oper} {s : St} {K : St → Prop} {t e : TypeId} {len : Nat} {i : TypeInfo} {x y : Operand} {u : Nat} {k : IntKind} {j : Int} (ht : P.underlying t = some (.array len e)) (hi : P.info? e = some i) (ho : o.op = .indexAddr t x y) (hd : o.dst = some u) (hu : u < n)
    (hy : evS s y = .val (.one (.int k j))) (hj : 0 ≤ j) (hj2 : j < len) (h : dfield (j.toNat * i.size) j.toNat u (asPtr s (slotOf x) (evS s x)) s K) : Ok P n w0 ow0 o s K :=
  ok_place (fun a w ow b o1 hf hv => by
    have hyv := (hf.one hy).1
    unfold execOp; rw [ho]
    simp only [hyv, hv, Instr.indexAt, asIntOf, Sem.run_bind, Sem.run_pure, Result.andThen_ok, run_underlying ht, Instr.sureAddr]
    simp only [Sem.run_bind, Sem.run_pure, Result.andThen_ok, if_pos (show 0 ≤ j ∧ j < (len : Int) from ⟨hj, hj2⟩), run_size hi, Addr.add_mid]) hd hu h
end Go.Dv

end
section
namespace Go.Dv
open Go.RowKit
variable [Glob]
def ownNew (w : World) (l : List Nat) (ow : Own) : Own := fun b => if b = w.heap.size then some l else ow b
theorem ownNew_old {w : World} {l : List Nat} {ow : Own} {b : Nat} (h : b < w.heap.size) : ownNew w l ow b = ow b := by simp [ownNew, show b ≠ w.heap.size by omega]
theorem Fits.newBlock {P : Program} {n : Nat} {w0 w : World} {ow0 ow : Own} {s : St} {a : Act} (h : Fits P n w0 ow0 ow s a w) (o : Obj) (l : List Nat) : Fits P n w0 ow0 (ownNew w l ow) s a (w.alloc o) := by
  refine h.grown rfl rfl rfl (by simp) (fun b hb => ⟨Below.heap_alloc w o b hb, ownNew_old hb⟩) (fun b hb => ?_)
  simp at hb
  simp only [ownNew, show b ≠ w.heap.size by omega, if_false]
  exact h.new b (by omega)
theorem keeps_new {w : World} {ow : Own} {o : Obj} {l l2 : List Nat} : Keeps w ow l (w.alloc o) (ownNew w l2 ow) l := fun b hb =>
  ⟨fun ho => ⟨Below.heap_alloc w o b hb, by rw [ownNew_old hb]; exact ho⟩, fun q hq => ⟨Below.heap_alloc w o b hb, by rw [ownNew_old hb]; exact hq⟩⟩
theorem Fits.newVar {P : Program} {n : Nat} {w0 w : World} {ow0 ow : Own} {s : St} {a : Act} {u : Nat} {d : D} {v : Value} {t : TypeId} (h : Fits P n w0 ow0 ow s a w) (hu : u < n) (hV : V P w ow d [0, u] v) :
    Fits P n w0 ow0 (ownNew w [u] ow) (s.set u (.own (.bx true d))) (a.put (some u) (.pointer (some ⟨w.heap.size, 0, none⟩))) (w.alloc (.cells v.cells t)) := by
  refine (h.newBlock (.cells v.cells t) [u]).set hu ?_
  have hc := hV.cells
  have hl := hc.len
  simp only [SV, V, R]
  refine ⟨w.heap.size, 0, v.cells, t, (0, 0), v.cells.toList, rfl, heap_alloc_new w _, ?_, ?_, hl, ?_, hc.tr keeps_new⟩
  · intro h; cases h
  · intro _; exact ⟨by simp [ownNew], unfz0 _, rfl, by simpa using hl⟩
  · intro j hj; simp
theorem ok_box {P : Program} {n : Nat} {w0 : World} {ow0 : Own} {o : Oper} {s : St} {K : St → Prop} {t : TypeId} {x : Operand} {u : Nat} (ho : o.op = .box t x) (hd : o.dst = some u) (hu : u < n)
    (h : (match srcOf s (slotOf x) (evS s x) with | .no => False | z => K ((z.st s).set u (.own (.bx true z.data))))) : Ok P n w0 ow0 o s K := by
  refine ok_value fun a w ow hf => ?_
  have hno : srcOf s (slotOf x) (evS s x) ≠ .no := by intro e; rw [e] at h; exact h
  obtain ⟨ow', g1, g2, _⟩ := hf.src x [0, u] _ rfl hno
  refine ⟨.pointer (some ⟨w.heap.size, 0, none⟩), w.alloc (.cells (a.eval x).cells t), ?_, ((srcOf s (slotOf x) (evS s x)).st s).set u (.own (.bx true (srcOf s (slotOf x) (evS s x)).data)), ?_, _, by rw [hd]; exact g1.newVar hu g2⟩
  · unfold execOp; rw [ho]; rfl
  · cases hz : srcOf s (slotOf x) (evS s x) <;> rw [hz] at h <;> first | exact h | exact h.elim
theorem V.zf {P : Program} {w : World} {ow : Own} {d : D} {l : List Nat} {zv : Value} (h : D.zf d = some zv.cells.toList) (ha : (∃ cs, zv = .agg cs) = (d.isAgg = true)) : V P w ow d l zv := by
  have hr := R.zf (P := P) (w := w) (ow := ow) (l := l) h
  by_cases hd : d.isAgg = true
  · obtain ⟨cs, rfl⟩ := ha.mpr hd
    cases d with
    | agg xs => exact ⟨cs, rfl, hr⟩
    | _ => cases hd
  · have hn : ¬ ∃ cs, zv = .agg cs := fun e => hd (ha.mp e)
    have : zv.cells.toList = [zv] := by cases zv <;> first | rfl | exact absurd ⟨_, rfl⟩ hn
    rw [this] at hr
    cases d with
    | agg xs => exact absurd rfl hd
    | one _ => exact hr
    | sl _ _ => exact hr
    | bx _ _ => exact hr
    | any _ => exact hr
theorem ok_alloc {P : Program} {T : TypeId → TyE} {n : Nat} {w0 : World} {ow0 : Own} {o : Oper} {s : St} {K : St → Prop} {t : TypeId} {u : Nat} (hg : Good P T t) (hn : ∀ x, (T t).ty = x → x ≠ .no) (ho : o.op = .alloc t) (hd : o.dst = some u) (hu : u < n)
    (h : K (s.set u (.own (.bx true (T t).z)))) : Ok P n w0 ow0 o s K := by
  refine ok_value fun a w ow hf => ?_
  obtain ⟨_, i, zv, hi, _, hz, hflat, hagg, hz2, _⟩ := hg.of hn
  have hV : V P w ow (T t).z [0, u] zv := V.zf hflat (by rw [hagg]; exact hz2)
  refine ⟨.pointer (some ⟨w.heap.size, 0, none⟩), w.alloc (.cells zv.cells t), ?_, _, h, _, by rw [hd]; exact hf.newVar hu hV⟩
  unfold execOp; rw [ho]
  have hzero : (zeroValue t).run P w = .ok zv w := by simp [zeroValue, typeInfo, hi, hz]
  simp only [Instr.alloc, Sem.run_bind, hzero, Result.andThen_ok]
  rfl
def takeK (u : Nat) : List (Nat × Operand) → St → (List (Nat × D × Bool) → St → Prop) → Prop
  | [], s, K => K [] s
  | (i, x) :: xs, s, K => (match srcOf s (slotOf x) (evS s x) with | .no => False | _ => True) ∧ (srcOf s (slotOf x) (evS s x)).from ≠ some u ∧
      takeK u xs ((srcOf s (slotOf x) (evS s x)).st s) fun ds s' => K ((i, (srcOf s (slotOf x) (evS s x)).data, (srcOf s (slotOf x) (evS s x)).from.isNone) :: ds) s'
mutual
theorem D.fz_fz : ∀ d : D, d.fz.fz = d.fz
  | .one v => rfl
  | .sl o xs => by simp only [D.fz, D.fzs_fzs xs]
  | .agg xs => by simp only [D.fz, D.fzs_fzs xs]
  | .bx o x => by simp only [D.fz, D.fz_fz x]
  | .any n => rfl
theorem D.fzs_fzs : ∀ xs : List D, D.fzs (D.fzs xs) = D.fzs xs
  | [] => rfl
  | x :: xs => by simp only [D.fzs, D.fz_fz x, D.fzs_fzs xs]
end
def Taken (P : Program) (w : World) (ow : Own) (a : Act) (u : Nat) : List (Nat × Operand) → List (Nat × D × Bool) → Prop
  | [], [] => True
  | (i, x) :: xs, (j, d, b) :: ds => i = j ∧ V P w ow d [i, u] (a.eval x) ∧ (b = true → d.fz = d) ∧ Taken P w ow a u xs ds
  | _, _ => False
theorem Taken.keep {P : Program} {w w' : World} {ow ow' : Own} {a : Act} {u : Nat} (h : ∀ l, Keeps w ow (l ++ [u]) w' ow' (l ++ [u])) : ∀ {xs : List (Nat × Operand)} {ds : List (Nat × D × Bool)}, Taken P w ow a u xs ds → Taken P w' ow' a u xs ds
  | [], [], _ => trivial
  | (i, x) :: xs, (j, d, b) :: ds, ht => ⟨ht.1, V.tr (h [i]) ht.2.1, ht.2.2.1, Taken.keep h ht.2.2.2⟩
  | [], _ :: _, ht => ht.elim
  | _ :: _, [], ht => ht.elim
theorem Fits.takeK {P : Program} {n : Nat} {w0 w : World} {ow0 : Own} {a : Act} {u : Nat} : ∀ (xs : List (Nat × Operand)) {ow : Own} {s : St} {K : List (Nat × D × Bool) → St → Prop}, Fits P n w0 ow0 ow s a w → Dv.takeK u xs s K →
    ∃ ow' s' ds, K ds s' ∧ Fits P n w0 ow0 ow' s' a w ∧ Taken P w ow' a u xs ds ∧ ∀ l, Keeps w ow (l ++ [u]) w ow' (l ++ [u])
  | [], ow, s, K, h, hk => ⟨ow, s, [], hk, h, trivial, fun l b _ => ⟨fun h => ⟨rfl, h⟩, fun q h => ⟨rfl, h⟩⟩⟩
  | (i, x) :: xs, ow, s, K, h, hk => by
    obtain ⟨h1, h2, h3⟩ := hk
    obtain ⟨ow1, g1, g2, g3⟩ := h.src x [i, u] _ rfl (by intro e; rw [e] at h1; exact h1)
    obtain ⟨ow', s', ds, k1, k2, k3, k4⟩ := Fits.takeK xs g1 h3
    have hk1 := fun l => g3 l u h2
    refine ⟨ow', s', _, k1, k2, ⟨rfl, V.tr (k4 [i]) g2, ?_, k3⟩, fun l b hb => ?_⟩
    · intro hb
      cases hz : srcOf s (slotOf x) (evS s x) with
      | fr d => simp only [Src.data]; exact D.fz_fz d
      | all r d => rw [hz] at hb; cases hb
      | nd r p d m => rw [hz] at hb; cases hb
      | no => rw [hz] at h1; exact h1.elim
    · obtain ⟨a1, a2⟩ := hk1 l b hb
      obtain ⟨b1, b2⟩ := k4 l b hb
      exact ⟨fun h0 => ⟨rfl, (b1 (a1 h0).2).2⟩, fun q hq => ⟨rfl, (b2 q (a2 q hq).2).2⟩⟩
def setParts : List D → List (Nat × D × Bool) → List D
  | zs, [] => zs
  | zs, (i, d, _) :: ds => setParts (zs.set i d) ds
def partsOk (places : Nat → Option (Nat × Nat)) : List D → List (Nat × D × Bool) → Prop
  | _, [] => True
  | zs, (i, d, _) :: ds => (∃ z, zs[i]? = some z ∧ d.w = z.w ∧ places i = some (D.ws (zs.take i), d.w)) ∧ partsOk places (zs.set i d) ds
theorem fold_get (vs : List Value) : ∀ (off k : Nat) (cs : Array Value) (m : Nat),
    ((vs.zipIdx k).foldl (fun cs (c, j) => cs.setIfInBounds (off + j) c) cs)[m]? = if off + k ≤ m ∧ m < off + k + vs.length ∧ m < cs.size then vs[m - off - k]? else cs[m]? := by
  induction vs with
  | nil => intro off k cs m; simp; intro h1 h2; omega
  | cons v vs ih =>
    intro off k cs m
    simp only [List.zipIdx_cons, List.foldl_cons, ih, Array.size_setIfInBounds, List.length_cons]
    by_cases h1 : off + (k + 1) ≤ m ∧ m < off + (k + 1) + vs.length ∧ m < cs.size
    · rw [if_pos h1, if_pos (by omega)]
      rw [show m - off - k = (m - off - (k + 1)) + 1 from by omega]
      simp
    · rw [if_neg h1]
      by_cases h2 : m = off + k
      · subst h2
        by_cases h3 : off + k < cs.size
        · rw [if_pos (by omega)]
          simp [h3]
        · rw [if_neg (by omega)]
          simp [h3]
      · rw [if_neg (by omega)]
        rw [Array.getElem?_setIfInBounds_ne (by omega)]
theorem fold_size (vs : List Value) : ∀ (off k : Nat) (cs : Array Value), ((vs.zipIdx k).foldl (fun cs (c, j) => cs.setIfInBounds (off + j) c) cs).size = cs.size := by
  induction vs with
  | nil => intro off k cs; rfl
  | cons v vs ih => intro off k cs; simp only [List.zipIdx_cons, List.foldl_cons, ih, Array.size_setIfInBounds]
def Raq (P : Program) (w : World) (ow : Own) (zs : List D) (l : List Nat) (cs : List Value) : Prop :=
  cs.length = D.ws zs ∧ ∀ j z, zs[j]? = some z → R P w ow z (j :: l) ((cs.drop (D.ws (zs.take j))).take z.w)
theorem Ra.toQ {P : Program} {w : World} {ow : Own} : ∀ {xs : List D} {l : List Nat} {i : Nat} {cs : List Value}, Ra P w ow xs l i cs → ∀ j z, xs[j]? = some z → R P w ow z ((i + j) :: l) ((cs.drop (D.ws (xs.take j))).take z.w)
  | [], _, _, _, _, j, z, h => by simp at h
  | x :: xs, l, i, cs, h, j, z, hj => by
    simp only [Ra] at h
    obtain ⟨c1, c2, rfl, h1, h2, h3⟩ := h
    cases j with
    | zero =>
      simp at hj; subst hj
      simp only [List.take_zero, D.ws, List.drop_zero, Nat.add_zero]
      rw [← h1, List.take_left]
      exact h2
    | succ j =>
      have := Ra.toQ h3 j z (by simpa using hj)
      simp only [List.take_succ_cons, D.ws]
      rw [← h1, List.drop_append, List.drop_eq_nil_of_le (by omega), List.nil_append, show c1.length + D.ws (xs.take j) - c1.length = D.ws (xs.take j) from by omega, show i + (j + 1) = i + 1 + j from by omega]
      exact this
theorem Ra.ofQ {P : Program} {w : World} {ow : Own} : ∀ {xs : List D} {l : List Nat} {i : Nat} {cs : List Value}, cs.length = D.ws xs → (∀ j z, xs[j]? = some z → R P w ow z ((i + j) :: l) ((cs.drop (D.ws (xs.take j))).take z.w)) → Ra P w ow xs l i cs
  | [], l, i, cs, hl, _ => by simp only [Ra]; exact List.eq_nil_of_length_eq_zero (by simpa [D.ws] using hl)
  | x :: xs, l, i, cs, hl, h => by
    simp only [D.ws] at hl
    simp only [Ra]
    refine ⟨cs.take x.w, cs.drop x.w, by simp, by simp; omega, by simpa [D.ws] using h 0 x (by simp), Ra.ofQ (by simp; omega) fun j z hj => ?_⟩
    have := h (j + 1) z (by simpa using hj)
    simp only [List.take_succ_cons, D.ws] at this
    rw [List.drop_drop, show i + 1 + j = i + (j + 1) from by omega]
    exact this
theorem seg_eq {c1 c2 : List Value} {o n : Nat} (h : ∀ k, k < n → c1[o + k]? = c2[o + k]?) : (c1.drop o).take n = (c2.drop o).take n := by
  apply List.ext_getElem?
  intro k
  simp only [List.getElem?_take, List.getElem?_drop]
  split
  · exact h k (by assumption)
  · rfl
theorem seg_is {c1 c2 : List Value} {o n : Nat} (hl : c2.length = n) (h : ∀ k, k < n → c1[o + k]? = c2[k]?) : (c1.drop o).take n = c2 := by
  apply List.ext_getElem?
  intro k
  simp only [List.getElem?_take, List.getElem?_drop]
  split
  · exact h k (by assumption)
  · rw [List.getElem?_eq_none (by omega)]
theorem fill_ok {P : Program} {w : World} {ow : Own} {a : Act} {u : Nat} {l : List Nat} {places : Nat → Option (Nat × Nat)} (hlab : l = [u]) : ∀ (xs : List (Nat × Operand)) (ds : List (Nat × D × Bool)) (zs : List D) (cs : Array Value), Taken P w ow a u xs ds → partsOk places zs ds → Raq P w ow zs l cs.toList →
    ∃ cs', Instr.fill places cs (xs.map fun (i, x) => (i, a.eval x)) = some cs' ∧ Raq P w ow (setParts zs ds) l cs'.toList
  | [], [], zs, cs, _, _, h => ⟨cs, rfl, h⟩
  | (i, x) :: xs, (i2, d, b) :: ds, zs, cs, ht, hp, h => by
    obtain ⟨h0, hV, _, ht'⟩ := ht
    subst h0
    obtain ⟨⟨z, hz, hdw, hpl⟩, hp'⟩ := hp
    have hc := hV.cells
    have hlen : (a.eval x).cells.toList.length = d.w := hc.len
    have hle := ws_take zs i z hz
    have hsz : cs.size = D.ws zs := by simpa using h.1
    generalize hcs1 : ((a.eval x).cells.toList.zipIdx 0).foldl (fun cs (c, j) => cs.setIfInBounds (D.ws (zs.take i) + j) c) cs = cs1
    have hget : ∀ m, cs1[m]? = if D.ws (zs.take i) ≤ m ∧ m < D.ws (zs.take i) + d.w then (a.eval x).cells.toList[m - D.ws (zs.take i)]? else cs[m]? := by
      intro m
      rw [← hcs1, fold_get, hlen]
      by_cases hm : D.ws (zs.take i) ≤ m ∧ m < D.ws (zs.take i) + d.w
      · rw [if_pos (by omega), if_pos hm]; simp
      · rw [if_neg (by omega), if_neg hm]
    have hq : Raq P w ow (zs.set i d) l cs1.toList := by
      refine ⟨by rw [← hcs1]; simp [fold_size, hsz, ws_set zs i z d hz hdw], fun j y hj => ?_⟩
      rw [ws_take_set zs i z d hz hdw]
      by_cases hij : j = i
      · subst hij
        rw [List.getElem?_set_self (List.getElem?_eq_some_iff.1 hz).1] at hj
        obtain rfl : d = y := by simpa using hj
        rw [seg_is (c2 := (a.eval x).cells.toList) hlen fun k hk => by
          rw [Array.getElem?_toList, hget, if_pos (by omega), show D.ws (zs.take j) + k - D.ws (zs.take j) = k from by omega]]
        subst hlab
        exact hc
      · rw [List.getElem?_set_ne (Ne.symm hij)] at hj
        have hap := ws_apart zs i j z y hz hj (Ne.symm hij)
        rw [seg_eq (c2 := cs.toList) fun k hk => by
          rw [Array.getElem?_toList, hget, if_neg (by omega), Array.getElem?_toList]]
        exact h.2 j y hj
    obtain ⟨cs', h1, h2⟩ := fill_ok hlab xs ds (zs.set i d) cs1 ht' hp' hq
    refine ⟨cs', ?_, h2⟩
    simp only [List.map_cons, Instr.fill, hpl]
    have hsz1 : (a.eval x).cells.size = d.w := by simpa using hlen
    have hnot : ¬ ((a.eval x).cells.size ≠ d.w ∨ D.ws (zs.take i) + (a.eval x).cells.size > cs.size) := by omega
    rw [if_neg (by simpa using hnot)]
    have hz2 : (a.eval x).cells.zipIdx.foldl (fun cs (c, j) => cs.setIfInBounds (D.ws (zs.take i) + j) c) cs = cs1 := by
      rw [← hcs1, ← Array.foldl_toList, Array.toList_zipIdx]
    rw [hz2]
    exact h1
  | [], _ :: _, _, _, ht, _, _ => ht.elim
  | _ :: _, [], _, _, ht, _, _ => ht.elim
end Go.Dv

end
section
namespace Go.Dv
open Go.RowKit
variable [Glob]
def TyE.ok (e : TyE) : Bool := match e.ty with | .no => false | _ => true
theorem TyE.ok_of {e : TyE} (h : e.ok = true) : ∀ x, e.ty = x → x ≠ .no := by
  intro x hx e'
  simp only [TyE.ok, hx, e'] at h
  cases h
theorem Raq.toRa {P : Program} {w : World} {ow : Own} {zs : List D} {l : List Nat} {cs : List Value} (h : Raq P w ow zs l cs) : Ra P w ow zs l 0 cs := Ra.ofQ h.1 fun j z hj => by simpa using h.2 j z hj
theorem Ra.toRaq {P : Program} {w : World} {ow : Own} {zs : List D} {l : List Nat} {cs : List Value} (h : Ra P w ow zs l 0 cs) : Raq P w ow zs l cs := ⟨h.len, fun j z hj => by simpa using h.toQ j z hj⟩
def places (T : TypeId → TyE) (fs : List (Nat × TypeId)) (i : Nat) : Option (Nat × Nat) := (fs[i]?).map fun (o, t) => (o, (T t).w)
theorem built_of {P : Program} {T : TypeId → TyE} {t : TypeId} {fs : List (Nat × TypeId)} {parts : List (Nat × Value)} {cells : Array Value} {i : TypeInfo} {zv : Value} (hG : ∀ t, Good P T t) (hty : (T t).ty = .agg fs) (hi : P.info? t = some i) (hz : i.zero = some zv)
    (hall : fs.all (fun x => (T x.2).ok) = true) (hf : Instr.fill (places T fs) zv.cells parts = some cells) : P.built t parts = some cells := by
  obtain ⟨hdesc, _⟩ := (hG t).of (fun x h e => by rw [hty] at h; subst h; cases e)
  rw [hty] at hdesc
  obtain ⟨fields, hu, hmap, _, _⟩ := hdesc
  have hm : ∀ (l : List Field), (∀ f ∈ l, (T f.type).ok = true) → l.mapM (fun f => (P.info? f.type).map fun i => (f.offset, i.size)) = some (l.map fun f => (f.offset, (T f.type).w)) := by
    intro l
    induction l with
    | nil => intro _; rfl
    | cons f l ih =>
      intro h
      obtain ⟨_, i, _, h1, h2, _⟩ := (hG f.type).of (TyE.ok_of (h f (by simp)))
      simp only [List.mapM_cons, h1, ih (fun f hf => h f (by simp [hf])), Option.map_some, h2]
      rfl
  have hok : ∀ f ∈ fields.toList, (T f.type).ok = true := by
    intro f hf
    have : (f.offset, f.type) ∈ fs := by rw [← hmap]; exact List.mem_map.2 ⟨f, hf, rfl⟩
    exact List.all_eq_true.1 hall _ this
  unfold Program.built
  simp only [hi, hu, hz, hm _ hok]
  have : (fun x => (List.map (fun f => (f.offset, (T f.type).w)) fields.toList).toArray[x]?) = places T fs := by
    funext k
    simp only [places, List.getElem?_toArray, ← hmap, List.getElem?_map, Option.map_map]
    rfl
  rw [this]
  exact hf
theorem Taken.frz {P : Program} {w : World} {ow : Own} {a : Act} {u : Nat} : ∀ {xs : List (Nat × Operand)} {ds : List (Nat × D × Bool)}, Taken P w ow a u xs ds → ds.all (fun x => x.2.2) = true → ∀ x ∈ ds, x.2.1.fz = x.2.1
  | [], [], _, _, x, hx => by cases hx
  | (i, x) :: xs, (j, d, b) :: ds, ht, hb, y, hy => by
    simp only [List.all_cons, Bool.and_eq_true] at hb
    rcases List.mem_cons.1 hy with rfl | hy
    · exact ht.2.2.1 hb.1
    · exact Taken.frz ht.2.2.2 hb.2 y hy
  | [], _ :: _, ht, _, _, _ => ht.elim
  | _ :: _, [], ht, _, _, _ => ht.elim
def dbuild (T : TypeId → TyE) (fs : List (Nat × TypeId)) (zs : List D) (u : Nat) (parts : List (Nat × Operand)) (s : St) (K : St → Prop) : Prop :=
  takeK u parts s fun ds s' => partsOk (places T fs) zs ds ∧
    if ds.all (fun x => x.2.2) && D.frzs (setParts zs ds) then K (s'.set u (.val (.agg (setParts zs ds)))) else K (s'.set u (.own (.agg (setParts zs ds))))
theorem ok_build {P : Program} {T : TypeId → TyE} {n : Nat} {w0 : World} {ow0 : Own} {o : Oper} {s : St} {K : St → Prop} {t : TypeId} {fs : List (Nat × TypeId)} {zs : List D} {parts : Array (Nat × Operand)} {u : Nat} (hG : ∀ t, Good P T t) (hty : (T t).ty = .agg fs) (hzs : (T t).z = .agg zs)
    (hall : fs.all (fun x => (T x.2).ok) = true) (ho : o.op = .build t parts) (hd : o.dst = some u) (hu : u < n) (h : dbuild T fs zs u parts.toList s K) : Ok P n w0 ow0 o s K := by
  refine ok_value fun a w ow hf => ?_
  obtain ⟨_, i, zv, hi, _, hz, hflat, _, hz2, _⟩ := (hG t).of (fun x h e => by rw [hty] at h; subst h; cases e)
  obtain ⟨ow', s', ds, ⟨hp, hK⟩, k2, k3, _⟩ := Fits.takeK _ hf h
  rw [hzs] at hflat
  have hr0 := R.zf (P := P) (w := w) (ow := ow') (l := [u]) hflat
  simp only [R] at hr0
  obtain ⟨cs', h1, h2⟩ := fill_ok (a := a) rfl parts.toList ds zs zv.cells k3 hp hr0.toRaq
  have hrun : (execOp a.eval o).run P w = .ok (.value (.agg cs')) w := by
    unfold execOp; rw [ho]
    have := run_build (P := P) w t (parts.map fun (i, x) => (i, a.eval x)) cs' (by
      rw [Array.toList_map]
      exact built_of hG hty hi hz hall h1)
    simp only [Sem.run_bind, this, Result.andThen_ok]
    rfl
  have hV : V P w ow' (.agg (setParts zs ds)) [u] (.agg cs') := ⟨cs', rfl, by simp only [R]; exact h2.toRa⟩
  by_cases hb : (ds.all (fun x => x.2.2) && D.frzs (setParts zs ds)) = true
  · rw [if_pos hb] at hK
    refine ⟨_, w, hrun, _, hK, ow', ?_⟩
    rw [hd]
    refine k2.set hu ?_
    simp only [SV]
    have hfz : (D.agg (setParts zs ds)).fz = .agg (setParts zs ds) := by
      rw [Bool.and_eq_true] at hb
      simp only [D.fz, D.fzs_frzs hb.2]
    rw [← hfz] at hV
    exact V.fzV hV
  · rw [if_neg hb] at hK
    exact ⟨_, w, hrun, _, hK, ow', by rw [hd]; exact k2.set hu hV⟩
theorem made_get {z : Array Value} {n s k : Nat} (hs : z.size = s) (hk : k < n * s) : ((Array.range (n * s)).map (z[· % z.size]!))[k]? = z[k % s]? := by
  have hpos : 0 < s := by
    rcases Nat.eq_zero_or_pos s with h | h
    · subst h; simp at hk
    · exact h
  have hlt : k % s < z.size := by rw [hs]; exact Nat.mod_lt _ hpos
  simp only [Array.getElem?_map, Array.getElem?_range, hk, if_true, Option.map_some, hs]
  rw [Array.getElem?_eq_getElem hlt, getElem!_pos z (k % s) hlt]
theorem ws_replicate (z : D) : ∀ n, D.ws (List.replicate n z) = n * z.w
  | 0 => by simp [D.ws]
  | n + 1 => by simp [List.replicate_succ, D.ws, ws_replicate z n, Nat.add_mul]; omega
theorem zeros_row {P : Program} {w : World} {ow : Own} {z : D} {zc : Array Value} {n : Nat} {l : List Nat} (hflat : D.zf z = some zc.toList) : Raq P w ow (List.replicate n z) l ((Array.range (n * zc.size)).map (zc[· % zc.size]!)).toList := by
  have hr := fun l => R.zf (P := P) (w := w) (ow := ow) (l := l) hflat
  have hw : zc.size = z.w := by simpa using (hr []).len
  refine ⟨by simp [ws_replicate, hw], fun j y hj => ?_⟩
  have hjn : j < n := by have := (List.getElem?_eq_some_iff.1 hj).1; simpa using this
  obtain rfl : z = y := by simpa [hjn] using hj
  rw [List.take_replicate, ws_replicate, Nat.min_eq_left (by omega)]
  have hle : j * z.w + z.w ≤ n * z.w := by rw [← Nat.succ_mul]; exact Nat.mul_le_mul_right _ hjn
  rw [seg_is (c2 := zc.toList) (by simpa using hw) fun k hk => ?_]
  · exact hr _
  · rw [Array.getElem?_toList, made_get rfl (by rw [hw]; omega), hw, Array.getElem?_toList]
    rw [Nat.mul_comm j, Nat.mul_add_mod, Nat.mod_eq_of_lt hk]
theorem R.newRow {P : Program} {w : World} {ow : Own} {e : TypeId} {i : TypeInfo} {u : Nat} {C : Array Value} {ds : List D} {n : Nat} {cap : Nat} (hi : P.info? e = some i) (hd : ∀ d ∈ ds, d.w = i.size) (hq : ∀ j d, ds[j]? = some d → ∃ cs, R P w ow d [j, u] cs ∧ ∀ k, k < i.size → C[j * i.size + k]? = cs[k]?) (hn : ds.length = n) (hcap : n ≤ cap) (hmax : cap ≤ maxLen) (hC : C.size = cap * i.size) :
    R P (w.alloc (.cells C e)) (ownNew w [u] ow) (.sl (some e) ds) [u] [.slice (some ⟨w.heap.size, 0, none⟩) n cap] := by
  simp only [R]
  refine ⟨some ⟨w.heap.size, 0, none⟩, cap, by rw [hn], by omega, hmax, .inr (.inr ⟨w.heap.size, 0, i.size, C, e, (0, 0), rfl, heap_alloc_new w _, (fun h => by cases h), ?_, ?_⟩)⟩
  · intro t ht
    obtain rfl : e = t := by simpa using ht
    exact ⟨by simp [ownNew], rfl, unfz0 _, rfl, hC, i, hi, rfl⟩
  · refine (Rs.iff (heap_alloc_new w _)).2 fun j d hj => ?_
    obtain ⟨cs, h1, h2⟩ := hq j d hj
    have hw := hd d (List.mem_of_getElem? hj)
    refine ⟨hw, C, e, (0, 0), cs, heap_alloc_new w _, fun k hk => ?_, ?_⟩
    · rw [Nat.zero_add]; exact h2 k (by omega)
    · rw [Nat.zero_add]; exact h1.tr keeps_new
def dbuildS (T : TypeId → TyE) (e : TypeId) (len : Nat) (u : Nat) (parts : List (Nat × Operand)) (s : St) (K : St → Prop) : Prop :=
  takeK u parts s fun ds s' => partsOk (fun i => some (i * (T e).w, (T e).w)) (List.replicate len (T e).z) ds ∧ K (s'.set u (.own (.sl (some e) (setParts (List.replicate len (T e).z) ds))))
theorem setParts_w : ∀ (ds : List (Nat × D × Bool)) (zs : List D) (pl : Nat → Option (Nat × Nat)) (s : Nat), (∀ z ∈ zs, z.w = s) → partsOk pl zs ds → (∀ z ∈ setParts zs ds, z.w = s) ∧ (setParts zs ds).length = zs.length
  | [], zs, _, _, h, _ => ⟨h, rfl⟩
  | (i, d, b) :: ds, zs, pl, s, h, hp => by
    obtain ⟨⟨z, h1, h2, _⟩, h4⟩ := hp
    have := setParts_w ds (zs.set i d) pl s (fun y hy => by
      rcases List.mem_or_eq_of_mem_set hy with hy | rfl
      · exact h y hy
      · rw [h2]; exact h z (List.mem_of_getElem? h1)) h4
    exact ⟨this.1, by rw [setParts, this.2]; simp⟩
theorem ws_all : ∀ (ds : List D) (s : Nat), (∀ d ∈ ds, d.w = s) → D.ws ds = ds.length * s
  | [], s, _ => by simp [D.ws]
  | d :: ds, s, h => by simp [D.ws, ws_all ds s (fun x hx => h x (by simp [hx])), h d (by simp), Nat.add_mul]; omega
theorem Raq.elems {P : Program} {w : World} {ow : Own} {ds : List D} {u : Nat} {C : Array Value} {s : Nat} (h : Raq P w ow ds [u] C.toList) (hd : ∀ d ∈ ds, d.w = s) : ∀ j d, ds[j]? = some d → ∃ cs, R P w ow d [j, u] cs ∧ ∀ k, k < s → C[j * s + k]? = cs[k]? := by
  intro j d hj
  have hr := h.2 j d hj
  have hw := hd d (List.mem_of_getElem? hj)
  have hlt := (List.getElem?_eq_some_iff.1 hj).1
  rw [ws_all _ s (fun x hx => hd x (List.mem_of_mem_take hx)), List.length_take, Nat.min_eq_left (by omega)] at hr
  refine ⟨_, hr, fun k hk => ?_⟩
  simp only [List.getElem?_take, List.getElem?_drop, hw, hk, if_true, Array.getElem?_toList]
theorem ok_buildS {P : Program} {T : TypeId → TyE} {n : Nat} {w0 : World} {ow0 : Own} {o : Oper} {s : St} {K : St → Prop} {t e : TypeId} {len : Nat} {parts : Array (Nat × Operand)} {u : Nat} (hG : ∀ t, Good P T t) (ht : P.underlying t = some (.slice e)) (he : (T e).ok = true) (hlen : len * (T e).w ≤ 16777216) (hl2 : len ≤ 16777216)
    (hw0 : 0 < (T e).w) (ho : o.op = .buildSlice t len parts) (hd : o.dst = some u) (hu : u < n) (h : dbuildS T e len u parts.toList s K) : Ok P n w0 ow0 o s K := by
  refine ok_value fun a w ow hf => ?_
  obtain ⟨_, i, zv, hi, hsz, hz, hflat, _, hz2, _, hzw2⟩ := (hG e).of (TyE.ok_of he)
  obtain ⟨ow', s', ds, ⟨hp, hK⟩, k2, k3, _⟩ := Fits.takeK _ hf h
  have hzw : zv.cells.size = (T e).w := by have := (R.zf (P := P) (w := w) (ow := ow') (l := []) hflat).len; rw [← hzw2]; simpa using this
  obtain ⟨hds, hdl⟩ := setParts_w ds (List.replicate len (T e).z) _ (T e).w (fun z hz => by obtain ⟨_, rfl⟩ := List.mem_replicate.1 hz; exact hzw2) hp
  obtain ⟨cs', h1, h2⟩ := fill_ok (a := a) rfl parts.toList ds _ _ k3 hp (zeros_row (n := len) (l := [u]) hflat)
  have hcs : cs'.size = len * (T e).w := by
    have := h2.1
    rw [ws_all _ _ hds, hdl] at this
    simpa using this
  have hrun : (execOp a.eval o).run P w = .ok (.value (.slice (some ⟨w.heap.size, 0, none⟩) len len)) (w.alloc (.cells cs' e)) := by
    unfold execOp; rw [ho]
    have hf1 : Instr.fill (fun i_1 => some (i_1 * i.size, i.size)) ((Array.range (len * i.size)).map (zv.cells[· % zv.cells.size]!)) (parts.map fun (i, x) => (i, a.eval x)).toList = some cs' := by
      rw [Array.toList_map, hsz, ← hzw]
      rw [hzw]
      rw [hzw] at h1
      exact h1
    rcases Nat.eq_zero_or_pos len with h0 | h0
    · subst h0
      simp only [Nat.zero_mul] at hf1
      have : (Instr.buildSlice t 0 (parts.map fun (i, x) => (i, a.eval x))).run P w = .ok (.slice (some ⟨w.heap.size, 0, none⟩) 0 0) (w.alloc (.cells cs' e)) := by
        simp [Instr.buildSlice, run_underlying ht, sizeOf, typeInfo, hi, newRow]
        have hr0 : ∀ f : Nat → Value, Array.map f (Array.range 0) = #[] := fun f => by simp [Array.range]
        rw [hr0, Array.toList_map] at hf1
        rw [hr0, hf1]
        rfl
      simp only [Sem.run_bind, this, Result.andThen_ok]; rfl
    · have := run_buildSlice (P := P) w t e len (parts.map fun (i, x) => (i, a.eval x)) cs' i zv ht hi hz (by rw [hsz]; omega) (by rw [hsz]; exact Nat.ne_of_gt (Nat.mul_pos h0 hw0)) hf1
      simp only [Sem.run_bind, this, Result.andThen_ok]; rfl
  refine ⟨_, _, hrun, _, hK, ownNew w [u] ow', ?_⟩
  rw [hd]
  refine (k2.newBlock (.cells cs' e) [u]).set hu ?_
  simp only [SV, V]
  refine R.newRow hi (fun d hd => by rw [hsz]; exact hds d hd) (fun j d hj => ?_) (by rw [hdl]; simp) (Nat.le_refl _) (by unfold maxLen; omega) (by rw [hcs, hsz])
  rw [hsz]
  exact h2.elems hds j d hj
theorem ok_makeS {P : Program} {T : TypeId → TyE} {n : Nat} {w0 : World} {ow0 : Own} {o : Oper} {s : St} {K : St → Prop} {t e : TypeId} {x y : Operand} {k k' : IntKind} {l c : Int} {u : Nat} (hG : ∀ t, Good P T t) (ht : P.underlying t = some (.slice e)) (he : (T e).ok = true)
    (hx : evS s x = .val (.one (.int k l))) (hy : evS s y = .val (.one (.int k' c))) (hl : 0 ≤ l) (hlc : l ≤ c) (hc : c ≤ 1073741824)
    (ho : o.op = .makeSlice t x y) (hd : o.dst = some u) (hu : u < n) (h : K (s.set u (.own (.sl (some e) (List.replicate l.toNat (T e).z))))) : Ok P n w0 ow0 o s K := by
  refine ok_value fun a w ow hf => ?_
  obtain ⟨_, i, zv, hi, hsz, hz, hflat, _, hz2, hby, hzw2⟩ := (hG e).of (TyE.ok_of he)
  have hzw : zv.cells.size = i.size := by have := (R.zf (P := P) (w := w) (ow := ow) (l := []) hflat).len; rw [hsz, ← hzw2]; simpa using this
  have hr := run_make (P := P) w t e i zv ht hi hz k k' l c hl hlc (by
    have : (i.bytes : Int) * c ≤ 4096 * 1073741824 := by
      have h1 : ((i.bytes : Int)) ≤ 4096 := by omega
      calc (i.bytes : Int) * c ≤ 4096 * c := Int.mul_le_mul_of_nonneg_right h1 (by omega)
        _ ≤ 4096 * 1073741824 := Int.mul_le_mul_of_nonneg_left hc (by omega)
    omega) (by omega)
  have hrun : (execOp a.eval o).run P w = .ok (.value (.slice (some ⟨w.heap.size, 0, none⟩) l.toNat c.toNat)) (w.alloc (.cells (madeCells zv.cells (c.toNat * i.size)) e)) := by
    unfold execOp; rw [ho]
    simp only [(hf.one hx).1, (hf.one hy).1, Sem.run_bind, hr, Result.andThen_ok]
    rfl
  refine ⟨_, _, hrun, _, h, ownNew w [u] ow, ?_⟩
  rw [hd]
  refine (hf.newBlock (.cells (madeCells zv.cells (c.toNat * i.size)) e) [u]).set hu ?_
  simp only [SV, V]
  refine R.newRow hi (fun d hd => by obtain ⟨_, rfl⟩ := List.mem_replicate.1 hd; rw [hzw2, hsz]) (fun j d hj => ?_) (by simp) (by omega) (by unfold maxLen; omega) (by simp [madeCells])
  have hjn : j < l.toNat := by have := (List.getElem?_eq_some_iff.1 hj).1; simpa using this
  obtain rfl : (T e).z = d := by simpa [hjn] using hj
  refine ⟨zv.cells.toList, R.zf hflat, fun k hk => ?_⟩
  have hle : j * i.size + i.size ≤ c.toNat * i.size := by rw [← Nat.succ_mul]; exact Nat.mul_le_mul_right _ (by omega)
  have := made_get (z := zv.cells) (n := c.toNat) (s := i.size) (k := j * i.size + k) hzw (by omega)
  simp only [madeCells]
  rw [this, Nat.mul_comm j, Nat.mul_add_mod, Nat.mod_eq_of_lt hk, Array.getElem?_toList]
end Go.Dv

end
section
namespace Go.Dv
open Go.RowKit
variable [Glob]
def OwnsG (w : World) (e : TypeId) (size : Nat) (v : Value) (n : Nat) (xs : List Value) : Prop :=
  xs.length = n * size ∧ ((v = .slice none 0 0 ∧ n = 0) ∨ ∃ g cap cur fz, v = .slice (some ⟨g, 0, none⟩) n cap ∧ w.heap[g]? = some (.cells cur e fz) ∧ Unfz fz cur.size ∧ n ≤ cap ∧ cap ≤ maxLen ∧ cur.size = cap * size ∧ cur.toList.take (n * size) = xs)
theorem run_append_G {P : Program} {w : World} {t ty e : TypeId} {i : TypeInfo} {z : Value} (ht : P.underlying t = some (.slice e)) (hi : P.info? e = some i) (hz : i.zero = some z) (hzs : z.cells.size = i.size)
    {v : Value} {n : Nat} {xs : List Value} (hown : OwnsG w e i.size v n xs) (a : Addr) (m c : Nat) (news : List Value) (hl : news.length = m * i.size) (hnews : ∀ j u, news[j]? = some u → w.cell? (a.add j) = some u) (h1 : ∀ u ∈ news, u.oneCell' = true)
    (h0 : 0 < m) (h63 : n + m ≤ maxLen) (hbytes : (n + m) * i.bytes ≤ 140737488355328) :
    ∃ v' w', (Builtin.append_ #[t, t] ty #[v, .slice (some a) m c]).run P w = .ok v' w' ∧ OwnsG w' e i.size v' (n + m) (xs ++ news) ∧ w.grownBy w' v.ownBlock ∧ ((v'.ownBlock = v.ownBlock ∧ v.ownBlock ≠ none) ∨ v'.ownBlock = some w.heap.size) := by
  have hsmall : n + m ≤ 9223372036854775807 := by simp only [maxLen] at h63; omega
  have hlen : (xs ++ news).length = (n + m) * i.size := by rw [List.length_append, hown.1, hl, Nat.add_mul]
  have grown : ∀ (old : Nat), old < n + m → ∀ (row : Option Nat),
      OwnsG (w.drew.alloc (.cells (xs.toArray ++ news.toArray ++ Builtin.zeroCells z.cells (grownCap w (n + m) old e - (n + m))) e)) e i.size
        (.slice (some ⟨w.heap.size, 0, none⟩) (n + m) (grownCap w (n + m) old e)) (n + m) (xs ++ news) ∧
      w.grownBy (w.drew.alloc (.cells (xs.toArray ++ news.toArray ++ Builtin.zeroCells z.cells (grownCap w (n + m) old e - (n + m))) e)) row := by
    intro old ho row
    have hge := grownCap_ge w (n + m) old e
    have hcm : grownCap w (n + m) old e ≤ maxLen := grownCap_le_maxLen w (n + m) old e h63
    refine ⟨⟨hlen, .inr ⟨w.heap.size, _, _, (0, 0), rfl, heap_alloc_new w.drew _, unfz0 _, hge, hcm, ?_, ?_⟩⟩, ⟨rfl, rfl, rfl, by simp, fun k hk _ => Below.heap_alloc w.drew _ k hk⟩⟩
    · simp only [Array.size_append, List.size_toArray, size_zeroCells, hzs, hown.1, hl, ← Nat.add_mul]
      congr 1
      omega
    · simp only [Array.toList_append, List.append_assoc]
      rw [← List.append_assoc, ← hlen]
      exact List.take_left
  rcases hown.2 with ⟨rfl, rfl⟩ | ⟨g, cap, cur, fz, rfl, hg, hfz, hnc, hcm, hcs, htake⟩
  · have hx : xs = [] := List.eq_nil_of_length_eq_zero (by simpa using hown.1)
    subst hx
    have hr := run_append_nil (P := P) w t ty e i z ht hi hz a m c news hl hnews h0 (by omega) (by have hb := hbytes; simp only [Nat.zero_add] at hb; omega)
    have hgr := grown 0 (by omega) (Value.ownBlock (.slice none 0 0))
    simp only [Nat.zero_add, List.nil_append, Array.empty_append] at hgr ⊢
    exact ⟨_, _, hr, hgr.1, hgr.2, .inr rfl⟩
  · by_cases hroom : n + m ≤ cap
    · have hfit : n * i.size + news.length ≤ cur.size := by rw [hl, hcs, ← Nat.add_mul]; exact Nat.mul_le_mul_right _ hroom
      have hf := run_firstCells_some (P := P) w i.size m a m c news hl hnews
      have hst := run_storeCells_u P g (n * i.size) e fz news 0 cur w hg hfz (by simpa using hfit) h1
      simp only [Nat.add_zero] at hst
      have hr : (Builtin.append_ #[t, t] ty #[.slice (some ⟨g, 0, none⟩) n cap, .slice (some a) m c]).run P w = .ok (.slice (some ⟨g, 0, none⟩) (n + m) cap) (w.setRow g (cur.toList.take (n * i.size) ++ news ++ cur.toList.drop (n * i.size + news.length)).toArray) := by
        simp [Builtin.append_, run_underlying ht, sizeOf, typeInfo, hi, Builtin.lenOf, hroom, hf, Addr.add_lit, hst]
      refine ⟨_, _, hr, ⟨hlen, .inr ⟨g, cap, _, fz, rfl, setRow_heap w g cur _ e _ hg, ?_, hroom, hcm, ?_, ?_⟩⟩, ⟨rfl, rfl, rfl, by simp, fun k _ hk => setRow_other w g k _ (fun e => hk (by simp [Value.ownBlock, e]))⟩, .inl ⟨rfl, by simp [Value.ownBlock]⟩⟩
      · have : (cur.toList.take (n * i.size) ++ news ++ cur.toList.drop (n * i.size + news.length)).toArray.size = cur.size := by
          simp only [List.size_toArray, List.length_append, List.length_take, List.length_drop, Array.length_toList]; omega
        rw [this]; exact hfz
      · simp only [List.size_toArray, List.length_append, List.length_take, List.length_drop, Array.length_toList]
        omega
      · rw [htake, ← hlen]
        exact List.take_left
    · have holds : ∀ j u, xs[j]? = some u → w.cell? ((⟨g, 0, none⟩ : Addr).add j) = some u := by
        intro j u hj
        rw [Addr.add_mid, Nat.zero_add, cell_of_row w g j cur e fz hg]
        rw [← htake, List.getElem?_take] at hj
        split at hj
        · simpa using hj
        · cases hj
      have hr := run_append_grow (P := P) w t ty e i z ht hi hz ⟨g, 0, none⟩ n cap xs hown.1 holds a m c news hl hnews (by omega) (by omega) (growslice_fits (by omega) hbytes)
      have hgr := grown cap (by omega) (Value.ownBlock (.slice (some ⟨g, 0, none⟩) n cap))
      exact ⟨_, _, hr, hgr.1, hgr.2, .inr rfl⟩
def seg (cs : List Value) (j s : Nat) : List Value := (cs.drop (j * s)).take s
theorem R.toOwns {P : Program} {w : World} {ow : Own} {e : TypeId} {xs : List D} {l : List Nat} {v : Value} {i : TypeInfo} (hi : P.info? e = some i) (h : R P w ow (.sl (some e) xs) l [v]) :
    ∃ cs, OwnsG w e i.size v xs.length cs ∧ (∀ j x, xs[j]? = some x → x.w = i.size ∧ R P w ow x (j :: l) (seg cs j i.size)) ∧ (∀ b, v.ownBlock = some b → ow b = some l ∧ b < w.heap.size) := by
  simp only [R] at h
  obtain ⟨a, cap, hv, hcap, hmax, h4⟩ := h
  obtain rfl : v = .slice a xs.length cap := by simpa using hv
  rcases h4 with ⟨rfl, rfl, rfl⟩ | ⟨h4, _⟩ | ⟨b, off, s, C, e', fz, rfl, hh, _, hs, hr⟩
  · exact ⟨[], ⟨by simp, .inl ⟨rfl, rfl⟩⟩, fun j x hj => by simp at hj, fun b hb => by simp [Value.ownBlock] at hb⟩
  · cases h4
  · obtain ⟨hob, rfl, hfz, rfl, hC, i', hi', hsz⟩ := hs e rfl
    rw [hi] at hi'
    obtain rfl : i = i' := by simpa using hi'
    subst hsz
    refine ⟨C.toList.take (xs.length * i.size), ⟨?_, .inr ⟨b, cap, C, fz, rfl, hh, hfz, hcap, hmax, hC, rfl⟩⟩, fun j x hj => ?_, fun b' hb' => ?_⟩
    · have : xs.length * i.size ≤ C.size := by rw [hC]; exact Nat.mul_le_mul_right _ hcap
      simp; omega
    · obtain ⟨hw, C2, e2, fz2, cs, g1, g2, g3⟩ := (Rs.iff hh).1 hr j x hj
      rw [hh] at g1
      obtain ⟨rfl, _⟩ : C = C2 ∧ _ := by simpa using g1
      refine ⟨hw, ?_⟩
      have hlen := g3.len
      have hlt := (List.getElem?_eq_some_iff.1 hj).1
      have hle : j * i.size + i.size ≤ xs.length * i.size := by rw [← Nat.succ_mul]; exact Nat.mul_le_mul_right _ hlt
      have : seg (C.toList.take (xs.length * i.size)) j i.size = cs := by
        refine seg_is (by omega) fun k hk => ?_
        rw [List.getElem?_take, if_pos (by omega), Array.getElem?_toList]
        have := g2 k (by omega)
        rwa [Nat.zero_add] at this
      rw [this]
      simpa using g3
    · simp only [Value.ownBlock, Option.some.injEq] at hb'
      subst hb'
      exact ⟨hob, lt_of_heap hh⟩
theorem R.ofOwns {P : Program} {w : World} {ow : Own} {e : TypeId} {xs : List D} {l : List Nat} {v : Value} {cs : List Value} {i : TypeInfo} (hi : P.info? e = some i) (h : OwnsG w e i.size v xs.length cs) (hx : ∀ j x, xs[j]? = some x → x.w = i.size ∧ R P w ow x (j :: l) (seg cs j i.size)) (hb : ∀ b, v.ownBlock = some b → ow b = some l) :
    R P w ow (.sl (some e) xs) l [v] := by
  simp only [R]
  rcases h.2 with ⟨rfl, h0⟩ | ⟨g, cap, C, fz, rfl, hh, hfz, hnc, hcm, hC, htake⟩
  · have : xs = [] := List.eq_nil_of_length_eq_zero h0
    subst this
    exact ⟨none, 0, rfl, Nat.le_refl _, by simp [maxLen], .inl ⟨rfl, rfl, rfl⟩⟩
  · refine ⟨some ⟨g, 0, none⟩, cap, rfl, hnc, hcm, .inr (.inr ⟨g, 0, i.size, C, e, fz, rfl, hh, (fun h => by cases h), ?_, ?_⟩)⟩
    · intro t ht
      obtain rfl : e = t := by simpa using ht
      exact ⟨hb g rfl, rfl, hfz, rfl, hC, i, hi, rfl⟩
    · refine (Rs.iff hh).2 fun j x hj => ?_
      obtain ⟨hw, hr⟩ := hx j x hj
      have hlt := (List.getElem?_eq_some_iff.1 hj).1
      have hle : j * i.size + i.size ≤ xs.length * i.size := by rw [← Nat.succ_mul]; exact Nat.mul_le_mul_right _ hlt
      refine ⟨hw, C, e, fz, seg cs j i.size, hh, fun k hk => ?_, by simpa using hr⟩
      rw [Nat.zero_add, ← htake]
      simp only [seg, List.getElem?_take, List.getElem?_drop]
      rw [if_pos (by omega), if_pos (by omega), Array.getElem?_toList]
structure News (P : Program) (w : World) (ow : Own) (e : TypeId) (i : TypeInfo) (ys : List D) (n u : Nat) (v : Value) : Prop where
  hdr : ∃ a cap, v = .slice a ys.length cap ∧ (a = none → ys = [])
  el : ∀ j y, ys[j]? = some y → y.w = i.size ∧ ∃ cs, cs.length = i.size ∧ R P w ow y [n + j, u] cs ∧ ∀ a cap, v = .slice (some a) ys.length cap → ∀ k c, cs[k]? = some c → w.cell? (a.add (j * i.size + k)) = some c
theorem News.cells {P : Program} {w : World} {ow : Own} {e : TypeId} {i : TypeInfo} {ys : List D} {n u : Nat} {v : Value} (h : News P w ow e i ys n u v) (hs : 0 < i.size) : ∃ cs : List Value, cs.length = ys.length * i.size ∧ (∀ c ∈ cs, c.oneCell' = true) ∧ (∀ j y, ys[j]? = some y → R P w ow y [n + j, u] (seg cs j i.size)) ∧
    ∀ a cap, v = .slice (some a) ys.length cap → ∀ k c, cs[k]? = some c → w.cell? (a.add k) = some c := by
  have hel := h.el
  have hch : ∀ j, ∃ cs : List Value, ∀ y, ys[j]? = some y → cs.length = i.size ∧ R P w ow y [n + j, u] cs ∧ ∀ a cap, v = .slice (some a) ys.length cap → ∀ k c, cs[k]? = some c → w.cell? (a.add (j * i.size + k)) = some c := by
    intro j
    cases hy : ys[j]? with
    | none => exact ⟨[], fun y h => by cases h⟩
    | some y =>
      obtain ⟨_, cs, h1, h2, h3⟩ := hel j y hy
      exact ⟨cs, fun y' hy' => by obtain rfl : y = y' := by simpa using hy'
                                  exact ⟨h1, h2, h3⟩⟩
  obtain ⟨f, hf⟩ := Classical.axiomOfChoice hch
  refine ⟨(List.range (ys.length * i.size)).map fun k => (f (k / i.size))[k % i.size]!, by simp, ?_, ?_, ?_⟩
  all_goals
    have key : ∀ k, k < ys.length * i.size → ∃ y, ys[k / i.size]? = some y ∧ k % i.size < (f (k / i.size)).length := by
      intro k hk
      have h1 : k / i.size < ys.length := by rw [Nat.div_lt_iff_lt_mul hs]; exact hk
      refine ⟨ys[k / i.size], by simp [h1], ?_⟩
      rw [(hf (k / i.size) _ (by simp [h1]; rfl)).1]
      exact Nat.mod_lt _ hs
  · intro c hc
    obtain ⟨k, hk, rfl⟩ := List.mem_map.1 hc
    obtain ⟨y, hy, hlt⟩ := key k (by simpa using hk)
    rw [getElem!_pos (f (k / i.size)) (k % i.size) hlt]
    exact (hf _ y hy).2.1.cells1 _ (List.getElem_mem hlt)
  · intro j y hy
    obtain ⟨h1, h2, _⟩ := hf j y hy
    have hlt := (List.getElem?_eq_some_iff.1 hy).1
    have hle : j * i.size + i.size ≤ ys.length * i.size := by rw [← Nat.succ_mul]; exact Nat.mul_le_mul_right _ hlt
    have : seg ((List.range (ys.length * i.size)).map fun k => (f (k / i.size))[k % i.size]!) j i.size = f j := by
      refine seg_is h1 fun k hk => ?_
      rw [List.getElem?_map, List.getElem?_range (by omega)]
      simp only [Option.map_some]
      have e1 : (j * i.size + k) / i.size = j := by rw [Nat.mul_comm, Nat.mul_add_div hs, Nat.div_eq_of_lt hk, Nat.add_zero]
      have e2 : (j * i.size + k) % i.size = k := by rw [Nat.mul_comm, Nat.mul_add_mod, Nat.mod_eq_of_lt hk]
      rw [e1, e2, getElem!_pos (f j) k (by omega), List.getElem?_eq_getElem (by omega)]
    rw [this]; exact h2
  · intro a cap hv k c hk
    have hlt : k < ys.length * i.size := by have := (List.getElem?_eq_some_iff.1 hk).1; simpa using this
    obtain ⟨y, hy, hlt2⟩ := key k hlt
    rw [List.getElem?_map, List.getElem?_range hlt] at hk
    simp only [Option.map_some, Option.some.injEq] at hk
    rw [getElem!_pos (f (k / i.size)) (k % i.size) hlt2] at hk
    have := (hf _ y hy).2.2 a cap hv (k % i.size) c (by rw [List.getElem?_eq_getElem hlt2, hk])
    rwa [Nat.mul_comm, Nat.div_add_mod] at this
theorem seg_left {c1 c2 : List Value} {j s n : Nat} (hl : c1.length = n * s) (hj : j < n) : seg (c1 ++ c2) j s = seg c1 j s := by
  have hle : j * s + s ≤ n * s := by rw [← Nat.succ_mul]; exact Nat.mul_le_mul_right _ hj
  refine seg_eq fun k hk => ?_
  rw [List.getElem?_append_left (by omega)]
theorem seg_right {c1 c2 : List Value} {j s n : Nat} (hl : c1.length = n * s) (hj : n ≤ j) : seg (c1 ++ c2) j s = seg c2 (j - n) s := by
  have hle : n * s ≤ j * s := Nat.mul_le_mul_right _ hj
  simp only [seg]
  rw [List.drop_append, List.drop_eq_nil_of_le (by omega), List.nil_append, hl, Nat.sub_mul]
theorem run_append_zero {P : Program} {w : World} {t ty e : TypeId} {i : TypeInfo} {v : Value} {n : Nat} {xs : List Value} (ht : P.underlying t = some (.slice e)) (hi : P.info? e = some i) (hown : OwnsG w e i.size v n xs) (a : Option Addr) (c : Nat) :
    (Builtin.append_ #[t, t] ty #[v, .slice a 0 c]).run P w = .ok v w := by
  have hl : ∀ ad : Addr, (loadCells ad 0).run P w = .ok #[] w := fun ad => rfl
  rcases hown.2 with ⟨rfl, rfl⟩ | ⟨g, cap, cur, fz, rfl, _, _, hnc, _⟩
  · cases a <;> simp [Builtin.append_, run_underlying ht, sizeOf, typeInfo, hi, Builtin.lenOf, Builtin.firstCells, hl]
  · cases a <;> simp [Builtin.append_, run_underlying ht, sizeOf, typeInfo, hi, Builtin.lenOf, Builtin.firstCells, hnc, storeCells, hl]
theorem Fits.append {P : Program} {n : Nat} {w0 w : World} {ow0 ow : Own} {s : St} {a : Act} {u : Nat} {t ty e : TypeId} {i : TypeInfo} {z : Value} {xs ys : List D} {v1 v2 : Value} (h : Fits P n w0 ow0 ow s a w) (hu : u < n) (ht : P.underlying t = some (.slice e)) (hi : P.info? e = some i) (hz : i.zero = some z) (hzs : z.cells.size = i.size) (hby : i.bytes ≤ 4096)
    (hs : 0 < i.size) (h1 : R P w ow (.sl (some e) xs) [u] [v1]) (h2 : News P w ow e i ys xs.length u v2) (hlen : xs.length + ys.length ≤ 1073741824) :
    ∃ v' w', (Builtin.append_ #[t, t] ty #[v1, v2]).run P w = .ok v' w' ∧ ∃ ow', Fits P n w0 ow0 ow' ((s.kill u).put u (.own (.sl (some e) (xs ++ ys)))) (a.put (some u) v') w' := by
  obtain ⟨cs1, hown, hx1, hblk⟩ := h1.toOwns hi
  obtain ⟨a2, c2, hv2, hnil⟩ := h2.hdr
  rcases Nat.eq_zero_or_pos ys.length with h0 | h0
  · have hys : ys = [] := List.eq_nil_of_length_eq_zero h0
    subst hys
    have hr : (Builtin.append_ #[t, t] ty #[v1, v2]).run P w = .ok v1 w := by
      rw [hv2]
      exact run_append_zero ht hi hown a2 c2
    refine ⟨v1, w, hr, ow, ?_⟩
    rw [List.append_nil]
    exact (h.kill u).put hu (by simp [St.kill, S.isOwn]) h1
  · obtain ⟨ad, rfl⟩ : ∃ ad, a2 = some ad := by
      cases a2 with
      | none => have := hnil rfl; subst this; simp at h0
      | some ad => exact ⟨ad, rfl⟩
    obtain ⟨cs2, g1, g2, g3, g4⟩ := h2.cells hs
    have g4' := g4 ad c2 hv2
    have hbytes : (xs.length + ys.length) * i.bytes ≤ 140737488355328 := by
      have : (xs.length + ys.length) * i.bytes ≤ 1073741824 * 4096 := Nat.mul_le_mul hlen hby
      omega
    have h63 : xs.length + ys.length ≤ maxLen := by unfold maxLen; omega
    obtain ⟨v', w', hrun, hown', hgrow, hb'⟩ := run_append_G (P := P) (ty := ty) ht hi hz hzs hown ad ys.length c2 cs2 g1 g4' g2 h0 h63 hbytes
    rw [hv2]
    refine ⟨v', w', hrun, fun b => if v'.ownBlock = some b then some [u] else ow b, ?_⟩
    have hsame : ∀ b, b < w.heap.size → ow b ≠ some [u] → w'.heap[b]? = w.heap[b]? ∧ (if v'.ownBlock = some b then some [u] else ow b) = ow b := by
      intro b hb hne
      refine ⟨hgrow.block b hb fun e => hne (hblk b e.symm).1, ?_⟩
      rw [if_neg]
      intro e
      rcases hb' with ⟨h3, _⟩ | h3
      · exact hne (hblk b (h3 ▸ e)).1
      · rw [h3] at e; injection e with e; omega
    have hsame2 : ∀ b, b < w.heap.size → (if v'.ownBlock = some b then some [u] else ow b) = ow b := by
      intro b hb
      split
      · rename_i e
        rcases hb' with ⟨h3, _⟩ | h3
        · exact (hblk b (h3 ▸ e)).1.symm
        · rw [h3] at e; injection e with e; omega
      · rfl
    have hk := h.kill u
    have hf : Fits P n w0 ow0 (fun b => if v'.ownBlock = some b then some [u] else ow b) (s.kill u) a w' := by
      refine hk.change hk.nodef hk.size hgrow.os hgrow.tape hgrow.output hgrow.size (fun b hb ho => ?_) (fun b hb => ?_) (fun j => j = u) ?_ ?_ ?_ (fun e => by have := h.small; unfold far0 at e; omega)
      · obtain ⟨e1, e2⟩ := hsame b hb (by rw [ho]; simp)
        exact ⟨e1, e2.trans ho⟩
      · rw [if_neg]
        · exact h.new b (Nat.le_trans hgrow.size hb)
        · intro e
          have : b < w'.heap.size := by
            rcases hown'.2 with ⟨h3, _⟩ | ⟨g, cap, cur, fz, h3, h4, _⟩
            · rw [h3] at e; cases e
            · rw [h3] at e; simp [Value.ownBlock] at e; subst e; exact lt_of_heap h4
          omega
      · intro j hj b hb q hq
        have hne : ow b ≠ some [u] := by
          rw [hq]; intro e
          have := congrArg List.getLast? (Option.some.inj e)
          simp at this
          exact hj this
        obtain ⟨e1, e2⟩ := hsame b hb hne
        exact ⟨e1, e2.trans hq⟩
      · intro i' hi'
        refine ⟨rfl, .inr ⟨rfl, fun j hj => ?_⟩⟩
        rcases kill_at s u i' with h3 | ⟨h3, _, h4⟩
        · rw [h3] at hj; cases hj
        · rw [h3] at hj
          exact ⟨fun e => h4 (e ▸ hj), rfl⟩
      · rintro i' rfl
        simp [St.kill, SV]
    refine hf.put hu (by simp [St.kill, S.isOwn]) ?_
    simp only [SV, V]
    refine R.ofOwns (cs := cs1 ++ cs2) hi (by rw [List.length_append]; exact hown') (fun j x hj => ?_) (fun b hb => by simp [hb])
    have hkeep : ∀ q0, Keeps w ow (q0 :: [u]) w' (fun b => if v'.ownBlock = some b then some [u] else ow b) (q0 :: [u]) := by
      intro q0 b hb
      refine ⟨fun ho => ?_, fun q hq => ?_⟩
      · obtain ⟨e1, e2⟩ := hsame b hb (by rw [ho]; simp)
        exact ⟨e1, e2.trans ho⟩
      · have hne : ow b ≠ some [u] := by
          rw [hq]; intro e
          have := congrArg List.length (Option.some.inj e)
          simp at this
        obtain ⟨e1, e2⟩ := hsame b hb hne
        exact ⟨e1, e2.trans hq⟩
    by_cases hjn : j < xs.length
    · rw [List.getElem?_append_left hjn] at hj
      obtain ⟨e1, e2⟩ := hx1 j x hj
      refine ⟨e1, ?_⟩
      rw [seg_left hown.1 hjn]
      exact e2.tr (hkeep j)
    · rw [List.getElem?_append_right (by omega)] at hj
      obtain ⟨e1, _⟩ := h2.el _ x hj
      refine ⟨e1, ?_⟩
      rw [seg_right hown.1 (by omega)]
      have := g3 _ x hj
      rw [show xs.length + (j - xs.length) = j from by omega] at this
      exact this.tr (hkeep j)
end Go.Dv

end
section
namespace Go.Dv
open Go.RowKit
variable [Glob]
def relabSh (y u n : Nat) (ow : Own) : Own := fun b => match ow b with
  | none => none
  | some l => if l.getLast? = some y then (match l.dropLast.getLast? with | some j => some (l.dropLast.dropLast ++ [n + j, u]) | none => none) else some l
theorem relabSh_none {y u n : Nat} {ow : Own} {b : Nat} (h : ow b = none) : relabSh y u n ow b = none := by simp [relabSh, h]
theorem relabSh_hit {y u n j : Nat} {ow : Own} {b : Nat} {q : List Nat} (h : ow b = some (q ++ [j, y])) : relabSh y u n ow b = some (q ++ [n + j, u]) := by
  have e : q ++ [j, y] = (q ++ [j]) ++ [y] := by simp
  simp only [relabSh, h]
  rw [e]
  simp
theorem relabSh_miss {y u n j : Nat} {ow : Own} {b : Nat} {q : List Nat} (h : ow b = some (q ++ [j])) (hj : j ≠ y) : relabSh y u n ow b = some (q ++ [j]) := by
  simp [relabSh, h, hj]
theorem Fits.spend {P : Program} {n : Nat} {w0 w : World} {ow0 ow : Own} {s : St} {a : Act} (h : Fits P n w0 ow0 ow s a w) (y u m : Nat) (hy : y ≠ far0) : Fits P n w0 ow0 (relabSh y u m ow) (s.kill y) a w := by
  refine h.change h.nodef h.size rfl rfl rfl (Nat.le_refl _) (fun b _ ho => ⟨rfl, relabSh_none ho⟩) (fun b hb => relabSh_none (h.new b hb)) (fun j => j = y) ?_ ?_ ?_ (fun e => hy e.symm)
  · intro j hj b _ q hq
    exact ⟨rfl, relabSh_miss hq hj⟩
  · intro i hi
    refine ⟨rfl, ?_⟩
    rcases kill_at s y i with h1 | ⟨h1, _, h2⟩
    · exact .inl h1
    · right
      refine ⟨h1, fun j hj => ?_⟩
      have hjr : j ≠ y := by rintro rfl; exact h2 hj
      exact ⟨hjr, kill_own ((h.slot i).root hj) hjr⟩
  · rintro i rfl
    simp [St.kill, SV]
theorem R.ys_el {P : Program} {w : World} {ow : Own} {o : Option TypeId} {ys : List D} {l : List Nat} {v : Value} {s : Nat} (h : R P w ow (.sl o ys) l [v]) (hw : ∀ y ∈ ys, y.w = s) {j : Nat} {y : D} (hj : ys[j]? = some y) :
    ∃ cs, cs.length = s ∧ R P w ow y (j :: l) cs ∧ ∀ a cap, v = .slice (some a) ys.length cap → ∀ k c, cs[k]? = some c → w.cell? (a.add (j * s + k)) = some c := by
  have hys := hw y (List.mem_of_getElem? hj)
  obtain ⟨b, off, cap, h1, h2⟩ := h.elem hj
  obtain ⟨_, hL, _, _⟩ := h.into h2
  obtain ⟨cs, hl, hrange, hr⟩ := hL.range
  refine ⟨cs, by rw [hl, hys], hr, fun a cap' ha k c hk => ?_⟩
  rw [h1] at ha
  obtain ⟨rfl, _⟩ : (⟨b, off, none⟩ : Addr) = a ∧ _ := by simpa using ha
  rw [Addr.add_mid, ← Nat.add_assoc, ← hys]
  exact hrange k c hk
theorem R.hdr_nil {P : Program} {w : World} {ow : Own} {o : Option TypeId} {xs : List D} {l : List Nat} {v : Value} (h : R P w ow (.sl o xs) l [v]) : ∃ a cap, v = .slice a xs.length cap ∧ (a = none → xs = []) := by
  simp only [R] at h
  obtain ⟨a, cap, hv, h1, h2, h4⟩ := h
  refine ⟨a, cap, by simpa using hv, fun ha => ?_⟩
  rcases h4 with ⟨_, h4, _⟩ | ⟨_, h4⟩ | ⟨b, off, s, C, e, fz, hab, _⟩
  · exact h4
  · exact h4
  · rw [ha] at hab; cases hab
def rowOf (e : TypeId) : D → Option (List D)
  | .sl (some e') xs => if e' = e then some xs else none
  | .one (.slice none 0 0) => some []
  | _ => none
theorem rowOf_R {P : Program} {w : World} {ow : Own} {e : TypeId} {d : D} {xs : List D} {l : List Nat} {v : Value} (hd : rowOf e d = some xs) (h : V P w ow d l v) : R P w ow (.sl (some e) xs) l [v] := by
  unfold rowOf at hd
  split at hd
  · split at hd
    · rename_i he
      subst he
      obtain rfl : _ = xs := by simpa using hd
      exact h
    · cases hd
  · obtain rfl : [] = xs := by simpa using hd
    simp only [V, R] at h
    have : v = .slice none 0 0 := by simpa using h.1
    subst this
    simp only [R]
    exact ⟨none, 0, rfl, Nat.le_refl _, by simp [maxLen], .inl ⟨rfl, trivial, rfl⟩⟩
  · cases hd
def dappend (e : TypeId) (ew u : Nat) (x y : Operand) (s : St) (K : St → Prop) : Prop :=
  (srcOf s (slotOf x) (evS s x)).from ≠ some u ∧ match rowOf e (srcOf s (slotOf x) (evS s x)).data with
  | none => False
  | some xs => match evS ((srcOf s (slotOf x) (evS s x)).st s) y with
    | .own (.sl (some e') ys) => e' = e ∧ slotOf y ≠ u ∧ xs.length + ys.length ≤ 1073741824 ∧ K (((((srcOf s (slotOf x) (evS s x)).st s).kill (slotOf y)).kill u).put u (.own (.sl (some e) (xs ++ ys))))
    | z => match asSl ((srcOf s (slotOf x) (evS s x)).st s) (slotOf y) z with
      | .fr ys => ys.all (fun d => d.w == ew) = true ∧ xs.length + ys.length ≤ 1073741824 ∧ K ((((srcOf s (slotOf x) (evS s x)).st s).kill u).put u (.own (.sl (some e) (xs ++ D.fzs ys))))
      | .nd _ _ ys => D.frzs ys = true ∧ ys.all (fun d => d.w == ew) = true ∧ xs.length + ys.length ≤ 1073741824 ∧ K ((((srcOf s (slotOf x) (evS s x)).st s).kill u).put u (.own (.sl (some e) (xs ++ ys))))
      | .no => False
theorem ok_append {P : Program} {T : TypeId → TyE} {n : Nat} {w0 : World} {ow0 : Own} {o : Oper} {s : St} {K : St → Prop} {t e : TypeId} {x y : Operand} {u : Nat} (hG : ∀ t, Good P T t) (ht : P.underlying t = some (.slice e)) (he : (T e).ok = true) (hw0 : 0 < (T e).w)
    (ho : o.op = .call { callee := .builtin .append, args := #[x, y], argTypes := #[t, t] }) (hd : o.dst = some u) (hu : u < n) (h : dappend e (T e).w u x y s K) : Ok P n w0 ow0 o s K := by
  refine ok_value fun a w ow hf => ?_
  obtain ⟨_, i, zv, hi, hsz, hz, hflat, _, hz2, hby, hzw2⟩ := (hG e).of (TyE.ok_of he)
  have hzw : zv.cells.size = i.size := by have := (R.zf (P := P) (w := w) (ow := ow) (l := []) hflat).len; rw [hsz, ← hzw2]; simpa using this
  obtain ⟨hfrom, h⟩ := h
  cases hrow : rowOf e (srcOf s (slotOf x) (evS s x)).data with
  | none => rw [hrow] at h; exact h.elim
  | some xs =>
    rw [hrow] at h
    simp only at h
    have hno : srcOf s (slotOf x) (evS s x) ≠ .no := by intro e'; rw [e'] at hrow; simp [Src.data, rowOf] at hrow
    obtain ⟨ow1, g1, g2, _⟩ := hf.src x [u] _ rfl hno
    have hR1 := rowOf_R hrow g2
    have run : ∀ {v' w'}, (Builtin.append_ #[t, t] o.type #[a.eval x, a.eval y]).run P w = .ok v' w' → (execOp a.eval o).run P w = .ok (.value v') w' := by
      intro v' w' hr
      unfold execOp
      simp only [ho, resolve, invoke, builtin, Sem.run_bind, Sem.run_pure, Result.andThen_ok, List.map_toArray, List.map_cons, List.map_nil, hr]
    have pos : 0 < i.size := by rw [hsz]; exact hw0
    generalize hs1 : (srcOf s (slotOf x) (evS s x)).st s = s1 at h g1
    split at h
    · rename_i e' ys hy
      obtain ⟨rfl, hyu, hlen, hK⟩ := h
      have hsy := slotOf_own hy (.inl rfl)
      have hey := slotOf_val g1.size g1.small hy (.inl rfl)
      have hVy := g1.slot (slotOf y)
      rw [hsy] at hVy
      simp only [SV, V] at hVy
      have g3 := g1.spend (slotOf y) u xs.length (fun e => by rw [e, g1.far] at hsy; cases hsy)
      obtain ⟨cs, hown, hel, _⟩ := hVy.toOwns hi
      have hw : ∀ d ∈ ys, d.w = i.size := fun d hd => by
        obtain ⟨j, hj⟩ := List.mem_iff_getElem?.1 hd
        exact (hel j d hj).1
      have hk1 : Keeps w ow1 [u] w (relabSh (slotOf y) u xs.length ow1) [u] := fun b _ => ⟨fun ho => ⟨rfl, relabSh_none ho⟩, fun q hq => ⟨rfl, relabSh_miss hq (Ne.symm hyu)⟩⟩
      have hN : News P w (relabSh (slotOf y) u xs.length ow1) e' i ys xs.length u (a.eval y) := by
        rw [hey]
        refine ⟨hVy.hdr_nil, fun j d hj => ?_⟩
        obtain ⟨cs, k1, k2, k3⟩ := hVy.ys_el hw hj
        refine ⟨hw d (List.mem_of_getElem? hj), cs, k1, ?_, k3⟩
        exact k2.tr fun b _ => ⟨fun ho => ⟨rfl, relabSh_none ho⟩, fun q hq => ⟨rfl, relabSh_hit hq⟩⟩
      obtain ⟨v', w', hr, ow', hfit⟩ := g3.append (ty := o.type) hu ht hi hz hzw hby pos (hR1.tr hk1) hN hlen
      exact ⟨v', w', run hr, _, hK, ow', by rw [hd]; exact hfit⟩
    · rename_i z hz1 hz3
      have hsl := g1.asSl y
      generalize hzz : asSl s1 (slotOf y) (evS s1 y) = zz at h hsl
      cases zz with
      | no => exact h.elim
      | fr ys =>
        obtain ⟨hall, hlen, hK⟩ := h
        simp only [SlSays] at hsl
        have hw : ∀ d ∈ D.fzs ys, d.w = i.size := fun d hd => by
          rw [D.fzs_map] at hd
          obtain ⟨d', hd', rfl⟩ := List.mem_map.1 hd
          rw [D.fz_w, hsz]
          simpa using List.all_eq_true.1 hall d' hd'
        have hN : News P w ow1 e i (D.fzs ys) xs.length u (a.eval y) := by
          refine ⟨hsl.hdr_nil, fun j d hj => ?_⟩
          obtain ⟨cs, k1, k2, k3⟩ := hsl.ys_el hw hj
          refine ⟨hw d (List.mem_of_getElem? hj), cs, k1, ?_, k3⟩
          rw [D.fzs_map] at hj
          obtain ⟨d', _, rfl⟩ := by simpa using hj
          exact R.trf (fun b _ hb => ⟨rfl, hb⟩) k2
        obtain ⟨v', w', hr, ow', hfit⟩ := g1.append (ty := o.type) hu ht hi hz hzw hby pos hR1 hN (by rw [D.fzs_map, List.length_map]; exact hlen)
        exact ⟨v', w', run hr, _, hK, ow', by rw [hd]; exact hfit⟩
      | nd r p ys =>
        obtain ⟨hfr, hall, hlen, hK⟩ := h
        obtain ⟨d0, o0, _, _, hsl, _⟩ := hsl
        have hw : ∀ d ∈ ys, d.w = i.size := fun d hd => by
          rw [hsz]
          simpa using List.all_eq_true.1 hall d hd
        have hN : News P w ow1 e i ys xs.length u (a.eval y) := by
          refine ⟨hsl.hdr_nil, fun j d hj => ?_⟩
          obtain ⟨cs, k1, k2, k3⟩ := hsl.ys_el hw hj
          refine ⟨hw d (List.mem_of_getElem? hj), cs, k1, ?_, k3⟩
          have hdf : d.fz = d := by
            have := D.fzs_frzs hfr
            rw [D.fzs_map] at this
            have h2 := congrArg (·[j]?) this
            simp [hj] at h2
            exact h2
          rw [← hdf] at k2 ⊢
          exact R.trf (fun b _ hb => ⟨rfl, hb⟩) k2
        obtain ⟨v', w', hr, ow', hfit⟩ := g1.append (ty := o.type) hu ht hi hz hzw hby pos hR1 hN hlen
        exact ⟨v', w', run hr, _, hK, ow', by rw [hd]; exact hfit⟩
end Go.Dv

end
section
namespace Go.Dv
open Go.RowKit
variable [Glob]
abbrev Pin := Option (Nat × Value)
def Pinned (p : Pin) (a : Act) : Prop := ∀ m v, p = some (m, v) → a.tmps.getD m undef = v
def noDst1 (p : Pin) (o : Oper) : Bool := match p with
  | none => true
  | some (m, _) => o.dst != some m
def noDst (p : Pin) (ops : List Oper) : Bool := match p with
  | none => true
  | some (m, _) => ops.all fun o => o.dst != some m
theorem noDst.one {p : Pin} {ops : List Oper} (h : noDst p ops = true) : ∀ o ∈ ops, noDst1 p o = true := by
  intro o ho
  cases p with
  | none => rfl
  | some q => exact List.all_eq_true.1 h o ho
theorem put_other {a : Act} {d : Option Nat} {m : Nat} {v : Value} (h : d ≠ some m) : (a.put d v).tmps.getD m undef = a.tmps.getD m undef := by
  cases d with
  | none => rfl
  | some d =>
    have hne : d ≠ m := fun e => h (by rw [e])
    simp [Act.put, Array.getD_eq_getD_getElem?, hne]
theorem Pinned.put {p : Pin} {a : Act} {o : Oper} {v : Value} (h : Pinned p a) (hd : noDst1 p o = true) : Pinned p (a.put o.dst v) := by
  intro m u hp
  subst hp
  simp only [noDst1, bne_iff_ne, ne_eq] at hd
  rw [put_other hd]
  exact h m u rfl
theorem wp_pin {P : Program} {p : Pin} {o : Oper} {a : Act} {w : World} {next : Act → World → Prop} {Q : Exit → Act → World → Prop} (hp : Pinned p a) (hd : noDst1 p o = true) (h : o.wp P a w next Q) : o.wp P a w (fun a' w' => next a' w' ∧ Pinned p a') Q := by
  unfold Oper.wp at *
  generalize (execOp a.eval o).run P w = r at *
  cases r with
  | ok nx w' =>
    cases nx <;> simp only [Oper.upon] at h ⊢ <;>
      first
        | exact ⟨h, hp.put hd⟩
        | exact ⟨h, Pinned.put (a := { a with defers := _ }) hp hd⟩
        | exact Calls.mono h (fun e w'' he => by cases e <;> first | exact ⟨he, hp.put hd⟩ | exact he)
        | exact Rows.mono h (fun _ _ he => ⟨he, hp.put hd⟩)
  | halt x w' => cases x <;> simp only [Oper.upon] at h ⊢ <;> exact h
def OkC (P : Program) (n : Nat) (w0 : World) (ow0 : Own) (p : Pin) (c : Code) (s : St) (K : Exit → St → Prop) : Prop :=
  ∀ a w, Rel P n w0 ow0 s a w → Pinned p a → ∀ Q : Exit → Act → World → Prop, (∀ e s' a' w', K e s' → Rel P n w0 ow0 s' a' w' → Pinned p a' → Q e a' w') → c.wp P Q a w
def thenK (N : St → Prop) (K : Exit → St → Prop) : Exit → St → Prop
  | .normal, s => N s
  | e, s => K e s
def blockK (id : Nat) (K : Exit → St → Prop) : Exit → St → Prop
  | .exit id', s => if id' = id then K .normal s else K (.exit id') s
  | e, s => K e s
section
variable {P : Program} {n : Nat} {w0 : World} {ow0 : Own} {p : Pin} {s : St} {K : Exit → St → Prop}
theorem okC_skip (h : K .normal s) : OkC P n w0 ow0 p .skip s K := fun a w hR hp Q hQ => wp_skip (hQ _ _ _ _ h hR hp)
theorem okC_ret (h : K .ret s) : OkC P n w0 ow0 p .ret s K := fun a w hR hp Q hQ => wp_ret (hQ _ _ _ _ h hR hp)
theorem okC_exit {id : Nat} (h : K (.exit id) s) : OkC P n w0 ow0 p (.exit id) s K := fun a w hR hp Q hQ => wp_exit (hQ _ _ _ _ h hR hp)
theorem okC_seq {x y : Code} (h : OkC P n w0 ow0 p x s (thenK (fun s' => OkC P n w0 ow0 p y s' K) K)) : OkC P n w0 ow0 p (.seq x y) s K := fun a w hR hp Q hQ =>
  wp_seq (h a w hR hp _ fun e s' a' w' hK hR' hp' => by cases e <;> first | exact hK a' w' hR' hp' Q hQ | exact hQ _ _ _ _ hK hR' hp')
theorem okC_block {id : Nat} {c : Code} (h : OkC P n w0 ow0 p c s (blockK id K)) : OkC P n w0 ow0 p (.block id c) s K := fun a w hR hp Q hQ =>
  wp_block (h a w hR hp _ fun e s' a' w' hK hR' hp' => by
    cases e with
    | exit id' =>
      simp only [blockK] at hK
      simp only [Exit.inBlock]
      split
      · rename_i hid; rw [if_pos hid] at hK; exact hQ _ _ _ _ hK hR' hp'
      · rename_i hid; rw [if_neg hid] at hK; exact hQ _ _ _ _ hK hR' hp'
    | _ => exact hQ _ _ _ _ hK hR' hp')
theorem okC_cond {c : Operand} {x y : Code} (h : oneK (evS s c) fun v => match v with | .bool b => (b = true → OkC P n w0 ow0 p x s K) ∧ (b = false → OkC P n w0 ow0 p y s K) | _ => False) : OkC P n w0 ow0 p (.cond c x y) s K := fun a w hR hp Q hQ => by
  obtain ⟨v, hv, h⟩ := oneK_of h
  split at h
  rotate_left
  · exact h.elim
  obtain ⟨h1, h2⟩ := h
  obtain ⟨ow, hf⟩ := hR
  have hc := (hf.one hv).1
  exact wp_cond_split hc (fun hb => h1 hb a w ⟨ow, hf⟩ hp Q hQ) (fun hb => h2 hb a w ⟨ow, hf⟩ hp Q hQ)
theorem okC_mono {c : Code} {K' : Exit → St → Prop} (h : OkC P n w0 ow0 p c s K) (hk : ∀ e s', K e s' → K' e s') : OkC P n w0 ow0 p c s K' := fun a w hR hp Q hQ => h a w hR hp Q fun e s' a' w' hK hR' hp' => hQ e s' a' w' (hk _ _ hK) hR' hp'
def Tells (P : Program) (n : Nat) (s' s : St) : Prop := ∀ w0 ow0 a w, Rel P n w0 ow0 s' a w → Rel P n w0 ow0 s a w
theorem Tells.rel {s' : St} {a : Act} {w : World} (h : Tells P n s' s) (hR : Rel P n w0 ow0 s' a w) : Rel P n w0 ow0 s a w := h _ _ _ _ hR
theorem Tells.refl (s : St) : Tells P n s s := fun _ _ _ _ h => h
theorem Tells.trans {s1 s2 s3 : St} (h : Tells P n s1 s2) (h' : Tells P n s2 s3) : Tells P n s1 s3 := fun _ _ _ _ hR => h' _ _ _ _ (h _ _ _ _ hR)
theorem okC_tells {c : Code} {s' : St} (h : OkC P n w0 ow0 p c s K) (ht : Tells P n s' s) : OkC P n w0 ow0 p c s' K := fun a w hR hp => h a w (ht.rel hR) hp
theorem least {S : Nat → Prop} (h : ∃ N, S N) : ∃ N, S N ∧ ∀ M, S M → N ≤ M := by
  obtain ⟨N, hN⟩ := h
  induction N using Nat.strongRecOn with
  | _ N ih =>
    by_cases h : ∃ M, M < N ∧ S M
    · obtain ⟨M, h1, h2⟩ := h; exact ih M h1 h2
    · exact ⟨N, hN, fun M hM => Nat.le_of_not_lt fun hlt => h ⟨M, hlt, hM⟩⟩
open Classical in
noncomputable def leastOf (S : Nat → Prop) : Nat := if h : ∃ N, S N then Classical.choose (least h) else 0
theorem leastOf_spec {S : Nat → Prop} (h : ∃ N, S N) : S (leastOf S) ∧ ∀ M, S M → leastOf S ≤ M := by
  unfold leastOf
  rw [dif_pos h]
  exact Classical.choose_spec (least h)
theorem okC_loop {c : Code} {X : Type} (I : X → St) (μ : X → Nat) (ok : X → Prop) (x0 : X) (hx : ok x0) (h0 : Tells P n s (I x0))
    (round : ∀ x, ok x → OkC P n w0 ow0 p c (I x) (thenK (fun s' => ∃ y, ok y ∧ μ y < μ x ∧ Tells P n s' (I y)) K)) : OkC P n w0 ow0 p (.loop c) s K := fun a w hR hp Q hQ => by
  refine wp_loop (fun a w => ∃ N x, μ x = N ∧ ok x ∧ Rel P n w0 ow0 (I x) a w ∧ Pinned p a) (fun a w => leastOf fun N => ∃ x, μ x = N ∧ ok x ∧ Rel P n w0 ow0 (I x) a w ∧ Pinned p a) ⟨_, x0, rfl, hx, h0.rel hR, hp⟩ fun a w hI => ?_
  obtain ⟨⟨x, hN, hok, hR, hp⟩, _⟩ := leastOf_spec hI
  refine round x hok a w hR hp _ fun e s' a' w' hK hR' hp' => ?_
  cases e with
  | normal =>
    obtain ⟨y, hy, hlt, ht⟩ := hK
    refine ⟨⟨_, y, rfl, hy, ht.rel hR', hp'⟩, Nat.lt_of_le_of_lt ((leastOf_spec ⟨_, y, rfl, hy, ht.rel hR', hp'⟩).2 (μ y) ⟨y, rfl, hy, ht.rel hR', hp'⟩) ?_⟩
    rw [← hN]; exact hlt
  | _ => exact hQ _ _ _ _ hK hR' hp'
def gS (x : S) (b : Bool) (A B : Prop) : Prop := match x with
  | .tup _ => B
  | x => oneK x fun v => (v = .bool b → A) ∧ (v ≠ .bool b → B)
def gK (ops : Array Oper) (o : Oper) (s : St) (A B : Prop) : Prop := match o.guard with
  | none => A
  | some (j, b) => match (ops[j]?).bind (·.dst) with
    | some t => gS (s t) b A B
    | none => B
theorem gS_of {x : S} {b : Bool} {A B : Prop} (h : gS x b A B) : (∃ l, x = .tup l ∧ B) ∨ ∃ v, x = .val (.one v) ∧ (v = .bool b → A) ∧ (v ≠ .bool b → B) := by
  unfold gS at h
  split at h
  · exact .inl ⟨_, rfl, h⟩
  · exact .inr (oneK_of h)
theorem gK_mono {ops : Array Oper} {o : Oper} {A B A' B' : Prop} (h : gK ops o s A B) (hA : A → A') (hB : B → B') : gK ops o s A' B' := by
  unfold gK at *
  split
  · rename_i hg; simp only [hg] at h; exact hA h
  · rename_i j b hg
    simp only [hg] at h
    split
    · rename_i t ht
      simp only [ht] at h
      rcases gS_of h with ⟨l, h1, h2⟩ | ⟨v, h1, h2, h3⟩
      · simp only [h1, gS]; exact hB h2
      simp only [h1, gS, oneK]
      exact ⟨fun e => hA (h2 e), fun e => hB (h3 e)⟩
    · rename_i ht; simp only [ht] at h; exact hB h
theorem gK_wanted {ops : Array Oper} {o : Oper} {A B : Prop} {a : Act} {w : World} (hR : Rel P n w0 ow0 s a w) (h : gK ops o s A B) : if Region.wanted o (yielded ops a.tmps) then A else B := by
  obtain ⟨ow, hf⟩ := hR
  unfold gK at h
  unfold Region.wanted
  cases hg : o.guard with
  | none => rw [hg] at h; exact h
  | some g =>
    obtain ⟨j, b⟩ := g
    rw [hg] at h
    simp only at h ⊢
    cases ht : (ops[j]?).bind (·.dst) with
    | none =>
      rw [ht] at h
      simp only [yielded, ht, Option.bind_none]
      exact h
    | some t =>
      rw [ht] at h
      have hv := hf.slot t
      rcases gS_of h with ⟨l, h1, h2⟩ | ⟨v, h1, h2, h3⟩
      · rw [h1] at hv
        obtain ⟨vs, hv1, _⟩ := hv
        simp only [yielded, ht, Option.bind_some]
        rw [if_neg]
        · exact h2
        · unfold aval at hv1
          rw [Array.getD_eq_getD_getElem?] at hv1
          intro hx
          split at hx
          · rename_i b' hb'
            rw [hb'] at hv1
            split at hv1 <;> cases hv1
          · cases hx
      rw [h1] at hv
      simp only [SV, V, D.fz, R] at hv
      have hv1 : aval a t = v := by simpa using hv.1
      simp only [yielded, ht, Option.bind_some]
      have hcase : (∃ c, v = .bool c ∧ a.tmps[t]? = some v) ∨ ((∀ c, v ≠ .bool c) ∧ ∀ c, a.tmps[t]? ≠ some (.bool c)) := by
        by_cases hlt : t < a.tmps.size
        · have ht6 : t < 1000000 := Nat.lt_of_lt_of_le (hf.size ▸ hlt) hf.small
          have hget : a.tmps[t]? = some v := by
            unfold aval at hv1
            rw [if_pos ht6, Array.getD_eq_getD_getElem?] at hv1
            simp only [Array.getElem?_eq_getElem hlt, Option.getD_some] at hv1 ⊢
            rw [hv1]
          by_cases hb : ∃ c, v = .bool c
          · obtain ⟨c, hc⟩ := hb; exact .inl ⟨c, hc, hget⟩
          · refine .inr ⟨fun c e => hb ⟨c, e⟩, fun c e => hb ⟨c, ?_⟩⟩
            rw [hget] at e; exact Option.some.inj e
        · have hno : a.tmps[t]? = none := Array.getElem?_eq_none (Nat.le_of_not_lt hlt)
          refine .inr ⟨fun c e => ?_, fun c e => by rw [hno] at e; cases e⟩
          rw [e] at hv1
          unfold aval at hv1
          rw [Array.getD_eq_getD_getElem?, hno] at hv1
          split at hv1 <;> cases hv1
      rcases hcase with ⟨c, rfl, hget⟩ | ⟨hno, hget⟩
      · rw [hget]
        by_cases hcb : c = b
        · subst hcb; simp only [beq_self_eq_true, if_true]; exact h2 rfl
        · have : (some c == some b) = false := by simpa using hcb
          simp only [this]
          exact h3 fun e => hcb (by simpa using e)
      · generalize a.tmps[t]? = x at hget
        rw [if_neg]
        · exact h3 (hno b)
        · intro hx
          split at hx
          · rename_i b'; exact hget b' rfl
          · cases hx
def OkL (P : Program) (n : Nat) (w0 : World) (ow0 : Own) (ops : Array Oper) : List Oper → St → (St → Prop) → Prop
  | [], s, K => K s
  | o :: l, s, K => gK ops o s (Ok P n w0 ow0 o s fun s' => OkL P n w0 ow0 ops l s' K) (dstOk n o = true ∧ OkL P n w0 ow0 ops l (s.setd o.dst (.tup [])) K)
theorem Fits.setU {w : World} {ow : Own} {a : Act} (h : Fits P n w0 ow0 ow s a w) {o : Oper} (ho : dstOk n o = true) : Fits P n w0 ow0 ow (s.setd o.dst (.tup [])) (a.put o.dst undef) w := by
  cases hd : o.dst with
  | none => exact h
  | some t => exact h.set (by simpa [dstOk, hd] using ho) ⟨#[], rfl, rfl, fun k x hx => by simp at hx⟩
theorem OkL.wp {ops : Array Oper} {Q : Exit → Act → World → Prop} : ∀ (l : List Oper) (s : St) (K : St → Prop), OkL P n w0 ow0 ops l s K → (∀ o ∈ l, noDst1 p o = true) → ∀ a w, Rel P n w0 ow0 s a w → Pinned p a → (∀ s' a' w', K s' → Rel P n w0 ow0 s' a' w' → Pinned p a' → Q .normal a' w') → wpList P ops Q l a w
  | [], s, K, h, _, a, w, hR, hp, hQ => hQ s a w h hR hp
  | o :: l, s, K, h, hd, a, w, hR, hp, hQ => by
    have hg := gK_wanted hR h
    unfold wpList
    split
    · rename_i hw
      rw [if_pos hw] at hg
      have h1 := hg a w hR (fun a' w' => ∃ s', OkL P n w0 ow0 ops l s' K ∧ Rel P n w0 ow0 s' a' w') Q fun s' a' w' hK hR' => ⟨s', hK, hR'⟩
      exact .inl (Oper.wp_mono (fun a' w' hh => by obtain ⟨⟨s', hK, hR'⟩, hp'⟩ := hh; exact OkL.wp l s' K hK (fun o ho => hd o (List.mem_cons_of_mem _ ho)) a' w' hR' hp' hQ) (wp_pin hp (hd o (by simp)) h1))
    · rename_i hw
      rw [if_neg hw] at hg
      obtain ⟨ow, hf⟩ := hR
      exact OkL.wp l _ K hg.2 (fun o ho => hd o (List.mem_cons_of_mem _ ho)) _ w ⟨ow, hf.setU hg.1⟩ (hp.put (hd o (by simp))) hQ
theorem okC_region {id : Nat} {ops : Array Oper} (h : OkL P n w0 ow0 ops ops.toList s (fun s' => K .normal s')) (hd : noDst p ops.toList = true) : OkC P n w0 ow0 p (.region id ops false) s K := fun a w hR hp Q hQ =>
  wp_region_list (OkL.wp _ _ _ h (noDst.one hd) a w hR hp fun s' a' w' hK hR' hp' => hQ _ _ _ _ hK hR' hp')
end
end Go.Dv

end
section
namespace Go.Dv
open Go.RowKit
variable [Glob]
def res0 : Nat := 4000001
structure After (w : World) (ow : Own) (w' : World) (ow' : Own) : Prop where
  os : w'.os = w.os
  tape : w'.tape = w.tape
  output : w'.output = w.output
  size : w.heap.size ≤ w'.heap.size
  old : ∀ b, b < w.heap.size → w'.heap[b]? = w.heap[b]? ∧ ow' b = ow b
  new : ∀ b, w'.heap.size ≤ b → ow' b = none
def S.plain : S → Bool
  | .al _ _ => false
  | .rf _ _ => false
  | .ag _ _ => false
  | _ => true
def FnOk (P : Program) (f : FuncId) (ds : List D) (Q : S → Prop) : Prop :=
  ∀ (w : World) (ow : Own) (vs : Array Value) (t : Nat), t ≠ far0 → Laid w ow → (∀ b, w.heap.size ≤ b → ow b = none) → vs.size = ds.length → (∀ (i : Nat) (d : D), ds[i]? = some d → V P w ow d.fz [] (vs.getD i undef)) →
    Calls P f vs w fun e w' => ∃ v ow' r, e = .returned v ∧ Q r ∧ After w ow w' ow' ∧ S.plain r = true ∧ ∀ s a, SV P w' ow' s a t r v
theorem FnOk.mono {P : Program} {f : FuncId} {ds : List D} {Q Q' : S → Prop} (h : FnOk P f ds Q) (hq : ∀ r, Q r → Q' r) : FnOk P f ds Q' := fun w ow vs t ht hL h1 h2 h3 =>
  (h w ow vs t ht hL h1 h2 h3).mono fun e w' ⟨v, ow', r, g1, g2, g3⟩ => ⟨v, ow', r, g1, hq r g2, g3⟩
def argSt (ds : List D) : St := fun j => match ds[j]? with
  | some d => .val d
  | none => .un
def numb : Nat → List Nat → List (Nat × Operand)
  | _, [] => []
  | k, t :: ts => (k, .tmp t) :: numb (k + 1) ts
def retK (rs : List Nat) (Q : S → Prop) (s : St) : Prop := match rs with
  | [t] => (srcOf s t (evS s (.tmp t))).from ≠ some res0 ∧ match srcOf s t (evS s (.tmp t)) with
    | .fr d => Q (.val d)
    | .all r d => Q (.own d)
    | .nd r p d m => Q (.own m)
    | .no => match evS s (.tmp t) with
      | .rp d => Q (.val (.bx false d))
      | _ => Q .un
  | rs => takeK res0 (numb 0 rs) s fun ds s' => Q (.tup (ds.map fun p => if p.2.2 then .val p.2.1 else .own p.2.1))
def endK (rs : List Nat) (Q : S → Prop) : Exit → St → Prop
  | .normal, s => retK rs Q s
  | .ret, s => retK rs Q s
  | _, _ => False
theorem Taken.numb {P : Program} {w : World} {ow : Own} {a : Act} {u : Nat} : ∀ {xs : List (Nat × Operand)} {ds : List (Nat × D × Bool)}, Taken P w ow a u xs ds → ∀ (k : Nat) (rs : List Nat), xs = Dv.numb k rs →
    ds.length = rs.length ∧ ∀ (j : Nat) (p : Nat × D × Bool), ds[j]? = some p → ∃ t, rs[j]? = some t ∧ k + j = p.1 ∧ V P w ow p.2.1 [p.1, u] (a.tmps.getD t undef) ∧ (p.2.2 = true → p.2.1.fz = p.2.1)
  | [], [], _, k, rs, hx => by
    cases rs with
    | nil => exact ⟨rfl, fun j p h => by simp at h⟩
    | cons t ts => cases hx
  | (i, x) :: xs, (j, d, b) :: ds, ht, k, rs, hx => by
    cases rs with
    | nil => cases hx
    | cons t ts =>
      simp only [Dv.numb, List.cons.injEq, Prod.mk.injEq] at hx
      obtain ⟨⟨rfl, rfl⟩, rfl⟩ := hx
      obtain ⟨rfl, h1, h2, h3⟩ := ht
      obtain ⟨g1, g2⟩ := Taken.numb h3 _ ts rfl
      refine ⟨by simp [g1], fun m p hm => ?_⟩
      cases m with
      | zero =>
        simp at hm
        subst hm
        exact ⟨t, rfl, rfl, h1, h2⟩
      | succ m =>
        simp at hm
        obtain ⟨t', e1, e2, e3⟩ := g2 m p hm
        exact ⟨t', by simpa using e1, by omega, e3⟩
  | [], _ :: _, ht, _, _, _ => ht.elim
  | _ :: _, [], ht, _, _, _ => ht.elim
def leave (w : World) (ow ow1 : Own) (t : Nat) : Own := fun b => if b < w.heap.size then ow b else match ow1 b with
  | some l => if l.getLast? = some res0 then some (l.dropLast ++ [t]) else none
  | none => none
end Go.Dv

end
section
namespace Go.Dv
open Go.RowKit
variable [Glob]
mutual
def D.allOwn : D → Bool
  | .one _ => true
  | .sl none xs => xs.isEmpty
  | .sl (some _) xs => D.allOwns xs
  | .agg xs => D.allOwns xs
  | .bx o x => o && x.allOwn
  | .any _ => true
def D.allOwns : List D → Bool
  | [] => true
  | x :: xs => x.allOwn && D.allOwns xs
end
def Owned (w : World) (ow : Own) (l : List Nat) (w' : World) (ow' : Own) (l2 : List Nat) : Prop :=
  ∀ b, b < w.heap.size → ∀ q, ow b = some (q ++ l) → w'.heap[b]? = w.heap[b]? ∧ ow' b = some (q ++ l2)
theorem Owned.child {w w' : World} {ow ow' : Own} {l l2 : List Nat} (h : Owned w ow l w' ow' l2) (i : Nat) : Owned w ow (i :: l) w' ow' (i :: l2) := fun b hb q hq => by
  have := h b hb (q ++ [i]) (by simpa using hq)
  simpa using this
mutual
theorem R.owned {P : Program} {w w' : World} {ow ow' : Own} : ∀ {d : D} {l l2 : List Nat} {cs : List Value}, d.allOwn = true → Owned w ow l w' ow' l2 → R P w ow d l cs → R P w' ow' d l2 cs
  | .one v, l, l2, cs, _, _, h => by simpa only [R] using h
  | .sl none xs, l, l2, cs, ha, hk, h => by
    obtain rfl : xs = [] := by simpa [D.allOwn] using ha
    simp only [R] at h ⊢
    obtain ⟨a, cap, h1, h2, h3, _⟩ := h
    exact ⟨a, cap, h1, h2, h3, .inr (.inl (by trivial))⟩
  | .sl (some t0) xs, l, l2, cs, ha, hk, h => by
    simp only [R] at h ⊢
    obtain ⟨a, cap, h1, h2, h3, h4⟩ := h
    refine ⟨a, cap, h1, h2, h3, ?_⟩
    rcases h4 with h4 | h4 | ⟨b, off, s, C, e, fz, hab, hh, hn, hs, hr⟩
    · exact .inl h4
    · exact absurd h4.1 (by simp)
    · obtain ⟨g1, g2⟩ := hk b (lt_of_heap hh) [] (by simpa using (hs t0 rfl).1)
      refine .inr (.inr ⟨b, off, s, C, e, fz, hab, by rw [g1]; exact hh, (fun ho => by cases ho), fun t ht => ⟨by simpa using g2, (hs t ht).2⟩, Rs.owned ?_ hk hr⟩)
      simpa [D.allOwn] using ha
  | .agg xs, l, l2, cs, ha, hk, h => by simp only [R] at h ⊢; exact Ra.owned (by simpa [D.allOwn] using ha) hk h
  | .bx o x, l, l2, cs, ha, hk, h => by
    simp only [D.allOwn, Bool.and_eq_true] at ha
    obtain ⟨rfl, ha⟩ := ha
    simp only [R] at h ⊢
    obtain ⟨b, off, C, e, fz, cs', h1, hh, hn, hs, hl, hc, hr⟩ := h
    obtain ⟨g1, g2⟩ := hk b (lt_of_heap hh) [] (by simpa using (hs trivial).1)
    exact ⟨b, off, C, e, fz, cs', h1, by rw [g1]; exact hh, (fun ho => by cases ho), fun _ => ⟨by simpa using g2, (hs trivial).2⟩, hl, hc, R.owned ha (hk.child 0) hr⟩
  | .any n, l, l2, cs, _, _, h => by simpa only [R] using h
theorem Rs.owned {P : Program} {w w' : World} {ow ow' : Own} : ∀ {xs : List D} {l l2 : List Nat} {i : Nat} {C : Array Value} {off s : Nat}, D.allOwns xs = true → Owned w ow l w' ow' l2 → Rs P w ow xs l i C off s → Rs P w' ow' xs l2 i C off s
  | [], _, _, _, _, _, _, _, _, _ => by simp only [Rs]
  | x :: xs, l, l2, i, C, off, s, ha, hk, h => by
    simp only [D.allOwns, Bool.and_eq_true] at ha
    simp only [Rs] at h ⊢
    obtain ⟨cs, h1, h2, h3, h4, h5⟩ := h
    exact ⟨cs, h1, h2, h3, R.owned ha.1 (hk.child i) h4, Rs.owned ha.2 hk h5⟩
theorem Ra.owned {P : Program} {w w' : World} {ow ow' : Own} : ∀ {xs : List D} {l l2 : List Nat} {i : Nat} {cs : List Value}, D.allOwns xs = true → Owned w ow l w' ow' l2 → Ra P w ow xs l i cs → Ra P w' ow' xs l2 i cs
  | [], _, _, _, _, _, _, h => by simpa only [Ra] using h
  | x :: xs, l, l2, i, cs, ha, hk, h => by
    simp only [D.allOwns, Bool.and_eq_true] at ha
    simp only [Ra] at h ⊢
    obtain ⟨c1, c2, h1, h2, h3, h4⟩ := h
    exact ⟨c1, c2, h1, h2, R.owned ha.1 (hk.child i) h3, Ra.owned ha.2 hk h4⟩
end
theorem V.owned {P : Program} {w w' : World} {ow ow' : Own} {d : D} {l l2 : List Nat} {v : Value} (ha : d.allOwn = true) (hk : Owned w ow l w' ow' l2) (h : V P w ow d l v) : V P w' ow' d l2 v := by
  cases d <;> simp only [V] at h ⊢
  case agg xs => obtain ⟨cs, h1, h2⟩ := h; exact ⟨cs, h1, R.owned ha hk h2⟩
  all_goals exact R.owned ha hk h
def S.closed : S → Bool
  | .un => true
  | .val d => d.fz.allOwn
  | .own d => d.allOwn
  | .tup l => l.all fun x => match x with
    | .val d => d.fz.allOwn
    | .own d => d.allOwn
    | _ => true
  | _ => false
mutual
theorem D.fz_not {P : Program} {w : World} {ow : Own} : ∀ {d : D} {l l2 : List Nat} {cs : List Value} {w' : World} {ow' : Own}, d.fz.allOwn = true → R P w ow d.fz l cs → R P w' ow' d.fz l2 cs
  | .one v, l, l2, cs, w', ow', _, h => by simpa only [R, D.fz] using h
  | .sl o xs, l, l2, cs, w', ow', ha, h => by
    simp only [D.fz, D.allOwn] at ha h ⊢
    have hx : D.fzs xs = [] := by simpa using ha
    rw [hx] at h ⊢
    simp only [R] at h ⊢
    obtain ⟨a, cap, h1, h2, h3, _⟩ := h
    exact ⟨a, cap, h1, h2, h3, .inr (.inl (by trivial))⟩
  | .agg xs, l, l2, cs, w', ow', ha, h => by
    simp only [D.fz, D.allOwn, R] at ha h ⊢
    exact D.fzs_not ha h
  | .bx o x, l, l2, cs, w', ow', ha, h => by simp [D.fz, D.allOwn] at ha
  | .any n, l, l2, cs, w', ow', _, h => by simpa only [R, D.fz] using h
theorem D.fzs_not {P : Program} {w : World} {ow : Own} : ∀ {xs : List D} {l l2 : List Nat} {i : Nat} {cs : List Value} {w' : World} {ow' : Own}, D.allOwns (D.fzs xs) = true → Ra P w ow (D.fzs xs) l i cs → Ra P w' ow' (D.fzs xs) l2 i cs
  | [], l, l2, i, cs, w', ow', _, h => by simpa only [Ra, D.fzs] using h
  | x :: xs, l, l2, i, cs, w', ow', ha, h => by
    simp only [D.fzs, D.allOwns, Bool.and_eq_true, Ra] at ha h ⊢
    obtain ⟨c1, c2, h1, h2, h3, h4⟩ := h
    exact ⟨c1, c2, h1, h2, D.fz_not ha.1 h3, D.fzs_not ha.2 h4⟩
end
theorem D.allOwns_map {α : Type} (f : α → D) : ∀ l : List α, D.allOwns (l.map f) = l.all fun x => (f x).allOwn
  | [] => rfl
  | x :: l => by simp only [List.map_cons, D.allOwns, List.all_cons, D.allOwns_map f l]
theorem D.fzs_mapf {α : Type} (f : α → D) : ∀ l : List α, D.fzs (l.map f) = l.map fun x => (f x).fz
  | [] => rfl
  | x :: l => by simp only [List.map_cons, D.fzs, D.fzs_mapf f l]
theorem V.fz_not {P : Program} {w w' : World} {ow ow' : Own} {d : D} {l l2 : List Nat} {v : Value} (ha : d.fz.allOwn = true) (h : V P w ow d.fz l v) : V P w' ow' d.fz l2 v := by
  cases d with
  | agg xs =>
    simp only [V, D.fz] at h ⊢
    obtain ⟨cs, h1, h2⟩ := h
    refine ⟨cs, h1, ?_⟩
    have := D.fz_not (d := .agg xs) (l2 := l2) (w' := w') (ow' := ow') ha (by simpa only [D.fz] using h2)
    simpa only [D.fz] using this
  | one v => exact h
  | any n => exact h
  | sl o xs => exact D.fz_not (d := .sl o xs) ha h
  | bx o x => exact D.fz_not (d := .bx o x) ha h
theorem SV.closed {P : Program} {w w' : World} {ow ow' : Own} {s s' : St} {a a' : Act} {t : Nat} {r : S} {v : Value} (hc : r.closed = true) (hk : Owned w ow [t] w' ow' [t]) (h : SV P w ow s a t r v) : SV P w' ow' s' a' t r v := by
  cases r with
  | un => trivial
  | val d => exact V.fz_not hc h
  | own d => exact V.owned hc hk h
  | tup l =>
    obtain ⟨vs, h1, h2, h3⟩ := h
    refine ⟨vs, h1, h2, fun k x hx => ?_⟩
    have h4 := h3 k x hx
    have h5 := List.all_eq_true.1 hc x (List.mem_of_getElem? hx)
    cases x with
    | val d => exact V.fz_not h5 h4
    | own d => exact V.owned h5 (hk.child k) h4
    | _ => trivial
  | rp d => cases hc
  | al _ _ => cases hc
  | rf _ _ => cases hc
  | ag _ _ => cases hc
def argK (s : St) : List Operand → (List D → List Nat → Prop) → Prop
  | [], K => K [] []
  | x :: xs, K => match evS s x with
    | .val d => argK s xs fun ds rs => K (d :: ds) rs
    | .rp d => argK s xs fun ds rs => K (.bx false d :: ds) rs
    | .own d => argK s xs fun ds rs => K (d :: ds) (slotOf x :: rs)
    | .al r p => match s r with
      | .own d => match D.sub p d with
        | some m => argK s xs fun ds rs => K (m :: ds) (r :: rs)
        | none => False
      | _ => False
    | .ag r p => match s r with
      | .own d => match D.sub p d with
        | some m => argK s xs fun ds rs => K (m :: ds) (r :: rs)
        | none => False
      | _ => False
    | .rf r p => match s r with
      | .own d => match D.sub p d with
        | some m => argK s xs fun ds rs => K (.bx false m :: ds) (r :: rs)
        | none => False
      | _ => False
    | _ => False
def lend (rs : List Nat) (ow : Own) : Own := fun b => match ow b with
  | some l => if l.getLast?.any rs.contains then none else some l
  | none => none
theorem lend_none {rs : List Nat} {ow : Own} {b : Nat} (h : ow b = none) : lend rs ow b = none := by simp [lend, h]
theorem lend_hit {rs : List Nat} {ow : Own} {b r : Nat} {q : List Nat} (h : ow b = some (q ++ [r])) (hr : r ∈ rs) : lend rs ow b = none := by simp [lend, h, hr]
theorem lend_nil {ow : Own} {b : Nat} : lend [] ow b = ow b := by
  unfold lend
  split
  · rename_i l hl
    rw [if_neg]
    · exact hl.symm
    · cases l.getLast? <;> simp
  · rename_i hl; exact hl.symm
theorem frees_lend {w : World} {ow : Own} {rs : List Nat} {r : Nat} {p : List Nat} (hr : r ∈ rs) : Frees w ow (p ++ [r]) (lend rs ow) := fun b _ => ⟨fun h => lend_none h, fun q hq => lend_hit (q := q ++ p) (by rw [hq]; simp) hr⟩
theorem Fits.argK {P : Program} {n : Nat} {w0 w : World} {ow0 ow : Own} {s : St} {a : Act} (h : Fits P n w0 ow0 ow s a w) : ∀ (xs : List Operand) {K : List D → List Nat → Prop}, Dv.argK s xs K →
    ∃ ds rs, K ds rs ∧ ds.length = xs.length ∧ ∀ rs', (∀ r ∈ rs, r ∈ rs') → ∀ (i : Nat) (d : D), ds[i]? = some d → ∃ x, xs[i]? = some x ∧ V P w (lend rs' ow) d.fz [] (a.eval x)
  | [], K, hk => ⟨[], [], hk, rfl, fun _ _ i d hd => by simp at hd⟩
  | x :: xs, K, hk => by
    have hv := h.eval x
    have go : ∀ (d : D) (rr : List Nat), (∀ rs', (∀ r ∈ rr, r ∈ rs') → V P w (lend rs' ow) d.fz [] (a.eval x)) → (Dv.argK s xs fun ds rs => K (d :: ds) (rr ++ rs)) →
        ∃ ds rs, K ds rs ∧ ds.length = (x :: xs).length ∧ ∀ rs', (∀ r ∈ rs, r ∈ rs') → ∀ (i : Nat) (d : D), ds[i]? = some d → ∃ x', (x :: xs)[i]? = some x' ∧ V P w (lend rs' ow) d.fz [] (a.eval x') := by
      intro d rr hd hK
      obtain ⟨ds, rs, h1, h2, h3⟩ := Fits.argK h xs hK
      refine ⟨d :: ds, rr ++ rs, h1, by simp [h2], fun rs' hrs i d' hd' => ?_⟩
      cases i with
      | zero =>
        simp at hd'
        subst hd'
        exact ⟨x, rfl, hd rs' fun r hr => hrs r (by simp [hr])⟩
      | succ i =>
        simp at hd'
        obtain ⟨x', e1, e2⟩ := h3 rs' (fun r hr => hrs r (by simp [hr])) i d' hd'
        exact ⟨x', by simpa using e1, e2⟩
    have hq : ∀ rs', Quiet w ow w (lend rs' ow) := fun rs' b _ ho => ⟨rfl, lend_none ho⟩
    have ptr : ∀ (d : D) (b off : Nat) (ow' : Own), ow' b = none → Lies P w ow' d.fz [] b off → a.eval x = .pointer (some ⟨b, off, none⟩) → V P w ow' (D.bx false d).fz [] (a.eval x) := by
      intro d b off ow' hn hL he
      obtain ⟨C, e, fz, cs, h4, h5, h6⟩ := hL
      simp only [V, D.fz, R]
      exact ⟨b, off, C, e, fz, cs, by rw [he], h4, fun _ => hn, (fun ho => by cases ho), h6.len, fun j hj => h5 j (by rw [← h6.len]; exact hj), R.trf (fun b _ hb => ⟨rfl, hb⟩) h6⟩
    unfold Dv.argK at hk
    cases hx : evS s x with
    | un => rw [hx] at hk; exact hk.elim
    | tup l => rw [hx] at hk; exact hk.elim
    | val d =>
      rw [hx] at hk hv
      exact go d [] (fun rs' _ => V.trf (hq rs') hv) hk
    | rp d =>
      rw [hx] at hk hv
      obtain ⟨b, off, h1, h2, h3⟩ := hv
      exact go (.bx false d) [] (fun rs' _ => ptr d b off _ (lend_none h2) (h3.trf (hq rs') h2) h1) hk
    | own d =>
      rw [hx] at hk hv
      have hs := slotOf_own hx (.inl rfl)
      have he := slotOf_val h.size h.small hx (.inl rfl)
      have hV := h.slot (slotOf x)
      rw [hs] at hV
      refine go d [slotOf x] (fun rs' hrs => ?_) hk
      rw [he]
      exact V.fz (frees_lend (p := []) (hrs _ (by simp))) hV
    | al r p =>
      rw [hx] at hk hv
      obtain ⟨d, m, hs, hm, hw, h4⟩ := hv
      simp only [hs, hm] at hk
      exact go m [r] (fun rs' hrs => V.fz (frees_lend (p := p.reverse) (hrs _ (by simp))) (al_V h hs hm hw h4)) hk
    | ag r p =>
      rw [hx] at hk hv
      obtain ⟨d, m, hs, hm, hagg, hV⟩ := hv
      simp only [hs, hm] at hk
      exact go m [r] (fun rs' hrs => V.fz (frees_lend (p := p.reverse) (hrs _ (by simp))) hV) hk
    | rf r p =>
      rw [hx] at hk hv
      obtain ⟨d, m, b, off, hs, hm, hl, he⟩ := hv
      simp only [hs, hm] at hk
      have hV := h.slot r
      rw [hs] at hV
      have hR : R P w ow d [r] [aval a r] := by
        cases p with
        | nil => simp [loc] at hl
        | cons k p => exact V.one hV hl
      obtain ⟨hL, hob, _⟩ := hR.at hl hm
      refine go (.bx false m) [r] (fun rs' hrs => ?_) hk
      have hfr := frees_lend (w := w) (ow := ow) (rs := rs') (p := p.reverse) (hrs r (by simp))
      have hnone : lend rs' ow b = none := by
        rcases hob with hob | ⟨q, hob⟩
        · exact lend_none hob
        · exact lend_hit hob (hrs r (by simp))
      refine ptr m b off _ hnone ?_ he
      obtain ⟨C, e, fz, cs, g1, g2, g3⟩ := hL
      exact ⟨C, e, fz, cs, g1, by rw [D.fz_w]; exact g2, R.fz hfr g3⟩
def Enters (P : Program) (f : FuncId) : Prop := ∀ (args : Array Value) (w : World), (callFunc f args).run P w = .ok (.enter f args) w
theorem enters_of {P : Program} {f : FuncId} {fn : Func} (hf : P.funcs[f]? = some fn) (hb : fn.body.isNone = false) (hn : (fn.name == "runtime.NumGoroutine") = false) : Enters P f := by
  intro args w
  unfold callFunc
  simp only [Sem.run_bind]
  have : (program).run P w = .ok P w := rfl
  rw [this]
  simp only [Result.andThen_ok, hf, hn, hb, Bool.false_eq_true, if_false]
  rfl
class Hid1 (α : Type) where
  K : α → Prop
def blk {α : Type} (s : α) [k : Hid1 α] : Prop := k.K s
def callK (P : Program) (f : FuncId) (ds : List D) (rs : List Nat) [k : Hid1 S] : Prop := ∃ Q, FnOk P f ds Q ∧ ∀ r, Q r → (rs = [] ∨ r.closed = true) ∧ k.K r
theorem callK_of {P : Program} {f : FuncId} {ds : List D} {rs : List Nat} {K : S → Prop} {r : S} (h : FnOk P f ds (fun r' => r' = r)) (hc : rs = [] ∨ r.closed = true) (hK : K r) : (callK (k := ⟨K⟩) P f ds rs) := ⟨_, h, fun r' e => by subst e; exact ⟨hc, hK⟩⟩
theorem callK_ex {P : Program} {f : FuncId} {ds : List D} {rs : List Nat} {K : S → Prop} {Q : S → Prop} (h : FnOk P f ds Q) (hK : ∀ r, Q r → (rs = [] ∨ r.closed = true) ∧ K r) : (callK (k := ⟨K⟩) P f ds rs) := ⟨_, h, hK⟩
theorem FnOk.fzs {P : Program} {f : FuncId} {ds ds' : List D} {Q : S → Prop} (h : FnOk P f ds' Q) (he : ds'.map D.fz = ds.map D.fz) : FnOk P f ds Q := by
  intro w ow vs t ht hL h1 h2 h3
  refine h w ow vs t ht hL h1 ?_ ?_
  · have := congrArg List.length he
    simp at this
    omega
  · intro i d hd
    have h4 : (ds'.map D.fz)[i]? = some d.fz := by simp [hd]
    rw [he] at h4
    simp only [List.getElem?_map, Option.map_eq_some_iff] at h4
    obtain ⟨d2, h5, h6⟩ := h4
    rw [← h6]
    exact h3 i d2 h5
theorem FnOk.ofFzs {P : Program} {f : FuncId} {ds : List D} {Q : S → Prop} (h : FnOk P f (D.fzs ds) Q) : FnOk P f ds Q := h.fzs (by rw [D.fzs_map, List.map_map]; congr 1; funext d; exact D.fz_fz d)
def dcall (s : St) (u : Option Nat) (f : FuncId) (P : Program) (args : List Operand) (K : St → Prop) : Prop :=
  argK s args fun ds rs => (callK (k := ⟨fun r => K (s.setd u r)⟩) P f (D.fzs ds) rs)
theorem ok_call {P : Program} {n : Nat} {w0 : World} {ow0 : Own} {o : Oper} {s : St} {K : St → Prop} {f : FuncId} {args : Array Operand} {ts : Array TypeId} (he : Enters P f)
    (ho : o.op = .call { callee := .value (.func f), args := args, argTypes := ts }) (hd : dstOk n o = true) (h : dcall s o.dst f P args.toList K) : Ok P n w0 ow0 o s K := by
  intro a w ⟨ow, hf⟩ next Q' hn
  obtain ⟨ds, rs, ⟨Q, hfn0, hK⟩, hlen, hargs⟩ := hf.argK _ h
  have hfn := hfn0.ofFzs
  have hrun : (execOp a.eval o).run P w = .ok (.enter f (args.map a.eval)) w := by
    unfold execOp
    simp only [ho, resolve, invoke, Act.eval, Deferred.ofValue, Sem.run_bind, Sem.run_pure, Result.andThen_ok]
    have := he (#[] ++ args.map a.eval ++ #[]) w
    simpa using this
  unfold Oper.wp
  rw [hrun]
  simp only [Oper.upon]
  obtain ⟨t, ht, hdt⟩ : ∃ t, t ≠ far0 ∧ ∀ u, o.dst = some u → u = t ∧ u < n := by
    cases hd' : o.dst with
    | none => exact ⟨0, by simp [far0], fun u hu => by cases hu⟩
    | some u =>
      have hu : u < n := by simpa [dstOk, hd'] using hd
      exact ⟨u, fun e => absurd (show far0 < n from e ▸ hu) (Nat.not_lt.2 (Nat.le_trans hf.small (by decide))), fun u' hu' => by obtain rfl := Option.some.inj hu'; exact ⟨rfl, hu⟩⟩
  refine (hfn w (lend rs ow) (args.map a.eval) t ht (hf.laidNow.mono fun b o h1 h2 => ⟨h1, lend_none h2⟩) (fun b hb => lend_none (hf.new b hb)) (by simp [hlen]) (fun i d hi => ?_)).mono ?_
  · obtain ⟨x, h1, h2⟩ := hargs rs (fun _ h => h) i d hi
    have : (args.map a.eval).getD i undef = a.eval x := by
      have : args[i]? = some x := by simpa using h1
      simp [Array.getD_eq_getD_getElem?, this]
    rw [this]; exact h2
  · rintro e w' ⟨v, ow', r, rfl, hQ, haf, hpl, hsv⟩
    obtain ⟨hcl, hKr⟩ := hK r hQ
    simp only
    have hnew2 : ∀ b, w'.heap.size ≤ b → (if b < w.heap.size then ow b else ow' b) = none := by
      intro b hb
      rw [if_neg (by have := haf.size; omega)]
      exact haf.new b hb
    have hg : Fits P n w0 ow0 (fun b => if b < w.heap.size then ow b else ow' b) s a w' := hf.grown haf.os haf.tape haf.output haf.size (fun b hb => ⟨(haf.old b hb).1, if_pos hb⟩) hnew2
    have hres : ∀ s2, SV P w' (fun b => if b < w.heap.size then ow b else ow' b) s2 a t r v := by
      intro s2
      rcases hcl with hcl | hcl
      · subst hcl
        have : (fun b => if b < w.heap.size then ow b else ow' b) = ow' := by
          funext b
          split
          · rename_i hb; rw [(haf.old b hb).2, lend_nil]
          · rfl
        rw [this]
        exact hsv s2 a
      · refine SV.closed hcl (fun b hb q hq => ⟨rfl, ?_⟩) (hsv s2 a)
        by_cases hlt : b < w.heap.size
        · have h1 := (haf.old b hlt).2
          rw [hq] at h1
          simp only [if_pos hlt]
          unfold lend at h1
          split at h1
          · rename_i l hl
            split at h1
            · cases h1
            · rw [hl]; exact h1.symm
          · cases h1
        · simp only [if_neg hlt]; exact hq
    refine hn _ _ _ hKr ?_
    cases hd' : o.dst with
    | none => exact ⟨_, hg⟩
    | some u =>
      obtain ⟨rfl, hu⟩ := hdt u hd'
      exact ⟨_, hg.set hu (hres _)⟩
end Go.Dv

end
section
namespace Go.Dv
open Go.RowKit
def Turns (w : World) (ow : Own) (m : List Nat) (w' : World) (ow' : Own) : Prop := ∀ b, b < w.heap.size → (∀ q, ow b ≠ some (q ++ m)) → w'.heap[b]? = w.heap[b]? ∧ ow' b = ow b
section
variable {P : Program} {w w' : World} {ow ow' : Own}
theorem Turns.sib {m l : List Nat} {i j : Nat} (h : Turns w ow (m ++ i :: l) w' ow') (hj : j ≠ i) : Keeps w ow (j :: l) w' ow' (j :: l) := fun b hb => ⟨fun ho => by
    have := h b hb (fun q hq => by rw [ho] at hq; cases hq)
    exact ⟨this.1, this.2.trans ho⟩, fun q hq => by
    have := h b hb (fun q' hq' => by
      rw [hq] at hq'
      have e : q ++ j :: l = (q' ++ m) ++ i :: l := by simpa using Option.some.inj hq'
      exact hj (suffix_inj e))
    exact ⟨this.1, this.2.trans hq⟩⟩
theorem Lies.keep {d : D} {l : List Nat} {b off : Nat} (h : Lies P w ow d l b off) (hk : Keeps w ow l w' ow' l) (hb : w'.heap[b]? = w.heap[b]?) : Lies P w' ow' d l b off := by
  obtain ⟨C, e, fz, cs, h1, h2, h3⟩ := h
  exact ⟨C, e, fz, cs, by rw [hb]; exact h1, h2, h3.tr hk⟩
theorem R.setKid {m l : List Nat} {i b' off' : Nat} {d x x' : D} {v : Value} (h : R P w ow d l [v]) (hx : Dv.into d i v = some (x, b', off')) (hw : x'.w = x.w) (ht : Turns w ow (m ++ i :: l) w' ow') (hb : ow b' = some l)
    (hup : Lies P w' ow' x' (i :: l) b' off') : R P w' ow' (d.setKid i x') l [v] := by
  have hnot : ∀ q, ow b' ≠ some (q ++ (m ++ i :: l)) := fun q hq => by
    rw [hb] at hq
    exact suffix_absurd (q := q ++ m) (i := i) (l := l) (by simpa using Option.some.inj hq)
  cases d with
  | one u => simp [Dv.into] at hx
  | agg xs => simp [Dv.into] at hx
  | any n => simp [Dv.into] at hx
  | sl o xs =>
    simp only [R] at h
    obtain ⟨a, cap, h1, h2, h3, h4⟩ := h
    obtain rfl := (List.cons.inj h1).1
    rcases h4 with ⟨rfl, rfl, _⟩ | ⟨_, rfl⟩ | ⟨b, off, s, C, e, fz, rfl, hh, hn, hs, hr⟩
    · simp [Dv.into] at hx
    · cases a with
      | none => simp [Dv.into] at hx
      | some ad =>
        obtain ⟨bb, oo, kk⟩ := ad
        cases kk <;> simp [Dv.into] at hx
    · simp only [Dv.into, Option.map_eq_some_iff, Prod.mk.injEq] at hx
      obtain ⟨y, hy, rfl, rfl, rfl⟩ := hx
      have hlt := lt_of_heap hh
      obtain ⟨e1, e2⟩ := ht b hlt hnot
      have hh' : w'.heap[b]? = some (.cells C e fz) := e1.trans hh
      simp only [D.setKid, R]
      refine ⟨_, cap, by simp, by simpa using h2, h3, .inr (.inr ⟨b, off, s, C, e, fz, rfl, hh', fun ho => e2.trans (hn ho), fun t hto => ⟨e2.trans (hs t hto).1, (hs t hto).2⟩, ?_⟩)⟩
      rw [Rs.iff hh']
      intro j z hj
      have hall := (Rs.iff hh).1 hr
      rw [List.getElem?_set] at hj
      by_cases hij : i = j
      · subst hij
        rw [if_pos rfl] at hj
        split at hj
        · obtain rfl := Option.some.inj hj
          obtain ⟨g1, g2⟩ := hall i y hy
          refine ⟨hw.trans g1, ?_⟩
          rw [Nat.zero_add]
          rw [g1] at hup
          exact hup
        · cases hj
      · rw [if_neg hij] at hj
        obtain ⟨g1, g2⟩ := hall j z hj
        rw [Nat.zero_add] at g2 ⊢
        exact ⟨g1, g2.keep (ht.sib (Ne.symm hij)) e1⟩
  | bx o y =>
    simp only [R] at h
    obtain ⟨b, off, C, e, fz, cs', h1, hh, hn, hs, hl, hc, hr⟩ := h
    obtain rfl := (List.cons.inj h1).1
    simp only [Dv.into] at hx
    split at hx
    · rename_i hi
      obtain ⟨rfl, rfl, rfl⟩ : y = x ∧ b = b' ∧ off = off' := by simpa using hx
      have hlt := lt_of_heap hh
      obtain ⟨e1, e2⟩ := ht b hlt hnot
      have hh' : w'.heap[b]? = some (.cells C e fz) := e1.trans hh
      obtain ⟨C', e', fz', cs2, g1, g2, g3⟩ := hup
      rw [hh'] at g1
      obtain ⟨rfl, rfl, rfl⟩ : C = C' ∧ e = e' ∧ fz = fz' := by simpa using g1
      simp only [D.setKid, R]
      subst hi
      refine ⟨b, off, C, e, fz, cs2, rfl, hh', fun ho => e2.trans (hn ho), fun ho => ⟨e2.trans (hs ho).1, (hs ho).2.1, (hs ho).2.2.1, (hs ho).2.2.2.trans hw.symm⟩, g3.len, fun j hj => g2 j (by rw [g3.len] at hj; exact hj), g3⟩
    · cases hx
theorem Lies.turn : ∀ (p : List Nat) {d n n' : D} {l : List Nat} {b off b1 o1 : Nat}, Lies P w ow d l b off → locAt w p d b off = some (b1, o1) → D.sub p d = some n → D.free p d = true → Turns w ow (p.reverse ++ l) w' ow' → n'.w = n.w →
    (∀ q, ow b ≠ some (q ++ (p.reverse ++ l))) → Lies P w' ow' n' (p.reverse ++ l) b1 o1 → Lies P w' ow' (D.upd p d n') l b off
  | [], d, n, n', l, b, off, b1, o1, h, hl, hs, hf, ht, hw, hb, hn => by
    simp only [locAt, Option.some.injEq, Prod.mk.injEq] at hl
    obtain ⟨rfl, rfl⟩ := hl
    simpa [D.upd] using hn
  | i :: p, d, n, n', l, b, off, b1, o1, h, hl, hs, hf, ht, hw, hb, hn => by
    have hrev : (i :: p).reverse ++ l = p.reverse ++ i :: l := by simp
    rw [hrev] at ht hb hn
    have hbb := ht b h.lt hb
    by_cases hd : ∃ xs, d = .agg xs
    · obtain ⟨xs, rfl⟩ := hd
      rw [locAt_agg] at hl
      simp only [D.sub, D.kid] at hs
      simp only [D.free, D.kid, Bool.true_and] at hf
      cases hi : xs[i]? with
      | none => rw [hi] at hl; cases hl
      | some x =>
        rw [hi] at hl hs hf
        simp only at hl hs hf
        have hkid := h.agg_kid hi
        have ih := Lies.turn p hkid hl hs hf ht hw hb hn
        have hxw : (D.upd p x n').w = x.w := D.upd_w p x n' n hs hw
        simp only [D.upd, D.kid, hi, D.setKid]
        refine h.agg_mk (ws_set xs i x _ hi hxw) (fun C e fz hh => ⟨C, hbb.1.trans hh, rfl⟩) fun j y hj => ?_
        rw [ws_take_set xs i x _ hi hxw j]
        rw [List.getElem?_set] at hj
        by_cases hij : i = j
        · subst hij
          rw [if_pos rfl] at hj
          split at hj
          · obtain rfl := Option.some.inj hj
            exact ih
          · cases hj
        · rw [if_neg hij] at hj
          exact (h.agg_kid hj).keep (ht.sib (Ne.symm hij)) hbb.1
    · have hd' : ∀ xs, d ≠ .agg xs := fun xs e => hd ⟨xs, e⟩
      obtain ⟨v, x, b', off', hv, hx, hl'⟩ := locAt_ptr hd' hl
      have hw1 := (into_w hx).1
      obtain ⟨v', hv', hR⟩ := h.cell hw1
      obtain rfl : v = v' := by rw [hv] at hv'; exact Option.some.inj hv'
      obtain ⟨hk, hL, _, hfr⟩ := hR.into hx
      obtain ⟨hf1, hf2⟩ := D.free_parts hk hf
      have hob := hfr hf1
      simp only [D.sub, hk] at hs
      have hnot : ∀ q, ow b' ≠ some (q ++ (p.reverse ++ i :: l)) := fun q hq => by
        rw [hob] at hq
        exact suffix_absurd (q := q ++ p.reverse) (i := i) (l := l) (by simpa using Option.some.inj hq)
      have ih := Lies.turn p hL hl' hs hf2 ht hw hnot hn
      have hxw : (D.upd p x n').w = x.w := D.upd_w p x n' n hs hw
      have hR' := hR.setKid hx hxw ht hob ih
      simp only [D.upd, hk]
      obtain ⟨C, e, fz, cs, g1, g2, g3⟩ := h
      refine ⟨C, e, fz, [v], hbb.1.trans g1, ?_, hR'⟩
      have hlen := hR'.len
      intro j hj
      rw [← hlen] at hj
      obtain rfl : j = 0 := by simpa using hj
      rw [cell_of_row w b off C e fz g1] at hv
      simpa using hv
theorem R.turn {p : List Nat} {d n n' : D} {l : List Nat} {v : Value} {b1 o1 : Nat} (h : R P w ow d l [v]) (hl : loc w p d v = some (b1, o1)) (hs : D.sub p d = some n) (hf : D.free p d = true) (ht : Turns w ow (p.reverse ++ l) w' ow') (hw : n'.w = n.w)
    (hn : Lies P w' ow' n' (p.reverse ++ l) b1 o1) : R P w' ow' (D.upd p d n') l [v] := by
  cases p with
  | nil => simp [loc] at hl
  | cons i p =>
    simp only [loc] at hl
    cases hx : Dv.into d i v with
    | none => rw [hx] at hl; cases hl
    | some r =>
      obtain ⟨x, b', off'⟩ := r
      rw [hx] at hl
      obtain ⟨hk, hL, _, hfr⟩ := h.into hx
      obtain ⟨hf1, hf2⟩ := D.free_parts hk hf
      have hob := hfr hf1
      simp only [D.sub, hk] at hs
      have hrev : (i :: p).reverse ++ l = p.reverse ++ i :: l := by simp
      rw [hrev] at ht hn
      have hnot : ∀ q, ow b' ≠ some (q ++ (p.reverse ++ i :: l)) := fun q hq => by
        rw [hob] at hq
        exact suffix_absurd (q := q ++ p.reverse) (i := i) (l := l) (by simpa using Option.some.inj hq)
      have ih := Lies.turn p hL hl hs hf2 ht hw hnot hn
      simp only [D.upd, hk]
      exact h.setKid hx (D.upd_w p x n' n hs hw) ht hob ih
theorem R.at_out {p : List Nat} {d n : D} {l : List Nat} {v : Value} {b1 o1 : Nat} (h : R P w ow d l [v]) (hl : loc w p d v = some (b1, o1)) (hs : D.sub p d = some n) (hf : D.free p d = true) : ∀ q, ow b1 ≠ some (q ++ (p.reverse ++ l)) := by
  have key : ∀ (p : List Nat) {d n : D} {l : List Nat} {b off b1 o1 : Nat}, Lies P w ow d l b off → locAt w p d b off = some (b1, o1) → D.sub p d = some n → D.free p d = true → (∀ q, ow b ≠ some (q ++ (p.reverse ++ l))) → ∀ q, ow b1 ≠ some (q ++ (p.reverse ++ l)) := by
    intro p
    induction p with
    | nil =>
      intro d n l b off b1 o1 h hl hs hf hb
      simp only [locAt, Option.some.injEq, Prod.mk.injEq] at hl
      obtain ⟨rfl, rfl⟩ := hl
      exact hb
    | cons i p ih =>
      intro d n l b off b1 o1 h hl hs hf hb
      have hrev : (i :: p).reverse ++ l = p.reverse ++ i :: l := by simp
      rw [hrev] at hb ⊢
      by_cases hd : ∃ xs, d = .agg xs
      · obtain ⟨xs, rfl⟩ := hd
        rw [locAt_agg] at hl
        simp only [D.sub, D.kid] at hs
        simp only [D.free, D.kid, Bool.true_and] at hf
        cases hi : xs[i]? with
        | none => rw [hi] at hl; cases hl
        | some x =>
          rw [hi] at hl hs hf
          exact ih (h.agg_kid hi) hl hs hf hb
      · have hd' : ∀ xs, d ≠ .agg xs := fun xs e => hd ⟨xs, e⟩
        obtain ⟨v, x, b', off', hv, hx, hl'⟩ := locAt_ptr hd' hl
        have hw1 := (into_w hx).1
        obtain ⟨v', hv', hR⟩ := h.cell hw1
        obtain rfl : v = v' := by rw [hv] at hv'; exact Option.some.inj hv'
        obtain ⟨hk, hL, _, hfr⟩ := hR.into hx
        obtain ⟨hf1, hf2⟩ := D.free_parts hk hf
        have hob := hfr hf1
        simp only [D.sub, hk] at hs
        exact ih hL hl' hs hf2 fun q hq => by
          rw [hob] at hq
          exact suffix_absurd (q := q ++ p.reverse) (i := i) (l := l) (by simpa using Option.some.inj hq)
  cases p with
  | nil => simp [loc] at hl
  | cons i p =>
    simp only [loc] at hl
    cases hx : Dv.into d i v with
    | none => rw [hx] at hl; cases hl
    | some r =>
      obtain ⟨x, b', off'⟩ := r
      rw [hx] at hl
      obtain ⟨hk, hL, _, hfr⟩ := h.into hx
      obtain ⟨hf1, hf2⟩ := D.free_parts hk hf
      have hob := hfr hf1
      simp only [D.sub, hk] at hs
      have hrev : (i :: p).reverse ++ l = p.reverse ++ i :: l := by simp
      rw [hrev]
      exact key p hL hl hs hf2 fun q hq => by
        rw [hob] at hq
        exact suffix_absurd (q := q ++ p.reverse) (i := i) (l := l) (by simpa using Option.some.inj hq)
end
end Go.Dv

end
section
namespace Go.Dv
open Go.RowKit
variable [Glob]
def FnMu (P : Program) (f : FuncId) (ds : List D) (m : Nat) (dm : D) (Q : S → D → Prop) : Prop :=
  ∀ (w : World) (ow : Own) (vs : Array Value) (t : Nat) (l : List Nat), t ≠ far0 → Laid w ow → (∀ b, w.heap.size ≤ b → ow b = none) → vs.size = ds.length → m < ds.length → (∀ (i : Nat) (d : D), ds[i]? = some d → i ≠ m → V P w ow d.fz [] (vs.getD i undef)) → V P w ow dm l (vs.getD m undef) →
    Calls P f vs w fun e w' => ∃ v ow' r dm', e = .returned v ∧ Q r dm' ∧ w'.os = w.os ∧ w'.tape = w.tape ∧ w'.output = w.output ∧ w.heap.size ≤ w'.heap.size ∧
      (∀ b, b < w.heap.size → (∀ q, ow b ≠ some (q ++ l)) → w'.heap[b]? = w.heap[b]? ∧ ow' b = ow b) ∧ (∀ b, w'.heap.size ≤ b → ow' b = none) ∧ V P w' ow' dm' l (vs.getD m undef) ∧ S.plain r = true ∧ ∀ s a, SV P w' ow' s a t r v
def callMK (P : Program) (f : FuncId) (ds : List D) (m : Nat) (d : D) (rs : List Nat) [k : Hid1 (S × D)] : Prop := rs = [] ∧ ∃ Q, FnMu P f ds m d Q ∧ ∀ res d', Q res d' → k.K (res, d')
theorem callMK_of {P : Program} {f : FuncId} {ds : List D} {m : Nat} {d : D} {rs : List Nat} {K : S × D → Prop} {Q : S → D → Prop} (hr : rs = []) (h : FnMu P f ds m d Q) (hK : ∀ res d', Q res d' → K (res, d')) : (callMK (k := ⟨K⟩) P f ds m d rs) := ⟨hr, Q, h, hK⟩
def S.rootP : S → Option Nat
  | .al t (_ :: _) => some t
  | .al _ [] => none
  | .rf t _ => some t
  | .ag t _ => some t
  | .un => none
  | .val _ => none
  | .rp _ => none
  | .own _ => none
  | .tup _ => none
def St.killP (s : St) (t : Nat) : St := fun j => if j = t then .un else if (s j).rootP = some t then .un else s j
theorem killP_at (s : St) (t i : Nat) (hi : i ≠ t) : (s.killP t) i = .un ∨ ((s.killP t) i = s i ∧ ((s i).root ≠ some t ∨ s i = .al t [])) := by
  simp only [St.killP, if_neg hi]
  by_cases h : (s i).rootP = some t
  · simp [h]
  · right
    rw [if_neg h]
    refine ⟨rfl, ?_⟩
    cases hs : s i
    case al r p =>
      rw [hs] at h
      cases p with
      | nil =>
        by_cases hr : r = t
        · subst hr; exact .inr rfl
        · exact .inl (by simpa [S.root] using hr)
      | cons a p => exact .inl (by simpa [S.rootP, S.root] using h)
    all_goals (rw [hs] at h; refine .inl ?_; revert h; simp [S.rootP, S.root])
theorem killP_own {s : St} {t i : Nat} (h : (s i).isOwn = true) (hi : i ≠ t) : (s.killP t) i = s i := by
  cases hs : s i <;> rw [hs] at h <;> simp [S.isOwn] at h
  simp [St.killP, hi, hs, S.rootP]
theorem ok_callM {P : Program} {n : Nat} {w0 : World} {ow0 : Own} {o : Oper} {s : St} {K : St → Prop} {f : FuncId} {args : Array Operand} {ts : Array TypeId} {m r : Nat} {d : D} {x : Operand} (he : Enters P f)
    (ho : o.op = .call { callee := .value (.func f), args := args, argTypes := ts }) (hd : dstOk n o = true) (hx : args[m]? = some x) (hxe : evS s x = .al r []) (hs : s r = .own d)
    (h : argK s (args.toList.set m (.const (.bool false))) fun ds rs => (callMK (k := ⟨fun y => o.dst ≠ some r ∧ (y.2.isAgg = false ∧ y.2.w = 1) ∧ K (((s.killP r).put r (.own y.2)).setd o.dst y.1)⟩) P f ds m d rs)) : Ok P n w0 ow0 o s K := by
  intro a w ⟨ow, hf⟩ next Q' hn
  obtain ⟨ds, rs, ⟨hrs, Q, hfn, hK⟩, hlen, hargs⟩ := hf.argK _ h
  subst hrs
  have hlow : lend [] ow = ow := by funext b; exact lend_nil
  have hrun : (execOp a.eval o).run P w = .ok (.enter f (args.map a.eval)) w := by
    unfold execOp
    simp only [ho, resolve, invoke, Act.eval, Deferred.ofValue, Sem.run_bind, Sem.run_pure, Result.andThen_ok]
    have := he (#[] ++ args.map a.eval ++ #[]) w
    simpa using this
  have hrf : r ≠ far0 := fun e => by have := hf.far; rw [← e, hs] at this; cases this
  have hval : a.eval x = aval a r := by
    have hv := hf.eval x
    rw [hxe] at hv
    obtain ⟨_, _, _, _, _, h4⟩ := hv
    rcases h4 with ⟨_, h4⟩ | ⟨b, off, h4, _⟩
    · exact h4
    · simp [loc] at h4
  have hV := hf.slot r
  rw [hs] at hV
  have hmlt : m < args.size := (Array.getElem?_eq_some_iff.1 hx).1
  have hdl : ds.length = args.size := by rw [hlen]; simp
  have hvm : (args.map a.eval).getD m undef = aval a r := by
    simp [Array.getD_eq_getD_getElem?, hx, hval]
  unfold Oper.wp
  rw [hrun]
  simp only [Oper.upon]
  obtain ⟨t, ht, hdt⟩ : ∃ t, t ≠ far0 ∧ ∀ u, o.dst = some u → u = t ∧ u < n := by
    cases hd' : o.dst with
    | none => exact ⟨0, by simp [far0], fun u hu => by cases hu⟩
    | some u =>
      have hu : u < n := by simpa [dstOk, hd'] using hd
      exact ⟨u, fun e => absurd (show far0 < n from e ▸ hu) (Nat.not_lt.2 (Nat.le_trans hf.small (by decide))), fun u' hu' => by obtain rfl := Option.some.inj hu'; exact ⟨rfl, hu⟩⟩
  refine (hfn w ow (args.map a.eval) t [r] ht hf.laidNow hf.new (by simp [hdl]) (by omega) (fun i d' hi him => ?_) (by rw [hvm]; exact hV)).mono ?_
  · obtain ⟨y, h1, h2⟩ := hargs [] (fun _ h => h) i d' hi
    rw [hlow] at h2
    rw [List.getElem?_set_ne (Ne.symm him)] at h1
    have : (args.map a.eval).getD i undef = a.eval y := by
      have : args[i]? = some y := by simpa using h1
      simp [Array.getD_eq_getD_getElem?, this]
    rw [this]; exact h2
  · rintro e w' ⟨v, ow', res, d2, rfl, hQ, g1, g2, g3, g4, g5, g6, g7, hpl, hsv⟩
    obtain ⟨hdr, ⟨ha2, hw2⟩, hKr⟩ := hK res d2 hQ
    rw [hvm] at g7
    simp only at hKr ⊢
    have hnot : ∀ b j, j ≠ r → ∀ q, ow b = some (q ++ [j]) → ∀ q', ow b ≠ some (q' ++ [r]) := fun b j hj q hq q' e => by
      rw [hq] at e
      have := congrArg List.getLast? (Option.some.inj e)
      simp at this
      exact hj this
    have hg : Fits P n w0 ow0 ow' ((s.killP r).put r (.own d2)) a w' := by
      refine hf.change hf.nodef hf.size g1 g2 g3 g4 (fun b hb ho => ?_) g6 (fun j => j = r ∨ s j = .al r []) ?_ ?_ ?_ (fun e => by rcases e with e | e; (exact hrf e.symm); (have := hf.far; rw [e] at this; cases this))
      · obtain ⟨e1, e2⟩ := g5 b hb (fun q e => by rw [ho] at e; cases e)
        exact ⟨e1, e2.trans ho⟩
      · intro j hj b hb q hq
        obtain ⟨e1, e2⟩ := g5 b hb (hnot b j (fun e => hj (.inl e)) q hq)
        exact ⟨e1, e2.trans hq⟩
      · intro i hi
        refine ⟨rfl, ?_⟩
        have hir : i ≠ r := fun e => hi (.inl e)
        have hp : ((s.killP r).put r (.own d2)) i = (s.killP r) i := by simp [St.put, hir]
        rw [hp]
        rcases killP_at s r i hir with h1 | ⟨h1, h2⟩
        · exact .inl h1
        · right
          have h2 := h2.resolve_right fun e => hi (.inr e)
          refine ⟨h1, fun j hj => ?_⟩
          have hjr : j ≠ r := by rintro rfl; exact h2 hj
          have ho := (hf.slot i).root hj
          exact ⟨fun e => by rcases e with e | e; (exact hjr e); (rw [e] at ho; cases ho), by simp [St.put, hjr, killP_own ho hjr]⟩
      · rintro i (rfl | hi)
        · simp only [St.put, if_true, SV]
          exact g7
        · have hir : i ≠ r := by rintro rfl; rw [hs] at hi; cases hi
          have hp : ((s.killP r).put r (.own d2)) i = .al r [] := by simp [St.put, hir, St.killP, hi, S.rootP]
          rw [hp]
          have hv := hf.slot i
          rw [hi] at hv
          simp only [SV] at hv ⊢
          obtain ⟨_, _, _, _, _, h4⟩ := hv
          refine ⟨d2, d2, by simp [St.put], rfl, ⟨hw2, ha2, by simp⟩, ?_⟩
          rcases h4 with h4 | ⟨b, off, h4, _⟩
          · exact .inl h4
          · simp [loc] at h4
    refine hn _ _ _ hKr ?_
    cases hd' : o.dst with
    | none => exact ⟨_, hg⟩
    | some u =>
      obtain ⟨rfl, hu⟩ := hdt u hd'
      exact ⟨_, hg.set hu (hsv _ a)⟩
theorem ok_callMn {P : Program} {n : Nat} {w0 : World} {ow0 : Own} {o : Oper} {s : St} {K : St → Prop} {f : FuncId} {args : Array Operand} {ts : Array TypeId} {m r : Nat} {p : List Nat} {d nd : D} {x : Operand} (he : Enters P f)
    (ho : o.op = .call { callee := .value (.func f), args := args, argTypes := ts }) (hd : dstOk n o = true) (hx : args[m]? = some x) (hxe : evS s x = .al r p) (hp : p ≠ []) (hs : s r = .own d) (hnd : D.sub p d = some nd) (hfr : D.free p d = true)
    (h : argK s (args.toList.set m (.const (.bool false))) fun ds rs => (callMK (k := ⟨fun y => o.dst ≠ some r ∧ (y.2.isAgg = false ∧ y.2.w = 1) ∧ K (((s.kill r).put r (.own (D.upd p d y.2))).setd o.dst y.1)⟩) P f ds m nd rs)) : Ok P n w0 ow0 o s K := by
  intro a w ⟨ow, hf⟩ next Q' hn
  obtain ⟨ds, rs, ⟨hrs, Q, hfn, hK⟩, hlen, hargs⟩ := hf.argK _ h
  subst hrs
  have hlow : lend [] ow = ow := by funext b; exact lend_nil
  have hrun : (execOp a.eval o).run P w = .ok (.enter f (args.map a.eval)) w := by
    unfold execOp
    simp only [ho, resolve, invoke, Act.eval, Deferred.ofValue, Sem.run_bind, Sem.run_pure, Result.andThen_ok]
    have := he (#[] ++ args.map a.eval ++ #[]) w
    simpa using this
  have hrf : r ≠ far0 := fun e => by have := hf.far; rw [← e, hs] at this; cases this
  have hv := hf.eval x
  rw [hxe] at hv
  obtain ⟨d1, n1, e1, e2, e3, h4⟩ := hv
  rw [hs] at e1
  obtain rfl : d = d1 := by injection e1
  rw [hnd] at e2
  obtain rfl : nd = n1 := Option.some.inj e2
  obtain ⟨hw1, hna, hh⟩ := e3
  have hh := hh.resolve_left hp
  obtain ⟨b, off, hloc, hcell⟩ := h4.resolve_left (fun h => hp h.1)
  have hVr := hf.slot r
  rw [hs] at hVr
  have hR : R P w ow d [r] [aval a r] := by
    cases p with
    | nil => exact absurd rfl hp
    | cons k p => exact V.one hVr hloc
  obtain ⟨hL, _, _⟩ := hR.at hloc hnd
  obtain ⟨v', hv', hRn⟩ := hL.cell hw1
  rw [hcell] at hv'
  obtain rfl : a.eval x = v' := Option.some.inj hv'
  have hV : V P w ow nd (p.reverse ++ [r]) (a.eval x) := by
    cases nd with
    | agg xs => cases hna
    | _ => exact hRn
  have hmlt : m < args.size := (Array.getElem?_eq_some_iff.1 hx).1
  have hdl : ds.length = args.size := by rw [hlen]; simp
  have hvm : (args.map a.eval).getD m undef = a.eval x := by
    simp [Array.getD_eq_getD_getElem?, hx]
  unfold Oper.wp
  rw [hrun]
  simp only [Oper.upon]
  obtain ⟨t, ht, hdt⟩ : ∃ t, t ≠ far0 ∧ ∀ u, o.dst = some u → u = t ∧ u < n := by
    cases hd' : o.dst with
    | none => exact ⟨0, by simp [far0], fun u hu => by cases hu⟩
    | some u =>
      have hu : u < n := by simpa [dstOk, hd'] using hd
      exact ⟨u, fun e => absurd (show far0 < n from e ▸ hu) (Nat.not_lt.2 (Nat.le_trans hf.small (by decide))), fun u' hu' => by obtain rfl := Option.some.inj hu'; exact ⟨rfl, hu⟩⟩
  refine (hfn w ow (args.map a.eval) t (p.reverse ++ [r]) ht hf.laidNow hf.new (by simp [hdl]) (by omega) (fun i d' hi him => ?_) (by rw [hvm]; exact hV)).mono ?_
  · obtain ⟨y, h1, h2⟩ := hargs [] (fun _ h => h) i d' hi
    rw [hlow] at h2
    rw [List.getElem?_set_ne (Ne.symm him)] at h1
    have : (args.map a.eval).getD i undef = a.eval y := by
      have : args[i]? = some y := by simpa using h1
      simp [Array.getD_eq_getD_getElem?, this]
    rw [this]; exact h2
  · rintro e w' ⟨v, ow', res, d2, rfl, hQ, g1, g2, g3, g4, g5, g6, g7, hpl, hsv⟩
    obtain ⟨hdr, ⟨ha2, hw2⟩, hKr⟩ := hK res d2 hQ
    rw [hvm] at g7
    simp only at hKr ⊢
    have hnot : ∀ b j, j ≠ r → ∀ q, ow b = some (q ++ [j]) → ∀ q', ow b ≠ some (q' ++ (p.reverse ++ [r])) := fun b j hj q hq q' e => by
      rw [hq] at e
      have := congrArg List.getLast? (Option.some.inj e)
      simp at this
      exact hj this
    have hturn : Turns w ow (p.reverse ++ [r]) w' ow' := g5
    have hb1 := hR.at_out hloc hnd hfr
    have hbb := hturn b hL.lt hb1
    have hL2 : Lies P w' ow' d2 (p.reverse ++ [r]) b off := by
      obtain ⟨C, e, fz, cs, k1, k2, k3⟩ := hL
      refine ⟨C, e, fz, [a.eval x], hbb.1.trans k1, ?_, ?_⟩
      · intro j hj
        rw [hw2] at hj
        obtain rfl : j = 0 := by omega
        rw [cell_of_row w b off C e fz k1] at hcell
        simpa using hcell
      · cases d2 with
        | agg xs => cases ha2
        | _ => exact g7
    have hR2 := hR.turn hloc hnd hfr hturn (hw2.trans hw1.symm) hL2
    have hV2 : V P w' ow' (D.upd p d d2) [r] (aval a r) := by
      cases p with
      | nil => exact absurd rfl hp
      | cons i p =>
        have hda : ∀ xs, d ≠ .agg xs := fun xs e => by
          subst e
          simp [loc, Dv.into] at hloc
        have hne := upd_ne_agg (i := i) (p := p) (n := d2) hda
        cases hu : D.upd (i :: p) d d2 with
        | agg xs => exact absurd hu (hne xs)
        | _ => rw [hu] at hR2; exact hR2
    have hg : Fits P n w0 ow0 ow' ((s.kill r).put r (.own (D.upd p d d2))) a w' := by
      refine hf.change hf.nodef hf.size g1 g2 g3 g4 (fun b hb ho => ?_) g6 (fun j => j = r) ?_ ?_ ?_ (fun e => hrf e.symm)
      · obtain ⟨e1, e2⟩ := g5 b hb (fun q e => by rw [ho] at e; cases e)
        exact ⟨e1, e2.trans ho⟩
      · intro j hj b hb q hq
        obtain ⟨e1, e2⟩ := g5 b hb (hnot b j hj q hq)
        exact ⟨e1, e2.trans hq⟩
      · intro i hi
        refine ⟨rfl, ?_⟩
        have hp : ((s.kill r).put r (.own (D.upd p d d2))) i = (s.kill r) i := by simp [St.put, show i ≠ r from hi]
        rw [hp]
        rcases kill_at s r i with h1 | ⟨h1, _, h2⟩
        · exact .inl h1
        · right
          refine ⟨h1, fun j hj => ?_⟩
          have hjr : j ≠ r := by rintro rfl; exact h2 hj
          exact ⟨hjr, by simp [St.put, hjr, kill_own ((hf.slot i).root hj) hjr]⟩
      · rintro i rfl
        simp only [St.put, if_true, SV]
        exact hV2
    refine hn _ _ _ hKr ?_
    cases hd' : o.dst with
    | none => exact ⟨_, hg⟩
    | some u =>
      obtain ⟨rfl, hu⟩ := hdt u hd'
      exact ⟨_, hg.set hu (hsv _ a)⟩
def dcallM (s : St) (dst : Option Nat) (f : FuncId) (P : Program) (m : Nat) (args : List Operand) (K : St → Prop) : Prop := match args[m]? with
  | some x => match evS s x with
    | .al r [] => match s r with
      | .own d => argK s (args.set m (.const (.bool false))) fun ds rs => (callMK (k := ⟨fun y => dst ≠ some r ∧ (y.2.isAgg = false ∧ y.2.w = 1) ∧ K (((s.killP r).put r (.own y.2)).setd dst y.1)⟩) P f ds m d rs)
      | _ => False
    | .al r (i :: p) => match s r with
      | .own d => D.free (i :: p) d = true ∧ (match D.sub (i :: p) d with
        | some nd => argK s (args.set m (.const (.bool false))) fun ds rs => (callMK (k := ⟨fun y => dst ≠ some r ∧ (y.2.isAgg = false ∧ y.2.w = 1) ∧ K (((s.kill r).put r (.own (D.upd (i :: p) d y.2))).setd dst y.1)⟩) P f ds m nd rs)
        | none => False)
      | _ => False
    | _ => False
  | none => False
theorem ok_dcallM {P : Program} {n : Nat} {w0 : World} {ow0 : Own} {o : Oper} {s : St} {K : St → Prop} {f : FuncId} {args : Array Operand} {ts : Array TypeId} {m : Nat} (he : Enters P f)
    (ho : o.op = .call { callee := .value (.func f), args := args, argTypes := ts }) (hd : dstOk n o = true) (h : dcallM s o.dst f P m args.toList K) : Ok P n w0 ow0 o s K := by
  unfold dcallM at h
  split at h
  · rename_i x hx
    split at h
    · rename_i r hxe
      split at h
      · rename_i d hs
        exact ok_callM he ho hd (by simpa using hx) hxe hs h
      · exact h.elim
    · rename_i r i p hxe
      split at h
      · rename_i d hs
        obtain ⟨hfr, h⟩ := h
        split at h
        · rename_i nd hnd
          exact ok_callMn he ho hd (by simpa using hx) hxe (by simp) hs hnd hfr h
        · exact h.elim
      · exact h.elim
    · exact h.elim
  · exact h.elim
end Go.Dv

end
section
namespace Go.Dv
open Go.RowKit
variable [Glob]
def lst : List (Nat × S) → St
  | [] => fun _ => .un
  | (i, x) :: L => (lst L).put i x
inductive Less (x' : S) : S → Prop where
  | un : Less x' .un
  | same : Less x' x'
theorem nil_own {P : Program} {w : World} {ow : Own} {e : TypeId} {l : List Nat} : V P w ow (.sl (some e) []) l (.slice none 0 0) := by
  simp only [V, R]
  exact ⟨none, 0, rfl, Nat.le_refl _, by simp [maxLen], .inl ⟨rfl, trivial, rfl⟩⟩
def lessK (s' : St) (L : St) (i : Nat) (x : S) : Prop :=
  (x = .un) ∨ (s' i = x ∧ match x.root with | some j => L j = s' j | none => True) ∨ (s' i = .val (.one (.slice none 0 0)) ∧ ∃ e, x = .own (.sl (some e) []))
theorem tells_of {P : Program} {n : Nat} {s' s : St} (h : ∀ i, lessK s' s i (s i)) : Tells P n s' s := by
  intro w0 ow0 a w ⟨ow, hf⟩
  refine ⟨ow, hf.nodef, hf.size, hf.small, hf.laid, hf.bel, hf.own, hf.new, ?_, hf.keep, fun i => ?_⟩
  · rcases h far0 with h | ⟨h, _⟩ | ⟨h, _⟩
    · exact h
    · rw [← h, hf.far]
    · rw [hf.far] at h; cases h
  · have hi := hf.slot i
    rcases h i with h1 | ⟨h1, h2⟩ | ⟨h1, e, h2⟩
    · rw [h1]; trivial
    · rw [h1] at hi
      refine hi.cong fun j hj => ⟨?_, rfl⟩
      rw [hj] at h2
      exact h2
    · rw [h1] at hi
      rw [h2]
      simp only [SV, V, D.fz, R] at hi
      have : aval a i = .slice none 0 0 := by simpa using hi.1
      rw [this]
      exact nil_own
theorem lst_un {L : List (Nat × S)} {i : Nat} (h : i ∉ L.map Prod.fst) : lst L i = .un := by
  induction L with
  | nil => rfl
  | cons p L ih =>
    obtain ⟨j, x⟩ := p
    simp only [List.map_cons, List.mem_cons, not_or] at h
    simp only [lst, St.put, if_neg h.1]
    exact ih h.2
def lessL (s' : St) (L : List (Nat × S)) : List (Nat × S) → Prop
  | [] => True
  | (i, x) :: r => lessK s' (lst L) i x ∧ lessL s' L r
theorem tells_lst {P : Program} {n : Nat} {s' : St} {L : List (Nat × S)} (h : lessL s' L L) : Tells P n s' (lst L) := by
  refine tells_of fun i => ?_
  have key : ∀ (M : List (Nat × S)), lessL s' L M → lst M i = .un ∨ lessK s' (lst L) i (lst M i) := by
    intro M
    induction M with
    | nil => intro _; exact .inl rfl
    | cons p M ih =>
      obtain ⟨j, x⟩ := p
      rintro ⟨h1, h2⟩
      simp only [lst, St.put]
      split
      · rename_i hij; subst hij; exact .inr h1
      · exact ih h2
  rcases key L h with h | h
  · exact .inl h
  · exact h
def St.cool (s : St) (t : Nat) : St := match s t with
  | .own d => (s.kill t).put t (.val d.fz)
  | _ => s
theorem Fits.cool {P : Program} {n : Nat} {w0 w : World} {ow0 ow : Own} {s : St} {a : Act} (h : Fits P n w0 ow0 ow s a w) (t : Nat) : ∃ ow', Fits P n w0 ow0 ow' (s.cool t) a w := by
  unfold St.cool
  split
  · rename_i d hd
    refine ⟨lend [t] ow, ?_⟩
    have hV := h.slot t
    rw [hd] at hV
    refine h.change h.nodef h.size rfl rfl rfl (Nat.le_refl _) (fun b _ ho => ⟨rfl, lend_none ho⟩) (fun b hb => lend_none (h.new b hb)) (fun j => j = t) ?_ ?_ ?_ (fun e => by have h9 := h.far; rw [show far0 = t from e, hd] at h9; cases h9)
    · intro j hj b _ q hq
      refine ⟨rfl, ?_⟩
      simp only [lend, hq]
      rw [if_neg]
      have : ¬ j = t := hj
      simp [this]
    · intro i hi
      refine ⟨rfl, ?_⟩
      have hp : ((s.kill t).put t (.val d.fz)) i = (s.kill t) i := by simp [St.put, show i ≠ t from hi]
      rw [hp]
      rcases kill_at s t i with h1 | ⟨h1, _, h2⟩
      · exact .inl h1
      · right
        refine ⟨h1, fun j hj => ?_⟩
        have hjt : j ≠ t := by rintro rfl; exact h2 hj
        exact ⟨hjt, by simp [St.put, hjt, kill_own ((h.slot i).root hj) hjt]⟩
    · rintro i rfl
      simp only [St.put, if_true, SV, D.fz_fz]
      exact V.fz (frees_lend (p := []) (by simp)) hV
  · exact ⟨ow, h⟩
theorem tells_cool {P : Program} {n : Nat} {s : St} (t : Nat) : Tells P n s (s.cool t) := fun w0 ow0 a w ⟨ow, hf⟩ => hf.cool t
def St.cools (s : St) : List Nat → St
  | [] => s
  | t :: ts => (s.cool t).cools ts
theorem tells_cools {P : Program} {n : Nat} : ∀ (ts : List Nat) {s : St}, Tells P n s (s.cools ts)
  | [], s => Tells.refl s
  | t :: ts, s => (tells_cool t).trans (tells_cools ts)
theorem tells_list {P : Program} {n : Nat} {s' : St} {L : List (Nat × S)} (ts : List Nat) (h : lessL (s'.cools ts) L L) : Tells P n s' (lst L) := (tells_cools ts).trans (tells_lst h)
def dextract (u r k : Nat) (s : St) (K : St → Prop) : Prop := u ≠ r ∧ match s r with
  | .tup l => match l[k]? with
    | some (.val d) => K (s.set u (.val d))
    | some (.own d) => K ((s.put r (.tup (l.set k .un))).set u (.own d))
    | _ => False
  | _ => False
theorem ok_extract {P : Program} {n : Nat} {w0 : World} {ow0 : Own} {o : Oper} {s : St} {K : St → Prop} {r k u : Nat} (ho : o.op = .extract (.tmp r) k) (hd : o.dst = some u) (hu : u < n) (hr6 : r < 1000000) (h : dextract u r k s K) : Ok P n w0 ow0 o s K := by
  refine ok_value fun a w ow hf => ?_
  obtain ⟨hur, h⟩ := h
  have hr := hf.slot r
  split at h
  · rename_i l hl
    rw [hl] at hr
    obtain ⟨vs, h1, h2, h3⟩ := hr
    have he : a.eval (.tmp r) = .tuple vs := by
      rw [← h1]; unfold aval Act.eval; rw [if_pos hr6]
    have run : ∀ (_ : k < vs.size), (execOp a.eval o).run P w = .ok (.value (vs.getD k undef)) w := by
      intro hk
      unfold execOp
      simp only [ho, he, Instr.extract, Sem.run_bind]
      have : vs[k]? = some (vs.getD k undef) := by simp [Array.getD_eq_getD_getElem?, hk]
      rw [this]
      rfl
    have hlt : ∀ x, l[k]? = some x → k < vs.size := fun x hx => by rw [h2]; exact (List.getElem?_eq_some_iff.1 hx).1
    split at h
    · rename_i d hk
      refine ⟨_, w, run (hlt _ hk), _, h, ow, ?_⟩
      rw [hd]
      exact hf.set hu (h3 k _ hk)
    · rename_i d hk
      have hV := h3 k _ hk
      simp only at hV
      have hfar : r ≠ far0 := fun e => by have := hf.far; rw [← e, hl] at this; cases this
      have hf2 : Fits P n w0 ow0 (relabS [k, r] [u] ow) (s.put r (.tup (l.set k .un))) a w := by
        refine hf.change hf.nodef hf.size rfl rfl rfl (Nat.le_refl _) (fun b _ ho => ⟨rfl, relabS_none ho⟩) (fun b hb => relabS_none (hf.new b hb)) (fun j => j = r) ?_ ?_ ?_ (fun e => hfar e.symm)
        · intro j hj b _ q hq
          refine ⟨rfl, relabS_miss hq fun q' hq' => hj ?_⟩
          have := congrArg List.getLast? hq'
          simpa using this
        · intro i hi
          refine ⟨rfl, .inr ⟨by simp [St.put, show i ≠ r from hi], fun j hj => ?_⟩⟩
          have hjr : j ≠ r := by
            rintro rfl
            have := (hf.slot i).root hj
            rw [hl] at this; cases this
          exact ⟨hjr, by simp [St.put, hjr]⟩
        · rintro i rfl
          simp only [St.put, if_true]
          refine ⟨vs, h1, by simp [h2], fun k' x hx => ?_⟩
          by_cases hkk : k' = k
          · subst hkk
            have : x = .un := by
              rw [List.getElem?_set] at hx
              simp only [if_true] at hx
              split at hx
              · exact (Option.some.inj hx).symm
              · cases hx
            subst this
            trivial
          · rw [List.getElem?_set_ne (Ne.symm hkk)] at hx
            have h4 := h3 k' x hx
            cases x with
            | val d' => exact V.trf (fun b _ ho => ⟨rfl, relabS_none ho⟩) h4
            | own d' =>
              refine V.tr (Keeps.relabS_off fun q q' e => hkk ?_) h4
              have e2 : (q ++ [k']) ++ [i] = (q' ++ [k]) ++ [i] := by simpa using e
              have e3 := List.append_cancel_right e2
              have := congrArg List.getLast? e3
              simpa using this
            | _ => trivial
      refine ⟨_, w, run (hlt _ hk), _, h, relabS [k, r] [u] ow, ?_⟩
      rw [hd]
      exact hf2.set hu (V.tr Keeps.relabS hV)
    · exact h.elim
  · exact h.elim
theorem ok_nilCheck {P : Program} {n : Nat} {w0 : World} {ow0 : Own} {o : Oper} {s : St} {K : St → Prop} {x : Operand} {u : Nat} (ho : o.op = .nilCheck x) (hd : o.dst = some u) (hu : u < n)
    (hp : ∃ y, asPtr s (slotOf x) (evS s x) = y ∧ y ≠ .un) (h : dmove u x s K) : Ok P n w0 ow0 o s K := by
  refine ok_value fun a w ow hf => ?_
  obtain ⟨y, hy, hne⟩ := hp
  have hv := hf.asPtr x
  rw [hy] at hv
  have hptr : ∃ b off, a.eval x = .pointer (some ⟨b, off, none⟩) := by
    have hy' : (∃ d, y = .rp d) ∨ ∃ t p, y = .rf t p := by
      unfold asPtr at hy
      split at hy <;> first | (exact .inl ⟨_, hy.symm⟩) | (exact .inr ⟨_, _, hy.symm⟩) | skip
      all_goals first | exact absurd hy.symm hne | (split at hy <;> first | (exact .inl ⟨_, hy.symm⟩) | (exact .inr ⟨_, _, hy.symm⟩) | exact absurd hy.symm hne | skip)
      all_goals first | (split at hy <;> first | (exact .inl ⟨_, hy.symm⟩) | (exact .inr ⟨_, _, hy.symm⟩) | exact absurd hy.symm hne)
    rcases hy' with ⟨d, rfl⟩ | ⟨t, p, rfl⟩
    · obtain ⟨b, off, h1, _⟩ := hv; exact ⟨b, off, h1⟩
    · obtain ⟨_, _, b, off, _, _, _, h1⟩ := hv; exact ⟨b, off, h1⟩
  obtain ⟨b, off, he⟩ := hptr
  refine ⟨a.eval x, w, ?_, ?_⟩
  · unfold execOp
    simp only [ho, he]
    rfl
  · rw [hd]; exact dmove_ok hf hu h
end Go.Dv

end
section
namespace Go.Dv
open Go.RowKit
variable [Glob]
def eqB (op : BinOp) (x y : Value) (K : Value → Prop) : Prop := match op, x, y with
  | .eql, .bool a, .bool b => K (.bool (a == b))
  | .neq, .bool a, .bool b => K (.bool (a != b))
  | _, _, _ => False
theorem ok_eqB {P : Program} {n : Nat} {w0 : World} {ow0 : Own} {o : Oper} {s : St} {K : St → Prop} {op : BinOp} {t t' : TypeId} {x y : Operand} (ht : P.underlying t = some .bool) (ho : o.op = .binOp op t x y t') (hd : dstOk n o = true)
    (h : oneK (evS s x) fun u => oneK (evS s y) fun v => eqB op u v fun r => K (s.setd o.dst (.val (.one r)))) : Ok P n w0 ow0 o s K := by
  obtain ⟨u, hu, h1⟩ := oneK_of h
  clear h
  obtain ⟨v, hv, h⟩ := oneK_of h1
  clear h1
  have heq : ∀ (w : World) (a b : Bool), (Op.equal t (.bool a) (.bool b)).run P w = .ok (a == b) w := by
    intro w a b
    unfold Op.equal Op.maxDepth Op.equalIn
    rw [Sem.run_bind, run_underlying ht w]
    rfl
  unfold eqB at h
  split at h
  · rename_i a b
    refine ok_pure hd (u := .bool (a == b)) rfl (fun ac w he => ?_) h
    unfold execOp; rw [ho]
    simp only [he _ _ hu, he _ _ hv]
    have : (eqGuard .eql t x y (.bool a) (.bool b)).run P w = .ok () w := rfl
    simp only [Sem.run_bind, this, Result.andThen_ok, binOp, heq, Sem.run_pure]
  · rename_i a b
    refine ok_pure hd (u := .bool (a != b)) rfl (fun ac w he => ?_) h
    unfold execOp; rw [ho]
    simp only [he _ _ hu, he _ _ hv]
    have : (eqGuard .neq t x y (.bool a) (.bool b)).run P w = .ok () w := rfl
    simp only [Sem.run_bind, this, Result.andThen_ok, binOp, heq, Sem.run_pure]
    rfl
  · exact h.elim
def bndK (s : St) (x : Option Operand) (z : Nat) (K : Nat → Prop) : Prop := match x with
  | none => K z
  | some x => oneK (evS s x) fun v => match v with
    | .int _ j => 0 ≤ j ∧ K j.toNat
    | _ => False
def dsliceT (s : St) (z : ByteArray) (lo hi : Option Operand) (K : Value → Prop) : Prop :=
  bndK s hi z.size fun h => bndK s lo 0 fun l => l ≤ h ∧ h ≤ z.size ∧ K (.string (z.extract l h))
theorem bnd_run {P : Program} {s : St} {a : Act} {x : Option Operand} {z : Nat} {K : Nat → Prop} (he : ∀ x u, evS s x = .val (.one u) → a.eval x = u) (h : bndK s x z K) :
    ∃ j, K j ∧ ((x = none ∧ j = z) ∨ ∃ x' k i, x = some x' ∧ a.eval x' = .int k i ∧ 0 ≤ i ∧ i.toNat = j) := by
  cases x with
  | none => exact ⟨z, h, .inl ⟨rfl, rfl⟩⟩
  | some x =>
    obtain ⟨v, hv, h1⟩ := oneK_of h
    split at h1
    · exact ⟨_, h1.2, .inr ⟨x, _, _, rfl, he _ _ hv, h1.1, rfl⟩⟩
    · exact h1.elim
theorem bound_run {P : Program} {w : World} {k : IntKind} {i : Int} {m : Nat} {c : BoundsCode} (h0 : 0 ≤ i) (hm : i.toNat ≤ m) : (Instr.sliceBound (.int k i) m c).run P w = .ok i.toNat w := by
  unfold Instr.sliceBound
  simp only [asIntOf, Sem.run_bind, Sem.run_pure, Result.andThen_ok]
  rw [if_pos ⟨h0, by omega⟩]
  rfl
theorem bounds_run {P : Program} {w : World} {a : Act} {lo hi : Option Operand} {isS : Bool} {len cap l h : Nat} (hl : (lo = none ∧ l = 0) ∨ ∃ x' k i, lo = some x' ∧ a.eval x' = .int k i ∧ 0 ≤ i ∧ i.toNat = l)
    (hh : (hi = none ∧ h = len) ∨ ∃ x' k i, hi = some x' ∧ a.eval x' = .int k i ∧ 0 ≤ i ∧ i.toNat = h) (h1 : l ≤ h) (h2 : h ≤ cap) : (Instr.sliceBounds isS len cap (lo.map a.eval) (hi.map a.eval) none).run P w = .ok (l, h, cap) w := by
  unfold Instr.sliceBounds
  rcases hh with ⟨rfl, rfl⟩ | ⟨x', k, i, rfl, he, h0, rfl⟩ <;> rcases hl with ⟨rfl, rfl⟩ | ⟨x2, k2, i2, rfl, he2, h02, rfl⟩
  · simp only [Option.map_none, Sem.run_bind, Sem.run_pure, Result.andThen_ok]
  · simp only [Option.map_none, Option.map_some, he2, Sem.run_bind, Sem.run_pure, Result.andThen_ok, bound_run h02 h1]
  · simp only [Option.map_none, Option.map_some, he, Sem.run_bind, Sem.run_pure, Result.andThen_ok, bound_run h0 h2]
  · simp only [Option.map_none, Option.map_some, he, he2, Sem.run_bind, Sem.run_pure, Result.andThen_ok, bound_run h0 h2, bound_run h02 h1]
theorem ok_sliceT {P : Program} {n : Nat} {w0 : World} {ow0 : Own} {o : Oper} {s : St} {K : St → Prop} {t : TypeId} {x : Operand} {lo hi : Option Operand} (ht : P.underlying t = some .string) (ho : o.op = .slice t x lo hi none) (hd : dstOk n o = true)
    (h : oneK (evS s x) fun v => match v with | .string z => dsliceT s z lo hi fun r => K (s.setd o.dst (.val (.one r))) | _ => False) : Ok P n w0 ow0 o s K := by
  obtain ⟨v, hx, h1⟩ := oneK_of h
  clear h
  split at h1
  · rename_i z
    refine ok_value fun a w ow hf => ?_
    have he : ∀ x u, evS s x = .val (.one u) → a.eval x = u := fun x u hx => (hf.one hx).1
    obtain ⟨hh, h2, e1⟩ := bnd_run (P := P) he h1
    obtain ⟨ll, ⟨h3, h4, hK⟩, e2⟩ := bnd_run (P := P) he h2
    refine ⟨.string (z.extract ll hh), w, ?_, _, hK, ow, ?_⟩
    · unfold execOp
      rw [ho]
      simp only [he _ _ hx, Instr.sliceAt, Instr.slice, Sem.run_bind, run_underlying ht w, Result.andThen_ok, Option.isSome_none, Bool.false_eq_true, if_false, Option.map_none]
      rw [bounds_run e2 e1 h3 h4]
      rfl
    · cases hod : o.dst with
      | none => exact hf
      | some t =>
        have ht : t < n := by simpa [dstOk, hod] using hd
        exact hf.set ht (SV.val_one rfl)
  · exact h1.elim
theorem R.trf2 {P : Program} {w : World} {ow : Own} {xs : List D} {l l2 : List Nat} {cs : List Value} (h : R P w ow (.sl none (D.fzs xs)) l cs) : R P w ow (.sl none (D.fzs xs)) l2 cs := by
  have := R.trf (d := .sl none xs) (l2 := l2) (w' := w) (ow' := ow) (fun b _ hb => ⟨rfl, hb⟩) (by simpa only [D.fz] using h)
  simpa only [D.fz] using this
theorem R.part {P : Program} {w : World} {ow : Own} {xs : List D} {l : List Nat} {a : Option Addr} {len cap lo hi s : Nat} (h : R P w ow (.sl none (D.fzs xs)) l [.slice a len cap]) (h1 : lo ≤ hi) (h2 : hi ≤ len) (hs : ∀ x ∈ xs, x.w = s) :
    R P w ow (.sl none (D.fzs ((xs.drop lo).take (hi - lo)))) l [.slice (if cap = lo then a else a.map (·.add (lo * s))) (hi - lo) (cap - lo)] := by
  simp only [D.fzs_map] at h ⊢
  rw [List.map_take, List.map_drop]
  simp only [R] at h ⊢
  obtain ⟨a', cap', hv, hc1, hc2, h4⟩ := h
  simp only [List.cons.injEq, Value.slice.injEq, and_true] at hv
  obtain ⟨rfl, rfl, rfl⟩ := hv
  simp only [List.length_map] at hc1 h2
  have hlen : (((xs.map D.fz).drop lo).take (hi - lo)).length = hi - lo := by simp; omega
  refine ⟨_, _, by rw [hlen], by omega, by omega, ?_⟩
  rcases h4 with ⟨rfl, hx0, rfl⟩ | ⟨_, hx0⟩ | ⟨b, off, s', C, e, fz, rfl, hh, hn, _, hr⟩
  · right; left; rw [hx0]; simp
  · right; left; rw [hx0]; simp
  · by_cases hcl : cap = lo
    · right; left
      refine ⟨trivial, ?_⟩
      have : hi - lo = 0 := by omega
      rw [this]; rfl
    · right; right
      have hrow := (Rs.iff hh).1 hr
      refine ⟨b, off + lo * s, s', C, e, fz, by rw [if_neg hcl]; simp [Addr.add], hh, hn, (fun t ht => by cases ht), (Rs.iff hh).2 fun j x hx => ?_⟩
      have hj : (xs.map D.fz)[lo + j]? = some x := by
        rw [List.getElem?_take] at hx
        split at hx
        · rw [List.getElem?_drop] at hx; exact hx
        · cases hx
      obtain ⟨y, hy, rfl⟩ := List.mem_map.1 (List.mem_of_getElem? hj)
      obtain ⟨g1, g2⟩ := hrow (lo + j) _ hj
      have hs' := hs y hy
      rw [← D.fz_w y] at hs'
      refine ⟨g1, ?_⟩
      have : off + lo * s + j * s' = off + (lo + j) * s' := by rw [← g1, hs', Nat.add_mul]; omega
      rw [this]
      exact g2.fz0
theorem ok_sliceF {P : Program} {n : Nat} {w0 : World} {ow0 : Own} {o : Oper} {s : St} {K : St → Prop} {t e : TypeId} {i : TypeInfo} {x : Operand} {lo hi : Option Operand} {xs : List D} (ht : P.underlying t = some (.slice e)) (hi' : P.info? e = some i) (ho : o.op = .slice t x lo hi none) (hd : dstOk n o = true)
    (hx : asSl s (slotOf x) (evS s x) = .fr xs) (hw : xs.all (fun d => d.w == i.size) = true)
    (h : bndK s hi xs.length fun h => bndK s lo 0 fun l => l ≤ h ∧ h ≤ xs.length ∧ K (s.setd o.dst (.val (.sl none ((xs.drop l).take (h - l)))))) : Ok P n w0 ow0 o s K := by
  refine ok_value fun a w ow hf => ?_
  have he : ∀ x u, evS s x = .val (.one u) → a.eval x = u := fun x u hx => (hf.one hx).1
  obtain ⟨hh, h2, e1⟩ := bnd_run (P := P) he h
  obtain ⟨ll, ⟨h3, h4, hK⟩, e2⟩ := bnd_run (P := P) he h2
  have hv := hf.asSl x
  rw [hx] at hv
  simp only [SlSays] at hv
  obtain ⟨ad, cap, hval, hcap, _⟩ := hv.hdr
  rw [D.fzs_map, List.length_map] at hval
  have hcap' : xs.length ≤ cap := by rw [D.fzs_map, List.length_map] at hcap; exact hcap
  rw [hval] at hv
  have hp := R.part hv h3 h4 fun d hd => by simpa using List.all_eq_true.1 hw d hd
  refine ⟨.slice (if cap = ll then ad else ad.map (·.add (ll * i.size))) (hh - ll) (cap - ll), w, ?_, _, hK, ow, ?_⟩
  · unfold execOp
    rw [ho]
    simp only [hval, Instr.sliceAt, Instr.slice, Sem.run_bind, run_underlying ht w, Result.andThen_ok, Option.map_none]
    rw [bounds_run e2 e1 h3 (Nat.le_trans h4 hcap')]
    simp only [Result.andThen_ok, Sem.run_bind, run_size hi' w, Sem.run_pure]
  · cases hod : o.dst with
    | none => exact hf
    | some t =>
      have ht : t < n := by simpa [dstOk, hod] using hd
      refine hf.set ht ?_
      simp only [SV, V, D.fz]
      exact hp.trf2
end Go.Dv

end
section
namespace Go.Dv
open Go.RowKit
variable [Glob]
abbrev dU (c : UInt8) : D := .one (.int .u8 c.toNat)
def bytes? : List D → Option (List UInt8)
  | [] => some []
  | d :: r => match d with
    | .one (.int .u8 n) => if 0 ≤ n ∧ n < 256 then (bytes? r).map (UInt8.ofNat n.toNat :: ·) else none
    | _ => none
theorem bytes?_nil : bytes? [] = some [] := rfl
theorem bytes?_cons (c : UInt8) (r : List D) : bytes? (.one (.int .u8 c.toNat) :: r) = (bytes? r).map (c :: ·) := by
  have := c.toNat_lt
  simp only [bytes?]
  rw [if_pos (by omega)]
  simp
theorem bytes?_map : ∀ l : List UInt8, bytes? (l.map fun c => D.one (.int .u8 c.toNat)) = some l
  | [] => rfl
  | c :: l => by rw [List.map_cons, bytes?_cons, bytes?_map l]; rfl
theorem bytes?_spec : ∀ {xs : List D} {l : List UInt8}, bytes? xs = some l → xs = l.map dU
  | [], l, h => by obtain rfl := Option.some.inj h; rfl
  | d :: r, l, h => by
    unfold bytes? at h
    split at h
    · rename_i n
      split at h
      · rename_i hn
        obtain ⟨l', h1, rfl⟩ := Option.map_eq_some_iff.1 h
        rw [bytes?_spec h1, List.map_cons]
        congr 3
        have : (UInt8.ofNat n.toNat).toNat = n.toNat := by simp; omega
        rw [this]; omega
      · cases h
    · cases h
theorem bytes?_append (xs ys : List D) : bytes? (xs ++ ys) = (bytes? xs).bind fun a => (bytes? ys).map (a ++ ·) := by
  induction xs with
  | nil => simp [bytes?]
  | cons d r ih =>
    simp only [List.cons_append]
    conv => lhs; unfold bytes?
    conv => rhs; arg 1; unfold bytes?
    split
    · split
      · rw [ih]; cases bytes? r <;> cases bytes? ys <;> simp
      · rfl
    · rfl
theorem ok_b2s {P : Program} {n : Nat} {w0 : World} {ow0 : Own} {o : Oper} {s : St} {K : St → Prop} {src e t : TypeId} {x : Operand} {l : List UInt8} (hs : P.underlying src = some (.slice e)) (he : P.underlying e = some (.int .u8)) (ht : P.underlying t = some .string) (ho : o.op = .convert src t x) (hd : dstOk n o = true)
    (hl : bytes? (asSl s (slotOf x) (evS s x)).xs = some l) (hno : asSl s (slotOf x) (evS s x) ≠ .no) (h : K (s.setd o.dst (.val (.one (.string ⟨l.toArray⟩))))) : Ok P n w0 ow0 o s K := by
  refine ok_value fun a w ow hf => ?_
  have hv := hf.asSl x
  have hx := bytes?_spec hl
  have key : ∀ (o' : Option TypeId) (ys : List D) (lab : List Nat), R P w ow (.sl o' ys) lab [a.eval x] → ys = l.map dU → (execOp a.eval o).run P w = .ok (.value (.string ⟨l.toArray⟩)) w := by
    intro o' ys lab hR hys
    subst hys
    unfold execOp
    rw [ho]
    obtain ⟨ad, cap, h1, _⟩ := hR.hdr
    have hrun : (convert src t (a.eval x)).run P w = .ok (.string ⟨l.toArray⟩) w := by
      rw [h1]
      rw [List.length_map]
      cases hl' : l with
      | nil =>
        subst hl'
        cases ad with
        | none => simp [convert, run_underlying hs, run_underlying he, run_underlying ht, Conv.bytesToString]; rfl
        | some ad => simp [convert, run_underlying hs, run_underlying he, run_underlying ht, Conv.bytesToString, loadCells]; rfl
      | cons c l' =>
        rw [← hl']
        have h0 : (l.map dU)[0]? = some (dU c) := by rw [hl']; rfl
        obtain ⟨b, off, cap', h2, h3⟩ := hR.elem h0
        rw [h1] at h2
        simp only [List.length_map, Value.slice.injEq] at h2
        obtain ⟨rfl, _, rfl⟩ := h2
        have := Lib.run_convert_whole (P := P) w src e t hs he ht b off ⟨l.toArray⟩ (fun i hi => ?_) cap
        · simpa [ByteArray.size] using this
        · have hil : i < l.length := by simpa [ByteArray.size] using hi
          have hi' : (l.map dU)[i]? = some (dU l[i]) := by simp [hil]
          obtain ⟨b2, off2, cap2, g1, g2⟩ := hR.elem hi'
          rw [h1] at g1
          simp only [List.length_map, Value.slice.injEq, Option.some.injEq, Addr.mk.injEq] at g1
          obtain ⟨⟨rfl, rfl, _⟩, _, _⟩ := g1
          obtain ⟨_, hL, _, _⟩ := hR.into g2
          obtain ⟨v, hv1, hv2⟩ := hL.cell rfl
          simp only [R] at hv2
          have hvv : v = .int .u8 (l[i]).toNat := by simpa using hv2.1
          have e1 : (dU l[i]).w = 1 := rfl
          rw [hvv, e1, Nat.mul_one] at hv1
          exact hv1
    simp only [Sem.run_bind, hrun, Result.andThen_ok, Sem.run_pure]
  refine ⟨.string ⟨l.toArray⟩, w, ?_, _, h, ow, ?_⟩
  · generalize asSl s (slotOf x) (evS s x) = z at hv hx hno
    cases z with
    | no => exact absurd rfl hno
    | fr ys =>
      simp only [SlSays] at hv
      refine key none _ _ hv ?_
      have hx' : ys = l.map dU := hx
      rw [hx', D.fzs_map, List.map_map]
      rfl
    | nd r p ys =>
      obtain ⟨d, o', _, _, hR, _⟩ := hv
      exact key o' ys _ hR hx
  · cases hod : o.dst with
    | none => exact hf
    | some t =>
      have ht : t < n := by simpa [dstOk, hod] using hd
      exact hf.set ht (SV.val_one rfl)
theorem ok_mm {P : Program} {n : Nat} {w0 : World} {ow0 : Own} {o : Oper} {s : St} {K : St → Prop} {x y : Operand} {ts : Array TypeId} {k k' : IntKind} {a b : Int} {mx : Bool} (ho : o.op = .call { callee := .builtin (if mx then .max else .min), args := #[x, y], argTypes := ts }) (hd : dstOk n o = true)
    (hx : evS s x = .val (.one (.int k a))) (hy : evS s y = .val (.one (.int k' b))) (h : K (s.setd o.dst (.val (.one (.int k (if mx then max a b else min a b)))))) : Ok P n w0 ow0 o s K := by
  refine ok_pure hd (u := .int k (if mx then max a b else min a b)) rfl (fun ac w he => ?_) h
  unfold execOp
  rw [ho]
  cases mx
  · have e : min a b = if b < a then b else a := by rw [Int.min_def]; split <;> split <;> omega
    simp [resolve, invoke, builtin, he _ _ hx, he _ _ hy, Builtin.min_, Builtin.min2, e]
  · have e : max a b = if b > a then b else a := by rw [Int.max_def]; split <;> split <;> omega
    simp [resolve, invoke, builtin, he _ _ hx, he _ _ hy, Builtin.max_, Builtin.max2, e]
end Go.Dv

end
section
namespace Go.Dv
open Go.RowKit
variable [Glob]
theorem ok_mm3 {P : Program} {n : Nat} {w0 : World} {ow0 : Own} {o : Oper} {s : St} {K : St → Prop} {x y z : Operand} {ts : Array TypeId} {k k' k2 : IntKind} {a b c : Int} {mx : Bool} (ho : o.op = .call { callee := .builtin (if mx then .max else .min), args := #[x, y, z], argTypes := ts }) (hd : dstOk n o = true)
    (hx : evS s x = .val (.one (.int k a))) (hy : evS s y = .val (.one (.int k' b))) (hz : evS s z = .val (.one (.int k2 c))) (h : K (s.setd o.dst (.val (.one (.int k (if mx then max (max a b) c else min (min a b) c)))))) : Ok P n w0 ow0 o s K := by
  refine ok_pure hd (u := .int k (if mx then max (max a b) c else min (min a b) c)) rfl (fun ac w he => ?_) h
  unfold execOp
  rw [ho]
  cases mx
  · have e : ∀ a b : Int, (if b < a then b else a) = min a b := fun a b => by rw [Int.min_def]; split <;> split <;> omega
    simp [resolve, invoke, builtin, he _ _ hx, he _ _ hy, he _ _ hz, Builtin.min_, Builtin.min2, e]
  · have e : ∀ a b : Int, (if b > a then b else a) = max a b := fun a b => by rw [Int.max_def]; split <;> split <;> omega
    simp [resolve, invoke, builtin, he _ _ hx, he _ _ hy, he _ _ hz, Builtin.max_, Builtin.max2, e]
theorem ok_s2b {P : Program} {n : Nat} {w0 : World} {ow0 : Own} {o : Oper} {s : St} {K : St → Prop} {src t e : TypeId} {x : Operand} {z : ByteArray} {i : TypeInfo} {u : Nat} (hs : P.underlying src = some .string) (ht : P.underlying t = some (.slice e)) (he : P.underlying e = some (.int .u8)) (hi : P.info? e = some i) (hsz : i.size = 1) (hz : z.size ≤ 16777216)
    (ho : o.op = .convert src t x) (hd : o.dst = some u) (hu : u < n) (hx : evS s x = .val (.one (.string z))) (h : K (s.set u (.own (.sl (some e) (z.data.toList.map dU))))) : Ok P n w0 ow0 o s K := by
  refine ok_value fun a w ow hf => ?_
  have hrun : (execOp a.eval o).run P w = .ok (.value (.slice (some ⟨w.heap.size, 0, none⟩) z.size (grownCap w z.size 0 e))) (Lib.bytesWorld w e z) := by
    unfold execOp; rw [ho]
    simp only [(hf.one hx).1, Sem.run_bind, Lib.run_convert_string_bytes w src t e z hs ht he, Result.andThen_ok]
    rfl
  refine ⟨_, _, hrun, _, h, ownNew w [u] ow, ?_⟩
  rw [hd]
  have hnew := Lib.bytesWorld_at_new w e z
  have hg : Fits P n w0 ow0 (ownNew w [u] ow) s a (Lib.bytesWorld w e z) := by
    refine hf.grown ?_ ?_ ?_ ?_ (fun b hb => ⟨Lib.bytesWorld_at_old w e z b hb, ownNew_old hb⟩) (fun b hb => ?_)
    · simp [Lib.bytesWorld, World.freeze, World.alloc, World.drew, -World.alloc_eq, -World.drew_eq]
    · simp [Lib.bytesWorld, World.freeze, World.alloc, World.drew, -World.alloc_eq, -World.drew_eq]
    · simp [Lib.bytesWorld, World.freeze, World.alloc, World.drew, -World.alloc_eq, -World.drew_eq]
    · rw [Lib.bytesWorld_size]; omega
    · rw [Lib.bytesWorld_size] at hb
      simp only [ownNew, show b ≠ w.heap.size by omega, if_false]
      exact hf.new b (by omega)
  refine hg.set hu ?_
  have hcap : z.size ≤ grownCap w z.size 0 e := grownCap_ge w z.size 0 e
  have hlen : (z.data.toList.map dU).length = z.size := by rw [List.length_map, Array.length_toList]; rfl
  have hsize : (Lib.bytesCells w e z).size = grownCap w z.size 0 e := by simp only [Lib.bytesCells, Array.size_append, Array.size_map, Array.size_replicate]; have : z.data.size = z.size := rfl; omega
  simp only [SV, V, R]
  rw [hlen]
  refine ⟨some ⟨w.heap.size, 0, none⟩, grownCap w z.size 0 e, rfl, hcap, grownCap_le_maxLen w _ _ e (by unfold maxLen; omega), .inr (.inr ⟨w.heap.size, 0, 1, _, e, _, rfl, hnew, (fun h => by cases h), ?_, ?_⟩)⟩
  · intro t' ht'
    obtain rfl : e = t' := by simpa using ht'
    exact ⟨by simp [ownNew], rfl, fun j hj hh => by omega, rfl, by rw [hsize]; omega, i, hi, hsz⟩
  · refine (Rs.iff hnew).2 fun j d hj => ?_
    simp only [List.getElem?_map, Option.map_eq_some_iff] at hj
    obtain ⟨c, hc, rfl⟩ := hj
    have hjl : j < z.data.size := by have := (List.getElem?_eq_some_iff.1 hc).1; simpa using this
    refine ⟨rfl, Lib.bytesCells w e z, e, _, [.int .u8 c.toNat], hnew, fun k hk => ?_, by simp [R, Value.oneCell']⟩
    have hk' : k < 1 := hk
    obtain rfl : k = 0 := by omega
    have hcj : z.data[j] = c := by
      have := (List.getElem?_eq_some_iff.1 hc).2
      simpa using this
    simp only [Lib.bytesCells]
    have h0 : 0 + j * 1 + 0 = j := by omega
    rw [h0, Array.getElem?_append_left (by simpa using hjl), Array.getElem?_map, Array.getElem?_eq_getElem hjl, hcj]
    rfl
end Go.Dv
namespace Go.Dv
open Go.RowKit
mutual
theorem R.flatInv {P : Program} {w : World} {ow : Own} : ∀ {d : D} {l : List Nat} {cs cs' : List Value}, d.flat = some cs' → R P w ow d l cs → cs = cs'
  | .one v, l, cs, cs', h, hr => by
    simp only [D.flat] at h
    simp only [R] at hr
    split at h
    · rw [hr.1]; simpa using h
    · cases h
  | .sl o xs, l, cs, cs', h, _ => by simp only [D.flat] at h; cases h
  | .bx o xs, l, cs, cs', h, _ => by simp only [D.flat] at h; cases h
  | .any n, l, cs, cs', h, _ => by simp only [D.flat] at h; cases h
  | .agg xs, l, cs, cs', h, hr => by simp only [D.flat] at h; simp only [R] at hr; exact Ra.flatInv h hr
theorem Ra.flatInv {P : Program} {w : World} {ow : Own} : ∀ {xs : List D} {l : List Nat} {i : Nat} {cs cs' : List Value}, D.flats xs = some cs' → Ra P w ow xs l i cs → cs = cs'
  | [], l, i, cs, cs', h, hr => by simp only [D.flats] at h; simp only [Ra] at hr; rw [hr]; simpa using h
  | x :: xs, l, i, cs, cs', h, hr => by
    simp only [D.flats] at h
    simp only [Ra] at hr
    obtain ⟨c1, c2, h1, h2, h3, h4⟩ := hr
    split at h
    · rename_i a b ha hb
      rw [h1, R.flatInv ha h3, Ra.flatInv hb h4]; simpa using h
    · cases h
end
mutual
theorem D.flat_fzq : ∀ {d : D} {cs : List Value}, d.flat = some cs → d.fz = d
  | .one v, _, _ => rfl
  | .sl _ _, _, h => by simp only [D.flat] at h; cases h
  | .bx _ _, _, h => by simp only [D.flat] at h; cases h
  | .any _, _, h => by simp only [D.flat] at h; cases h
  | .agg xs, _, h => by simp only [D.flat] at h; simp only [D.fz, D.flats_fzq h]
theorem D.flats_fzq : ∀ {xs : List D} {cs : List Value}, D.flats xs = some cs → D.fzs xs = xs
  | [], _, _ => rfl
  | x :: xs, cs, h => by
    simp only [D.flats] at h
    split at h
    · rename_i a b ha hb; simp only [D.fzs, D.flat_fzq ha, D.flats_fzq hb]
    · cases h
end
def flatS (s : St) (x : Operand) : Option (List Value) := match evS s x with
  | .val (.agg xs) => D.flats xs
  | .own (.agg xs) => D.flats xs
  | .ag r p => match s r with
    | .own d => match D.sub p d with
      | some (.agg xs) => D.flats xs
      | _ => none
    | _ => none
  | _ => none
section
variable [Glob]
theorem Fits.flatS {P : Program} {n : Nat} {w0 w : World} {ow0 ow : Own} {s : St} {a : Act} (h : Fits P n w0 ow0 ow s a w) {x : Operand} {cs : List Value} (hx : Dv.flatS s x = some cs) : a.eval x = .agg cs.toArray := by
  have hv := h.eval x
  unfold Dv.flatS at hx
  split at hx
  · rename_i xs he
    rw [he] at hv
    simp only [SV] at hv
    rw [show (D.agg xs).fz = .agg xs from D.flat_fzq (d := .agg xs) hx] at hv
    obtain ⟨c, h1, h2⟩ := hv
    simp only [R] at h2
    rw [h1, ← Ra.flatInv hx h2]
  · rename_i xs he
    rw [he] at hv
    obtain ⟨c, h1, h2⟩ := hv
    simp only [R] at h2
    rw [h1, ← Ra.flatInv hx h2]
  · rename_i r p he
    rw [he] at hv
    obtain ⟨d, m, hs, hm, hagg, hV⟩ := hv
    rw [hs] at hx
    simp only [hm] at hx
    split at hx
    · rename_i m' xs hm'
      obtain rfl : m = .agg xs := Option.some.inj hm'
      obtain ⟨c, h1, h2⟩ := hV
      simp only [R] at h2
      rw [h1, ← Ra.flatInv hx h2]
    · cases hx
  · cases hx
end
def EqAt (P : Program) (t : TypeId) (xs ys : List Value) (r : Bool) : Prop := P.eqGuardType P.depth t = false ∧ ∀ w, (Op.equalIn 10000 t (.agg xs.toArray) (.agg ys.toArray)).run P w = .ok r w
theorem EqAt.iff {P : Program} {t : TypeId} {xs ys : List Value} {r0 r : Bool} (h : EqAt P t xs ys r0) : EqAt P t xs ys r ↔ r = r0 := by
  constructor
  · intro h'
    have h1 := h.2 (default : World)
    have h2 := h'.2 (default : World)
    rw [h1] at h2
    injection h2 with h2
    exact h2.symm
  · rintro rfl; exact h
end Go.Dv

end
section
namespace Go.Dv
open Go.RowKit
variable [Glob]
def eqSK (P : Program) (op : BinOp) (t : TypeId) (x y : Option (List Value)) (K : Value → Prop) : Prop := match op, x, y with
  | .eql, some a, some b => ∃ r, EqAt P t a b r ∧ K (.bool r)
  | .neq, some a, some b => ∃ r, EqAt P t a b r ∧ K (.bool (!r))
  | _, _, _ => False
theorem ok_eqS {P : Program} {n : Nat} {w0 : World} {ow0 : Own} {o : Oper} {s : St} {K : St → Prop} {op : BinOp} {t t' : TypeId} {x y : Operand} (ho : o.op = .binOp op t x y t') (hd : dstOk n o = true)
    (h : eqSK P op t (flatS s x) (flatS s y) fun r => K (s.setd o.dst (.val (.one r)))) : Ok P n w0 ow0 o s K := by
  refine ok_value fun a w ow hf => ?_
  have fin : ∀ r : Bool, Rel P n w0 ow0 (s.setd o.dst (.val (.one (.bool r)))) (a.put o.dst (.bool r)) w := fun r => ⟨ow, by
    cases hod : o.dst with
    | none => exact hf
    | some t =>
      have ht : t < n := by simpa [dstOk, hod] using hd
      exact hf.set ht (SV.val_one rfl)⟩
  unfold eqSK at h
  split at h
  · rename_i ca cb hx hy
    obtain ⟨r, ⟨hm, hr⟩, hK⟩ := h
    refine ⟨.bool r, w, ?_, _, hK, fin r⟩
    unfold execOp; rw [ho]
    simp only [hf.flatS hx, hf.flatS hy, Sem.run_bind, run_eqGuard_agg w .eql t x y _ _ hm, Result.andThen_ok, run_eql_struct, hr w, Sem.run_pure]
  · rename_i ca cb hx hy
    obtain ⟨r, ⟨hm, hr⟩, hK⟩ := h
    refine ⟨.bool (!r), w, ?_, _, hK, fin _⟩
    unfold execOp; rw [ho]
    simp only [hf.flatS hx, hf.flatS hy, Sem.run_bind, run_eqGuard_agg w .neq t x y _ _ hm, Result.andThen_ok, run_neq_struct, hr w, Sem.run_pure]
  · exact h.elim
def nilK (op : BinOp) (x : S) (z : SLv) (K : Value → Prop) : Prop := match op with
  | .eql => (x = .val (.one (.slice none 0 0)) ∧ K (.bool true)) ∨ (z ≠ .no ∧ z.xs ≠ [] ∧ K (.bool false))
  | .neq => (x = .val (.one (.slice none 0 0)) ∧ K (.bool false)) ∨ (z ≠ .no ∧ z.xs ≠ [] ∧ K (.bool true))
  | _ => False
theorem SlSays.hdr {P : Program} {w : World} {ow : Own} {s : St} {a : Act} {v : Value} {z : SLv} (h : SlSays P w ow s a v z) (hz : z ≠ .no) (hx : z.xs ≠ []) : ∃ ad m c, v = .slice (some ad) m c := by
  have key : ∀ (o : Option TypeId) (xs : List D) (l : List Nat), xs ≠ [] → R P w ow (.sl o xs) l [v] → ∃ ad m c, v = .slice (some ad) m c := by
    intro o xs l hne hr
    simp only [R] at hr
    obtain ⟨ad, cap, h1, h2, h3, h4⟩ := hr
    rcases h4 with ⟨_, h4, _⟩ | ⟨_, h4⟩ | ⟨b, off, s, C, e, fz, ha, _⟩
    · exact absurd h4 hne
    · exact absurd h4 hne
    · exact ⟨_, _, _, by rw [ha] at h1; simpa using h1⟩
  cases z with
  | no => exact absurd rfl hz
  | fr xs =>
    simp only [SlSays] at h
    refine key none (D.fzs xs) [] ?_ h
    intro e
    rw [D.fzs_map] at e
    exact hx (by simpa [SLv.xs] using e)
  | nd r p xs =>
    obtain ⟨d, o, _, _, hR, _⟩ := h
    exact key o xs _ hx hR
theorem ok_nilS {P : Program} {n : Nat} {w0 : World} {ow0 : Own} {o : Oper} {s : St} {K : St → Prop} {op : BinOp} {t t' e : TypeId} {x : Operand} (ht : P.underlying t = some (.slice e)) (ho : o.op = .binOp op t x (.const (.slice none 0 0)) t') (hd : dstOk n o = true)
    (h : nilK op (evS s x) (asSl s (slotOf x) (evS s x)) fun r => K (s.setd o.dst (.val (.one r)))) : Ok P n w0 ow0 o s K := by
  refine ok_value fun a w ow hf => ?_
  have fin : ∀ r : Bool, Rel P n w0 ow0 (s.setd o.dst (.val (.one (.bool r)))) (a.put o.dst (.bool r)) w := fun r => ⟨ow, by
    cases hod : o.dst with
    | none => exact hf
    | some t =>
      have ht : t < n := by simpa [dstOk, hod] using hd
      exact hf.set ht (SV.val_one rfl)⟩
  have hv := hf.asSl x
  have yes : evS s x = .val (.one (.slice none 0 0)) → a.eval x = .slice none 0 0 := fun he => (hf.one he).1
  have ev : a.eval (.const (.slice none 0 0)) = .slice none 0 0 := rfl
  have e1 : (Op.equal t (.slice none 0 0) (.slice none 0 0)).run P w = .ok true w := by
    unfold Op.equal Op.maxDepth Op.equalIn
    rw [Sem.run_bind, run_underlying ht w]; rfl
  have e2 : ∀ ad m c, (Op.equal t (.slice (some ad) m c) (.slice none 0 0)).run P w = .ok false w := fun ad m c => by
    unfold Op.equal Op.maxDepth Op.equalIn
    rw [Sem.run_bind, run_underlying ht w]; rfl
  unfold nilK at h
  split at h
  · rcases h with ⟨he, hK⟩ | ⟨hz, hx, hK⟩
    · refine ⟨.bool true, w, ?_, _, hK, fin _⟩
      unfold execOp; rw [ho]
      simp only [yes he, ev]
      have hg : (eqGuard .eql t x (.const (.slice none 0 0)) (.slice none 0 0) (.slice none 0 0)).run P w = .ok () w := rfl
      simp only [Sem.run_bind, hg, Result.andThen_ok, binOp, e1, Sem.run_pure]
      try rfl
    · obtain ⟨ad, m, c, hs⟩ := SlSays.hdr hv hz hx
      refine ⟨.bool false, w, ?_, _, hK, fin _⟩
      unfold execOp; rw [ho]
      simp only [hs, ev]
      have hg : (eqGuard .eql t x (.const (.slice none 0 0)) (.slice (some ad) m c) (.slice none 0 0)).run P w = .ok () w := rfl
      simp only [Sem.run_bind, hg, Result.andThen_ok, binOp, e2 ad m c, Sem.run_pure]
      try rfl
  · rcases h with ⟨he, hK⟩ | ⟨hz, hx, hK⟩
    · refine ⟨.bool false, w, ?_, _, hK, fin _⟩
      unfold execOp; rw [ho]
      simp only [yes he, ev]
      have hg : (eqGuard .neq t x (.const (.slice none 0 0)) (.slice none 0 0) (.slice none 0 0)).run P w = .ok () w := rfl
      simp only [Sem.run_bind, hg, Result.andThen_ok, binOp, e1, Sem.run_pure]
      try rfl
    · obtain ⟨ad, m, c, hs⟩ := SlSays.hdr hv hz hx
      refine ⟨.bool true, w, ?_, _, hK, fin _⟩
      unfold execOp; rw [ho]
      simp only [hs, ev]
      have hg : (eqGuard .neq t x (.const (.slice none 0 0)) (.slice (some ad) m c) (.slice none 0 0)).run P w = .ok () w := rfl
      simp only [Sem.run_bind, hg, Result.andThen_ok, binOp, e2 ad m c, Sem.run_pure]
      try rfl
  · exact h.elim
def ifcK (op : BinOp) (v : Value) (K : Value → Prop) : Prop := match op, v with
  | .eql, .nilIface => K (.bool true)
  | .neq, .nilIface => K (.bool false)
  | .eql, .iface _ _ => K (.bool false)
  | .neq, .iface _ _ => K (.bool true)
  | _, _ => False
theorem ok_ifc {P : Program} {n : Nat} {w0 : World} {ow0 : Own} {o : Oper} {s : St} {K : St → Prop} {op : BinOp} {t t' : TypeId} {ms} {x : Operand} (ht : P.underlying t = some (.interface ms)) (ho : o.op = .binOp op t x (.const .nilIface) t') (hd : dstOk n o = true)
    (h : oneK (evS s x) fun v => ifcK op v fun r => K (s.setd o.dst (.val (.one r)))) : Ok P n w0 ow0 o s K := by
  obtain ⟨v, hv, h⟩ := oneK_of h
  have e1 : ∀ w : World, (Op.equal t .nilIface .nilIface).run P w = .ok true w := fun w => by
    unfold Op.equal Op.maxDepth Op.equalIn
    rw [Sem.run_bind, run_underlying ht w]; rfl
  have e2 : ∀ (w : World) a b, (Op.equal t (.iface a b) .nilIface).run P w = .ok false w := fun w a b => by
    unfold Op.equal Op.maxDepth Op.equalIn
    rw [Sem.run_bind, run_underlying ht w]; rfl
  have ev : ∀ ac : Act, ac.eval (.const .nilIface) = .nilIface := fun _ => rfl
  have hg1 : ∀ (w : World) op, (eqGuard op t x (.const .nilIface) .nilIface .nilIface).run P w = .ok () w := fun w op => by
    unfold eqGuard
    cases op <;> cases x <;> rfl
  have hg2 : ∀ (w : World) op a b, (eqGuard op t x (.const .nilIface) (.iface a b) .nilIface).run P w = .ok () w := fun w op a b => by
    unfold eqGuard
    cases op <;> rfl
  unfold ifcK at h
  split at h
  · refine ok_pure hd (u := .bool true) rfl (fun ac w he => ?_) h
    unfold execOp; rw [ho]; simp only [he _ _ hv, ev, Sem.run_bind, hg1, Result.andThen_ok, binOp, e1, Sem.run_pure]
  · refine ok_pure hd (u := .bool false) rfl (fun ac w he => ?_) h
    unfold execOp; rw [ho]; simp only [he _ _ hv, ev, Sem.run_bind, hg1, Result.andThen_ok, binOp, e1, Sem.run_pure]
    rfl
  · refine ok_pure hd (u := .bool false) rfl (fun ac w he => ?_) h
    unfold execOp; rw [ho]; simp only [he _ _ hv, ev, Sem.run_bind, hg2, Result.andThen_ok, binOp, e2, Sem.run_pure]
  · refine ok_pure hd (u := .bool true) rfl (fun ac w he => ?_) h
    unfold execOp; rw [ho]; simp only [he _ _ hv, ev, Sem.run_bind, hg2, Result.andThen_ok, binOp, e2, Sem.run_pure]
    rfl
  · exact h.elim
end Go.Dv
namespace Go.Dv
open Go.RowKit
mutual
theorem D.flat_len : ∀ {d : D} {cs : List Value}, d.flat = some cs → cs.length = d.w
  | .one v, cs, h => by
    simp only [D.flat] at h
    split at h
    · obtain rfl : [v] = cs := by simpa using h
      rfl
    · cases h
  | .sl _ _, _, h => by simp only [D.flat] at h; cases h
  | .bx _ _, _, h => by simp only [D.flat] at h; cases h
  | .any _, _, h => by simp only [D.flat] at h; cases h
  | .agg xs, cs, h => by simp only [D.flat] at h; simp only [D.w, D.flats_len h]
theorem D.flats_len : ∀ {xs : List D} {cs : List Value}, D.flats xs = some cs → cs.length = D.ws xs
  | [], cs, h => by simp only [D.flats] at h; obtain rfl : [] = cs := by simpa using h
                    rfl
  | x :: xs, cs, h => by
    simp only [D.flats] at h
    split at h
    · rename_i a b ha hb
      obtain rfl : a ++ b = cs := by simpa using h
      simp only [List.length_append, D.ws, D.flat_len ha, D.flats_len hb]
    · cases h
end
theorem flats_seg : ∀ {xs : List D} {cs : List Value} {s j : Nat} {d : D}, D.flats xs = some cs → (∀ x ∈ xs, x.w = s) → xs[j]? = some d → ∃ c, d.flat = some c ∧ (cs.drop (j * s)).take s = c
  | [], cs, s, j, d, _, _, h => by simp at h
  | x :: xs, cs, s, j, d, h, hw, hj => by
    simp only [D.flats] at h
    split at h
    · rename_i a b ha hb
      obtain rfl : a ++ b = cs := by simpa using h
      have hal : a.length = s := (D.flat_len ha).trans (hw x (by simp))
      cases j with
      | zero =>
        obtain rfl : x = d := by simpa using hj
        exact ⟨a, ha, by simp [← hal]⟩
      | succ j =>
        obtain ⟨c, h1, h2⟩ := flats_seg hb (fun y hy => hw y (by simp [hy])) (by simpa using hj)
        refine ⟨c, h1, ?_⟩
        rw [← h2, show (j + 1) * s = a.length + j * s by rw [Nat.succ_mul, hal]; omega, List.drop_append, Nat.add_sub_cancel_left, List.drop_eq_nil_of_le (by omega)]
        rfl
    · cases h
section
variable [Glob]
theorem ok_idxV {P : Program} {T : TypeId → TyE} {n : Nat} {w0 : World} {ow0 : Own} {o : Oper} {s : St} {K : St → Prop} {t e : TypeId} {len : Nat} {x y : Operand} {k : IntKind} {j : Int} {xs : List D} {d : D} {cs : List Value} (hG : ∀ t, Good P T t) (ht : P.underlying t = some (.array len e)) (he : (T e).ok = true) (ho : o.op = .index t x y) (hd : dstOk n o = true)
    (hx : evS s x = .val (.agg xs)) (hcs : D.flats xs = some cs) (hy : evS s y = .val (.one (.int k j))) (hj : 0 ≤ j) (hj2 : j < len) (hw : xs.all (fun d => d.w == (T e).w) = true) (hget : xs[j.toNat]? = some d) (hagg : d.isAgg = (T e).ty.isAgg) (h : K (s.setd o.dst (.val d))) : Ok P n w0 ow0 o s K := by
  refine ok_value fun a w ow hf => ?_
  obtain ⟨hdesc, i, zv, hi, hsz, hz, hflat, _, hz2, hby, hzw2⟩ := (hG e).of (TyE.ok_of he)
  have hxv : a.eval x = .agg cs.toArray := hf.flatS (by unfold flatS; rw [hx]; exact hcs)
  obtain ⟨c, hc1, hc2⟩ := flats_seg (s := (T e).w) hcs (fun y hy => by simpa using List.all_eq_true.1 hw y hy) hget
  have hcl := D.flat_len hc1
  have hdw : d.w = (T e).w := by simpa using List.all_eq_true.1 hw d (List.mem_of_getElem? hget)
  have hpart : ∃ v, (part e cs.toArray (j.toNat * i.size)).run P w = .ok v w ∧ V P w ow d.fz [] v := by
    have hdf : d.fz = d := D.flat_fzq hc1
    rw [hdf]
    have hR : R P w ow d [] c := R.flat hc1
    unfold part
    simp only [Sem.run_bind, run_isAgg hdesc, Result.andThen_ok]
    by_cases hag : (T e).ty.isAgg = true
    · rw [hag]
      simp only [if_true, Sem.run_bind, run_size hi, Result.andThen_ok, Sem.run_pure]
      refine ⟨_, rfl, ?_⟩
      have := (V.of hR).1 (by rw [hagg, hag])
      rw [hsz]
      have e1 : cs.toArray.extract (j.toNat * (T e).w) (j.toNat * (T e).w + (T e).w) = c.toArray := by
        apply Array.toList_inj.1
        simp [List.extract_eq_take_drop, hc2]
      rw [e1]; exact this
    · have hag' : (T e).ty.isAgg = false := by simpa using hag
      rw [hag']
      obtain ⟨v, hv, hV⟩ := (V.of hR).2 (by rw [hagg, hag']) (by
        rw [hcl]
        cases d with
        | agg ys => rw [hag'] at hagg; cases hagg
        | one v => rfl
        | sl _ _ => rfl
        | bx _ _ => rfl
        | any _ => simp [D.flat] at hc1)
      have hget2 : cs.toArray[j.toNat * i.size]? = some v := by
        rw [hsz]
        have h1 : ((cs.drop (j.toNat * (T e).w)).take (T e).w)[0]? = some v := by rw [hc2, hv]; rfl
        rw [List.getElem?_take] at h1
        split at h1
        · simpa using h1
        · cases h1
      refine ⟨v, ?_, hV⟩
      simp only [Bool.false_eq_true, if_false, hget2, Sem.run_pure]
  obtain ⟨v, hv, hV⟩ := hpart
  refine ⟨v, w, ?_, _, h, ow, ?_⟩
  · unfold execOp; rw [ho]
    have hyv := (hf.one hy).1
    simp only [hxv, hyv, Sem.run_bind]
    have : (Instr.index t (.agg cs.toArray) (.int k j)).run P w = .ok v w := by
      unfold Instr.index
      simp only [asIntOf, Sem.run_bind, Sem.run_pure, Result.andThen_ok, run_underlying ht]
      rw [if_pos ⟨hj, hj2⟩]
      simp only [Sem.run_bind, run_size hi, Result.andThen_ok, hv]
    simp only [this, Result.andThen_ok, Sem.run_pure]
  · cases hod : o.dst with
    | none => exact hf
    | some t =>
      have ht : t < n := by simpa [dstOk, hod] using hd
      exact hf.set ht hV
end
end Go.Dv

end
section
namespace Go.Dv
open Go.RowKit
variable [Glob]
def FnOkB (P : Program) (f : FuncId) (ds : List D) (gs : List (Nat × D)) (Q : S → Prop) : Prop :=
  ∀ (w : World) (ow : Own) (vs : Array Value) (t : Nat), t ≠ far0 → Laid w ow → (∀ b, w.heap.size ≤ b → ow b = none) → vs.size = ds.length → (∀ (i : Nat) (d : D), ds[i]? = some d → V P w ow d.fz [] (vs.getD i undef)) →
    (∀ p ∈ gs, V P w ow (D.bx false p.2).fz [] (.pointer (some ⟨p.1, 0, none⟩))) →
    Calls P f vs w fun e w' => ∃ v ow' r, e = .returned v ∧ Q r ∧ After w ow w' ow' ∧ S.plain r = true ∧ ∀ s a, SV P w' ow' s a t r v
theorem FnOk.toB {P : Program} {f : FuncId} {ds : List D} {gs : List (Nat × D)} {Q : S → Prop} (h : FnOk P f ds Q) : FnOkB P f ds gs Q := fun w ow vs t h0 h1 h2 h3 h4 _ => h w ow vs t h0 h1 h2 h3 h4
theorem FnOkB.fzs {P : Program} {f : FuncId} {ds : List D} {gs : List (Nat × D)} {Q : S → Prop} (h : FnOkB P f (D.fzs ds) gs Q) : FnOkB P f ds gs Q := by
  intro w ow vs t ht hL h1 h2 h3 h4
  refine h w ow vs t ht hL h1 (by rw [h2, D.fzs_map]; simp) (fun i d hd => ?_) h4
  rw [D.fzs_map] at hd
  simp only [List.getElem?_map, Option.map_eq_some_iff] at hd
  obtain ⟨d2, h5, rfl⟩ := hd
  rw [D.fz_fz]
  exact h3 i d2 h5
def unbx : List D → Option (List D)
  | [] => some []
  | .bx _ d :: l => (unbx l).map (d :: ·)
  | _ => none
theorem unbx_get : ∀ {ds ms : List D}, unbx ds = some ms → ds.length = ms.length ∧ ∀ (i : Nat) (m : D), ms[i]? = some m → ∃ o, ds[i]? = some (.bx o m)
  | [], ms, h => by simp only [unbx] at h; obtain rfl : [] = ms := by simpa using h
                    exact ⟨rfl, fun i m h => by simp at h⟩
  | d :: l, ms, h => by
    cases d with
    | bx o d =>
      simp only [unbx, Option.map_eq_some_iff] at h
      obtain ⟨ms', h1, rfl⟩ := h
      obtain ⟨h2, h3⟩ := unbx_get h1
      refine ⟨by simp [h2], fun i m hi => ?_⟩
      cases i with
      | zero => simp at hi; subst hi; exact ⟨o, rfl⟩
      | succ i => simpa using h3 i m (by simpa using hi)
    | _ => simp [unbx] at h
def callKB (P : Program) (f : FuncId) (ds : List D) (gs : List (Nat × D)) (rs : List Nat) [k : Hid1 S] : Prop := ∃ Q, FnOkB P f ds gs Q ∧ ∀ r, Q r → (rs = [] ∨ r.closed = true) ∧ k.K r
def dcallB (s : St) (u : Option Nat) (f : FuncId) (P : Program) (args : List Operand) (bs : List Nat) (K : St → Prop) : Prop :=
  argK s args fun ds rs => argK s (bs.map Operand.global) fun ds2 rs2 => match unbx ds2 with
    | some ms => (callKB (k := ⟨fun r => K (s.setd u r)⟩) P f (D.fzs ds) (bs.zip (D.fzs ms)) (rs ++ rs2))
    | none => False
def capOps : List Value → Option (List Operand)
  | [] => some []
  | .pointer (some ⟨b, 0, none⟩) :: l => (capOps l).map (.global b :: ·)
  | _ => none
theorem capOps_spec {a : Act} : ∀ {cs : List Value} {ops : List Operand}, capOps cs = some ops → ops.map a.eval = cs
  | [], ops, h => by simp only [capOps] at h; obtain rfl : [] = ops := by simpa using h
                     rfl
  | v :: l, ops, h => by
    unfold capOps at h
    split at h
    · rename_i h0; cases h0
    · rename_i b l' h0
      obtain ⟨rfl, rfl⟩ := List.cons.inj h0
      simp only [Option.map_eq_some_iff] at h
      obtain ⟨ops', h1, rfl⟩ := h
      simp only [List.map_cons, capOps_spec h1, List.cons.injEq, and_true]
      rfl
    · cases h
theorem ok_callX {P : Program} {n : Nat} {w0 : World} {ow0 : Own} {o : Oper} {s : St} {K : St → Prop} {f : FuncId} {args : List Operand}
    (hrun : ∀ a w ow, Fits P n w0 ow0 ow s a w → (execOp a.eval o).run P w = .ok (.enter f (args.map a.eval).toArray) w) (hd : dstOk n o = true)
    (h : ∀ a w ow, Fits P n w0 ow0 ow s a w → ∃ (ds : List D) (gs : List (Nat × D)) (rs : List Nat) (Q : S → Prop), ds.length = args.length ∧ (∀ (i : Nat) (d : D), ds[i]? = some d → ∃ x, args[i]? = some x ∧ V P w (lend rs ow) d.fz [] (a.eval x)) ∧
      (∀ p ∈ gs, V P w (lend rs ow) (D.bx false p.2).fz [] (.pointer (some ⟨p.1, 0, none⟩))) ∧ FnOkB P f ds gs Q ∧ ∀ r, Q r → (rs = [] ∨ r.closed = true) ∧ K (s.setd o.dst r)) : Ok P n w0 ow0 o s K := by
  intro a w ⟨ow, hf⟩ next Q' hn
  obtain ⟨ds, gs, rs, Q, hlen, hrd, hgs, hfn, hK⟩ := h a w ow hf
  unfold Oper.wp
  rw [hrun a w ow hf]
  simp only [Oper.upon]
  obtain ⟨t, ht, hdt⟩ : ∃ t, t ≠ far0 ∧ ∀ u, o.dst = some u → u = t ∧ u < n := by
    cases hd' : o.dst with
    | none => exact ⟨0, by simp [far0], fun u hu => by cases hu⟩
    | some u =>
      have hu : u < n := by simpa [dstOk, hd'] using hd
      exact ⟨u, fun e => absurd (show far0 < n from e ▸ hu) (Nat.not_lt.2 (Nat.le_trans hf.small (by decide))), fun u' hu' => by obtain rfl := Option.some.inj hu'; exact ⟨rfl, hu⟩⟩
  refine (hfn w (lend rs ow) (args.map a.eval).toArray t ht (hf.laidNow.mono fun b o h1 h2 => ⟨h1, lend_none h2⟩) (fun b hb => lend_none (hf.new b hb)) (by simp [hlen]) (fun i d hi => ?_) hgs).mono ?_
  · obtain ⟨x, h1, h2⟩ := hrd i d hi
    have : (args.map a.eval).toArray.getD i undef = a.eval x := by
      simp [Array.getD_eq_getD_getElem?, h1]
    rw [this]; exact h2
  · rintro e w' ⟨v, ow', r, rfl, hQ, haf, hpl, hsv⟩
    obtain ⟨hcl, hKr⟩ := hK r hQ
    simp only
    have hnew2 : ∀ b, w'.heap.size ≤ b → (if b < w.heap.size then ow b else ow' b) = none := by
      intro b hb
      rw [if_neg (by have := haf.size; omega)]
      exact haf.new b hb
    have hg : Fits P n w0 ow0 (fun b => if b < w.heap.size then ow b else ow' b) s a w' := hf.grown haf.os haf.tape haf.output haf.size (fun b hb => ⟨(haf.old b hb).1, if_pos hb⟩) hnew2
    have hres : ∀ s2, SV P w' (fun b => if b < w.heap.size then ow b else ow' b) s2 a t r v := by
      intro s2
      rcases hcl with hcl | hcl
      · subst hcl
        have : (fun b => if b < w.heap.size then ow b else ow' b) = ow' := by
          funext b
          split
          · rename_i hb; rw [(haf.old b hb).2, lend_nil]
          · rfl
        rw [this]
        exact hsv s2 a
      · refine SV.closed hcl (fun b hb q hq => ⟨rfl, ?_⟩) (hsv s2 a)
        by_cases hlt : b < w.heap.size
        · have h1 := (haf.old b hlt).2
          rw [hq] at h1
          simp only [if_pos hlt]
          unfold lend at h1
          split at h1
          · rename_i l hl
            split at h1
            · cases h1
            · rw [hl]; exact h1.symm
          · cases h1
        · simp only [if_neg hlt]; exact hq
    refine hn _ _ _ hKr ?_
    cases hd' : o.dst with
    | none => exact ⟨_, hg⟩
    | some u =>
      obtain ⟨rfl, hu⟩ := hdt u hd'
      exact ⟨_, hg.set hu (hres _)⟩
theorem Fits.argK2 {P : Program} {n : Nat} {w0 w : World} {ow0 ow : Own} {s : St} {a : Act} (h : Fits P n w0 ow0 ow s a w) {args : List Operand} {bs : List Nat} {f : FuncId} {u : Option Nat} {K : St → Prop} (hk : dcallB s u f P args bs K) :
    ∃ (ds : List D) (gs : List (Nat × D)) (rs : List Nat) (Q : S → Prop), ds.length = args.length ∧ (∀ (i : Nat) (d : D), ds[i]? = some d → ∃ x, args[i]? = some x ∧ V P w (lend rs ow) d.fz [] (a.eval x)) ∧
      (∀ p ∈ gs, V P w (lend rs ow) (D.bx false p.2).fz [] (.pointer (some ⟨p.1, 0, none⟩))) ∧ FnOkB P f ds gs Q ∧ ∀ r, Q r → (rs = [] ∨ r.closed = true) ∧ K (s.setd u r) := by
  obtain ⟨ds, rs, h1, hlen, hrd⟩ := h.argK _ hk
  obtain ⟨ds2, rs2, h2, hlen2, hrd2⟩ := h.argK _ h1
  split at h2
  · rename_i ms hms
    obtain ⟨Q, hfn, hK⟩ := h2
    obtain ⟨hml, hmg⟩ := unbx_get hms
    refine ⟨ds, bs.zip (D.fzs ms), rs ++ rs2, Q, hlen, fun i d hd => hrd _ (fun r hr => by simp [hr]) i d hd, ?_, hfn.fzs, hK⟩
    rintro ⟨b, m⟩ hp
    obtain ⟨i, hi⟩ := List.getElem?_of_mem hp
    rw [List.getElem?_zip_eq_some] at hi
    obtain ⟨hb, hm⟩ := hi
    rw [D.fzs_map] at hm
    simp only [List.getElem?_map, Option.map_eq_some_iff] at hm
    obtain ⟨m', hm', rfl⟩ := hm
    obtain ⟨oo, hd2⟩ := hmg i m' hm'
    obtain ⟨x, hx, hV⟩ := hrd2 (rs ++ rs2) (fun r hr => by simp [hr]) i _ hd2
    simp only [List.getElem?_map, hb, Option.map_some, Option.some.injEq] at hx
    subst hx
    simp only [D.fz] at hV ⊢
    rw [D.fz_fz]
    exact hV
  · exact h2.elim
theorem ok_callB {P : Program} {n : Nat} {w0 : World} {ow0 : Own} {o : Oper} {s : St} {K : St → Prop} {f : FuncId} {args : Array Operand} {ts : Array TypeId} {bs : List Nat} (he : Enters P f)
    (ho : o.op = .call { callee := .value (.func f), args := args, argTypes := ts }) (hd : dstOk n o = true) (h : dcallB s o.dst f P args.toList bs K) : Ok P n w0 ow0 o s K := by
  refine ok_callX (f := f) (args := args.toList) (fun a w ow hf => ?_) hd fun a w ow hf => hf.argK2 h
  unfold execOp
  simp only [ho, resolve, invoke, Act.eval, Deferred.ofValue, Sem.run_bind, Sem.run_pure, Result.andThen_ok]
  have := he (#[] ++ args.map a.eval ++ #[]) w
  have e : (args.toList.map a.eval).toArray = #[] ++ args.map a.eval ++ #[] := by apply Array.toList_inj.1; simp
  rw [e]
  simpa using this
theorem ok_callV {P : Program} {n : Nat} {w0 : World} {ow0 : Own} {o : Oper} {s : St} {K : St → Prop} {x : Operand} {f : FuncId} {cap : Array Value} {ops : List Operand} {args : Array Operand} {ts : Array TypeId} (he : Enters P f) (hx : evS s x = .val (.one (.func (.func f) #[] cap))) (hops : capOps cap.toList = some ops)
    (ho : o.op = .call { callee := .value x, args := args, argTypes := ts }) (hd : dstOk n o = true) (h : dcall s o.dst f P (args.toList ++ ops) K) : Ok P n w0 ow0 o s K := by
  refine ok_callX (f := f) (args := args.toList ++ ops) (fun a w ow hf => ?_) hd fun a w ow hf => ?_
  · have hv := (hf.one hx).1
    unfold execOp
    simp only [ho, resolve, invoke, hv, Deferred.ofValue, Sem.run_bind, Sem.run_pure, Result.andThen_ok]
    have := he (#[] ++ args.map a.eval ++ cap) w
    have e : ((args.toList ++ ops).map a.eval).toArray = #[] ++ args.map a.eval ++ cap := by
      apply Array.toList_inj.1
      simp [capOps_spec hops]
    rw [e]
    simpa using this
  · obtain ⟨ds, rs, ⟨Q, hfn, hK⟩, hlen, hrd⟩ := hf.argK _ h
    exact ⟨ds, [], rs, Q, hlen, fun i d hd => hrd rs (fun _ h => h) i d hd, fun p hp => by simp at hp, hfn.ofFzs.toB, hK⟩
def dmkFn (u : Nat) (g : FuncId) (c : Operand) (s : St) (K : St → Prop) : Prop := match evS s c with
  | .own (.bx true d) => u ≠ slotOf c ∧ ∀ b, K (((s.kill (1000000 + 2 * b)).put (1000000 + 2 * b) (.rf (slotOf c) [0])).set u (.val (.one (.func (.func g) #[] #[.pointer (some ⟨b, 0, none⟩)]))))
  | _ => False
theorem ok_mkFn {P : Program} {n : Nat} {w0 : World} {ow0 : Own} {o : Oper} {s : St} {K : St → Prop} {u c : Nat} {g : FuncId} (ho : o.op = .makeFunc (.func g) #[] #[.tmp c]) (hd : o.dst = some u) (hu : u < n) (h : dmkFn u g (.tmp c) s K) : Ok P n w0 ow0 o s K := by
  refine ok_value fun a w ow hf => ?_
  unfold dmkFn at h
  split at h
  rotate_left
  · exact h.elim
  rename_i d hc
  obtain ⟨huc, h⟩ := h
  have hc6 : c < 1000000 := by
    by_cases hc6 : c < 1000000
    · exact hc6
    · simp only [evS, hc6, if_false] at hc; cases hc
  have hs : s c = .own (.bx true d) := by simpa [evS, hc6] using hc
  have hV := hf.slot c
  rw [hs] at hV
  simp only [SV, V, R] at hV
  obtain ⟨b, off, C, e, fz, cs', h1, hh, hn, hs2, hl, hcc, hr⟩ := hV
  obtain ⟨hob, hunf, rfl, hCs⟩ := hs2 trivial
  have hav : aval a c = .pointer (some ⟨b, 0, none⟩) := by simpa using h1
  have hev : a.eval (.tmp c) = aval a c := by
    unfold aval; rw [if_pos hc6]; rfl
  refine ⟨.func (.func g) #[] #[.pointer (some ⟨b, 0, none⟩)], w, ?_, _, h b, ow, ?_⟩
  · unfold execOp; rw [ho]
    simp only [Instr.makeFunc, Sem.run_bind, Sem.run_pure, Result.andThen_ok]
    simp [hev, hav]
  · rw [hd]
    have hk := hf.kill (1000000 + 2 * b)
    have hck : (s.kill (1000000 + 2 * b)) c = .own (.bx true d) := by
      have : c ≠ 1000000 + 2 * b := by omega
      simp [St.kill, this, hs, S.drop, S.root]
    have hk0 : ((s.kill (1000000 + 2 * b)) (1000000 + 2 * b)).isOwn = false := by simp [St.kill, S.isOwn]
    have hfar : 1000000 + 2 * b ≠ far0 := by unfold far0; omega
    refine (hk.tell hfar hk0 ?_).set hu (SV.val_one rfl)
    simp only [SV, slotOf]
    refine ⟨.bx true d, d, b, 0, hck, by simp [D.sub, D.kid], ?_, ?_⟩
    · rw [hav]; simp [loc, into, locAt]
    · unfold aval; rw [if_neg (by omega)]
      have : (1000000 + 2 * b - 1000000) / 2 = b := by omega
      rw [this]
end Go.Dv

end
