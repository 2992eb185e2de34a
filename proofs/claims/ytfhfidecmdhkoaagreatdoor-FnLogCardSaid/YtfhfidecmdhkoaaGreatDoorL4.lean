/- General lemmas (data by value) and the walks on which the law's proof leans, part 4. No condition. -/
import Derived.Test.YtfhfidecmdhkoaaGreatDoorL3
set_option linter.unusedVariables false
set_option linter.unusedSimpArgs false
set_option linter.unusedSectionVars false
section
namespace Go.Dv
open Go.RowKit
variable [Glob]
section
variable {P : Program} {n : Nat} {ops : Array Oper} {md : Region.Mode}
def anyL (P : Program) (n : Nat) (md : Region.Mode) (ops : Array Oper) (m : Nat) (L : Array Bool → St → Prop) : Nat → Array Bool → St → Prop
  | 0, listed, s => L listed s
  | f + 1, listed, s => Region.ready md ops listed ≠ [] ∧ ∀ i ∈ Region.ready md ops listed, i < m ∧ qD P n ops i (anyL P n md ops m L f (listed.setIfInBounds i true)) s
theorem anyL_sound {p : Pin} (hdst : ∀ o ∈ ops.toList, noDst1 p o = true) {w0 : World} {ow0 : Own} {m g : Nat} {L : Array Bool → St → Prop} {Q' : Exit → Act → World → Prop} (hL : ∀ listed s a w, L listed s → Rel P n w0 ow0 s a w → Pinned p a → wpAny P md ops Q' g listed a w) :
    ∀ (f : Nat) (listed : Array Bool) (s : St) (a : Act) (w : World), Rel P n w0 ow0 s a w → Pinned p a → anyL P n md ops m L f listed s → wpAny P md ops Q' (f + g) listed a w
  | 0, listed, s, a, w, hR, hp, h => by rw [Nat.zero_add]; exact hL _ _ _ _ h hR hp
  | f + 1, listed, s, a, w, hR, hp, h => by
    rw [show f + 1 + g = (f + g) + 1 by omega]
    exact ⟨fun h0 => absurd h0 h.1, fun i hi => wpOp_of_qD hdst hR hp (fun s' a' w' h' hR' hp' => anyL_sound hdst hL f _ s' a' w' hR' hp' h') (h.2 i hi).2⟩
theorem anyL_first {m i : Nat} {oi : Oper} {ui : Nat} {yi : S} {L : Array Bool → St → Prop} (hn6 : n ≤ 1000000) (hi : ops[i]? = some oi) (hdi : oi.dst = some ui) (hui : ui < n)
    (hs : Region.sinkB md ops m = true) (hc : Region.chainB md ops m = true) (hn : m < ops.size) (hin : i < m)
    (hdone : ∀ listed s, L listed s → ∀ j ∈ Region.ready md ops listed, m ≤ j) :
    ∀ (f : Nat) (listed : Array Bool) (s : St), HeadInv md ops m listed →
      (∀ j oj, ops[j]? = some oj → j ≠ i → listed.getD j true = false → (∀ e ∈ oj.after, Region.binds md e = true → e.on ≠ i) → oi.apart ops oj = true) →
      i ∈ Region.ready md ops listed → Cons s → (s ui).isOwn = false → Yield P n ops oi ui s yi →
      anyL P n md ops m L f (listed.setIfInBounds i true) (s.put ui yi) → anyL P n md ops m L (f + 1) listed s := by
  intro f
  induction f with
  | zero =>
    intro listed s inv _ hr hcs ho hy H
    have hun := (mem_ready.1 hr).1
    refine ⟨fun h => (by rw [h] at hr; cases hr), fun j hj => ?_⟩
    have hjn : j < m := by
      rcases Nat.lt_or_ge j m with h | h
      · exact h
      · exact absurd hj (tail_waits hs hc hn inv _ i rfl hin hun j h)
    refine ⟨hjn, ?_⟩
    by_cases hji : j = i
    · subst hji; unfold qD; simp only [hi]; exact ⟨ui, yi, hdi, hui, ho, hy, H⟩
    · have := hdone _ _ H j (ready_mono hj hji)
      omega
  | succ f ih =>
    intro listed s inv hfree hr hcs ho hy H
    have hun := (mem_ready.1 hr).1
    refine ⟨fun h => (by rw [h] at hr; cases hr), fun j hj => ?_⟩
    have hjn : j < m := by
      rcases Nat.lt_or_ge j m with h | h
      · exact h
      · exact absurd hj (tail_waits hs hc hn inv _ i rfl hin hun j h)
    refine ⟨hjn, ?_⟩
    by_cases hji : j = i
    · subst hji; unfold qD; simp only [hi]; exact ⟨ui, yi, hdi, hui, ho, hy, H⟩
    · have h1 := (H.2 j (ready_mono hj hji)).2
      obtain ⟨hjun, oj, hoj, hall⟩ := mem_ready.1 hj
      have hnot : ∀ e ∈ oj.after, Region.binds md e = true → e.on ≠ i := fun e he hb heq => by
        have h1 := hall e he hb
        rw [heq, getD_both hun] at h1
        cases h1
      have h2 := qD_put hn6 hoj (hfree j oj hoj hji hjun hnot) hdi hui hcs ho hy h1
      have hfree' : ∀ k ok, ops[k]? = some ok → k ≠ i → (listed.setIfInBounds j true).getD k true = false →
          (∀ e ∈ ok.after, Region.binds md e = true → e.on ≠ i) → oi.apart ops ok = true := fun k ok hk hki hun hno => by
        refine hfree k ok hk hki ?_ hno
        by_cases hjk : j = k
        · subst hjk; exact hjun
        · rw [getD_set_ne true hjk] at hun; exact hun
      refine qD_mono (fun s' h3 => ih (listed.setIfInBounds j true) s' (inv.set hj hjn) hfree' (ready_mono hr (Ne.symm hji)) h3.1 h3.2.1 h3.2.2.1 ?_) h2
      rw [Array.setIfInBounds_comm _ _ hji]
      exact h3.2.2.2
theorem anyL_lex {T : TypeId → TyE} (hG : ∀ t, Good P T t) (hn6 : n ≤ 1000000) {m g : Nat} {Lq : St → Prop} (hs : Region.sinkB md ops m = true) (hc : Region.chainB md ops m = true) (hn : m < ops.size) :
    ∀ (l : List Oper) (k : Nat) (listed : Array Bool) (s : St), (∀ j, j < l.length → l[j]? = ops[k + j]?) → k + l.length = m → HeadInv md ops m listed → Cons s →
    Region.lexHead md ops g l.length k listed = true → QL P T n ops l s Lq →
    anyL P n md ops m (fun listed' s' => Region.seqB md ops g m listed' = true ∧ Lq s') l.length listed s
  | [], k, listed, s, _, hk, _, _, hB, h => by
    have : k = m := by simpa using hk
    subst this
    exact ⟨by simpa [Region.lexHead] using hB, h⟩
  | o :: l, k, listed, s, hl, hk, inv, hcs, hB, h => by
    have h0 : ops[k]? = some o := by simpa using (hl 0 (by simp)).symm
    simp only [List.length_cons, Region.lexHead, Bool.and_eq_true] at hB
    obtain ⟨⟨hr, hf⟩, hB'⟩ := hB
    have hkn : k < m := by simp only [List.length_cons] at hk; omega
    have hr' : k ∈ Region.ready md ops listed := by simpa using hr
    obtain ⟨u, y, hd, hu, ho, hy, hrest⟩ := QL_yield hG h
    exact anyL_first hn6 h0 hd hu hs hc hn hkn (fun listed' s' hL => seqB_ready hL.1) l.length listed s inv (Region.free_spec h0 hf) hr' hcs ho hy
      (anyL_lex hG hn6 hs hc hn l (k + 1) _ _ (fun j hj => by have := hl (j + 1) (by simp; omega); simpa [Nat.add_assoc, Nat.add_comm 1 j] using this) (by simp only [List.length_cons] at hk; omega) (inv.set hr' hkn) (hcs.put ho hy.2.1) hB' hrest)
theorem okC_drawT {T : TypeId → TyE} (hG : ∀ t, Good P T t) {p : Pin} {w0 : World} {ow0 : Own} {s : St} {K : Exit → St → Prop} {id : Nat} {l : List Oper} (m : Nat) (hm : P.follows .mixedOrders = true) (hn : n ≤ 1000000) (hB : Region.lexTailB .any l.toArray m = true)
    (h : QL P T n l.toArray (l.take m) s (fun s' => vcL P T n l.toArray (l.drop m) s' fun s2 => K .normal s2)) (hd : noDst p l = true) : OkC P n w0 ow0 p (.region id l.toArray true) s K := by
  intro a w hR hp Q hQ
  simp only [Region.lexTailB, Bool.and_eq_true, decide_eq_true_eq] at hB
  obtain ⟨⟨⟨⟨hsel, hmn⟩, hs⟩, hc⟩, hlex⟩ := hB
  have hn' : m < l.length := by simpa using hmn
  have htl : (l.take m).length = m := by simp; omega
  have hdl : (l.drop m).length = l.toArray.size - m := by simp
  have inv0 : HeadInv .any l.toArray m (Array.replicate l.toArray.size false) :=
    ⟨by simp, fun j oj _ hl => (by rw [getD_replicate_false] at hl; cases hl), fun t _ ht => getD_in (by simpa using ht) (getD_replicate_false _ _)⟩
  have hR2 : Rel P n w0 ow0 s a { w with drawn := w.drawn + 1 } := by obtain ⟨ow, hf⟩ := hR; exact ⟨ow, hf.drew⟩
  have hcs : Cons s := by obtain ⟨ow, hf⟩ := hR; exact hf.cons
  have H := anyL_lex (md := .any) (g := l.toArray.size - m) hG hn hs hc hmn (l.take m) 0 _ s (fun j hj => by
    have hj' : j < m := by rw [htl] at hj; exact hj
    simp [hj']) (by simpa using htl) inv0 hcs (by rw [htl]; exact hlex) h
  refine wp_region_any hm ?_
  have := anyL_sound (p := p) (fun o ho => noDst.one hd o (by simpa using ho)) (Q' := Q) (g := l.toArray.size - m) (w0 := w0) (ow0 := ow0) (fun listed s' a' w' hL hR' hp' => by
    have h2 : wpList P l.toArray Q (l.drop m) a' w' := OkL.wp (l.drop m) s' _ (stepL_ok hG _ _ _ hL.2) (fun o ho => noDst.one hd o (List.mem_of_mem_drop ho)) a' w' hR' hp' fun s2 a2 w2 hK hR3 hp3 => hQ _ _ _ _ hK hR3 hp3
    have := wpAny_of_seq (md := .any) (Q' := Q) (l.drop m) m listed a' w' (fun j => by simp [List.getElem?_drop]) (by rw [hdl]; exact hL.1) h2
    rwa [hdl] at this) _ _ s _ _ hR2 hp H
  rw [htl, show m + (l.toArray.size - m) = l.toArray.size by omega] at this
  exact this
theorem QL_nil {T : TypeId → TyE} {s : St} {K : St → Prop} : QL P T n ops [] s K = K s := Eq.trans rfl rfl
theorem QL_put {T : TypeId → TyE} {o : Oper} {l : List Oper} {s : St} {t : Nat} {x : S} {K : St → Prop} : QL P T n ops (o :: l) (s.put t x) K = (match o.dst with
    | none => False
    | some u => u < n ∧ ((s.put t x) u).isOwn = false ∧ @gH ops o (s.put t x) ⟨stepD P T n o.op u (s.put t x) fun s' => QL P T n ops l s' K⟩ ⟨QL P T n ops l ((s.put t x).put u (.tup [])) K⟩) := Eq.trans rfl rfl
theorem QL_lst {T : TypeId → TyE} {o : Oper} {l : List Oper} {L : List (Nat × S)} {K : St → Prop} : QL P T n ops (o :: l) (lst L) K = (match o.dst with
    | none => False
    | some u => u < n ∧ ((lst L) u).isOwn = false ∧ @gH ops o (lst L) ⟨stepD P T n o.op u (lst L) fun s' => QL P T n ops l s' K⟩ ⟨QL P T n ops l ((lst L).put u (.tup [])) K⟩) := Eq.trans rfl rfl
theorem QL_arg {T : TypeId → TyE} {o : Oper} {l : List Oper} {ds : List D} {K : St → Prop} : QL P T n ops (o :: l) (argSt ds) K = (match o.dst with
    | none => False
    | some u => u < n ∧ ((argSt ds) u).isOwn = false ∧ @gH ops o (argSt ds) ⟨stepD P T n o.op u (argSt ds) fun s' => QL P T n ops l s' K⟩ ⟨QL P T n ops l ((argSt ds).put u (.tup [])) K⟩) := Eq.trans rfl rfl
theorem okC_dr {T : TypeId → TyE} (hG : ∀ t, Good P T t) {p : Pin} {w0 : World} {ow0 : Own} {s : St} {K : Exit → St → Prop} {id : Nat} {y : Code} (hm : P.follows .mixedOrders = true) (hn : n ≤ 1000000) (hB : Region.lexB .any ops = true)
    (h : QL P T n ops ops.toList s (fun s' => @blk St s' ⟨fun s' => OkC P n w0 ow0 p y s' K⟩)) (hd : noDst p ops.toList = true := by rfl) : OkC P n w0 ow0 p (.seq (.region id ops true) y) s K := okC_seq (okC_draw hG hm hn hB h hd)
theorem okC_dt {T : TypeId → TyE} (hG : ∀ t, Good P T t) {p : Pin} {w0 : World} {ow0 : Own} {s : St} {K : Exit → St → Prop} {id : Nat} {l : List Oper} {y : Code} (m : Nat) (hm : P.follows .mixedOrders = true) (hn : n ≤ 1000000) (hB : Region.lexTailB .any l.toArray m = true)
    (h : QL P T n l.toArray (l.take m) s (fun s' => vcL P T n l.toArray (l.drop m) s' fun s2 => @blk St s2 ⟨fun s2 => OkC P n w0 ow0 p y s2 K⟩)) (hd : noDst p l = true := by rfl) : OkC P n w0 ow0 p (.seq (.region id l.toArray true) y) s K := okC_seq (okC_drawT hG m hm hn hB h hd)
end
attribute [go_sem] QL_nil QL_put QL_lst QL_arg stepD quietOp qmove
end Go.Dv

end
section
namespace Go.Dv
open Go.RowKit
variable [Glob]
theorem aval_other {a : Act} {d : Option Nat} {v : Value} {i : Nat} (h : d ≠ some i) : aval (a.put d v) i = aval a i := by
  cases d with
  | none => rfl
  | some t =>
    have hne : t ≠ i := fun e => h (by rw [e])
    unfold aval Act.put
    split
    · simp [Array.getD_eq_getD_getElem?, hne]
    · rfl
theorem wp_same {P : Program} {o : Oper} {a : Act} {w : World} {next : Act → World → Prop} {Q : Exit → Act → World → Prop} (h : o.wp P a w next Q) : o.wp P a w (fun a' w' => next a' w' ∧ ∀ i, o.dst ≠ some i → aval a' i = aval a i) Q := by
  unfold Oper.wp at *
  generalize (execOp a.eval o).run P w = r at *
  cases r with
  | ok nx w' =>
    cases nx <;> simp only [Oper.upon] at h ⊢ <;>
      first
        | exact ⟨h, fun i hi => aval_other hi⟩
        | exact ⟨h, fun i hi => (aval_other (a := { a with defers := _ }) hi).trans rfl⟩
        | exact Calls.mono h (fun e w'' he => by cases e <;> first | exact ⟨he, fun i hi => aval_other hi⟩ | exact he)
        | exact Rows.mono h (fun _ _ he => ⟨he, fun i hi => aval_other hi⟩)
  | halt x w' => cases x <;> simp only [Oper.upon] at h ⊢ <;> exact h
def St.only (s : St) (Y : List Nat) : St := fun i => if i ∈ Y then s i else .un
def St.merge (s : St) (Y : List Nat) (f : St) : St := fun i => if i ∈ Y then f i else s i
def inY (Y : List Nat) (p : List Nat) : Bool := match p.getLast? with
  | some j => decide (j ∈ Y)
  | none => false
theorem inY_snoc {Y q : List Nat} {j : Nat} : inY Y (q ++ [j]) = decide (j ∈ Y) := by simp [inY]
def relY (Y : List Nat) (ow : Own) : Own := fun b => match ow b with
  | none => none
  | some p => if inY Y p = true then some p else some (p ++ [far0])
theorem relY_none {Y : List Nat} {ow : Own} {b : Nat} (h : ow b = none) : relY Y ow b = none := by simp [relY, h]
theorem relY_in {Y : List Nat} {ow : Own} {b j : Nat} {q : List Nat} (h : ow b = some (q ++ [j])) (hj : j ∈ Y) : relY Y ow b = some (q ++ [j]) := by simp [relY, h, inY_snoc, hj]
theorem relY_out {Y : List Nat} {ow : Own} {b : Nat} {p : List Nat} (h : ow b = some p) (hp : inY Y p = false) : relY Y ow b = some (p ++ [far0]) := by simp [relY, h, hp]
section
variable {P : Program} {n : Nat} {w0 w w' : World} {ow0 ow : Own} {s f : St} {a a' : Act} {Y : List Nat}
theorem Fits.frameIn (h : Fits P n w0 ow0 ow s a w) (hfar : far0 ∉ Y) (hin : ∀ i ∈ Y, ∀ r, (s i).root = some r → r ∈ Y) : Fits P n w (relY Y ow) (relY Y ow) (s.only Y) a w := by
  refine ⟨h.nodef, h.size, h.small, h.laidNow.mono fun b o h1 h2 => ⟨h1, relY_none h2⟩, ⟨rfl, rfl, rfl, Nat.le_refl _, fun _ _ _ => rfl⟩, fun _ _ h => h, fun b hb => relY_none (h.new b hb), by simp [St.only, hfar], fun b _ q h => ⟨rfl, h⟩, fun i => ?_⟩
  by_cases hi : i ∈ Y
  · simp only [St.only, if_pos hi]
    refine (h.slot i).keep (fun b _ hb => ⟨rfl, relY_none hb⟩) (fun _ b _ q hq => ⟨rfl, relY_in hq hi⟩) (fun j hj d hd _ => ?_) (fun j d hd => by have := h.slot j; rw [hd] at this; exact this)
    have hjY := hin i hi j hj
    exact ⟨by simp [St.only, hjY, hd], rfl, fun b _ q hq => ⟨rfl, relY_in hq hjY⟩⟩
  · simp only [St.only, if_neg hi]; trivial
theorem Fits.frameOut {ow1 : Own} (h : Fits P n w0 ow0 ow s a w) (h' : Fits P n w (relY Y ow) ow1 f a' w') (hfar : far0 ∉ Y) (hun : ∀ i, i ∉ Y → f i = .un) (hout : ∀ i, i ∉ Y → ∀ r, (s i).root = some r → r ∉ Y) (ha : ∀ i, i ∉ Y → aval a' i = aval a i) : ∃ ow', Fits P n w0 ow0 ow' (s.merge Y f) a' w' := by
  refine ⟨fun b => if b < w.heap.size ∧ ∃ p, ow b = some p ∧ inY Y p = false then ow b else ow1 b, ?_⟩
  have hout1 : ∀ b, b < w.heap.size → ∀ p, ow b = some p → inY Y p = false → w'.heap[b]? = w.heap[b]? ∧ ow1 b = some (p ++ [far0]) := fun b hb p hp hf => h'.keep b hb p (relY_out hp hf)
  have eqOut : ∀ b, b < w.heap.size → ∀ p, ow b = some p → inY Y p = false → (if b < w.heap.size ∧ ∃ p, ow b = some p ∧ inY Y p = false then ow b else ow1 b) = some p := fun b hb p hp hf => by rw [if_pos ⟨hb, p, hp, hf⟩, hp]
  have eqNone : ∀ b, ow1 b = none → (if b < w.heap.size ∧ ∃ p, ow b = some p ∧ inY Y p = false then ow b else ow1 b) = none := fun b h1 => by
    split
    · rename_i hc
      obtain ⟨hb, p, hp, hf⟩ := hc
      rw [(hout1 b hb p hp hf).2] at h1
      cases h1
    · exact h1
  have none1 : ∀ b, b < w.heap.size → ow b = none → w'.heap[b]? = w.heap[b]? ∧ ow1 b = none := fun b hb ho => ⟨h'.bel.block b hb (relY_none ho), h'.own b hb (relY_none ho)⟩
  have keep2 : ∀ i, i ∉ Y → ∀ b, b < w.heap.size → ∀ q, ow b = some (q ++ [i]) → w'.heap[b]? = w.heap[b]? ∧ (if b < w.heap.size ∧ ∃ p, ow b = some p ∧ inY Y p = false then ow b else ow1 b) = some (q ++ [i]) := fun i hi b hb q hq => by
    have hf : inY Y (q ++ [i]) = false := by simp [inY_snoc, hi]
    exact ⟨(hout1 b hb _ hq hf).1, eqOut b hb _ hq hf⟩
  have in2 : ∀ i, i ∈ Y → ∀ b q, ow1 b = some (q ++ [i]) → (if b < w.heap.size ∧ ∃ p, ow b = some p ∧ inY Y p = false then ow b else ow1 b) = some (q ++ [i]) := fun i hi b q hq => by
    split
    · rename_i hc
      obtain ⟨hb, p, hp, hf⟩ := hc
      rw [(hout1 b hb p hp hf).2] at hq
      have := List.append_inj_right' (Option.some.inj hq) rfl
      simp only [List.cons.injEq, and_true] at this
      exact absurd (this ▸ hi) hfar
    · exact hq
  refine ⟨h'.nodef, h'.size, h.small, h.laid, ⟨h'.bel.os.trans h.bel.os, h'.bel.tape.trans h.bel.tape, h'.bel.output.trans h.bel.output, Nat.le_trans h.bel.size h'.bel.size, fun b hb ho => ?_⟩, fun b hb ho => ?_, fun b hb => eqNone b (h'.new b hb), ?_, fun b hb q ho => ?_, fun i => ?_⟩
  · rw [(none1 b (Nat.lt_of_lt_of_le hb h.bel.size) (h.own b hb ho)).1]
    exact h.bel.block b hb ho
  · exact eqNone b (none1 b (Nat.lt_of_lt_of_le hb h.bel.size) (h.own b hb ho)).2
  · simp [St.merge, hfar, h.far]
  · obtain ⟨h1, h2⟩ := h.keep b hb q ho
    obtain ⟨h3, h4⟩ := keep2 far0 hfar b (Nat.lt_of_lt_of_le hb h.bel.size) q h2
    exact ⟨h3.trans h1, h4⟩
  · by_cases hi : i ∈ Y
    · simp only [St.merge, if_pos hi]
      refine (h'.slot i).keep (fun b _ hb => ⟨rfl, eqNone b hb⟩) (fun _ b _ q hq => ⟨rfl, in2 i hi b q hq⟩) (fun j hj d hd _ => ?_) (fun j d hd => by have := h'.slot j; rw [hd] at this; exact this)
      have hjY : j ∈ Y := by
        by_cases hjY : j ∈ Y
        · exact hjY
        · rw [hun j hjY] at hd; cases hd
      exact ⟨by simp [St.merge, hjY, hd], rfl, fun b _ q hq => ⟨rfl, in2 j hjY b q hq⟩⟩
    · simp only [St.merge, if_neg hi]
      rw [ha i hi]
      refine (h.slot i).keep (fun b hb ho => ⟨(none1 b hb ho).1, eqNone b (none1 b hb ho).2⟩) (fun _ b hb q hq => keep2 i hi b hb q hq) (fun j hj d hd _ => ?_) (fun j d hd => by have := h.slot j; rw [hd] at this; exact this)
      have hjY := hout i hi j hj
      exact ⟨by simp [St.merge, hjY, hd], ha j hjY, fun b hb q hq => keep2 j hjY b hb q hq⟩
end
structure FE (P : Program) (n : Nat) (o : Oper) (Y : List Nat) (s f : St) : Prop where
  nog : o.guard = none
  big : ∀ t ∈ Y, t < 1000000
  dst : ∀ u, o.dst = some u → u ∈ Y
  inn : ∀ i ∈ Y, ∀ r, (s i).root = some r → r ∈ Y
  out : ∀ i, i ∉ Y → ∀ r, (s i).root = some r → r ∉ Y
  un : ∀ i, i ∉ Y → f i = .un
  con : ∀ i r, (f i).root = some r → (f r).isOwn = true
  ok : ∀ w0 ow0, Ok P n w0 ow0 o (s.only Y) (fun s' => Tells P n s' f)
theorem FE.far {P : Program} {n : Nat} {o : Oper} {Y : List Nat} {s f : St} (h : FE P n o Y s f) : far0 ∉ Y := fun hm => by have := h.big _ hm; simp [far0] at this
theorem ok_frame {P : Program} {n : Nat} {o : Oper} {Y : List Nat} {s f : St} (h : FE P n o Y s f) (w0 : World) (ow0 : Own) : Ok P n w0 ow0 o s (fun s' => s' = s.merge Y f) := by
  intro a w ⟨ow, hf⟩ next Q hn
  have h1 := h.ok w (relY Y ow) a w ⟨_, hf.frameIn h.far h.inn⟩ (fun a' w' => Rel P n w (relY Y ow) f a' w') Q fun s' a' w' ht hR => ht.rel hR
  refine Oper.wp_mono (fun a' w' hh => ?_) (wp_same h1)
  obtain ⟨⟨ow1, hf1⟩, ha⟩ := hh
  obtain ⟨ow', hf'⟩ := hf.frameOut hf1 h.far h.un h.out (fun i hi => ha i fun e => hi (h.dst i e))
  exact hn _ a' w' rfl ⟨ow', hf'⟩
end Go.Dv

end
section
namespace Go.Dv
open Go.RowKit
variable [Glob]
theorem merge_put {s f : St} {Y : List Nat} {u : Nat} {y : S} (hu : u ∉ Y) : (s.put u y).merge Y f = (s.merge Y f).put u y := by
  funext j
  simp only [St.merge, St.put]
  by_cases h1 : j = u
  · subst h1; simp [hu]
  · simp [h1]
theorem merge_merge {s f g : St} {X Y : List Nat} (hd : ∀ t ∈ X, t ∉ Y) : (s.merge X f).merge Y g = (s.merge Y g).merge X f := by
  funext j
  simp only [St.merge]
  by_cases h1 : j ∈ X
  · simp [h1, hd j h1]
  · simp [h1]
theorem only_put {s : St} {Y : List Nat} {u : Nat} {y : S} (hu : u ∉ Y) : (s.put u y).only Y = s.only Y := by
  funext j
  simp only [St.only, St.put]
  by_cases h1 : j = u
  · subst h1; simp [hu]
  · simp [h1]
theorem only_merge {s f : St} {X Y : List Nat} (hd : ∀ t ∈ X, t ∉ Y) : (s.merge X f).only Y = s.only Y := by
  funext j
  simp only [St.only, St.merge]
  by_cases h1 : j ∈ Y
  · have : j ∉ X := fun h => hd j h h1
    simp [h1, this]
  · simp [h1]
section
variable {P : Program} {n : Nat} {ops : Array Oper} {md : Region.Mode}
theorem evS_merge {s f : St} {Y : List Nat} {x : Operand} (hb : ∀ t ∈ Y, t < 1000000) (hx : ∀ t, x = .tmp t → t ∉ Y) : evS (s.merge Y f) x = evS s x := by
  cases x with
  | tmp t => simp only [evS, St.merge, if_neg (hx t rfl)]
  | global g =>
    have : 1000000 + 2 * g ∉ Y := fun h => by have := hb _ h; omega
    simp only [evS, St.merge, if_neg this]
  | const v => rfl
  | func f => rfl
theorem evS_out {s : St} {Y : List Nat} {x : Operand} (hb : ∀ t ∈ Y, t < 1000000) (hx : ∀ t, x = .tmp t → t ∉ Y) (ho : ∀ i, i ∉ Y → ∀ r, (s i).root = some r → r ∉ Y) {r : Nat} (h : (evS s x).root = some r) : r ∉ Y := by
  cases x with
  | tmp t =>
    simp only [evS] at h
    split at h
    · exact ho t (hx t rfl) r h
    · cases h
  | global g => exact ho _ (fun h => by have := hb _ h; omega) r h
  | const v => simp only [evS] at h; split at h <;> cases h
  | func f => cases h
theorem agr_merge {xs : List Operand} {s σ f : St} {Y : List Nat} (hb : ∀ t ∈ Y, t < 1000000) (ho : ∀ i, i ∉ Y → ∀ r, (s i).root = some r → r ∉ Y) (hx : ∀ x ∈ xs, ∀ t, x = .tmp t → t ∉ Y) : Agr xs (s.merge Y f) σ ↔ Agr xs s σ := by
  have h1 : ∀ x ∈ xs, evS (s.merge Y f) x = evS s x := fun x h => evS_merge hb (hx x h)
  have h2 : ∀ x ∈ xs, ∀ r, (evS s x).root = some r → (s.merge Y f) r = s r := fun x h r hr => by simp [St.merge, evS_out hb (hx x h) ho hr]
  constructor
  · intro h x hxx
    obtain ⟨g1, g2⟩ := h x hxx
    rw [h1 x hxx] at g1 g2
    exact ⟨g1, fun r hr => (g2 r hr).trans (h2 x hxx r hr)⟩
  · intro h x hxx
    obtain ⟨g1, g2⟩ := h x hxx
    rw [h1 x hxx]
    exact ⟨g1, fun r hr => (g2 r hr).trans (h2 x hxx r hr).symm⟩
theorem rootOf_merge {xs : List Operand} {s f : St} {Y : List Nat} {y : S} (hb : ∀ t ∈ Y, t < 1000000) (hx : ∀ x ∈ xs, ∀ t, x = .tmp t → t ∉ Y) : RootOf xs (s.merge Y f) y ↔ RootOf xs s y := by
  have h1 : ∀ x ∈ xs, evS (s.merge Y f) x = evS s x := fun x h => evS_merge hb (hx x h)
  constructor
  · intro h r hr
    obtain ⟨x, hxx, h⟩ := h r hr
    rw [h1 x hxx] at h
    exact ⟨x, hxx, h⟩
  · intro h r hr
    obtain ⟨x, hxx, h⟩ := h r hr
    refine ⟨x, hxx, ?_⟩
    rw [h1 x hxx]
    exact h
theorem looks_all {o : Oper} {Y : List Nat} (h : ∀ t ∈ o.looksAt ops, t ∉ Y) : ∀ x ∈ xsOf o, ∀ t, x = .tmp t → t ∉ Y := by
  rintro x hx t rfl
  apply h
  unfold Oper.looksAt
  apply List.mem_append_left
  rw [List.mem_filterMap]
  exact ⟨_, hx, rfl⟩
theorem looks_gd {o : Oper} {Y : List Nat} {t : Nat} {b : Bool} (h : ∀ t ∈ o.looksAt ops, t ∉ Y) (hg : gSlot ops o = some (t, b)) : t ∉ Y := fun hm => by
  by_cases h1 : t ∈ o.looksAt ops
  · exact h t h1 hm
  · exact looks_guard h1 hg rfl
theorem yield_merge {o : Oper} {u : Nat} {s f : St} {y : S} {Y : List Nat} (hb : ∀ t ∈ Y, t < 1000000) (ho : ∀ i, i ∉ Y → ∀ r, (s i).root = some r → r ∉ Y) (h : ∀ t ∈ o.looksAt ops, t ∉ Y) : Yield P n ops o u (s.merge Y f) y ↔ Yield P n ops o u s y := by
  have hm : ∀ t b, gSlot ops o = some (t, b) → (s.merge Y f) t = s t := fun t b hg => by simp [St.merge, looks_gd h hg]
  have hk : Knows ops o (s.merge Y f) ↔ Knows ops o s := by
    constructor <;> intro g t b hg
    · have := g t b hg; rwa [hm t b hg] at this
    · rw [hm t b hg]; exact g t b hg
  have hw : Wants ops o (s.merge Y f) ↔ Wants ops o s := by
    constructor
    · rintro (g | ⟨t, b, g1, g2⟩)
      · exact .inl g
      · rw [hm t b g1] at g2; exact .inr ⟨t, b, g1, g2⟩
    · rintro (g | ⟨t, b, g1, g2⟩)
      · exact .inl g
      · exact .inr ⟨t, b, g1, by rw [hm t b g1]; exact g2⟩
  have hd : DQ P n o u (s.merge Y f) y ↔ DQ P n o u s y := by
    constructor <;> intro g w0 ow0 σ ha
    · exact g w0 ow0 σ ((agr_merge hb ho (looks_all h)).2 ha)
    · exact g w0 ow0 σ ((agr_merge hb ho (looks_all h)).1 ha)
  unfold Yield
  rw [hk, hw, hd, rootOf_merge hb (looks_all h)]
theorem FE.cons {o : Oper} {Y : List Nat} {s f : St} (h : FE P n o Y s f) (hc : Cons s) : Cons (s.merge Y f) := by
  intro i r hr
  by_cases hi : i ∈ Y
  · simp only [St.merge, if_pos hi] at hr
    have h1 := h.con i r hr
    have hrY : r ∈ Y := by
      by_cases hrY : r ∈ Y
      · exact hrY
      · rw [h.un r hrY] at h1; cases h1
    simpa [St.merge, hrY] using h1
  · simp only [St.merge, if_neg hi] at hr
    have hrY := h.out i hi r hr
    simpa [St.merge, hrY] using hc i r hr
theorem FE.put {o : Oper} {Y : List Nat} {s f : St} {u : Nat} {y : S} (h : FE P n o Y s f) (hu : u ∉ Y) (hy : ∀ r, y.root = some r → r ∉ Y) : FE P n o Y (s.put u y) f := by
  refine ⟨h.nog, h.big, h.dst, fun i hi r hr => ?_, fun i hi r hr => ?_, h.un, h.con, ?_⟩
  · have : i ≠ u := by rintro rfl; exact hu hi
    rw [put_ne this] at hr
    exact h.inn i hi r hr
  · by_cases hiu : i = u
    · subst hiu; rw [put_eq] at hr; exact hy r hr
    · rw [put_ne hiu] at hr; exact h.out i hi r hr
  · rw [only_put hu]; exact h.ok
theorem FE.unput {o : Oper} {Y : List Nat} {s f : St} {u : Nat} {y : S} (h : FE P n o Y (s.put u y) f) (hu : u ∉ Y) (hs : (s u).root = none) : FE P n o Y s f := by
  refine ⟨h.nog, h.big, h.dst, fun i hi r hr => ?_, fun i hi r hr => ?_, h.un, h.con, ?_⟩
  · have : i ≠ u := by rintro rfl; exact hu hi
    exact h.inn i hi r (by rw [put_ne this]; exact hr)
  · by_cases hiu : i = u
    · subst hiu; rw [hs] at hr; cases hr
    · exact h.out i hi r (by rw [put_ne hiu]; exact hr)
  · have := h.ok; rwa [only_put hu] at this
theorem FE.merge {o o' : Oper} {X Y : List Nat} {s f g : St} (h : FE P n o Y s g) (h' : FE P n o' X s f) (hd : ∀ t ∈ X, t ∉ Y) : FE P n o Y (s.merge X f) g := by
  refine ⟨h.nog, h.big, h.dst, fun i hi r hr => ?_, fun i hi r hr => ?_, h.un, h.con, ?_⟩
  · have : i ∉ X := fun hx => hd i hx hi
    simp only [St.merge, if_neg this] at hr
    exact h.inn i hi r hr
  · by_cases hx : i ∈ X
    · simp only [St.merge, if_pos hx] at hr
      have h1 := h'.con i r hr
      have : r ∈ X := by
        by_cases hrX : r ∈ X
        · exact hrX
        · rw [h'.un r hrX] at h1; cases h1
      exact hd r this
    · simp only [St.merge, if_neg hx] at hr
      exact h.out i hi r hr
  · rw [only_merge hd]; exact h.ok
theorem FE.unmerge {o o' : Oper} {X Y : List Nat} {s f g : St} (h : FE P n o Y (s.merge X f) g) (h' : FE P n o' X s f) (hd : ∀ t ∈ X, t ∉ Y) : FE P n o Y s g := by
  refine ⟨h.nog, h.big, h.dst, fun i hi r hr => ?_, fun i hi r hr => ?_, h.un, h.con, ?_⟩
  · have : i ∉ X := fun hx => hd i hx hi
    exact h.inn i hi r (by simp only [St.merge, if_neg this]; exact hr)
  · by_cases hx : i ∈ X
    · exact hd r (h'.inn i hx r hr)
    · exact h.out i hi r (by simp only [St.merge, if_neg hx]; exact hr)
  · have := h.ok; rwa [only_merge hd] at this
def qG (P : Program) (n : Nat) (ft : List (Nat × List Nat)) (ops : Array Oper) (i : Nat) (K : St → Prop) (s : St) : Prop := match ops[i]? with
  | none => K s
  | some o => match ft.lookup i with
    | none => ∃ u y, o.dst = some u ∧ u < n ∧ (s u).isOwn = false ∧ (s u).root = none ∧ Yield P n ops o u s y ∧ K (s.put u y)
    | some Y => ∃ f, FE P n o Y s f ∧ K (s.merge Y f)
def Did (P : Program) (n : Nat) (ft : List (Nat × List Nat)) (ops : Array Oper) (i : Nat) (o : Oper) (s s' : St) : Prop := match ft.lookup i with
  | none => ∃ u y, o.dst = some u ∧ u < n ∧ (s u).isOwn = false ∧ (s u).root = none ∧ Yield P n ops o u s y ∧ s' = s.put u y
  | some Y => ∃ f, FE P n o Y s f ∧ s' = s.merge Y f
theorem qG_did {ft : List (Nat × List Nat)} {i : Nat} {o : Oper} {s s' : St} {K : St → Prop} (ho : ops[i]? = some o) (hd : Did P n ft ops i o s s') (hK : K s') : qG P n ft ops i K s := by
  unfold qG
  simp only [ho]
  unfold Did at hd
  split
  · rename_i hl
    simp only [hl] at hd
    obtain ⟨u, y, h1, h2, h3, h4, h5, rfl⟩ := hd
    exact ⟨u, y, h1, h2, h3, h4, h5, hK⟩
  · rename_i Y hl
    simp only [hl] at hd
    obtain ⟨f, h1, rfl⟩ := hd
    exact ⟨f, h1, hK⟩
theorem did_qG {ft : List (Nat × List Nat)} {i : Nat} {o : Oper} {s : St} {K : St → Prop} (ho : ops[i]? = some o) (h : qG P n ft ops i K s) : ∃ s', Did P n ft ops i o s s' ∧ K s' := by
  unfold qG at h
  simp only [ho] at h
  cases hl : ft.lookup i with
  | none =>
    simp only [hl] at h
    obtain ⟨u, y, h1, h2, h3, h4, h5, h6⟩ := h
    exact ⟨_, (by unfold Did; simp only [hl]; exact ⟨u, y, h1, h2, h3, h4, h5, rfl⟩ : Did P n ft ops i o s (s.put u y)), h6⟩
  | some Y =>
    simp only [hl] at h
    obtain ⟨f, h1, h2⟩ := h
    exact ⟨_, (by unfold Did; simp only [hl]; exact ⟨f, h1, rfl⟩ : Did P n ft ops i o s (s.merge Y f)), h2⟩
theorem Did.cons {ft : List (Nat × List Nat)} {i : Nat} {o : Oper} {s s' : St} (h : Did P n ft ops i o s s') (hc : Cons s) : Cons s' := by
  unfold Did at h
  split at h
  · obtain ⟨u, y, h1, h2, h3, h4, h5, rfl⟩ := h
    exact hc.put h3 h5.2.1
  · obtain ⟨f, h1, rfl⟩ := h
    exact h1.cons hc
def apF (ft : List (Nat × List Nat)) (ops : Array Oper) (i j : Nat) (oi oj : Oper) : Bool := match ft.lookup i, ft.lookup j with
  | none, none => oi.apart ops oj
  | none, some Y => (oi.looksAt ops).all (fun t => !Y.contains t) && (match oi.dst with | some u => !Y.contains u | none => true)
  | some X, none => (oj.looksAt ops).all (fun t => !X.contains t) && (match oj.dst with | some u => !X.contains u | none => true)
  | some X, some Y => X.all (fun t => !Y.contains t)
theorem root_out {xs : List Operand} {s : St} {y : S} {Y : List Nat} (hb : ∀ t ∈ Y, t < 1000000) (ho : ∀ i, i ∉ Y → ∀ r, (s i).root = some r → r ∉ Y) (hx : ∀ x ∈ xs, ∀ t, x = .tmp t → t ∉ Y) (hr : RootOf xs s y) : ∀ r, y.root = some r → r ∉ Y := by
  intro r h
  obtain ⟨x, hxx, h1 | ⟨h1, h2⟩⟩ := hr r h
  · exact evS_out hb (hx x hxx) ho h1
  · cases x with
    | tmp t => simp only [slotOf] at h1; subst h1; exact hx _ hxx t rfl
    | global g => simp only [slotOf] at h1; subst h1; exact fun h => by have := hb _ h; omega
    | const v => simp only [evS] at h2; split at h2 <;> cases h2
    | func f => cases h2
theorem did_swap {ft : List (Nat × List Nat)} {i j : Nat} {oi oj : Oper} {s s1 s2 : St} (hn : n ≤ 1000000) (hap : apF ft ops i j oi oj = true) (hc : Cons s) (hi : Did P n ft ops i oi s s1) (hj : Did P n ft ops j oj s1 s2) :
    ∃ s', Did P n ft ops j oj s s' ∧ Did P n ft ops i oi s' s2 := by
  unfold Did apF at *
  cases li : ft.lookup i with
  | none =>
    simp only [li] at hi hap ⊢
    obtain ⟨ui, yi, h1, h2, h3, h4, h5, rfl⟩ := hi
    cases lj : ft.lookup j with
    | none =>
      simp only [lj] at hj hap ⊢
      obtain ⟨uj, yj, g1, g2, g3, g4, g5, rfl⟩ := hj
      obtain ⟨a1, a2, a3⟩ := Oper.apart_spec hap
      have hne : uj ≠ ui := fun e => a2 ui h1 (by rw [g1, e])
      rw [put_ne hne] at g3 g4
      rw [yield_put hc (Nat.lt_of_lt_of_le h2 hn) h3 (a1 ui h1)] at g5
      refine ⟨_, ⟨uj, yj, g1, g2, g3, g4, g5, rfl⟩, ui, yi, h1, h2, by rw [put_ne hne.symm]; exact h3, by rw [put_ne hne.symm]; exact h4, (yield_put hc (Nat.lt_of_lt_of_le g2 hn) g3 (a3 uj g1)).2 h5, ?_⟩
      exact put_comm hne.symm
    | some Y =>
      simp only [lj] at hj hap ⊢
      obtain ⟨f, hF, rfl⟩ := hj
      simp only [h1, Bool.and_eq_true, List.all_eq_true, Bool.not_eq_true', List.contains_eq_mem, decide_eq_false_iff_not] at hap
      obtain ⟨hl, hu⟩ := hap
      have hF' := hF.unput hu h4
      refine ⟨_, ⟨f, hF', rfl⟩, ui, yi, h1, h2, by simpa [St.merge, hu] using h3, by simpa [St.merge, hu] using h4, (yield_merge hF'.big hF'.out hl).2 h5, ?_⟩
      exact merge_put hu
  | some X =>
    simp only [li] at hi hap ⊢
    obtain ⟨f, hF, rfl⟩ := hi
    cases lj : ft.lookup j with
    | none =>
      simp only [lj] at hj hap ⊢
      obtain ⟨uj, yj, g1, g2, g3, g4, g5, rfl⟩ := hj
      simp only [g1, Bool.and_eq_true, List.all_eq_true, Bool.not_eq_true', List.contains_eq_mem, decide_eq_false_iff_not] at hap
      obtain ⟨hl, hu⟩ := hap
      rw [yield_merge hF.big hF.out hl] at g5
      refine ⟨_, ⟨uj, yj, g1, g2, by simpa [St.merge, hu] using g3, by simpa [St.merge, hu] using g4, g5, rfl⟩, f, hF.put hu (root_out hF.big hF.out (looks_all hl) g5.2.1), ?_⟩
      exact (merge_put hu).symm
    | some Y =>
      simp only [lj] at hj hap ⊢
      obtain ⟨g, hG, rfl⟩ := hj
      simp only [List.all_eq_true, Bool.not_eq_true', List.contains_eq_mem, decide_eq_false_iff_not] at hap
      have hG' := hG.unmerge hF hap
      exact ⟨_, ⟨g, hG', rfl⟩, f, hF.merge hG' (fun t hy hx => hap t hx hy), merge_merge hap⟩
def anyG (P : Program) (n : Nat) (ft : List (Nat × List Nat)) (md : Region.Mode) (ops : Array Oper) (K : St → Prop) : Nat → Array Bool → St → Prop
  | 0, listed, s => Region.ready md ops listed = [] ∧ K s
  | fuel + 1, listed, s => (Region.ready md ops listed = [] → K s) ∧ ∀ i ∈ Region.ready md ops listed, qG P n ft ops i (anyG P n ft md ops K fuel (listed.setIfInBounds i true)) s
def beforeB (md : Region.Mode) (ops : Array Oper) (i : Nat) : Nat → Nat → Bool
  | 0, _ => false
  | f + 1, j => match ops[j]? with
    | none => false
    | some o => o.after.any fun e => Region.binds md e && (e.on == i || beforeB md ops i f e.on)
def Closed (md : Region.Mode) (ops : Array Oper) (listed : Array Bool) : Prop := ∀ j o, ops[j]? = some o → listed.getD j false = true → ∀ e ∈ o.after, Region.binds md e = true → listed.getD e.on false = true
theorem closed0 {m : Nat} : Closed md ops (Array.replicate m false) := fun j o _ h => by
  simp only [Array.getD_eq_getD_getElem?, Array.getElem?_replicate] at h
  split at h <;> simp at h
theorem Closed.set {listed : Array Bool} {i : Nat} (h : Closed md ops listed) (hi : i ∈ Region.ready md ops listed) : Closed md ops (listed.setIfInBounds i true) := fun j o hj hl e he hb => by
  by_cases hji : j = i
  · subst hji
    obtain ⟨_, o', ho', hall⟩ := mem_ready.1 hi
    rw [hj] at ho'
    obtain rfl := Option.some.inj ho'
    exact getD_set_true (hall e he hb)
  · rw [getD_set_ne false (Ne.symm hji)] at hl
    exact getD_set_true (h j o hj hl e he hb)
theorem before_no {listed : Array Bool} {i : Nat} (hc : Closed md ops listed) (hi : listed.getD i false = false) : ∀ (f : Nat) (j : Nat), (∀ o, ops[j]? = some o → ∀ e ∈ o.after, Region.binds md e = true → listed.getD e.on false = true) → beforeB md ops i f j = false
  | 0, _, _ => rfl
  | f + 1, j, h => by
    unfold beforeB
    cases ho : ops[j]? with
    | none => rfl
    | some o =>
      simp only
      rw [Array.any_eq_false']
      intro e he
      cases hb : Region.binds md e with
      | false => simp
      | true =>
        have h1 := h o ho e he hb
        have h2 : e.on ≠ i := fun e2 => by rw [e2, hi] at h1; cases h1
        have h3 := before_no hc hi f e.on fun o' ho' e' he' hb' => hc e.on o' ho' h1 e' he' hb'
        simp [h2, h3]
theorem anyG_first {ft : List (Nat × List Nat)} {K : St → Prop} {i : Nat} {oi : Oper} (hn : n ≤ 1000000) (hi : ops[i]? = some oi) :
    ∀ (fuel : Nat) (listed : Array Bool) (s s1 : St),
      Closed md ops listed → (∀ j oj, ops[j]? = some oj → j ≠ i → listed.getD j true = false → beforeB md ops i ops.size j = false → apF ft ops i j oi oj = true) →
      i ∈ Region.ready md ops listed → Cons s → Did P n ft ops i oi s s1 →
      anyG P n ft md ops K fuel (listed.setIfInBounds i true) s1 → anyG P n ft md ops K (fuel + 1) listed s := by
  intro fuel
  induction fuel with
  | zero =>
    intro listed s s1 _ _ hr hc hd H
    refine ⟨fun h => (by rw [h] at hr; cases hr), fun j hj => ?_⟩
    by_cases hji : j = i
    · subst hji; exact qG_did hi hd H
    · have := ready_mono hj hji
      rw [H.1] at this
      cases this
  | succ fuel ih =>
    intro listed s s1 hcl hfree hr hc hd H
    refine ⟨fun h => (by rw [h] at hr; cases hr), fun j hj => ?_⟩
    by_cases hji : j = i
    · subst hji; exact qG_did hi hd H
    · have h1 := H.2 j (ready_mono hj hji)
      obtain ⟨hjun, oj, hoj, hall⟩ := mem_ready.1 hj
      have hi0 : listed.getD i false = false := by
        have h0 := (mem_ready.1 hr).1
        simp only [Array.getD_eq_getD_getElem?] at h0 ⊢
        cases h : listed[i]? with
        | none => rw [h] at h0; simp at h0
        | some x => rw [h] at h0; simpa using h0
      have hnot := before_no hcl hi0 ops.size j fun o ho e he hb => by
        rw [hoj] at ho
        obtain rfl := Option.some.inj ho
        exact hall e he hb
      obtain ⟨s2, hj2, h2⟩ := did_qG hoj h1
      obtain ⟨s', hjs, his⟩ := did_swap hn (hfree j oj hoj hji hjun hnot) hc hd hj2
      have hfree' : ∀ k ok, ops[k]? = some ok → k ≠ i → (listed.setIfInBounds j true).getD k true = false →
          beforeB md ops i ops.size k = false → apF ft ops i k oi ok = true := fun k ok hk hki hun hno => by
        refine hfree k ok hk hki ?_ hno
        by_cases hjk : j = k
        · subst hjk; exact hjun
        · rw [getD_set_ne true hjk] at hun; exact hun
      refine qG_did hoj hjs (ih (listed.setIfInBounds j true) s' s2 (hcl.set hj) hfree' (ready_mono hr (Ne.symm hji)) (hjs.cons hc) his ?_)
      rw [Array.setIfInBounds_comm _ _ hji]
      exact h2
theorem wpOp_of_qG {ft : List (Nat × List Nat)} {p : Pin} (hdst : ∀ o ∈ ops.toList, noDst1 p o = true) {i : Nat} {s : St} {a : Act} {w : World} {w0 : World} {ow0 : Own} {K : St → Prop} {K' : Act → World → Prop} {Q' : Exit → Act → World → Prop} (hR : Rel P n w0 ow0 s a w) (hp : Pinned p a) (h : ∀ s' a' w', K s' → Rel P n w0 ow0 s' a' w' → Pinned p a' → K' a' w') (hh : qG P n ft ops i K s) : wpOp P ops Q' i K' a w := by
  cases ho : ops[i]? with
  | none => unfold wpOp; simp only [ho]; unfold qG at hh; simp only [ho] at hh; exact h _ _ _ hh hR hp
  | some o =>
    unfold qG at hh
    simp only [ho] at hh
    cases hl : ft.lookup i with
    | none =>
      simp only [hl] at hh
      obtain ⟨u, y, h1, h2, h3, h4, h5, h6⟩ := hh
      refine wpOp_of_qD hdst hR hp h ?_
      unfold qD
      simp only [ho]
      exact ⟨u, y, h1, h2, h3, h5, h6⟩
    | some Y =>
      simp only [hl] at hh
      obtain ⟨f, hF, hK⟩ := hh
      unfold wpOp
      simp only [ho]
      have hdo : noDst1 p o = true := hdst o (by rw [Array.mem_toList_iff]; exact Array.mem_of_getElem? ho)
      have hw : Region.wanted o (yielded ops a.tmps) = true := by simp [Region.wanted, hF.nog]
      rw [if_pos hw]
      have h1 := ok_frame hF w0 ow0 a w hR (fun a' w' => Rel P n w0 ow0 (s.merge Y f) a' w') Q' fun s' a' w' e hR' => by subst e; exact hR'
      exact .inl (Oper.wp_mono (fun a' w' hh => h _ _ _ hK hh.1 hh.2) (wp_pin hp hdo h1))
theorem anyG_sound {ft : List (Nat × List Nat)} {p : Pin} (hdst : ∀ o ∈ ops.toList, noDst1 p o = true) {w0 : World} {ow0 : Own} {K : St → Prop} {Q' : Exit → Act → World → Prop} (hQ : ∀ s a w, K s → Rel P n w0 ow0 s a w → Pinned p a → Q' .normal a w) : ∀ (fuel : Nat) (listed : Array Bool) (s : St) (a : Act) (w : World), Rel P n w0 ow0 s a w → Pinned p a → anyG P n ft md ops K fuel listed s → wpAny P md ops Q' fuel listed a w
  | 0, _, _, _, _, hR, hp, h => ⟨h.1, hQ _ _ _ h.2 hR hp⟩
  | fuel + 1, _, _, _, _, hR, hp, h => ⟨fun h0 => hQ _ _ _ (h.1 h0) hR hp, fun i hi => wpOp_of_qG hdst hR hp (fun s' a' w' hK hR' hp' => anyG_sound hdst hQ fuel _ s' a' w' hR' hp' hK) (h.2 i hi)⟩
end
end Go.Dv

end
section
namespace Go.Dv
open Go.RowKit
variable [Glob]
def under (l lab : List Nat) : Prop := ∃ q, lab = q ++ l
open Classical in
noncomputable def lendTo (l : List Nat) (m : Nat) (ow : Own) : Own := fun b => match ow b with
  | none => none
  | some lab => if h : under l lab then some (Classical.choose h ++ [m]) else some (lab ++ [far0])
theorem lendTo_none {l : List Nat} {m : Nat} {ow : Own} {b : Nat} (h : ow b = none) : lendTo l m ow b = none := by simp [lendTo, h]
theorem lendTo_hit {l q : List Nat} {m : Nat} {ow : Own} {b : Nat} (h : ow b = some (q ++ l)) : lendTo l m ow b = some (q ++ [m]) := by
  have hu : under l (q ++ l) := ⟨q, rfl⟩
  simp only [lendTo, h]
  rw [dif_pos hu]
  have := Classical.choose_spec hu
  rw [← List.append_cancel_right this]
theorem lendTo_miss {l lab : List Nat} {m : Nat} {ow : Own} {b : Nat} (h : ow b = some lab) (hu : ¬ under l lab) : lendTo l m ow b = some (lab ++ [far0]) := by
  simp only [lendTo, h]
  rw [dif_neg hu]
open Classical in
noncomputable def backFrom (w : World) (l : List Nat) (m t : Nat) (ow ow1 : Own) : Own := fun b =>
  if b < w.heap.size ∧ (∀ q, ow b ≠ some (q ++ l)) then ow b else match ow1 b with
    | none => none
    | some lab => if lab.getLast? = some m then some (lab.dropLast ++ l) else if lab.getLast? = some res0 then some (lab.dropLast ++ [t]) else none
def mutSt (ds : List D) (m : Nat) (dm : D) : St := (argSt ds).put m (.own dm)
def endM (T : TypeId → TyE) (rs : List ResultVar) (m : Nat) (Q : S → D → Prop) : Exit → St → Prop
  | .normal, s => retL T rs s fun ds s2 => match s2 m with | .own d => Q (retS ds) d | _ => False
  | .ret, s => retL T rs s fun ds s2 => match s2 m with | .own d => Q (retS ds) d | _ => False
  | _, _ => False
theorem fn_mut {P : Program} {T : TypeId → TyE} {f : FuncId} {fn : Func} {c : Code} {n : Nat} {rs : List ResultVar} {ds : List D} {m : Nat} {dm : D} {Q : S → D → Prop} (hG : ∀ t, Good P T t) (hf : P.funcs[f]? = some fn) (hb : fn.body = some c) (hn' : fn.ntmps = n) (hn : n ≤ 1000000) (hd : ds.length ≤ n)
    (hr : fn.results = rs.toArray) (h : ∀ w0 ow0 v, OkC P n w0 ow0 (some (m, v)) c (mutSt ds m dm) (endM T rs m Q)) : FnMu P f ds m dm Q := by
  subst hn'
  intro w ow vs t l ht hL hnew hvs hm hargs hV
  have hm6 : m < 1000000 := by omega
  refine calls_of_wp hf hb ?_
  have hav : ∀ i, i < ds.length → aval { tmps := vs ++ Array.replicate (fn.ntmps - vs.size) undef, defers := [] } i = vs.getD i undef := by
    intro i hi
    unfold aval
    rw [if_pos (by omega)]
    simp only [Array.getD_eq_getD_getElem?]
    rw [Array.getElem?_append_left (by omega)]
  have hfit : Fits P fn.ntmps w (lendTo l m ow) (lendTo l m ow) (mutSt ds m dm) { tmps := vs ++ Array.replicate (fn.ntmps - vs.size) undef, defers := [] } w := by
    refine ⟨rfl, by simp; omega, hn, (hL.mono fun b o h1 h2 => ⟨h1, lendTo_none h2⟩), ⟨rfl, rfl, rfl, Nat.le_refl _, fun _ _ _ => rfl⟩, fun _ _ h => h, fun b hb => lendTo_none (hnew b hb), ?_, fun _ _ _ h => ⟨rfl, h⟩, fun i => ?_⟩
    · unfold mutSt argSt
      rw [put_ne (by unfold far0; omega), List.getElem?_eq_none (by unfold far0; omega)]
    · by_cases him : i = m
      · subst him
        simp only [mutSt, put_eq, SV]
        rw [hav i hm]
        exact V.tr (fun b _ => ⟨fun ho => ⟨rfl, lendTo_none ho⟩, fun q hq => ⟨rfl, lendTo_hit hq⟩⟩) hV
      · simp only [mutSt, put_ne him]
        unfold argSt
        cases hdi : ds[i]? with
        | none => trivial
        | some d =>
          have hi : i < ds.length := (List.getElem?_eq_some_iff.1 hdi).1
          simp only [SV]
          rw [hav i hi]
          exact V.trf (fun b _ ho => ⟨rfl, lendTo_none ho⟩) (hargs i d hdi him)
  have hpin : Pinned (some (m, vs.getD m undef)) { tmps := vs ++ Array.replicate (fn.ntmps - vs.size) undef, defers := [] } := by
    intro m' v' e
    obtain ⟨rfl, rfl⟩ := Prod.mk.inj (Option.some.inj e)
    have := hav m hm
    unfold aval at this
    rw [if_pos hm6] at this
    exact this
  refine h w _ _ _ w ⟨_, hfit⟩ hpin _ fun e s' a' w' hK hR hp' => ?_
  have key : (retL T rs s' fun ds s2 => match s2 m with | .own d => Q (retS ds) d | _ => False) → bodyPost P fn (fun e w' => ∃ v ow' r dm', e = .returned v ∧ Q r dm' ∧ w'.os = w.os ∧ w'.tape = w.tape ∧ w'.output = w.output ∧ w.heap.size ≤ w'.heap.size ∧
      (∀ b, b < w.heap.size → (∀ q, ow b ≠ some (q ++ l)) → w'.heap[b]? = w.heap[b]? ∧ ow' b = ow b) ∧ (∀ b, w'.heap.size ≤ b → ow' b = none) ∧ V P w' ow' dm' l (vs.getD m undef) ∧ S.plain r = true ∧ ∀ s a, SV P w' ow' s a t r v) .ret a' w' := by
    intro hK
    obtain ⟨ow1, hf1⟩ := hR
    obtain ⟨vals, ow2, s2, ds2, hQ, hf2, hl1, hl2, hrun, hvals, hkeep⟩ := hf1.retL hG (fun k => if rs.length = 1 then [] else [k]) rs 0 hK
    have hres : (results fn a'.tmps).run P w' = .ok (if h : vals.toArray.size = 1 then vals.toArray[0] else .tuple vals.toArray) w' := by
      unfold results
      rw [hr]
      have hb : ∀ {α β : Type} (x : Sem α) (g : α → Sem β), Sem.run P (Sem.bind x g) w' = (Sem.run P x w').andThen fun a w' => Sem.run P (g a) w' := fun x g => Sem.run_bind ..
      simp only [List.mapM_toArray, Functor.map, Sem.run_bind, Sem.run_pure]
      rw [hb, hrun _ (rvRun_eq a'.tmps P w' _ (fun _ => rfl) fun _ _ => rfl)]
      rfl
    refine ⟨hf1.nodef, _, hres, ?_⟩
    cases hs2 : s2 m with
    | own dm' =>
      rw [hs2] at hQ
      have hmiss : ∀ b, b < w.heap.size → (∀ q, ow b ≠ some (q ++ l)) → w'.heap[b]? = w.heap[b]? ∧ (ow b = none → ow2 b = none) ∧ (∀ lab, ow b = some lab → ow2 b = some (lab ++ [far0])) := by
        intro b hlt hno
        cases ho : ow b with
        | none => exact ⟨hf2.bel.block b hlt (lendTo_none ho), fun _ => hf2.own b hlt (lendTo_none ho), fun lab e => by cases e⟩
        | some lab =>
          have hlab := lendTo_miss (l := l) (m := m) ho (fun hu => by obtain ⟨q, hq⟩ := hu; exact hno q (by rw [ho, hq]))
          obtain ⟨g1, g2⟩ := hf2.keep b hlt lab hlab
          exact ⟨g1, fun e => (by cases e), fun lab' e => by obtain rfl := Option.some.inj e; exact g2⟩
      have hnone : ∀ b, ow2 b = none → backFrom w l m t ow ow2 b = none := by
        intro b hb
        unfold backFrom
        split
        · rename_i hc
          cases ho : ow b with
          | none => rfl
          | some lab => have := (hmiss b hc.1 hc.2).2.2 lab ho; rw [hb] at this; cases this
        · rw [hb]
      have hlast : ∀ b q j, ow2 b = some (q ++ [j]) → j ≠ far0 → ¬ (b < w.heap.size ∧ ∀ q, ow b ≠ some (q ++ l)) := by
        rintro b q j hq hj ⟨h1, h2⟩
        obtain ⟨_, g1, g2⟩ := hmiss b h1 h2
        cases ho : ow b with
        | none => rw [g1 ho] at hq; cases hq
        | some lab =>
          rw [g2 lab ho] at hq
          have := congrArg List.getLast? (Option.some.inj hq)
          simp at this
          exact hj this.symm
      have hmf : m ≠ far0 := by unfold far0; omega
      have hmr : m ≠ res0 := by unfold res0; omega
      have hkm : Keeps w' ow2 [m] w' (backFrom w l m t ow ow2) l := fun b _ => ⟨fun ho => ⟨rfl, hnone b ho⟩, fun q hq => ⟨rfl, by
        unfold backFrom
        rw [if_neg (hlast b q m hq hmf), hq]
        simp⟩⟩
      have hk : ∀ l2, Keeps w' ow2 (l2 ++ [res0]) w' (backFrom w l m t ow ow2) (l2 ++ [t]) := fun l2 b _ => ⟨fun ho => ⟨rfl, hnone b ho⟩, fun q hq => ⟨rfl, by
        have hq' : ow2 b = some ((q ++ l2) ++ [res0]) := by rw [hq]; simp
        unfold backFrom
        rw [if_neg (hlast b _ res0 hq' (by unfold res0 far0; omega)), hq']
        simp [Ne.symm hmr]⟩⟩
      have hq : Quiet w' ow2 w' (backFrom w l m t ow ow2) := fun b _ ho => ⟨rfl, hnone b ho⟩
      have hVm := hf2.slot m
      rw [hs2] at hVm
      have hval : aval a' m = vs.getD m undef := by
        unfold aval
        rw [if_pos hm6]
        exact hp' m _ rfl
      rw [hval] at hVm
      have part : ∀ (j : Nat) (p : D × Bool), ds2[j]? = some p → ∃ v, vals[j]? = some v ∧ (if (p.2 || p.1.frz) = true then V P w' (backFrom w l m t ow ow2) p.1.fz [] v else V P w' (backFrom w l m t ow ow2) p.1 ((if rs.length = 1 then [] else [j]) ++ [t]) v) := by
        intro j p hj
        obtain ⟨v, h1, h2, h3⟩ := hvals j p hj
        rw [Nat.zero_add] at h2
        refine ⟨v, h1, ?_⟩
        by_cases hp : (p.2 || p.1.frz) = true
        · rw [if_pos hp]
          have hfz : p.1.fz = p.1 := by
            rcases Bool.or_eq_true _ _ ▸ hp with hp | hp
            · exact h3 hp
            · exact D.fz_frz hp
          rw [← hfz] at h2
          exact V.trf hq h2
        · rw [if_neg hp]
          exact V.tr (hk _) h2
      refine ⟨_, backFrom w l m t ow ow2, retS ds2, dm', rfl, hQ, hf2.bel.os, hf2.bel.tape, hf2.bel.output, hf2.bel.size, fun b hb hno => ⟨(hmiss b hb hno).1, by unfold backFrom; rw [if_pos ⟨hb, hno⟩]⟩, fun b hb => hnone b (hf2.new b hb), V.tr hkm hVm, ?_, fun s a => ?_⟩
      · unfold retS
        split
        · split <;> rfl
        · rfl
      · by_cases hone : rs.length = 1
        · have hd1 : ds2.length = 1 := by rw [hl1, hone]
          have hv1 : vals.length = 1 := by rw [hl2, hone]
          obtain ⟨⟨d, b⟩, rfl⟩ := List.length_eq_one_iff.1 hd1
          obtain ⟨v, rfl⟩ := List.length_eq_one_iff.1 hv1
          obtain ⟨v', h1, h2⟩ := part 0 (d, b) rfl
          obtain rfl : v = v' := by simpa using h1
          rw [if_pos hone] at h2
          simp only [retS]
          by_cases hp : (b || d.frz) = true
          · rw [if_pos hp] at h2 ⊢
            exact h2
          · rw [if_neg hp] at h2 ⊢
            exact h2
        · have hd1 : ∀ p, ds2 ≠ [p] := fun p e => by rw [e] at hl1; simp at hl1; exact hone hl1.symm
          have htup : retS ds2 = .tup (ds2.map fun p => if p.2 || p.1.frz then .val p.1 else .own p.1) := by
            unfold retS
            split
            · rename_i d b; exact absurd rfl (hd1 _)
            · rfl
          rw [htup]
          refine ⟨vals.toArray, ?_, by simp [hl1, hl2], fun j x hx => ?_⟩
          · rw [dif_neg]
            simp [hl2, hone]
          · simp only [List.getElem?_map, Option.map_eq_some_iff] at hx
            obtain ⟨p, hp, rfl⟩ := hx
            obtain ⟨v, h1, h2⟩ := part j p hp
            have hv : vals.toArray.getD j undef = v := by simp [Array.getD_eq_getD_getElem?, h1]
            rw [hv]
            by_cases hpf : (p.2 || p.1.frz) = true
            · rw [if_pos hpf] at h2 ⊢
              exact h2
            · rw [if_neg hpf] at h2 ⊢
              rw [if_neg hone] at h2
              exact h2
    | _ => rw [hs2] at hQ; exact hQ.elim
  cases e with
  | normal => exact key hK
  | ret => exact key hK
  | _ => exact hK.elim
attribute [go_sem] endM mutSt
end Go.Dv

end
section
namespace Go.Dv
open Go.RowKit
variable [Glob]
def holdA [A : HidA] : Prop := A.P
def holdB [B : HidB] : Prop := B.P
def gC (c : Bool) [A : HidA] [B : HidB] : Prop := (c = true → A.P) ∧ (c = false → B.P)
theorem gC_of {c : Bool} {A B : Prop} (hA : c = true → A) (hB : c = false → B) : @gC c ⟨A⟩ ⟨B⟩ := ⟨hA, hB⟩
theorem gC_dec {p : Prop} [Decidable p] {A B : Prop} (hA : p → A) (hB : ¬ p → B) : @gC (decide p) ⟨A⟩ ⟨B⟩ := ⟨fun h => hA (by simpa using h), fun h => hB (by simpa using h)⟩
theorem gC_true {A : HidA} {B : HidB} : @gC true A B = @holdA A := by simp [gC, holdA]
theorem gC_false {A : HidA} {B : HidB} : @gC false A B = @holdB B := by simp [gC, holdB]
def gQ (x : S) [A : HidA] [B : HidB] : Prop := match x with
  | .val (.one (.bool b)) => @gC b A B
  | _ => False
theorem gQ_eq {b : Bool} {A : HidA} {B : HidB} : @gQ (.val (.one (.bool b))) A B = @gC b A B := rfl
section
variable {P : Program} {n : Nat} {w0 : World} {ow0 : Own} {p : Pin} {s : St} {K : Exit → St → Prop}
theorem okC_if {c : Operand} {x y : Code} (h : @gQ (evS s c) ⟨OkC P n w0 ow0 p x s K⟩ ⟨OkC P n w0 ow0 p y s K⟩) : OkC P n w0 ow0 p (.cond c x y) s K := by
  refine okC_cond ?_
  unfold gQ at h
  split at h
  · rename_i b hb
    rw [hb]
    exact h
  · exact h.elim
theorem okC_cut {x y : Code} {X : Type} (I : X → List (Nat × S)) (ok : X → Prop) (hy : ∀ z, ok z → OkC P n w0 ow0 p y (lst (I z)) K)
    (hx : ∀ K' : Exit → St → Prop, K' = thenK (fun s' => ∃ z ts, ok z ∧ lessL (s'.cools ts) (I z) (I z)) K → OkC P n w0 ow0 p x s K') : OkC P n w0 ow0 p (.seq x y) s K :=
  okC_seq (okC_mono (hx _ rfl) fun e s' h => by
    cases e with
    | normal => obtain ⟨z, ts, h1, h2⟩ := h; exact okC_tells (hy z h1) (tells_list ts h2)
    | _ => exact h)
end
theorem callK_fz {P : Program} {f : FuncId} {ds ds' : List D} {rs : List Nat} {K : S → Prop} {r : S} (h : FnOk P f ds' (fun r' => r' = r)) (he : ds'.map D.fz = ds.map D.fz) (hc : rs = [] ∨ r.closed = true) (hK : K r) : (callK (k := ⟨K⟩) P f ds rs) := callK_of (h.fzs he) hc hK
theorem callK_fx {P : Program} {f : FuncId} {ds ds' : List D} {rs : List Nat} {K : S → Prop} {Q : S → Prop} (h : FnOk P f ds' Q) (he : ds'.map D.fz = ds.map D.fz) (hK : ∀ r, Q r → (rs = [] ∨ r.closed = true) ∧ K r) : (callK (k := ⟨K⟩) P f ds rs) := callK_ex (h.fzs he) hK
theorem callD_fz {P : Program} {f : FuncId} {ds ds' : List D} {rs : List Nat} {K : S → Prop} {r : S} (h : FnOk P f ds' (fun r' => r' = r)) (he : ds'.map D.fz = ds.map D.fz) (hc : rs = [] ∨ r.closed = true) (hp : S.plain r = true) (hK : K r) : (callD (k := ⟨K⟩) P f ds rs) := callD_of (h.fzs he) hc hp hK
attribute [go_sem] gC_true gC_false gQ_eq
end Go.Dv
namespace Go.Dv
open Go.RowKit
variable [Glob]
end Go.Dv
namespace Go.Dv
theorem gI_ndec {p : Prop} [Decidable p] {A B : Prop} (hA : ¬ p → A) (hB : p → B) : @gI (!decide p) ⟨A⟩ ⟨B⟩ := ⟨fun h => hA (by simpa using h), fun h => hB (by simpa using h)⟩
theorem gC_ndec {p : Prop} [Decidable p] {A B : Prop} (hA : ¬ p → A) (hB : p → B) : @gC (!decide p) ⟨A⟩ ⟨B⟩ := ⟨fun h => hA (by simpa using h), fun h => hB (by simpa using h)⟩
end Go.Dv

end
section
namespace Go.Dv
open Go.RowKit
abbrev Str := List UInt8
theorem ba_size (l : Str) : ByteArray.size ⟨l.toArray⟩ = l.length := by simp [ByteArray.size]
theorem ba_get (l : Str) (i : Nat) : (⟨l.toArray⟩ : ByteArray)[i]? = l[i]? := by
  have hs := ba_size l
  by_cases h : i < l.length
  · have h1 : i < (⟨l.toArray⟩ : ByteArray).size := by omega
    rw [List.getElem?_eq_getElem h]
    exact (getElem?_pos (⟨l.toArray⟩ : ByteArray) i h1).trans rfl
  · have h1 : ¬ i < (⟨l.toArray⟩ : ByteArray).size := by omega
    rw [List.getElem?_eq_none (by omega)]
    exact getElem?_neg (⟨l.toArray⟩ : ByteArray) i h1
theorem ba_append (a b : Str) : (⟨a.toArray⟩ : ByteArray) ++ ⟨b.toArray⟩ = ⟨(a ++ b).toArray⟩ := by
  ext1
  simp [ByteArray.data_append]
theorem ba_extract (l : Str) (a b : Nat) : (⟨l.toArray⟩ : ByteArray).extract a b = ⟨((l.drop a).take (b - a)).toArray⟩ := by
  ext1
  simp [ByteArray.data_extract, List.extract_eq_take_drop]
abbrev ltL (a b : Str) : Bool := Op.bytesLess a b
theorem ba_lt (a b : Str) : strLt ⟨a.toArray⟩ ⟨b.toArray⟩ = ltL a b := by
  unfold strLt ltL
  rw [ByteArray.toList_eq, ByteArray.toList_eq]
theorem take_drop_len {α : Type} (l : List α) (a : Nat) : (l.drop a).take (l.length - a) = l.drop a := List.take_of_length_le (by simp)
abbrev dI (n : Int) : D := .one (.int .i64 n)
abbrev dB (b : Bool) : D := .one (.bool b)
abbrev dS (l : Str) : D := .one (.string ⟨l.toArray⟩)
abbrev inR (x a b : Int) : Bool := decide (a ≤ x ∧ x ≤ b)
theorem take_snoc {α : Type} {l : List α} {i : Nat} {c : α} (h : l[i]? = some c) : l.take (i + 1) = l.take i ++ [c] := by
  rw [List.take_add_one, h]; rfl
theorem take_all {α : Type} {l : List α} {i : Nat} (h : l.length ≤ i) : l.take i = l := List.take_of_length_le h
theorem at_of {α : Type} {l : List α} {i : Nat} (h : i < l.length) : ∃ c, l[i]? = some c := ⟨l[i], by simp [h]⟩
theorem getElem?_lt {α : Type} {l : List α} {i : Nat} {c : α} (h : l[i]? = some c) : i < l.length := by
  rcases Nat.lt_or_ge i l.length with h' | h'
  · exact h'
  · rw [List.getElem?_eq_none h'] at h; cases h
attribute [go_sem] ba_size ba_get ba_append ba_extract ba_lt take_drop_len
attribute [go_sem] ByteArray.mk.injEq
end Go.Dv
namespace Go.Dv
theorem fzs_app (xs ys : List D) : D.fzs (xs ++ ys) = D.fzs xs ++ D.fzs ys := by simp [D.fzs_map]
attribute [go_sem] fzs_app
theorem wrap_u8 (c : UInt8) : IntKind.i64.wrap (c.toNat : Int) = c.toNat := by
  have := c.toNat_lt
  simp [IntKind.wrap, IntKind.bits, IntKind.signed]; omega
theorem u8_eq (a b : UInt8) : ((a.toNat : Int) = (b.toNat : Int)) ↔ a = b := by
  constructor
  · intro h; exact UInt8.toNat_inj.1 (by omega)
  · rintro rfl; rfl
attribute [go_sem] wrap_u8 u8_eq
end Go.Dv
namespace Go.Dv
theorem int_beq (a b : Int) : (a == b) = decide (a = b) := by by_cases h : a = b <;> simp [h]
theorem int_bne (a b : Int) : (a != b) = !decide (a = b) := by by_cases h : a = b <;> simp [h]
attribute [go_sem] int_beq int_bne
end Go.Dv

end
section
namespace Go.Dv
open Go.RowKit
variable [Glob]
def Det (F : (St → Prop) → Prop) : Prop := ∀ K, F K → ∃ s', K s' ∧ F (fun s => s = s')
theorem det_K (s : St) : Det fun K => K s := fun K h => ⟨s, h, rfl⟩
theorem det_false : Det fun _ => False := fun K h => h.elim
theorem det_and {A : Prop} {F : (St → Prop) → Prop} (h : Det F) : Det fun K => A ∧ F K := fun K ⟨ha, hf⟩ => by
  obtain ⟨s, h1, h2⟩ := h K hf
  exact ⟨s, h1, ha, h2⟩
theorem det_dst {n : Nat} {dst : Option Nat} {F : Nat → (St → Prop) → Prop} (h : ∀ u, Det (F u)) : Det fun K => dstK n dst fun u => F u K := by
  cases dst with
  | none => exact det_false
  | some u => exact det_and (h u)
theorem det_int {x : S} {F : Int → (St → Prop) → Prop} (h : ∀ u, Det (F u)) : Det fun K => intK x fun j => F j K := by
  unfold intK oneK
  cases x with
  | val d => cases d with
    | one v => cases v with
      | int k j => exact h j
      | _ => exact det_false
    | _ => exact det_false
  | _ => exact det_false
theorem det_move (u : Nat) (x : Operand) (s : St) : Det (dmove u x s) := by
  unfold dmove
  cases evS s x with
  | un => exact det_false
  | val d => exact det_K _
  | rp d => exact det_K _
  | al r p => exact det_and (det_K _)
  | rf r p => exact det_and (det_K _)
  | ag r p => exact det_and (det_K _)
  | own d => cases d <;> exact det_and (det_K _)
  | tup l => exact det_and (det_K _)
theorem det_assign (u : Nat) (x : Operand) (s : St) : Det (dassign u x s) := by
  have hm := det_move u x s
  unfold dassign
  cases hx : evS s x with
  | own d => exact det_and (det_K _)
  | al r p =>
    cases p with
    | nil =>
      simp only
      by_cases h : u = r
      · simp only [h, if_true]; exact det_K _
      · simp only [h, if_false]
        cases s r <;> first | exact det_K _ | exact det_false
    | cons _ _ => exact hm
  | _ => exact hm
theorem det_append (e : TypeId) (ew u : Nat) (x y : Operand) (s : St) : Det (dappend e ew u x y s) := by
  unfold dappend
  refine det_and ?_
  cases rowOf e (srcOf s (slotOf x) (evS s x)).data with
  | none => exact det_false
  | some xs =>
    simp only
    generalize (srcOf s (slotOf x) (evS s x)).st s = s1
    have fr : Det fun K => match asSl s1 (slotOf y) (evS s1 y) with
      | .fr ys => ys.all (fun d => d.w == ew) = true ∧ xs.length + ys.length ≤ 1073741824 ∧ K ((s1.kill u).put u (.own (.sl (some e) (xs ++ D.fzs ys))))
      | .nd _ _ ys => D.frzs ys = true ∧ ys.all (fun d => d.w == ew) = true ∧ xs.length + ys.length ≤ 1073741824 ∧ K ((s1.kill u).put u (.own (.sl (some e) (xs ++ ys))))
      | .no => False := by
      cases asSl s1 (slotOf y) (evS s1 y) with
      | fr ys => exact det_and (det_and (det_K _))
      | nd _ _ ys => exact det_and (det_and (det_and (det_K _)))
      | no => exact det_false
    cases hy : evS s1 y with
    | own d =>
      rw [hy] at fr
      cases d with
      | sl o ys => cases o with
        | none => exact fr
        | some e' => exact det_and (det_and (det_and (det_K _)))
      | _ => exact fr
    | _ => rw [hy] at fr; exact fr
theorem det_take {F : List (Nat × D × Bool) → St → (St → Prop) → Prop} (hF : ∀ ds s, Det (F ds s)) (u : Nat) : ∀ (parts : List (Nat × Operand)) (s : St), Det fun K => takeK u parts s fun ds s' => F ds s' K := by
  intro parts
  induction parts generalizing F with
  | nil => intro s; exact hF _ _
  | cons p parts ih =>
    obtain ⟨i, x⟩ := p
    intro s
    exact det_and (det_and (ih (F := fun ds s' K => F ((i, (srcOf s (slotOf x) (evS s x)).data, (srcOf s (slotOf x) (evS s x)).from.isNone) :: ds) s' K) (fun ds s' => hF _ _) _))
theorem det_buildS (T : TypeId → TyE) (e : TypeId) (len u : Nat) (parts : List (Nat × Operand)) (s : St) : Det (dbuildS T e len u parts s) :=
  det_take (F := fun ds s' K => partsOk (fun i => some (i * (T e).w, (T e).w)) (List.replicate len (T e).z) ds ∧ K (s'.set u (.own (.sl (some e) (setParts (List.replicate len (T e).z) ds))))) (fun ds s => det_and (det_K _)) u parts s
theorem det_build (T : TypeId → TyE) (fs : List (Nat × TypeId)) (zs : List D) (u : Nat) (parts : List (Nat × Operand)) (s : St) : Det (dbuild T fs zs u parts s) :=
  det_take (F := fun ds s' K => partsOk (places T fs) zs ds ∧ if ds.all (fun x => x.2.2) && D.frzs (setParts zs ds) then K (s'.set u (.val (.agg (setParts zs ds)))) else K (s'.set u (.own (.agg (setParts zs ds))))) (fun ds s => det_and (by
    by_cases h : (ds.all (fun x => x.2.2) && D.frzs (setParts zs ds)) = true
    · simp only [h, if_true]; exact det_K _
    · simp only [h]; exact det_K _)) u parts s
theorem det_store (e : TyE) (x : S) (z : Src) (s : St) : Det (dstore e x z s) := by
  unfold dstore
  cases x with
  | rf r p =>
    simp only
    cases s r with
    | own d =>
      simp only
      cases D.sub p d with
      | none => exact det_false
      | some m =>
        refine det_and (det_and (det_and ?_))
        have rest : Det fun K => (match z with | .no => False | _ => True) ∧ z.data.w = m.w ∧ z.from ≠ some r ∧ K (((z.st s).kill r).put r (.own (D.upd p d z.data))) := det_and (det_and (det_and (det_K _)))
        cases z with
        | fr d' =>
          cases d' with
          | one u => cases m with
            | one _ => exact det_K _
            | _ => exact rest
          | _ => exact rest
        | _ => exact rest
    | _ => exact det_false
  | _ => exact det_false
def detOp : Op → Bool
  | .assign _ => true
  | .store _ _ _ => true
  | .alloc _ => true
  | .box _ _ => true
  | .build _ _ => true
  | .buildSlice _ _ _ => true
  | .makeSlice _ _ _ => true
  | .call ⟨.builtin .append, _, _⟩ => true
  | _ => false
theorem det_step {P : Program} {T : TypeId → TyE} {n : Nat} {op : Op} {dst : Option Nat} {s : St} (h : detOp op = true) : Det (stepOp P T n op dst s) := by
  unfold detOp at h
  unfold stepOp
  split at h
  · exact det_dst fun u => det_assign u _ s
  · exact det_and (det_and (det_store _ _ _ s))
  · exact det_and (det_dst fun u => det_K _)
  · rename_i t x
    simp only
    refine det_dst fun u => ?_
    cases srcOf s (slotOf x) (evS s x) <;> first | exact det_false | exact det_K _
  · rename_i t parts
    simp only
    cases (T t).ty with
    | agg fs => cases (T t).z with
      | agg zs => exact det_and (det_dst fun u => det_build T fs zs u _ s)
      | _ => exact det_false
    | _ => exact det_false
  · rename_i t len parts
    simp only
    cases (T t).ty with
    | sl e => exact det_and (det_and (det_and (det_and (det_dst fun u => det_buildS T e len u _ s))))
    | _ => exact det_false
  · rename_i t x y
    simp only
    cases (T t).ty with
    | sl e => exact det_and (det_int fun l => det_int fun c => det_and (det_and (det_and (det_dst fun u => det_K _))))
    | _ => exact det_false
  · rename_i args ts
    simp only
    unfold stepCall
    split
    all_goals first
      | exact det_false
      | (exfalso; simp_all; done)
      | (refine det_and ?_; split <;> first | exact det_false | exact det_dst fun u => det_and (det_and (det_append _ _ u _ _ s)))
  · cases h
def callF (P : Program) (f : FuncId) (ds : List D) (rs : List Nat) [k : Hid1 S] : Prop := ∃ r, FnOk P f ds (fun r' => r' = r) ∧ (rs = [] ∨ r.closed = true) ∧ k.K r
def callMF (P : Program) (f : FuncId) (ds : List D) (m : Nat) (d : D) (rs : List Nat) [k : Hid1 (S × D)] : Prop := rs = [] ∧ ∃ r d', FnMu P f ds m d (fun a b => a = r ∧ b = d') ∧ k.K (r, d')
theorem callMF_of {P : Program} {f : FuncId} {ds : List D} {m : Nat} {d d' : D} {rs : List Nat} {K : S × D → Prop} {r : S} (hr : rs = []) (h : FnMu P f ds m d (fun a b => a = r ∧ b = d')) (hK : K (r, d')) : (callMF (k := ⟨K⟩) P f ds m d rs) := ⟨hr, r, d', h, hK⟩
def dcallF (s : St) (u : Option Nat) (f : FuncId) (P : Program) (args : List Operand) (K : St → Prop) : Prop :=
  argK s args fun ds rs => (callF (k := ⟨fun r => K (s.setd u r)⟩) P f (D.fzs ds) rs)
def dcallMF (s : St) (dst : Option Nat) (f : FuncId) (P : Program) (m : Nat) (args : List Operand) (K : St → Prop) : Prop := match args[m]? with
  | some x => match evS s x with
    | .al r [] => match s r with
      | .own d => argK s (args.set m (.const (.bool false))) fun ds rs => (callMF (k := ⟨fun y => dst ≠ some r ∧ (y.2.isAgg = false ∧ y.2.w = 1) ∧ K (((s.killP r).put r (.own y.2)).setd dst y.1)⟩) P f ds m d rs)
      | _ => False
    | .al r (i :: p) => match s r with
      | .own d => D.free (i :: p) d = true ∧ (match D.sub (i :: p) d with
        | some nd => argK s (args.set m (.const (.bool false))) fun ds rs => (callMF (k := ⟨fun y => dst ≠ some r ∧ (y.2.isAgg = false ∧ y.2.w = 1) ∧ K (((s.kill r).put r (.own (D.upd (i :: p) d y.2))).setd dst y.1)⟩) P f ds m nd rs)
        | none => False)
      | _ => False
    | _ => False
  | none => False
def fnC (c : Callee) : Option FuncId := match c with
  | .value x => (match x with | .func f => some f | _ => none)
  | _ => none
def fnOf (op : Op) : Option FuncId := match op with
  | .call c => fnC c.callee
  | _ => none
def argsOf (op : Op) : List Operand := match op with
  | .call c => c.args.toList
  | _ => []
def stepF (P : Program) (T : TypeId → TyE) (n : Nat) (op : Op) (dst : Option Nat) (s : St) (K : St → Prop) : Prop := match fnOf op with
  | some f => (T (1000000 + f)).w ≠ 1000 ∧ Enters P f ∧ (∀ u, dst = some u → u < n) ∧ (match (T (1000000 + f)).w with
    | 0 => capsOf s (argsOf op) = [] ∧ dcallF s dst f P (argsOf op) K
    | m + 1 => dcallMF (coolA s (argsOf op)) dst f P m (argsOf op) K)
  | none => detOp op = true ∧ stepOp P T n op dst s K
theorem argK_mono {s : St} : ∀ (xs : List Operand) {F G : List D → List Nat → Prop}, (∀ ds rs, F ds rs → G ds rs) → argK s xs F → argK s xs G
  | [], F, G, h, hF => h _ _ hF
  | x :: xs, F, G, h, hF => by
    unfold argK at hF ⊢
    cases hx : evS s x <;> simp only [hx] at hF ⊢ <;> try exact argK_mono xs (fun ds rs => h _ _) hF
    all_goals
      rename_i r p
      cases hr : s r <;> simp only [hr] at hF ⊢
      rename_i d
      cases hd : D.sub p d <;> simp only [hd] at hF ⊢
      exact argK_mono xs (fun ds rs => h _ _) hF
theorem det_argK {s : St} : ∀ (xs : List Operand) {F : List D → List Nat → (St → Prop) → Prop}, (∀ ds rs, Det (F ds rs)) → Det fun K => argK s xs fun ds rs => F ds rs K
  | [], F, h => h _ _
  | x :: xs, F, h => by
    unfold argK
    cases hx : evS s x <;> simp only <;> first
      | exact det_false
      | exact det_argK xs (F := fun ds rs => F (_ :: ds) rs) fun ds rs => h _ _
      | exact det_argK xs (F := fun ds rs => F (_ :: ds) (_ :: rs)) fun ds rs => h _ _
      | skip
    all_goals
      rename_i r p
      cases hr : s r <;> simp only <;> try exact det_false
      rename_i d
      cases hd : D.sub p d <;> simp only <;> first
        | exact det_false
        | exact det_argK xs (F := fun ds rs => F (_ :: ds) (_ :: rs)) fun ds rs => h _ _
theorem det_dcallF {s : St} {u : Option Nat} {f : FuncId} {P : Program} {args : List Operand} : Det (dcallF s u f P args) :=
  det_argK args (F := fun ds rs K => (callF (k := ⟨fun r => K (s.setd u r)⟩) P f (D.fzs ds) rs)) fun ds rs K h => by
    obtain ⟨r, h1, h2, h3⟩ := h
    exact ⟨_, h3, r, h1, h2, rfl⟩
theorem det_dcallMF {s : St} {u : Option Nat} {f : FuncId} {P : Program} {m : Nat} {args : List Operand} : Det (dcallMF s u f P m args) := by
  unfold dcallMF
  split
  · split
    · split
      · rename_i r _ _ d _
        exact det_argK _ (F := fun ds rs K => (callMF (k := ⟨fun y => u ≠ some r ∧ (y.2.isAgg = false ∧ y.2.w = 1) ∧ K (((s.killP r).put r (.own y.2)).setd u y.1)⟩) P f ds m d rs)) fun ds rs K h => by
          obtain ⟨h0, a, b, h1, h2, h4, h3⟩ := h
          exact ⟨_, h3, h0, a, b, h1, h2, h4, rfl⟩
      · exact det_false
    · split
      · refine det_and ?_
        split
        · rename_i r i p _ _ d _ _ nd _
          exact det_argK _ (F := fun ds rs K => (callMF (k := ⟨fun y => u ≠ some r ∧ (y.2.isAgg = false ∧ y.2.w = 1) ∧ K (((s.kill r).put r (.own (D.upd (i :: p) d y.2))).setd u y.1)⟩) P f ds m nd rs)) fun ds rs K h => by
            obtain ⟨h0, a, b, h1, h2, h4, h3⟩ := h
            exact ⟨_, h3, h0, a, b, h1, h2, h4, rfl⟩
        · exact det_false
      · exact det_false
    · exact det_false
  · exact det_false
theorem det_stepF {P : Program} {T : TypeId → TyE} {n : Nat} {op : Op} {dst : Option Nat} {s : St} : Det (stepF P T n op dst s) := by
  unfold stepF
  split
  · refine det_and (det_and (det_and ?_))
    split
    · exact det_and det_dcallF
    · exact det_dcallMF
  · intro K h
    obtain ⟨s1, h1, h2⟩ := det_step h.1 K h.2
    exact ⟨s1, h1, h.1, h2⟩
theorem stepF_op {P : Program} {T : TypeId → TyE} {n : Nat} {op : Op} {dst : Option Nat} {s : St} {K : St → Prop} (h : stepF P T n op dst s K) : stepOp P T n op dst s K := by
  unfold stepF at h
  cases hf : fnOf op with
  | none => rw [hf] at h; exact h.2
  | some f =>
    rw [hf] at h
    obtain ⟨h1, h2, h3, h4⟩ := h
    unfold fnOf at hf
    cases op <;> simp only at hf <;> try (cases hf; done)
    rename_i c
    obtain ⟨cal, args, ts⟩ := c
    have hc : cal = .value (.func f) := by
      unfold fnC at hf
      cases cal with
      | value x => cases x <;> simp_all
      | _ => simp at hf
    subst hc
    simp only [argsOf] at h4
    unfold stepOp stepCall
    refine ⟨h2, h3, ?_⟩
    simp only [if_neg h1]
    cases hw : (T (1000000 + f)).w with
    | zero =>
      rw [hw] at h4
      simp only [h4.1]
      refine argK_mono _ (fun ds rs g => ?_) h4.2
      obtain ⟨r, g1, g2, g3⟩ := g
      exact callK_of g1 g2 g3
    | succ m =>
      rw [hw] at h4
      simp only at h4 ⊢
      unfold dcallMF at h4
      unfold dcallM
      split at h4
      · rename_i x hx
        simp only [hx]
        split at h4
        · rename_i r hxe
          simp only [hxe]
          split at h4
          · rename_i d hs
            simp only [hs]
            refine argK_mono _ (fun ds rs g => ?_) h4
            obtain ⟨g0, a, b, g1, g2⟩ := g
            exact ⟨g0, _, g1, fun res d' hq => by obtain ⟨rfl, rfl⟩ := hq; exact g2⟩
          · exact h4.elim
        · rename_i r i p hxe
          simp only [hxe]
          split at h4
          · rename_i d hs
            simp only [hs]
            refine ⟨h4.1, ?_⟩
            have h5 := h4.2
            split at h5
            · rename_i nd hnd
              simp only [hnd]
              refine argK_mono _ (fun ds rs g => ?_) h5
              obtain ⟨g0, a, b, g1, g2⟩ := g
              exact ⟨g0, _, g1, fun res d' hq => by obtain ⟨rfl, rfl⟩ := hq; exact g2⟩
            · exact h5.elim
          · exact h4.elim
        · exact h4.elim
      · exact h4.elim
end Go.Dv

end
section
namespace Go.Dv
open Go.RowKit
variable [Glob]
def putAll : List Nat → St → St → St
  | [], _, s => s
  | t :: Y, f, s => (putAll Y f s).put t (f t)
theorem putAll_at (f s : St) (i : Nat) : ∀ Y : List Nat, putAll Y f s i = if i ∈ Y then f i else s i
  | [] => by simp [putAll]
  | t :: Y => by
    simp only [putAll, St.put, putAll_at f s i Y, List.mem_cons]
    by_cases h : i = t
    · subst h; simp
    · simp [h]
theorem lst_only (s : St) : ∀ Y : List Nat, lst (Y.map fun t => (t, s t)) = s.only Y
  | [] => by funext i; simp [lst, St.only]
  | t :: Y => by
    funext i
    simp only [List.map_cons, lst, St.put, lst_only s Y, St.only, List.mem_cons]
    by_cases h : i = t
    · subst h; simp
    · simp [h]
def rootIn (Y : List Nat) (x : S) : Prop := match x.root with
  | some r => r ∈ Y
  | none => True
def rootOut (Y : List Nat) (x : S) : Prop := match x.root with
  | some r => r ∉ Y
  | none => True
def rootOwn (Y : List Nat) (s : St) (x : S) : Prop := match x.root with
  | some r => r ∈ Y ∧ (s r).isOwn = true
  | none => True
theorem tells_only {P : Program} {n : Nat} {s : St} {Y : List Nat} (h : ∀ t ∈ Y, rootOwn Y s (s t)) : Tells P n s (s.only Y) := by
  refine tells_of fun i => ?_
  by_cases hi : i ∈ Y
  · simp only [St.only, if_pos hi]
    refine .inr (.inl ⟨rfl, ?_⟩)
    have := h i hi
    unfold rootOwn at this
    cases hr : (s i).root with
    | none => trivial
    | some r =>
      rw [hr] at this
      have h2 : r ∈ Y := this.1
      simp [St.only, h2]
  · simp only [St.only, if_neg hi]; exact .inl rfl
class HidF where
  F : St → Prop
def frK (s : St) [h : HidF] : Prop := h.F s
section
variable {P : Program} {T : TypeId → TyE} {n : Nat} {ops : Array Oper} {md : Region.Mode} {ft : List (Nat × List Nat)}
def QF (P : Program) (T : TypeId → TyE) (n : Nat) (ft : List (Nat × List Nat)) (hs : List Nat) (ops : Array Oper) : List Oper → Nat → List Nat → St → (St → Prop) → Prop
  | [], _, _, s, K => K s
  | o :: l, k, Ks, s, K => match hs.contains k with
   | true => QF P T n ft hs ops l (k + 1) Ks s K
   | false => match ft.lookup k with
    | none => match o.dst with
      | none => False
      | some u => u < n ∧ (s u).isOwn = false ∧ (s u).root = none ∧ @gH ops o s ⟨stepD P T n o.op u s fun s' => QF P T n ft hs ops l (k + 1) (u :: Ks) s' K⟩ ⟨QF P T n ft hs ops l (k + 1) (u :: Ks) (s.put u (.tup [])) K⟩
    | some Y => o.guard = none ∧ (∀ t ∈ Y, t < 1000000) ∧ (∀ u, o.dst = some u → u ∈ Y) ∧ (∀ t ∈ Y, rootIn Y (s t)) ∧ (∀ t ∈ Ks, t ∈ Y ∨ rootOut Y (s t)) ∧
      stepF P T n o.op o.dst (lst (Y.map fun t => (t, s t))) fun s' => @frK s' ⟨fun s' => (∀ t ∈ Y, rootOwn Y s' (s' t)) ∧ QF P T n ft hs ops l (k + 1) (Y ++ Ks) (putAll Y s' s) K⟩
theorem QF_did (hG : ∀ t, Good P T t) {hs : List Nat} {o : Oper} {l : List Oper} {k : Nat} {Ks : List Nat} {s : St} {K : St → Prop} (hk : ∀ i, i ∉ Ks → s i = .un) (hh : hs.contains k = false) (h : QF P T n ft hs ops (o :: l) k Ks s K) :
    ∃ s' Ks', Did P n ft ops k o s s' ∧ (∀ i, i ∉ Ks' → s' i = .un) ∧ QF P T n ft hs ops l (k + 1) Ks' s' K := by
  unfold QF at h
  rw [hh] at h
  simp only at h
  cases hl : ft.lookup k with
  | none =>
    simp only [hl] at h
    cases hd : o.dst with
    | none => rw [hd] at h; exact h.elim
    | some u =>
      rw [hd] at h
      obtain ⟨hu, ho, hr, h⟩ := h
      obtain ⟨hkn, hA, hB⟩ := gK_parts h
      have key : ∀ y, ∀ i, i ∉ u :: Ks → (s.put u y) i = .un := fun y i hi => by
        simp only [List.mem_cons, not_or] at hi
        rw [put_ne hi.1]; exact hk i hi.2
      by_cases hw : Wants ops o s
      · obtain ⟨y, h1, h2, h3⟩ := stepD_reads (xs := xsOf o) (fun x hx => hx) (hA hw)
        rw [set_put ho] at h1
        refine ⟨s.put u y, u :: Ks, ?_, key y, h1⟩
        unfold Did
        simp only [hl]
        refine ⟨u, y, hd, hu, ho, hr, ⟨hkn, h2, fun _ w0 ow0 σ ha hσ => ?_, fun hn => absurd hw hn⟩, rfl⟩
        refine step_ok hG ?_
        rw [hd]
        exact h3 σ ha _ (set_put hσ)
      · refine ⟨s.put u (.tup []), u :: Ks, ?_, key _, hB hw⟩
        unfold Did
        simp only [hl]
        exact ⟨u, .tup [], hd, hu, ho, hr, ⟨hkn, root_none rfl, fun h => absurd h hw, fun _ => rfl⟩, rfl⟩
  | some Y =>
    simp only [hl] at h
    obtain ⟨h1, h3, h4, h5, h6, h7⟩ := h
    obtain ⟨s1, ⟨g1, g2⟩, g4⟩ := det_stepF _ h7
    have g3 := stepF_op g4
    rw [lst_only] at g3
    have hm : putAll Y s1 s = s.merge Y (s1.only Y) := by
      funext i
      rw [putAll_at]
      simp only [St.merge, St.only]
      by_cases hi : i ∈ Y <;> simp [hi]
    refine ⟨s.merge Y (s1.only Y), Y ++ Ks, ?_, fun i hi => ?_, by rw [← hm]; exact g2⟩
    · unfold Did
      simp only [hl]
      refine ⟨s1.only Y, ⟨h1, h3, h4, fun i hi r hr => ?_, fun i hi r hr => ?_, fun i hi => by simp [St.only, hi], fun i r hr => ?_, fun w0 ow0 => ?_⟩, rfl⟩
      · have := h5 i hi; unfold rootIn at this; rw [hr] at this; exact this
      · by_cases hik : i ∈ Ks
        · rcases h6 i hik with h | h
          · exact absurd h hi
          · unfold rootOut at h; rw [hr] at h; exact h
        · rw [hk i hik] at hr; cases hr
      · by_cases hi : i ∈ Y
        · simp only [St.only, if_pos hi] at hr
          have := g1 i hi
          unfold rootOwn at this
          rw [hr] at this
          simpa [St.only, this.1] using this.2
        · simp only [St.only, if_neg hi] at hr; cases hr
      · exact fun a w hR next Q hn => (step_ok hG g3 : Ok P n w0 ow0 o (s.only Y) _) a w hR next Q fun s' a' w' e hR' => hn s' a' w' (by subst e; exact tells_only g1) hR'
    · simp only [List.mem_append, not_or] at hi
      simp only [St.merge, if_neg hi.1]
      exact hk i hi.2
def freeD (ft : List (Nat × List Nat)) (md : Region.Mode) (ops : Array Oper) (listed : Array Bool) (i : Nat) : Bool := match ops[i]? with
  | none => false
  | some oi => (List.range ops.size).all fun j => j == i || listed.getD j true || match ops[j]? with
      | some oj => oj.after.any (fun e => Region.binds md e && e.on == i) || apF ft ops i j oi oj
      | none => true
theorem freeD_spec {i : Nat} {oi : Oper} {listed : Array Bool} (hi : ops[i]? = some oi) (h : freeD ft md ops listed i = true) (j : Nat) (oj : Oper)
    (hj : ops[j]? = some oj) (hne : j ≠ i) (hun : listed.getD j true = false) (hno : ∀ e ∈ oj.after, Region.binds md e = true → e.on ≠ i) : apF ft ops i j oi oj = true := by
  simp only [freeD, hi, List.all_eq_true, List.mem_range] at h
  have h1 := h j (Array.getElem?_eq_some_iff.1 hj).1
  simp only [hj, Bool.or_eq_true, beq_iff_eq, hne, false_or, hun, Bool.false_eq_true] at h1
  rcases h1 with h1 | h1
  · obtain ⟨e, he, hb⟩ := Array.any_eq_true'.1 h1
    simp only [Bool.and_eq_true, beq_iff_eq] at hb
    exact absurd hb.2 (hno e he hb.1)
  · exact h1
def freeF (ft : List (Nat × List Nat)) (md : Region.Mode) (ops : Array Oper) (listed : Array Bool) (i : Nat) : Bool := match ops[i]? with
  | none => false
  | some oi => (List.range ops.size).all fun j => j == i || listed.getD j true || match ops[j]? with
      | some oj => beforeB md ops i ops.size j || apF ft ops i j oi oj
      | none => true
theorem freeF_spec {i : Nat} {oi : Oper} {listed : Array Bool} (hi : ops[i]? = some oi) (h : freeF ft md ops listed i = true) (j : Nat) (oj : Oper)
    (hj : ops[j]? = some oj) (hne : j ≠ i) (hun : listed.getD j true = false) (hno : beforeB md ops i ops.size j = false) : apF ft ops i j oi oj = true := by
  simp only [freeF, hi, List.all_eq_true, List.mem_range] at h
  have h1 := h j (Array.getElem?_eq_some_iff.1 hj).1
  simp only [hj, Bool.or_eq_true, beq_iff_eq, hne, false_or, hun, Bool.false_eq_true] at h1
  rcases h1 with h1 | h1
  · rw [hno] at h1; cases h1
  · exact h1
def lexFF (ft : List (Nat × List Nat)) (hs : List Nat) (md : Region.Mode) (ops : Array Oper) : Nat → Nat → Array Bool → Bool
  | 0, _, listed => (Region.ready md ops listed).isEmpty
  | fuel + 1, k, listed => match hs.contains k with
    | true => lexFF ft hs md ops fuel (k + 1) listed
    | false => (Region.ready md ops listed).contains k && freeF ft md ops listed k && lexFF ft hs md ops fuel (k + 1) (listed.setIfInBounds k true)
def lexBF (ft : List (Nat × List Nat)) (md : Region.Mode) (ops : Array Oper) : Bool := Region.noSelect ops && lexFF ft [] md ops ops.size 0 (Array.replicate ops.size false)
def left (hs : List Nat) : List Oper → Nat → Nat
  | [], _ => 0
  | _ :: l, k => match hs.contains k with
    | true => left hs l (k + 1)
    | false => left hs l (k + 1) + 1
theorem left_nil : ∀ (l : List Oper) (k : Nat), left [] l k = l.length
  | [], _ => rfl
  | _ :: l, k => by
    show left [] l (k + 1) + 1 = _
    rw [left_nil l (k + 1)]; rfl
theorem anyG_lex (hG : ∀ t, Good P T t) (hn : n ≤ 1000000) {hs : List Nat} {K : St → Prop} : ∀ (l : List Oper) (k : Nat) (listed : Array Bool) (Ks : List Nat) (s : St), (∀ j, l[j]? = ops[k + j]?) → Closed md ops listed → Cons s → (∀ i, i ∉ Ks → s i = .un) →
    lexFF ft hs md ops l.length k listed = true → QF P T n ft hs ops l k Ks s K → anyG P n ft md ops K (left hs l k) listed s
  | [], _, _, _, _, _, _, _, _, hB, h => ⟨by simpa [lexFF] using hB, h⟩
  | o :: l, k, listed, Ks, s, hl, hcl, hc, hk, hB, h => by
    have h0 : ops[k]? = some o := by simpa using (hl 0).symm
    have hl' : ∀ j, l[j]? = ops[k + 1 + j]? := fun j => by have := hl (j + 1); simpa [Nat.add_assoc, Nat.add_comm 1 j] using this
    simp only [List.length_cons, lexFF] at hB
    unfold left
    cases hh : hs.contains k with
    | true =>
      rw [hh] at hB
      unfold QF at h
      rw [hh] at h
      exact anyG_lex hG hn l (k + 1) listed Ks s hl' hcl hc hk hB h
    | false =>
      rw [hh] at hB
      simp only [Bool.and_eq_true] at hB
      obtain ⟨⟨hr, hf⟩, hB'⟩ := hB
      obtain ⟨s', Ks', hd, hk', hrest⟩ := QF_did hG hk hh h
      exact anyG_first hn h0 (left hs l (k + 1)) listed s s' hcl (freeF_spec h0 hf) (by simpa using hr) hc hd
        (anyG_lex hG hn l (k + 1) _ Ks' s' hl' (hcl.set (by simpa using hr)) (hd.cons hc) hk' hB' hrest)
theorem okC_frames (hG : ∀ t, Good P T t) {p : Pin} {w0 : World} {ow0 : Own} {s : St} {K : Exit → St → Prop} {id : Nat} {M : List (Nat × S)} {ts : List Nat} (hm : P.follows .mixedOrders = true) (hn : n ≤ 1000000) (hB : lexBF ft .any ops = true) (h0 : lessL (s.cools ts) M M)
    (h : QF P T n ft [] ops ops.toList 0 (M.map Prod.fst) (lst M) (fun s' => K .normal s')) (hd : noDst p ops.toList = true) : OkC P n w0 ow0 p (.region id ops true) s K := by
  refine okC_tells ?_ (tells_list ts h0)
  intro a w hR hp Q hQ
  simp only [lexBF, Bool.and_eq_true] at hB
  have hR2 : Rel P n w0 ow0 (lst M) a { w with drawn := w.drawn + 1 } := by obtain ⟨ow, hf⟩ := hR; exact ⟨ow, hf.drew⟩
  have hc : Cons (lst M) := by obtain ⟨ow, hf⟩ := hR; exact hf.cons
  refine wp_region_any hm (anyG_sound (ft := ft) (noDst.one hd) (K := fun s' => K .normal s') (fun s' a' w' hK hR' hp' => hQ _ _ _ _ hK hR' hp') _ _ (lst M) _ _ hR2 hp ?_)
  have := anyG_lex (md := .any) hG hn ops.toList 0 (Array.replicate ops.size false) _ (lst M) (by simp) closed0 hc (fun i hi => lst_un hi) (by simpa using hB.2) h
  rw [left_nil] at this
  simpa using this
theorem okC_df (hG : ∀ t, Good P T t) {p : Pin} {w0 : World} {ow0 : Own} {s : St} {K : Exit → St → Prop} {id : Nat} {y : Code} (ft : List (Nat × List Nat)) (M : List (Nat × S)) (ts : List Nat) (hm : P.follows .mixedOrders = true) (hn : n ≤ 1000000) (hB : lexBF ft .any ops = true) (h0 : lessL (s.cools ts) M M)
    (h : QF P T n ft [] ops ops.toList 0 (M.map Prod.fst) (lst M) (fun s' => @blk St s' ⟨fun s' => OkC P n w0 ow0 p y s' K⟩)) (hd : noDst p ops.toList = true := by rfl) : OkC P n w0 ow0 p (.seq (.region id ops true) y) s K := okC_seq (okC_frames hG hm hn hB h0 h hd)
theorem okC_df1 (hG : ∀ t, Good P T t) {p : Pin} {w0 : World} {ow0 : Own} {s : St} {K : Exit → St → Prop} {id : Nat} (ft : List (Nat × List Nat)) (M : List (Nat × S)) (ts : List Nat) (hm : P.follows .mixedOrders = true) (hn : n ≤ 1000000) (hB : lexBF ft .any ops = true) (h0 : lessL (s.cools ts) M M)
    (h : QF P T n ft [] ops ops.toList 0 (M.map Prod.fst) (lst M) (fun s' => @blk St s' ⟨fun s' => K .normal s'⟩)) (hd : noDst p ops.toList = true := by rfl) : OkC P n w0 ow0 p (.region id ops true) s K := okC_frames hG hm hn hB h0 h hd
def isMove (o : Oper) : Bool := match o.guard, o.op, o.dst with
  | none, .move (.tmp _), some _ => true
  | _, _, _ => false
def hoistB (md : Region.Mode) (ops : Array Oper) : List Nat → Array Bool → Bool
  | [], _ => true
  | i :: hs, listed => (Region.ready md ops listed).contains i && freeD [] md ops listed i && (match ops[i]? with | some o => isMove o | none => false) && hoistB md ops hs (listed.setIfInBounds i true)
def setAll : List Nat → Array Bool → Array Bool
  | [], listed => listed
  | i :: hs, listed => setAll hs (listed.setIfInBounds i true)
def QM (P : Program) (T : TypeId → TyE) (n : Nat) (ops : Array Oper) : List Nat → St → (St → Prop) → Prop
  | [], s, K => K s
  | i :: hs, s, K => match ops[i]? with
    | some o => stepOp P T n o.op o.dst s fun s' => @frK s' ⟨fun s' => QM P T n ops hs s' K⟩
    | none => False
theorem setAll_closed : ∀ (hs : List Nat) (listed : Array Bool), hoistB md ops hs listed = true → Closed md ops listed → Closed md ops (setAll hs listed)
  | [], _, _, h => h
  | i :: hs, listed, hB, h => by
    simp only [hoistB, Bool.and_eq_true] at hB
    exact setAll_closed hs _ hB.2 (h.set (by simpa using hB.1.1.1))
theorem noSelect_spec (h : Region.noSelect ops = true) : ∀ (j : Nat) (o : Oper) cs b, ops[j]? = some o → o.op ≠ .select cs b := by
  intro j o cs b hj e
  unfold Region.noSelect at h
  have h1 := Array.all_eq_true_iff_forall_mem.1 h o (Array.mem_of_getElem? hj)
  rw [e] at h1
  simp at h1
theorem hoist_ok (hG : ∀ t, Good P T t) {p : Pin} {w0 : World} {ow0 : Own} {Q : Exit → Act → World → Prop} (hQ : ∀ c a w, ¬ Q (.panic c) a w) (hsel : ∀ (j : Nat) (o : Oper) cs b, ops[j]? = some o → o.op ≠ .select cs b) (hd : ∀ o ∈ ops.toList, noDst1 p o = true) {K : St → Prop} {w : World} : ∀ (hs : List Nat) (listed : Array Bool) (s : St) (a : Act),
    hoistB md ops hs listed = true → QM P T n ops hs s K → Rel P n w0 ow0 s a w → Pinned p a →
    ∃ s1 a1, K s1 ∧ Rel P n w0 ow0 s1 a1 w ∧ Pinned p a1 ∧ ∀ fuel, wpAny P md ops Q fuel (setAll hs listed) a1 w → wpAny P md ops Q (fuel + hs.length) listed a w
  | [], listed, s, a, _, h, hR, hp => ⟨s, a, h, hR, hp, fun _ h => h⟩
  | i :: hs, listed, s, a, hB, h, hR, hp => by
    simp only [hoistB, Bool.and_eq_true] at hB
    obtain ⟨⟨⟨h1, h2⟩, h3⟩, h4⟩ := hB
    unfold QM at h
    cases hi : ops[i]? with
    | none => rw [hi] at h; exact h.elim
    | some o =>
      rw [hi] at h h3
      simp only at h h3
      unfold isMove at h3
      split at h3
      · rename_i t u hgd hop hdst
        have hnd : noDst1 p o = true := hd o (by simpa using Array.mem_of_getElem? hi)
        have hrun : ∀ w, (execOp a.eval o).run P w = .ok (.value (a.eval (.tmp t))) w := fun w => by unfold execOp; rw [hop]; rfl
        have hw := wp_pin (Q := fun _ _ _ => True) hp hnd ((step_ok hG h : Ok P n w0 ow0 o s _) a w hR (fun a' w' => ∃ s', QM P T n ops hs s' K ∧ Rel P n w0 ow0 s' a' w') (fun _ _ _ => True) fun s' a' w' hK hR' => ⟨s', hK, hR'⟩)
        unfold Oper.wp at hw
        rw [hrun w] at hw
        simp only [Oper.upon] at hw
        obtain ⟨⟨s', hK, hR'⟩, hp'⟩ := hw
        obtain ⟨s1, a1, g1, g2, g3, g4⟩ := hoist_ok hG hQ hsel hd hs _ s' _ h4 hK hR' hp'
        refine ⟨s1, a1, g1, g2, g3, fun fuel hf => ?_⟩
        rw [List.length_cons, ← Nat.add_assoc]
        refine wpAny_first hi hsel (fun c a w hq => absurd hq (hQ c _ w)) _ _ _ _ (fun j oj hj hne hun hno => ?_) (by simpa using h1) (.inl ⟨?_, hrun⟩) (g4 fuel hf)
        · have := freeD_spec hi h2 j oj hj hne hun hno
          simpa [apF] using this
        · simp [Region.wanted, hgd]
      · cases h3
theorem okC_framesH (hG : ∀ t, Good P T t) {p : Pin} {w0 : World} {ow0 : Own} {s : St} {K : Exit → St → Prop} {id : Nat} {hs : List Nat} {M : List (Nat × S)} {ts : List Nat} (hm : P.follows .mixedOrders = true) (hn : n ≤ 1000000)
    (hB : (Region.noSelect ops && hoistB .any ops hs (Array.replicate ops.size false) && lexFF ft hs .any ops ops.size 0 (setAll hs (Array.replicate ops.size false)) && left hs ops.toList 0 + hs.length == ops.size) = true)
    (h : QM P T n ops hs s fun s' => lessL (s'.cools ts) M M ∧ QF P T n ft hs ops ops.toList 0 (M.map Prod.fst) (lst M) (fun s' => K .normal s')) (hd : noDst p ops.toList = true) : OkC P n w0 ow0 p (.region id ops true) s K := by
  simp only [Bool.and_eq_true, beq_iff_eq] at hB
  obtain ⟨⟨⟨hB1, hB2⟩, hB3⟩, hB4⟩ := hB
  intro a w hR hp Q hQ
  refine wp_mono (Q := fun e a w => match e with | .normal => Q .normal a w | _ => False) ?_ fun e a w he => (by cases e <;> first | exact he | exact he.elim)
  have hR2 : Rel P n w0 ow0 s a { w with drawn := w.drawn + 1 } := by obtain ⟨ow, hf⟩ := hR; exact ⟨ow, hf.drew⟩
  refine wp_region_any hm ?_
  obtain ⟨s1, a1, ⟨g1, g2⟩, g3, g4, g5⟩ := hoist_ok (md := .any) (ops := ops) (Q := fun e a w => match e with | .normal => Q .normal a w | _ => False) hG (fun c a w h => h) (noSelect_spec hB1) (noDst.one hd) hs _ _ _ hB2 h hR2 hp
  have g6 := g5 (left hs ops.toList 0)
  rw [hB4] at g6
  refine g6 ?_
  have g3' := (tells_list ts g1).rel g3
  have hc : Cons (lst M) := by obtain ⟨ow, hf⟩ := g3'; exact hf.cons
  refine anyG_sound (ft := ft) (noDst.one hd) (K := fun s' => K .normal s') (Q' := fun e a w => match e with | .normal => Q .normal a w | _ => False) (fun s' a' w' hK hR' hp' => hQ _ _ _ _ hK hR' hp') _ _ (lst M) _ _ g3' g4 ?_
  exact anyG_lex (md := .any) hG hn ops.toList 0 _ _ (lst M) (by simp) (setAll_closed _ _ hB2 closed0) hc (fun i hi => lst_un hi) (by simpa using hB3) g2
theorem okC_dh (hG : ∀ t, Good P T t) {p : Pin} {w0 : World} {ow0 : Own} {s : St} {K : Exit → St → Prop} {id : Nat} {y : Code} (hs : List Nat) (ft : List (Nat × List Nat)) (M : List (Nat × S)) (ts : List Nat) (hm : P.follows .mixedOrders = true) (hn : n ≤ 1000000)
    (hB : (Region.noSelect ops && hoistB .any ops hs (Array.replicate ops.size false) && lexFF ft hs .any ops ops.size 0 (setAll hs (Array.replicate ops.size false)) && left hs ops.toList 0 + hs.length == ops.size) = true)
    (h : QM P T n ops hs s fun s' => lessL (s'.cools ts) M M ∧ QF P T n ft hs ops ops.toList 0 (M.map Prod.fst) (lst M) (fun s' => @blk St s' ⟨fun s' => OkC P n w0 ow0 p y s' K⟩)) (hd : noDst p ops.toList = true := by rfl) : OkC P n w0 ow0 p (.seq (.region id ops true) y) s K := okC_seq (okC_framesH hG hm hn hB h hd)
theorem frK_put {s : St} {t : Nat} {x : S} {F : St → Prop} : @frK (s.put t x) ⟨F⟩ = F (s.put t x) := rfl
theorem QF_nil {hs : List Nat} {k : Nat} {Ks : List Nat} {s : St} {K : St → Prop} : QF P T n ft hs ops [] k Ks s K = K s := Eq.trans rfl rfl
theorem QF_put {hs : List Nat} {o : Oper} {l : List Oper} {k t : Nat} {Ks : List Nat} {s : St} {x : S} {K : St → Prop} : QF P T n ft hs ops (o :: l) k Ks (s.put t x) K = (match hs.contains k with
   | true => QF P T n ft hs ops l (k + 1) Ks (s.put t x) K
   | false => match ft.lookup k with
    | none => match o.dst with
      | none => False
      | some u => u < n ∧ ((s.put t x) u).isOwn = false ∧ ((s.put t x) u).root = none ∧ @gH ops o (s.put t x) ⟨stepD P T n o.op u (s.put t x) fun s' => QF P T n ft hs ops l (k + 1) (u :: Ks) s' K⟩ ⟨QF P T n ft hs ops l (k + 1) (u :: Ks) ((s.put t x).put u (.tup [])) K⟩
    | some Y => o.guard = none ∧ (∀ t ∈ Y, t < 1000000) ∧ (∀ u, o.dst = some u → u ∈ Y) ∧ (∀ t' ∈ Y, rootIn Y ((s.put t x) t')) ∧ (∀ t' ∈ Ks, t' ∈ Y ∨ rootOut Y ((s.put t x) t')) ∧
      stepF P T n o.op o.dst (lst (Y.map fun t' => (t', (s.put t x) t'))) fun s' => @frK s' ⟨fun s' => (∀ t ∈ Y, rootOwn Y s' (s' t)) ∧ QF P T n ft hs ops l (k + 1) (Y ++ Ks) (putAll Y s' (s.put t x)) K⟩) := Eq.trans rfl rfl
theorem QF_lst {hs : List Nat} {o : Oper} {l : List Oper} {k : Nat} {Ks : List Nat} {L : List (Nat × S)} {K : St → Prop} : QF P T n ft hs ops (o :: l) k Ks (lst L) K = (match hs.contains k with
   | true => QF P T n ft hs ops l (k + 1) Ks (lst L) K
   | false => match ft.lookup k with
    | none => match o.dst with
      | none => False
      | some u => u < n ∧ ((lst L) u).isOwn = false ∧ ((lst L) u).root = none ∧ @gH ops o (lst L) ⟨stepD P T n o.op u (lst L) fun s' => QF P T n ft hs ops l (k + 1) (u :: Ks) s' K⟩ ⟨QF P T n ft hs ops l (k + 1) (u :: Ks) ((lst L).put u (.tup [])) K⟩
    | some Y => o.guard = none ∧ (∀ t ∈ Y, t < 1000000) ∧ (∀ u, o.dst = some u → u ∈ Y) ∧ (∀ t' ∈ Y, rootIn Y ((lst L) t')) ∧ (∀ t' ∈ Ks, t' ∈ Y ∨ rootOut Y ((lst L) t')) ∧
      stepF P T n o.op o.dst (lst (Y.map fun t' => (t', (lst L) t'))) fun s' => @frK s' ⟨fun s' => (∀ t ∈ Y, rootOwn Y s' (s' t)) ∧ QF P T n ft hs ops l (k + 1) (Y ++ Ks) (putAll Y s' (lst L)) K⟩) := Eq.trans rfl rfl
end
theorem fzs_take (xs : List D) (i : Nat) : D.fzs (xs.take i) = (D.fzs xs).take i := by simp [D.fzs_map]
theorem fzs_drop (xs : List D) (i : Nat) : D.fzs (xs.drop i) = (D.fzs xs).drop i := by simp [D.fzs_map]
theorem all_take {α : Type} (f : α → D) (l : List α) (i k : Nat) : (∀ x ∈ (l.map f).take i, x.w = k) ↔ ∀ a ∈ l.take i, (f a).w = k := by rw [← List.map_take]; simp only [List.mem_map, forall_exists_index, and_imp, forall_apply_eq_imp_iff₂]
theorem all_take_drop {α : Type} (f : α → D) (l : List α) (i j k : Nat) : (∀ x ∈ ((l.map f).drop j).take i, x.w = k) ↔ ∀ a ∈ (l.drop j).take i, (f a).w = k := by rw [← List.map_drop, ← List.map_take]; simp only [List.mem_map, forall_exists_index, and_imp, forall_apply_eq_imp_iff₂]
theorem take_drop_map {α β : Type} (f : α → β) (l : List α) (a : Nat) : ((l.map f).drop a).take (l.length - a) = (l.map f).drop a := List.take_of_length_le (by simp)
theorem all_drop {α : Type} (f : α → D) (l : List α) (j k : Nat) : (∀ x ∈ (l.map f).drop j, x.w = k) ↔ ∀ a ∈ l.drop j, (f a).w = k := by rw [← List.map_drop]; simp only [List.mem_map, forall_exists_index, and_imp, forall_apply_eq_imp_iff₂]
attribute [go_sem] all_drop
attribute [go_sem] take_drop_map
attribute [go_sem] fzs_take fzs_drop all_take all_take_drop
attribute [go_sem] QM QF_nil QF_put QF_lst frK_put putAll rootIn rootOut rootOwn detOp List.lookup stepF fnOf fnC argsOf dcallF dcallMF
end Go.Dv

end
section
namespace Go.Pl
open Go.Dv
section
variable {α : Type} {l : List α} {P : α → Bool} {i : Nat} {c : α}
theorem all_no (h : l[i]? = some c) (hp : P c = false) : l.all P = false := List.all_eq_false.2 ⟨c, List.mem_of_getElem? h, by simp [hp]⟩
theorem all_step (h : l[i]? = some c) (h2 : (l.take i).all P = true) (hp : P c = true) : (l.take (i + 1)).all P = true := by rw [take_snoc h]; simp [List.all_append, h2, hp]
theorem all_fin (h2 : (l.take i).all P = true) (h : l.length ≤ i) : l.all P = true := by rwa [take_all h] at h2
theorem any_step (h : l[i]? = some c) (h2 : (l.take i).any P = false) (hp : P c = false) : (l.take (i + 1)).any P = false := by rw [take_snoc h]; simp [List.any_append, h2, hp]
theorem any_fin (h2 : (l.take i).any P = false) (h : l.length ≤ i) : l.any P = false := by rwa [take_all h] at h2
def ix (P : α → Bool) (l : List α) : Int := match l.findIdx? P with | some i => i | none => -1
theorem ix_none (h : l.any P = false) : ix P l = -1 := by
  unfold ix
  rw [List.findIdx?_eq_none_iff.2 (by simpa using h)]
theorem ix_at (h : l[i]? = some c) (h2 : (l.take i).any P = false) (hp : P c = true) : ix P l = i := by
  have hlt := getElem?_lt h
  unfold ix
  have : l.findIdx? P = some i := by
    rw [List.findIdx?_eq_some_iff_getElem]
    refine ⟨hlt, ?_, fun j hj => ?_⟩
    · rw [List.getElem?_eq_getElem hlt] at h; rw [Option.some.inj h]; exact hp
    · have : (l.take i)[j]? = some (l[j]'(by omega)) := by rw [List.getElem?_take, if_pos hj, List.getElem?_eq_getElem (by omega)]
      have h3 := List.any_eq_false.1 h2 _ (List.mem_of_getElem? this)
      simpa using h3
  rw [this]
theorem ix_nonneg : 0 ≤ ix P l ↔ l.any P = true := by
  unfold ix
  cases h : l.findIdx? P with
  | none => have := List.findIdx?_eq_none_iff.1 h; simp; intro x hx; simpa using this x hx
  | some i =>
    obtain ⟨h1, h2, _⟩ := List.findIdx?_eq_some_iff_getElem.1 h
    simp only [Int.natCast_nonneg, true_iff, List.any_eq_true]
    exact ⟨_, List.getElem_mem h1, h2⟩
end
structure Ver where
  a : Int
  b : Int
  same : Bool
  time : Int
structure Tst where
  feature : Int
  threshold : Int
  below : Bool
structure Rec where
  source : Int
  key : Int
  version : Int
  fields : List Str
structure Sco where
  weights : List Int
  bias : Int
structure Cfg where
  rules : List (List Tst)
  sco : Sco
  surv : List Int
structure Sto where
  version : Int
  recs : List Rec
  vers : List Ver
structure Con where
  a : Int
  b : Int
  same : Bool
deriving DecidableEq, Inhabited
structure Tri where
  a : Int
  b : Int
  c : Int
  w : Int
structure Clu where
  labels : List Int
  cost : Int
  exact : Bool
  gap : Int
structure Mov where
  item : Int
  block : Int
  gain : Int
deriving instance DecidableEq, Inhabited for Ver
deriving instance DecidableEq, Inhabited for Tst
deriving instance DecidableEq, Inhabited for Rec
deriving instance DecidableEq, Inhabited for Tri
deriving instance DecidableEq, Inhabited for Mov
def textB (c : UInt8) : Bool := inR c.toNat 32 126
def isText (s : Str) : Bool := s.all textB && decide (s.length ≤ 40)
def fieldB (c : UInt8) : Bool := !(decide (c.toNat = 124) || decide (c.toNat = 59))
def isField (s : Str) : Bool := s.all fieldB && isText s
def validVer (v : Ver) : Bool := inR v.a 1 399 && inR v.b 1 399 && decide (v.a < v.b) && inR v.time 1 999
def validRec (r : Rec) : Bool := r.fields.all isField && inR r.source 0 3 && inR r.key 1 99 && inR r.version 1 999 && decide (r.fields.length = 4)
def scoreB (x : Int) : Bool := inR x 0 1000
def isVector (f : List Int) : Bool := f.all scoreB && decide (f.length = 6)
def weightB (x : Int) : Bool := inR x 0 9
def validSco (s : Sco) : Bool := s.weights.all weightB && decide (s.weights.length = 6) && decide (s.weights.sum > 0) && inR s.bias 0 1000
def adj {α : Type} (R : α → α → Bool) : List α → Bool
  | [] => true
  | [_] => true
  | a :: b :: l => R a b && adj R (b :: l)
@[simp] theorem adj_nil {α : Type} (R : α → α → Bool) : adj R [] = true := rfl
def testB (t : Tst) : Bool := inR t.feature 0 5 && inR t.threshold 1 1000
def validRule (l : List Tst) : Bool := l.all testB && adj (fun a b => decide (a.feature < b.feature)) l && inR l.length 1 3
def validRules (r : List (List Tst)) : Bool := r.all validRule && inR r.length 1 3
def smallS (s : Str) : Prop := s.length ≤ 1048576
def smallR (r : Rec) : Prop := r.fields.length ≤ 1048576 ∧ ∀ f ∈ r.fields, smallS f
end Go.Pl
namespace Go.Pl
open Go.Dv
theorem foldl_snoc {α β : Type} (f : β → α → β) (b : β) {l : List α} {i : Nat} {c : α} (h : l[i]? = some c) : (l.take (i + 1)).foldl f b = f ((l.take i).foldl f b) c := by
  rw [take_snoc h, List.foldl_append]; rfl
theorem map_snoc {α β : Type} (f : α → β) {l : List α} {i : Nat} {c : α} (h : l[i]? = some c) : (l.take (i + 1)).map f = (l.take i).map f ++ [f c] := by
  rw [take_snoc h, List.map_append]; rfl
abbrev place (items : List Int) (x : Int) : Int := ix (fun y => decide (y = x)) items
end Go.Pl

end
section
namespace Go.Pl
open Go.Dv
def loopN {σ : Type} (n : Nat) (s : σ) (f : Nat → σ → σ) : σ := (List.range n).foldl (fun s i => f i s) s
def at1 (l : List Int) (i : Nat) : Int := l.getD i 0
def at2 (m : List (List Int)) (i k : Nat) : Int := (m.getD i []).getD k 0
end Go.Pl

end
section
namespace Go.Pl
open Go.Dv
end Go.Pl

end
section
namespace Go.Pl
open Go.Dv
def ratio (n d : Int) : Int := if d = 0 then 1000 else (1000 * n).tdiv d
def combB (l w : List Int) (i : Nat) : Bool := inR (at1 l i) 0 1000 && inR (at1 w i) 0 1000
def combNum (l w : List Int) (n : Nat) : Int := loopN n 0 fun i s => s + at1 l i * at1 w i
def combDen (w : List Int) (n : Nat) : Int := loopN n 0 fun i s => s + at1 w i
def combine (l w : List Int) : Int := if l.length = w.length ∧ (List.range l.length).all (combB l w) = true then (if combDen w l.length = 0 then 0 else (combNum l w l.length).tdiv (combDen w l.length)) else 0
def pairScore (s : Sco) (f : List Int) : Int := if validSco s = true ∧ isVector f = true then combine f s.weights else 0
def testHolds (f : List Int) (t : Tst) : Bool := isVector f && inR t.feature 0 5 && (decide (t.threshold ≤ at1 f t.feature.toNat) != t.below)
def ruleHolds (f : List Int) (r : List Tst) : Bool := r.all (testHolds f) && isVector f
def firstRule (rs : List (List Tst)) (f : List Int) : Int := if validRules rs = true then ix (ruleHolds f) rs else -1
def pairWeight (rs : List (List Tst)) (s : Sco) (f : List Int) : Int := if validRules rs = true ∧ validSco s = true ∧ isVector f = true then (if 0 ≤ firstRule rs f then max 1 (pairScore s f - s.bias) else min (-1) (pairScore s f - s.bias)) else 0
def apart (l : List Ver) : List Ver := l.filter fun v => !v.same
end Go.Pl

end
section
namespace Go.Pl
open Go.Dv
def lowB (c : UInt8) : UInt8 := if 65 ≤ c.toNat ∧ c.toNat ≤ 90 then c + 32 else c
def foldS (s : Str) : Str := s.map lowB
def wordB (c : UInt8) : Bool := (decide (97 ≤ c.toNat) && decide (c.toNat ≤ 122)) || (decide (65 ≤ c.toNat) && decide (c.toNat ≤ 90)) || (decide (48 ≤ c.toNat) && decide (c.toNat ≤ 57))
def stripB (c : UInt8) : Str := if wordB c = true ∨ c.toNat = 32 then [c] else if c.toNat ≠ 39 then [32] else []
def stripS (s : Str) : Str := s.flatMap stripB
def colStep (s : Str) (i : Nat) (o : Str) : Str := if (s.getD i 0).toNat = 32 then o else (if 0 < o.length ∧ (s.getD (i - 1) 0).toNat = 32 then o ++ [32] else o) ++ [s.getD i 0]
def collapse (s : Str) : Str := loopN s.length [] (colStep s)
def normal (s : Str) : Str := collapse (stripS (foldS s))
theorem flatMap_snoc {α β : Type} (f : α → List β) {l : List α} {i : Nat} {c : α} (h : l[i]? = some c) : (l.take (i + 1)).flatMap f = (l.take i).flatMap f ++ f c := by rw [take_snoc h]; simp
end Go.Pl
namespace Go.Pl
open Go.Dv
def cutA (c : UInt8) (p : Str) : Str → List Str
  | [] => [p]
  | d :: s => if d = c then p :: cutA c [] s else cutA c (p ++ [d]) s
def cutS (c : UInt8) (s : Str) : List Str := cutA c [] s
theorem cutA_len (c : UInt8) : ∀ (s p : Str), (cutA c p s).length ≤ s.length + 1 ∧ ∀ x ∈ cutA c p s, x.length ≤ p.length + s.length
  | [], p => by simp [cutA]
  | d :: s, p => by
    unfold cutA
    split
    · have ⟨h1, h2⟩ := cutA_len c s []
      refine ⟨by simp; omega, fun x hx => ?_⟩
      rcases List.mem_cons.1 hx with rfl | hx
      · omega
      · have := h2 x hx; simp at this ⊢; omega
    · have ⟨h1, h2⟩ := cutA_len c s (p ++ [d])
      refine ⟨by simp; omega, fun x hx => ?_⟩
      have := h2 x hx; simp at this ⊢; omega
theorem cutS_len (c : UInt8) (s : Str) : (cutS c s).length ≤ s.length + 1 ∧ ∀ x ∈ cutS c s, x.length ≤ s.length := by
  have ⟨h1, h2⟩ := cutA_len c s []
  exact ⟨h1, fun x hx => by have := h2 x hx; simpa using this⟩
def codeOf (d : Nat) : Int := if d = 98 ∨ d = 102 ∨ d = 112 ∨ d = 118 then 1 else if d = 99 ∨ d = 103 ∨ d = 106 ∨ d = 107 ∨ d = 113 ∨ d = 115 ∨ d = 120 ∨ d = 122 then 2 else if d = 100 ∨ d = 116 then 3 else if d = 108 then 4 else if d = 109 ∨ d = 110 then 5 else if d = 114 then 6 else if d = 97 ∨ d = 101 ∨ d = 105 ∨ d = 111 ∨ d = 117 ∨ d = 121 then 0 else if d = 104 ∨ d = 119 then -1 else -2
def soundCode (c : UInt8) : Int := codeOf (lowB c).toNat
def sxStep (s : Str × Int) (c : UInt8) : Str × Int := if s.1 = [] then ([lowB c], soundCode c) else (if soundCode c > 0 ∧ soundCode c ≠ s.2 ∧ s.1.length < 4 then s.1 ++ [UInt8.ofNat (48 + soundCode c).toNat] else s.1, if 0 ≤ soundCode c then soundCode c else s.2)
def pad4 (o : Str) : Str := o ++ List.replicate (4 - o.length) 48
def soundex (s : Str) : Str := if s = [] ∨ s.all (fun c => decide (soundCode c ≠ -2)) = false then [] else pad4 (s.foldl sxStep ([], 0)).1
end Go.Pl

end
section
namespace Go.Pl
open Go.Dv
def tokAt (l : List Str) (x : Str) : Nat := (l.takeWhile fun y => ltL y x).length
def tokPut (l : List Str) (x : Str) (again : Bool) : List Str := if !again && decide (l[tokAt l x]? = some x) then l else l.take (tokAt l x) ++ [x] ++ l.drop (tokAt l x)
def tokStep (t : List Str) (x : Str) : List Str := if x ≠ [] then tokPut t x false else t
def tokens (s : Str) : List Str := (cutS 32 (normal s)).foldl tokStep []
def keyStep (t : List Str) (x : Str) : List Str := if soundex x ≠ [] then tokPut t (soundex x) false else t
def soundKeys (s : Str) : List Str := (tokens s).foldl keyStep []
def tokB (c : Str) : Bool := decide (c ≠ []) && c.all wordB && decide (foldS c = c)
def isTokSet (l : List Str) : Bool := l.all tokB && adj ltL l
def tokSets (a b : List Str) : Bool := isTokSet a && isTokSet b
def comStep (b : List Str) (t : List Str) (x : Str) : List Str := if b.any (fun y => decide (y = x)) = true then tokPut t x false else t
def common (a b : List Str) : List Str := a.foldl (comStep b) []
def uniStep (t : List Str) (x : Str) : List Str := tokPut t x false
def unite (a b : List Str) : List Str := b.foldl uniStep (a.foldl uniStep [])
def jaccard (a b : List Str) : Int := if tokSets a b = true then ratio (common a b).length (unite a b).length else 0
def setScore (a b : List Str) : Int := if a = [] ∨ b = [] then 0 else jaccard a b
def numScore (a b c : Int) : Int := if inR a 0 9999 = true ∧ inR b 0 9999 = true ∧ inR c 1 9999 = true then (if max a b - min a b ≥ c then 0 else (1000 * (c - (max a b - min a b))).tdiv c) else 0
def digits (s : Str) : Str := s.filter fun c => decide (48 ≤ c.toNat ∧ c.toNat ≤ 57)
end Go.Pl

end
section
namespace Go.Pl
open Go.Dv
def chr (s : Str) (i : Nat) : UInt8 := s.getD i 0
def edOne (x y : Str) (T : List (List Int)) (i : Nat) (r : List Int) (j : Nat) : Int :=
  if i = 0 then j else if j = 0 then i else if chr x (i - 1) = chr y (j - 1) then at2 T (i - 1) (j - 1) else 1 + min (min (at2 T (i - 1) j) (at1 r (j - 1))) (at2 T (i - 1) (j - 1))
def swapB (x y : Str) (tr : Bool) (i j : Nat) : Bool := tr && decide (i > 1) && decide (j > 1) && decide (chr x (i - 1) = chr y (j - 2)) && decide (chr x (i - 2) = chr y (j - 1))
def edTwo (x y : Str) (tr : Bool) (T : List (List Int)) (i j : Nat) (r : List Int) : List Int := if swapB x y tr i j = true then r.set j (min (at1 r j) (at2 T (i - 2) (j - 2) + 1)) else r
def edStep (x y : Str) (tr : Bool) (T : List (List Int)) (i j : Nat) (r : List Int) : List Int := edTwo x y tr T i j (r.set j (edOne x y T i r j))
def edRow (x y : Str) (tr : Bool) (i : Nat) (T : List (List Int)) : List Int := loopN (y.length + 1) (List.replicate (y.length + 1) 0) (edStep x y tr T i)
def edTable (x y : Str) (tr : Bool) : List (List Int) := loopN (x.length + 1) [] fun i T => T ++ [edRow x y tr i T]
def edFits (x y : Str) : Bool := decide (x.length ≤ 40) && decide (y.length ≤ 40)
def edDist (x y : Str) : Int := if edFits x y = true then at2 (edTable x y false) x.length y.length else -1
def edScore (x y : Str) : Int := if edDist x y < 0 then 0 else if max (x.length : Int) y.length = 0 then 1000 else (1000 * (max (x.length : Int) y.length - edDist x y)).tdiv (max (x.length : Int) y.length)
def textScore (x y : Str) : Int := if normal x = [] ∨ normal y = [] then 0 else edScore (normal x) (normal y)
theorem inI_tdivs {a b : Int} (h1 : -9000000000000000000 ≤ a) (h : a ≤ 9000000000000000000) : inI .i64 (a.tdiv b) := by
  have := Int.natAbs_tdiv_le_natAbs a b
  simp only [inI]
  omega
end Go.Pl
namespace Go.Pl
open Go.Dv
def natDec (m : Nat) : Str := if h : m = 0 then [] else natDec (m / 10) ++ [UInt8.ofNat (48 + m % 10)]
termination_by m
decreasing_by omega
theorem natDec_pos {m : Nat} (h : m ≠ 0) : natDec m = natDec (m / 10) ++ [UInt8.ofNat (48 + m % 10)] := by rw [natDec, dif_neg h]
theorem natDec_zero : natDec 0 = [] := by rw [natDec]; simp
def fmtI (n : Int) : Str := if n = 0 then [48] else (if n < 0 then [45] else []) ++ natDec n.natAbs
theorem natDec_len (m k : Nat) (h : m < 10 ^ k) : (natDec m).length ≤ k := by
  induction k generalizing m with
  | zero =>
    have : m = 0 := by simpa using h
    subst this; simp [natDec_zero]
  | succ k ih =>
    by_cases h0 : m = 0
    · subst h0; simp [natDec_zero]
    · rw [natDec_pos h0]
      have := ih (m / 10) (by rw [Nat.pow_succ] at h; omega)
      simp; omega
end Go.Pl
namespace Go.Pl
open Go.Dv
def pStep (st : Int × Int) (c : UInt8) : Int × Int := if 48 ≤ c.toNat ∧ c.toNat ≤ 57 then (st.1 * 10 + (c.toNat - 48), st.2 + 1) else st
def parseN (s : Str) : Int × Int := (s.take 11).foldl pStep (0, 0)
def parseV (s : Str) : Int := if s[0]? = some 45 then - (parseN s).1 else (parseN s).1
def parseB (s : Str) : Bool := decide ((parseN s).2 ≤ 9) && decide (s.length ≤ 10) && decide (fmtI (parseV s) = s)
def parseYear (s : Str) : Int := if parseB s = true ∧ inR (parseV s) 1000 9999 = true then parseV s else 0
end Go.Pl
namespace Go.Pl
open Go.Dv
def shared : Str → Str → Nat
  | a :: s, b :: t => if a = b then shared s t + 1 else 0
  | _, _ => 0
def phoneOf (p q : Str) : Int :=
  if p.length < 4 ∨ q.length < 4 ∨ shared p.reverse q.reverse < 4 then 0
  else if shared p.reverse q.reverse = p.length ∧ shared p.reverse q.reverse = q.length then 1000
  else if shared p.reverse q.reverse ≥ 7 ∨ shared p.reverse q.reverse = p.length ∨ shared p.reverse q.reverse = q.length then 800 else 400
def phoneScore (x y : Str) : Int := phoneOf (digits x) (digits y)
end Go.Pl

end
section
namespace Go.Pl
open Go.Dv
def fld (r : Rec) (i : Nat) : Str := r.fields.getD i []
def yearScore (x y : Str) : Int := if 0 < parseYear x ∧ 0 < parseYear y then numScore (parseYear x) (parseYear y) 10 else 0
def feats (a b : Rec) : List Int := [textScore (fld a 0) (fld b 0), setScore (tokens (fld a 0)) (tokens (fld b 0)), setScore (soundKeys (fld a 0)) (soundKeys (fld b 0)), textScore (fld a 1) (fld b 1), yearScore (fld a 2) (fld b 2), phoneScore (fld a 3) (fld b 3)]
def recAt (l : List Rec) (i : Nat) : Rec := l.getD i default
def weightAt (l : List Rec) (rs : List (List Tst)) (s : Sco) (i k : Nat) : Int := if i = k then 0 else pairWeight rs s (feats (recAt l (min i k)) (recAt l (max i k)))
def weightRow (l : List Rec) (rs : List (List Tst)) (s : Sco) (i : Nat) : List Int := (List.range l.length).map (weightAt l rs s i)
def weights (l : List Rec) (rs : List (List Tst)) (s : Sco) : List (List Int) := (List.range l.length).map (weightRow l rs s)
end Go.Pl

end
section
namespace Go.Pl
open Go.Dv
def digB (c : UInt8) : Prop := 48 ≤ c.toNat ∧ c.toNat ≤ 57
theorem digB_of (m : Nat) : digB (UInt8.ofNat (48 + m % 10)) ∧ (UInt8.ofNat (48 + m % 10)).toNat = 48 + m % 10 := by
  have h : (UInt8.ofNat (48 + m % 10)).toNat = 48 + m % 10 := by rw [UInt8.toNat_ofNat']; omega
  exact ⟨⟨by omega, by omega⟩, h⟩
theorem natDec_dig : ∀ (m : Nat), ∀ c ∈ natDec m, digB c := by
  intro m
  induction m using Nat.strongRecOn with
  | ind m ih =>
    intro c hc
    by_cases h0 : m = 0
    · subst h0; rw [natDec_zero] at hc; cases hc
    · rw [natDec_pos h0] at hc
      rcases List.mem_append.1 hc with hc | hc
      · exact ih (m / 10) (by omega) c hc
      · obtain rfl := List.mem_singleton.1 hc
        exact (digB_of m).1
theorem fmtI_dig {n : Int} {c : UInt8} (hc : c ∈ fmtI n) : c = 45 ∨ digB c := by
  unfold fmtI at hc
  split at hc
  · obtain rfl := List.mem_singleton.1 hc
    exact .inr ⟨by decide, by decide⟩
  · rcases List.mem_append.1 hc with hc | hc
    · split at hc
      · exact .inl (List.mem_singleton.1 hc)
      · cases hc
    · exact .inr (natDec_dig _ _ hc)
theorem fmtI_no {n : Int} {c : UInt8} (h1 : c ≠ 45) (h2 : ¬ digB c) : c ∉ fmtI n := fun h => (fmtI_dig h).elim h1 h2
theorem pStep_dig {st : Int × Int} {c : UInt8} (h : digB c) : pStep st c = (st.1 * 10 + (c.toNat - 48), st.2 + 1) := if_pos h
theorem natDec_fold (m : Nat) : (natDec m).foldl pStep (0, 0) = ((m : Int), ((natDec m).length : Int)) := by
  induction m using Nat.strongRecOn with
  | ind m ih =>
    by_cases h0 : m = 0
    · subst h0; rw [natDec_zero]; rfl
    · rw [natDec_pos h0, List.foldl_append, ih (m / 10) (by omega), List.foldl_cons, List.foldl_nil, pStep_dig (digB_of m).1, (digB_of m).2]
      simp only [List.length_append, List.length_cons, List.length_nil]
      congr 1
      · omega
theorem natDec_ne {m : Nat} (h : m ≠ 0) : natDec m ≠ [] := by rw [natDec_pos h]; simp
theorem fmtI_ne (n : Int) : fmtI n ≠ [] := by
  unfold fmtI
  split
  · simp
  · have := natDec_ne (m := n.natAbs) (by omega)
    simp [this]
theorem parse_fmt {n : Int} (h : -999999999 ≤ n ∧ n ≤ 999999999) : parseB (fmtI n) = true ∧ parseV (fmtI n) = n := by
  have hl := natDec_len n.natAbs 9 (by omega)
  have key : parseV (fmtI n) = n ∧ (parseN (fmtI n)).2 ≤ 9 ∧ (fmtI n).length ≤ 10 := by
    by_cases h0 : n = 0
    · subst h0; decide
    · by_cases hn : n < 0
      · have hf : fmtI n = 45 :: natDec n.natAbs := by rw [fmtI, if_neg h0, if_pos hn]; rfl
        have hp : parseN (fmtI n) = ((n.natAbs : Int), ((natDec n.natAbs).length : Int)) := by
          rw [parseN, hf, List.take_of_length_le (by simp; omega), List.foldl_cons, show pStep (0, 0) 45 = (0, 0) from if_neg (by decide), natDec_fold]
        refine ⟨?_, by rw [hp]; simp; omega, by rw [hf]; simp; omega⟩
        rw [parseV, if_pos (by rw [hf]; rfl), hp]
        simp only
        omega
      · have hf : fmtI n = natDec n.natAbs := by rw [fmtI, if_neg h0, if_neg hn]; rfl
        have hp : parseN (fmtI n) = ((n.natAbs : Int), ((natDec n.natAbs).length : Int)) := by
          rw [parseN, hf, List.take_of_length_le (by omega), natDec_fold]
        refine ⟨?_, by rw [hp]; simp; omega, by rw [hf]; omega⟩
        rw [parseV, if_neg, hp]
        · simp only
          omega
        · rw [hf]
          intro h1
          have := natDec_dig _ _ (List.mem_of_getElem? h1)
          exact absurd this.1 (by decide)
  refine ⟨?_, key.1⟩
  simp only [parseB, Bool.and_eq_true, decide_eq_true_eq]
  exact ⟨⟨key.2.1, key.2.2⟩, by rw [key.1]⟩
def readI (s : Str) : Option Int := if parseB s = true then some (parseV s) else none
theorem readI_fmt {n : Int} (h : -999999999 ≤ n ∧ n ≤ 999999999) : readI (fmtI n) = some n := by
  rw [readI, if_pos (parse_fmt h).1, (parse_fmt h).2]
theorem readI_nil : readI [] = none := by
  rw [readI, if_neg]
  intro h
  simp only [parseB, Bool.and_eq_true, decide_eq_true_eq] at h
  exact fmtI_ne _ h.2
theorem foldl_pStep_pos : ∀ (s : Str) (st : Int × Int), 0 ≤ st.1 → st.1 < 10 ^ st.2.toNat → 0 ≤ st.2 → 0 ≤ (s.foldl pStep st).1 ∧ (s.foldl pStep st).1 < 10 ^ (s.foldl pStep st).2.toNat ∧ 0 ≤ (s.foldl pStep st).2
  | [], st, h1, h2, h3 => ⟨h1, h2, h3⟩
  | c :: s, st, h1, h2, h3 => by
    rw [List.foldl_cons]
    by_cases hc : digB c
    · rw [pStep_dig hc]
      refine foldl_pStep_pos s _ ?_ ?_ ?_
      · have := hc.1; simp only; omega
      · have := hc.2
        simp only
        rw [show (st.2 + 1).toNat = st.2.toNat + 1 by omega, Int.pow_succ]
        have := hc.1
        omega
      · simp only; omega
    · rw [show pStep st c = st from if_neg hc]
      exact foldl_pStep_pos s st h1 h2 h3
theorem parseB_in {s : Str} (h : parseB s = true) : -999999999 ≤ parseV s ∧ parseV s ≤ 999999999 := by
  simp only [parseB, Bool.and_eq_true, decide_eq_true_eq] at h
  have hp := foldl_pStep_pos (s.take 11) (0, 0) (by simp) (by simp) (by simp)
  have hk : (parseN s).2.toNat ≤ 9 := by omega
  have h10 : (10 : Int) ^ (parseN s).2.toNat ≤ 1000000000 := by
    have h1 : (10 : Nat) ^ (parseN s).2.toNat ≤ 10 ^ 9 := Nat.pow_le_pow_right (by omega) hk
    have h2 : ((10 ^ (parseN s).2.toNat : Nat) : Int) ≤ ((10 ^ 9 : Nat) : Int) := by exact_mod_cast h1
    simpa using h2
  have h5 : 0 ≤ (parseN s).1 ∧ (parseN s).1 < 10 ^ (parseN s).2.toNat := ⟨hp.1, hp.2.1⟩
  unfold parseV
  split <;> omega
def bef (c : UInt8) (s : Str) : Str := s.takeWhile fun d => decide (d ≠ c)
def aft (c : UInt8) (s : Str) : Str := (s.dropWhile fun d => decide (d ≠ c)).drop 1
theorem bef_at {c : UInt8} {b : Str} : ∀ {a : Str}, c ∉ a → bef c (a ++ c :: b) = a ∧ aft c (a ++ c :: b) = b
  | [], _ => by simp [bef, aft]
  | d :: a, h => by
    have hd : d ≠ c := fun e => h (by simp [e])
    have ih := bef_at (b := b) (a := a) (fun e => h (List.mem_cons_of_mem _ e))
    unfold bef aft at ih ⊢
    simp only [List.cons_append]
    rw [List.takeWhile_cons_of_pos (by simpa using hd), List.dropWhile_cons_of_pos (by simpa using hd), ih.1]
    exact ⟨rfl, ih.2⟩
theorem bef_no {c : UInt8} : ∀ {a : Str}, c ∉ a → bef c a = a ∧ aft c a = []
  | [], _ => by simp [bef, aft]
  | d :: a, h => by
    have hd : d ≠ c := fun e => h (by simp [e])
    have ih := bef_no (a := a) (fun e => h (List.mem_cons_of_mem _ e))
    unfold bef aft at ih ⊢
    rw [List.takeWhile_cons_of_pos (by simpa using hd), List.dropWhile_cons_of_pos (by simpa using hd), ih.1]
    exact ⟨rfl, ih.2⟩
theorem cutA_no {c : UInt8} : ∀ {s p : Str}, c ∉ s → cutA c p s = [p ++ s]
  | [], p, _ => by simp [cutA]
  | d :: s, p, h => by
    have hd : d ≠ c := fun e => h (by simp [e])
    rw [cutA, if_neg hd, cutA_no (fun e => h (List.mem_cons_of_mem _ e))]
    simp
theorem cutA_at {c : UInt8} {b : Str} : ∀ {a p : Str}, c ∉ a → cutA c p (a ++ c :: b) = (p ++ a) :: cutS c b
  | [], p, _ => by simp [cutA, cutS]
  | d :: a, p, h => by
    have hd : d ≠ c := fun e => h (by simp [e])
    rw [List.cons_append, cutA, if_neg hd, cutA_at (fun e => h (List.mem_cons_of_mem _ e))]
    simp
theorem cutS_no {c : UInt8} {s : Str} (h : c ∉ s) : cutS c s = [s] := by rw [cutS, cutA_no h]; rfl
theorem cutS_at {c : UInt8} {a b : Str} (h : c ∉ a) : cutS c (a ++ c :: b) = a :: cutS c b := by rw [cutS, cutA_at h]; rfl
def joinC (c : UInt8) : List Str → Str
  | [] => []
  | [x] => x
  | x :: y :: l => x ++ c :: joinC c (y :: l)
theorem joinC_cons {c : UInt8} {x : Str} {l : List Str} (h : l ≠ []) : joinC c (x :: l) = x ++ c :: joinC c l := by
  cases l with
  | nil => exact absurd rfl h
  | cons y l => rfl
theorem cut_join {c : UInt8} : ∀ {l : List Str}, l ≠ [] → (∀ x ∈ l, c ∉ x) → cutS c (joinC c l) = l
  | [], h, _ => absurd rfl h
  | [x], _, h => cutS_no (h x (by simp))
  | x :: y :: l, _, h => by
    rw [joinC_cons (by simp), cutS_at (h x (by simp)), cut_join (by simp) (fun z hz => h z (by simp at hz ⊢; exact .inr hz))]
theorem flat_join (c : UInt8) : ∀ (l : List Str), l ≠ [] → (l.flatMap fun f => c :: f) = c :: joinC c l
  | [], h => absurd rfl h
  | [x], _ => by simp [joinC]
  | x :: y :: l, _ => by rw [List.flatMap_cons, flat_join c (y :: l) (by simp), joinC_cons (l := y :: l) (by simp)]; simp
theorem join_cut (c : UInt8) : ∀ (s p : Str), joinC c (cutA c p s) = p ++ s ∧ cutA c p s ≠ []
  | [], p => by simp [cutA, joinC]
  | d :: s, p => by
    unfold cutA
    split
    · rename_i h
      subst h
      have ih := join_cut d s []
      exact ⟨by rw [joinC_cons ih.2, ih.1]; simp, by simp⟩
    · have ih := join_cut c s (p ++ [d])
      exact ⟨by rw [ih.1]; simp, ih.2⟩
theorem mem_joinC {c d : UInt8} : ∀ {l : List Str}, d ∈ joinC c l → d = c ∨ ∃ x ∈ l, d ∈ x
  | [], h => by cases h
  | [x], h => .inr ⟨x, by simp, h⟩
  | x :: y :: l, h => by
    rw [joinC_cons (by simp)] at h
    rcases List.mem_append.1 h with h | h
    · exact .inr ⟨x, by simp, h⟩
    · rcases List.mem_cons.1 h with h | h
      · exact .inl h
      · rcases mem_joinC h with h | ⟨z, hz, h⟩
        · exact .inl h
        · exact .inr ⟨z, by simp at hz ⊢; exact .inr hz, h⟩
section
open Classical
noncomputable def inv? {α : Type} (P : α → Bool) (f : α → Str) (s : Str) : Option α := if h : ∃ a, P a = true ∧ f a = s then some h.choose else none
theorem inv_some {α : Type} {P : α → Bool} {f : α → Str} {s : Str} {a : α} (h : inv? P f s = some a) : P a = true ∧ f a = s := by
  unfold inv? at h
  split at h
  · rename_i hx
    obtain rfl := Option.some.inj h
    exact hx.choose_spec
  · cases h
theorem inv_of {α : Type} {P : α → Bool} {f : α → Str} (hf : ∀ a b, P a = true → P b = true → f a = f b → a = b) {a : α} (h : P a = true) : inv? P f (f a) = some a := by
  have hx : ∃ b, P b = true ∧ f b = f a := ⟨a, h, rfl⟩
  unfold inv?
  rw [dif_pos hx, hf _ a hx.choose_spec.1 h hx.choose_spec.2]
theorem inv_cand {α : Type} {P : α → Bool} {f : α → Str} (cand : Str → Option α) (hc : ∀ a, P a = true → cand (f a) = some a) (s : Str) :
    inv? P f s = (cand s).bind fun a => if P a = true ∧ f a = s then some a else none := by
  have hinj : ∀ a b, P a = true → P b = true → f a = f b → a = b := fun a b ha hb e => by
    have := hc a ha
    rw [e, hc b hb] at this
    exact (Option.some.inj this).symm
  cases hi : inv? P f s with
  | some a =>
    obtain ⟨h1, rfl⟩ := inv_some hi
    rw [hc a h1]
    simp [h1]
  | none =>
    cases hs : cand s with
    | none => rfl
    | some a =>
      simp only [Option.bind_some]
      rw [if_neg]
      rintro ⟨h1, rfl⟩
      rw [inv_of hinj h1] at hi
      cases hi
end
end Go.Pl

end
section
namespace Go.Pl
open Go.Dv
structure Opn where
  kind : Int
  rc : Rec
  ver : Ver
deriving instance DecidableEq, Inhabited for Opn
def ver0 : Ver := ⟨0, 0, false, 0⟩
def rec0 : Rec := ⟨0, 0, 0, []⟩
def op0 : Opn := ⟨0, rec0, ver0⟩
def goneRec (r : Rec) : Bool := inR r.source 0 3 && inR r.key 1 99 && inR r.version 1 999 && decide (r.fields.length = 0)
def zeroRec (r : Rec) : Bool := decide (r.source = 0) && decide (r.key = 0) && decide (r.version = 0) && decide (r.fields.length = 0)
def validOp (o : Opn) : Bool :=
  if o.kind = 1 then validRec o.rc && decide (o.ver = ver0) else if o.kind = 2 then goneRec o.rc && decide (o.ver = ver0) else if o.kind = 3 ∨ o.kind = 4 then validVer o.ver && zeroRec o.rc else false
def validBat (l : List Opn) : Bool := l.all validOp && decide (l.length ≤ 6)
def signB (b : Bool) : UInt8 := if b then 61 else 33
def verTxt (v : Ver) : Str := fmtI v.a ++ signB v.same :: (fmtI v.b ++ 64 :: fmtI v.time)
def srcB (s : Int) : UInt8 := UInt8.ofNat (97 + s.toNat)
def nameStr (s k : Int) : Str := srcB s :: fmtI k
def goneTxt (r : Rec) : Str := nameStr r.source r.key ++ 46 :: fmtI r.version
def barF (l : List Str) : Str := l.flatMap fun f => 124 :: f
def recTxt (r : Rec) : Str := goneTxt r ++ barF r.fields
def wPut : Str := [112, 117, 116]
def wDel : Str := [100, 101, 108, 101, 116, 101]
def wVer : Str := [118, 101, 114, 100, 105, 99, 116]
def wRet : Str := [114, 101, 116, 114, 97, 99, 116]
def opTxt (o : Opn) : Str := if o.kind = 1 then wPut ++ 32 :: recTxt o.rc else if o.kind = 2 then wDel ++ 32 :: goneTxt o.rc else if o.kind = 3 then wVer ++ 32 :: verTxt o.ver else wRet ++ 32 :: verTxt o.ver
def batTxt (l : List Opn) : Str := 91 :: (joinC 59 (l.map opTxt) ++ [93])
def verStr (v : Ver) : Str := if validVer v = true then verTxt v else []
def recStr (r : Rec) : Str := if validRec r = true then recTxt r else []
def opStr (o : Opn) : Str := if validOp o = true then opTxt o else []
def batStr (l : List Opn) : Str := if validBat l = true then batTxt l else []
noncomputable def readVer : Str → Option Ver := inv? validVer verTxt
noncomputable def readRec : Str → Option Rec := inv? validRec recTxt
noncomputable def readOp : Str → Option Opn := inv? validOp opTxt
noncomputable def readBat : Str → Option (List Opn) := inv? validBat batTxt
theorem inR_iff {x a b : Int} : inR x a b = true ↔ a ≤ x ∧ x ≤ b := by simp
theorem validVer_iff {v : Ver} : validVer v = true ↔ (1 ≤ v.a ∧ v.a ≤ 399) ∧ (1 ≤ v.b ∧ v.b ≤ 399) ∧ v.a < v.b ∧ 1 ≤ v.time ∧ v.time ≤ 999 := by
  simp only [validVer, Bool.and_eq_true, decide_eq_true_eq]
  constructor <;> intro h <;> omega
theorem goneRec_iff {r : Rec} : goneRec r = true ↔ (0 ≤ r.source ∧ r.source ≤ 3) ∧ (1 ≤ r.key ∧ r.key ≤ 99) ∧ (1 ≤ r.version ∧ r.version ≤ 999) ∧ r.fields = [] := by
  simp only [goneRec, Bool.and_eq_true, decide_eq_true_eq, List.length_eq_zero_iff, and_assoc]
theorem zeroRec_iff {r : Rec} : zeroRec r = true ↔ r = rec0 := by
  obtain ⟨a, b, c, d⟩ := r
  simp [zeroRec, rec0, and_assoc]
theorem validRec_iff {r : Rec} : validRec r = true ↔ (0 ≤ r.source ∧ r.source ≤ 3) ∧ (1 ≤ r.key ∧ r.key ≤ 99) ∧ (1 ≤ r.version ∧ r.version ≤ 999) ∧ r.fields.length = 4 ∧ ∀ f ∈ r.fields, isField f = true := by
  simp only [validRec, Bool.and_eq_true, decide_eq_true_eq, List.all_eq_true]
  constructor
  · rintro ⟨⟨⟨⟨h1, h2⟩, h3⟩, h4⟩, h5⟩
    exact ⟨h2, h3, h4, h5, h1⟩
  · rintro ⟨h2, h3, h4, h5, h1⟩
    exact ⟨⟨⟨⟨h1, h2⟩, h3⟩, h4⟩, h5⟩
theorem field_no {f : Str} (h : isField f = true) : (124 : UInt8) ∉ f ∧ (59 : UInt8) ∉ f ∧ (10 : UInt8) ∉ f ∧ f.length ≤ 40 := by
  simp only [isField, isText, Bool.and_eq_true, List.all_eq_true, decide_eq_true_eq] at h
  refine ⟨fun hm => ?_, fun hm => ?_, fun hm => ?_, h.2.2⟩
  · exact absurd (h.1 _ hm) (by decide)
  · exact absurd (h.1 _ hm) (by decide)
  · exact absurd (h.2.1 _ hm) (by decide)
theorem dig_no {n : Int} : (33 : UInt8) ∉ fmtI n ∧ (61 : UInt8) ∉ fmtI n ∧ (64 : UInt8) ∉ fmtI n ∧ (46 : UInt8) ∉ fmtI n ∧ (124 : UInt8) ∉ fmtI n ∧ (59 : UInt8) ∉ fmtI n ∧ (10 : UInt8) ∉ fmtI n ∧ (32 : UInt8) ∉ fmtI n ∧ (91 : UInt8) ∉ fmtI n ∧ (93 : UInt8) ∉ fmtI n := by
  refine ⟨?_, ?_, ?_, ?_, ?_, ?_, ?_, ?_, ?_, ?_⟩ <;> exact fmtI_no (by decide) (by unfold digB; decide)
theorem src_no {s : Int} (h : 0 ≤ s ∧ s ≤ 3) : (srcB s).toNat = 97 + s.toNat := by
  unfold srcB; rw [UInt8.toNat_ofNat']; omega
theorem src_ne {s : Int} (h : 0 ≤ s ∧ s ≤ 3) {c : UInt8} (hc : c.toNat < 97 ∨ 100 < c.toNat) : c ≠ srcB s := fun e => by
  have := src_no h
  rw [← e] at this
  omega
theorem name_no {s k : Int} (h : 0 ≤ s ∧ s ≤ 3) {c : UInt8} (hc : c.toNat < 97 ∨ 100 < c.toNat) (h1 : c ≠ 45) (h2 : ¬ digB c) : c ∉ nameStr s k := by
  intro hm
  rcases List.mem_cons.1 hm with hm | hm
  · exact src_ne h hc hm
  · exact fmtI_no h1 h2 hm
theorem gone_no {r : Rec} (h : 0 ≤ r.source ∧ r.source ≤ 3) {c : UInt8} (hc : c.toNat < 97 ∨ 100 < c.toNat) (h1 : c ≠ 45) (h2 : ¬ digB c) (h3 : c ≠ 46) : c ∉ goneTxt r := by
  intro hm
  rcases List.mem_append.1 hm with hm | hm
  · exact name_no h hc h1 h2 hm
  · rcases List.mem_cons.1 hm with hm | hm
    · exact h3 hm
    · exact fmtI_no h1 h2 hm
theorem verTxt_no {v : Ver} {c : UInt8} (h1 : c ≠ 45) (h2 : ¬ digB c) (h3 : c ≠ 61) (h4 : c ≠ 33) (h5 : c ≠ 64) : c ∉ verTxt v := by
  intro hm
  rcases List.mem_append.1 hm with hm | hm
  · exact fmtI_no h1 h2 hm
  · rcases List.mem_cons.1 hm with hm | hm
    · unfold signB at hm; split at hm
      · exact h3 hm
      · exact h4 hm
    · rcases List.mem_append.1 hm with hm | hm
      · exact fmtI_no h1 h2 hm
      · rcases List.mem_cons.1 hm with hm | hm
        · exact h5 hm
        · exact fmtI_no h1 h2 hm
theorem recTxt_no {r : Rec} (h : validRec r = true) {c : UInt8} (hc : c = 59 ∨ c = 10) : c ∉ recTxt r := by
  have hv := validRec_iff.1 h
  intro hm
  rcases List.mem_append.1 hm with hm | hm
  · rcases hc with rfl | rfl <;> exact gone_no hv.1 (by decide) (by decide) (by unfold digB; decide) (by decide) hm
  · unfold barF at hm
    obtain ⟨f, hf, hm⟩ := List.mem_flatMap.1 hm
    have hn := field_no (hv.2.2.2.2 f hf)
    rcases List.mem_cons.1 hm with hm | hm
    · subst hm; rcases hc with hc | hc <;> exact absurd hc (by decide)
    · rcases hc with rfl | rfl
      · exact hn.2.1 hm
      · exact hn.2.2.1 hm
theorem opTxt_no {o : Opn} (h : validOp o = true) {c : UInt8} (hc : c = 59 ∨ c = 10) : c ∉ opTxt o := by
  unfold validOp at h
  unfold opTxt
  intro hm
  have hw : ∀ {w : Str} {t : Str}, c ∉ w → c ∉ t → c ∉ w ++ 32 :: t := fun h1 h2 hm => by
    rcases List.mem_append.1 hm with hm | hm
    · exact h1 hm
    · rcases List.mem_cons.1 hm with hm | hm
      · subst hm; rcases hc with hc | hc <;> exact absurd hc (by decide)
      · exact h2 hm
  have hv : c ∉ verTxt o.ver := by
    rcases hc with rfl | rfl <;> exact verTxt_no (by decide) (by unfold digB; decide) (by decide) (by decide) (by decide)
  split at hm
  · rename_i hk
    rw [if_pos hk] at h
    simp only [Bool.and_eq_true] at h
    exact hw (by rcases hc with rfl | rfl <;> decide) (recTxt_no h.1 hc) hm
  · rename_i hk1
    rw [if_neg hk1] at h
    split at hm
    · rename_i hk
      rw [if_pos hk] at h
      simp only [Bool.and_eq_true] at h
      have hg := (goneRec_iff.1 h.1).1
      refine hw (by rcases hc with rfl | rfl <;> decide) ?_ hm
      rcases hc with rfl | rfl <;> exact gone_no hg (by decide) (by decide) (by unfold digB; decide) (by decide)
    · split at hm
      · exact hw (by rcases hc with rfl | rfl <;> decide) hv hm
      · exact hw (by rcases hc with rfl | rfl <;> decide) hv hm
def signAt (s : Str) : Nat := (s.takeWhile fun c => decide (c ≠ 61 ∧ c ≠ 33)).length
def candVerI (s : Str) : Option Ver :=
  if signAt s < s.length then
    let r := s.drop (signAt s + 1)
    (readI (s.take (signAt s))).bind fun a => (readI (bef 64 r)).bind fun b => (readI (aft 64 r)).bind fun t => some ⟨a, b, decide (s[signAt s]? = some 61), t⟩
  else none
def getI (s : Str) : Int := (readI s).getD 0
def candVerS (s : Str) : Option Ver :=
  match cutS 64 s with
  | [h, t] => match cutS 61 h with
    | [a, b] => some ⟨getI a, getI b, true, getI t⟩
    | _ => match cutS 33 h with
      | [a, b] => some ⟨getI a, getI b, false, getI t⟩
      | _ => none
  | _ => none
theorem sign_take {a : Str} {b : Bool} {r : Str} (h1 : (61 : UInt8) ∉ a) (h2 : (33 : UInt8) ∉ a) : signAt (a ++ signB b :: r) = a.length := by
  unfold signAt
  rw [List.takeWhile_append_of_pos]
  · rw [List.takeWhile_cons_of_neg (by cases b <;> decide)]; simp
  · intro x hx
    simp only [decide_eq_true_eq]
    exact ⟨fun e => h1 (e ▸ hx), fun e => h2 (e ▸ hx)⟩
theorem candVerI_ok (v : Ver) (h : validVer v = true) : candVerI (verTxt v) = some v := by
  have hv := validVer_iff.1 h
  have hs : signAt (verTxt v) = (fmtI v.a).length := sign_take dig_no.2.1 dig_no.1
  have hcut := bef_at (c := 64) (a := fmtI v.b) (b := fmtI v.time) dig_no.2.2.1
  unfold candVerI
  rw [hs, if_pos (by simp [verTxt])]
  have hd : (verTxt v).drop ((fmtI v.a).length + 1) = fmtI v.b ++ 64 :: fmtI v.time := by
    unfold verTxt
    rw [List.drop_append, List.drop_of_length_le (by omega), show (fmtI v.a).length + 1 - (fmtI v.a).length = 1 by omega]; simp
  have ht : (verTxt v).take (fmtI v.a).length = fmtI v.a := by unfold verTxt; simp
  have hg : (verTxt v)[(fmtI v.a).length]? = some (signB v.same) := by unfold verTxt; simp
  simp only [hd, ht, hg, hcut.1, hcut.2]
  rw [readI_fmt (by omega), readI_fmt (by omega), readI_fmt (by omega)]
  obtain ⟨a, b, s, t⟩ := v
  cases s <;> simp [signB]
theorem candVerS_ok (v : Ver) (h : validVer v = true) : candVerS (verTxt v) = some v := by
  have hv := validVer_iff.1 h
  have h1 : (64 : UInt8) ∉ fmtI v.a ++ signB v.same :: fmtI v.b := fun hm => by
    rcases List.mem_append.1 hm with hm | hm
    · exact dig_no.2.2.1 hm
    · rcases List.mem_cons.1 hm with hm | hm
      · cases hs : v.same <;> rw [hs] at hm <;> exact absurd hm (by decide)
      · exact dig_no.2.2.1 hm
  have h2 : verTxt v = (fmtI v.a ++ signB v.same :: fmtI v.b) ++ 64 :: fmtI v.time := by simp [verTxt]
  unfold candVerS
  rw [h2, cutS_at h1, cutS_no dig_no.2.2.1]
  simp only
  have hg : ∀ n : Int, -999999999 ≤ n ∧ n ≤ 999999999 → getI (fmtI n) = n := fun n hn => by rw [getI, readI_fmt hn]; rfl
  obtain ⟨a, b, s, t⟩ := v
  simp only at hv
  cases s with
  | true =>
    simp only [signB, if_true]
    rw [cutS_at dig_no.2.1, cutS_no dig_no.2.1]
    simp only [hg a (by omega), hg b (by omega), hg t (by omega)]
  | false =>
    simp only [signB, Bool.false_eq_true, if_false]
    have h3 : (61 : UInt8) ∉ fmtI a ++ 33 :: fmtI b := fun hm => by
      rcases List.mem_append.1 hm with hm | hm
      · exact dig_no.2.1 hm
      · rcases List.mem_cons.1 hm with hm | hm
        · exact absurd hm (by decide)
        · exact dig_no.2.1 hm
    rw [cutS_no h3, cutS_at dig_no.1, cutS_no dig_no.1]
    simp only [hg a (by omega), hg b (by omega), hg t (by omega)]
theorem readVer_I (s : Str) : readVer s = (candVerI s).bind fun a => if validVer a = true ∧ verTxt a = s then some a else none := inv_cand _ candVerI_ok s
theorem verStr_eq {v : Ver} {s : Str} (h : s ≠ []) : (validVer v = true ∧ verTxt v = s) ↔ verStr v = s := by
  unfold verStr
  split
  · simp [*]
  · constructor
    · rintro ⟨h1, _⟩; contradiction
    · intro e; exact absurd e.symm h
end Go.Pl

end
section
namespace Go.Pl
open Go.Dv
def idx4 (c : UInt8) : Int := if 97 ≤ c.toNat ∧ c.toNat ≤ 100 then (c.toNat : Int) - 97 else -1
def origin? (s : Str) : Option (Int × Int) := match s with
  | [] => none
  | c :: t => if 0 ≤ idx4 c ∧ parseB t = true ∧ inR (parseV t) 1 99 = true then some (idx4 c, parseV t) else none
def candRecI (s : Str) : Option Rec :=
  (origin? (bef 46 (bef 124 s))).bind fun o => (readI (aft 46 (bef 124 s))).bind fun n => some ⟨o.1, o.2, n, cutS 124 (aft 124 s)⟩
def candRecS (s : Str) : Option Rec :=
  match cutS 124 s with
  | [] => none
  | l0 :: ls => match cutS 46 l0 with
    | [a, b] => match a with
      | c :: d :: t => some ⟨(c.toNat : Int) - 97, getI (d :: t), getI b, ls⟩
      | _ => none
    | _ => none
theorem src_idx {s : Int} (h : 0 ≤ s ∧ s ≤ 3) : idx4 (srcB s) = s := by
  have := src_no h
  unfold idx4
  rw [if_pos (by omega)]; omega
theorem origin_ok {s k : Int} (hs : 0 ≤ s ∧ s ≤ 3) (hk : 1 ≤ k ∧ k ≤ 99) : origin? (nameStr s k) = some (s, k) := by
  have hp := parse_fmt (n := k) (by omega)
  unfold nameStr origin?
  simp only
  rw [if_pos ⟨by rw [src_idx hs]; exact hs.1, hp.1, by rw [hp.2]; exact inR_iff.2 hk⟩, src_idx hs, hp.2]
theorem getI_fmt {n : Int} (hn : -999999999 ≤ n ∧ n ≤ 999999999) : getI (fmtI n) = n := by rw [getI, readI_fmt hn]; rfl
theorem gone124 {r : Rec} (h : 0 ≤ r.source ∧ r.source ≤ 3) : (124 : UInt8) ∉ goneTxt r := by
  intro hm
  rcases List.mem_append.1 hm with hm | hm
  · rcases List.mem_cons.1 hm with hm | hm
    · exact src_ne h (c := 124) (.inr (by decide)) hm
    · exact dig_no.2.2.2.2.1 hm
  · rcases List.mem_cons.1 hm with hm | hm
    · exact absurd hm (by decide)
    · exact dig_no.2.2.2.2.1 hm
theorem name46 {s k : Int} (h : 0 ≤ s ∧ s ≤ 3) : (46 : UInt8) ∉ nameStr s k := by
  intro hm
  rcases List.mem_cons.1 hm with hm | hm
  · exact src_ne h (c := 46) (.inl (by decide)) hm
  · exact dig_no.2.2.2.1 hm
theorem rec_shape {r : Rec} (h : validRec r = true) : recTxt r = goneTxt r ++ 124 :: joinC 124 r.fields := by
  have hv := validRec_iff.1 h
  unfold recTxt barF
  rw [flat_join 124 r.fields (by intro e; rw [e] at hv; simp at hv)]
theorem candRecI_ok (r : Rec) (h : validRec r = true) : candRecI (recTxt r) = some r := by
  have hv := validRec_iff.1 h
  have h1 := bef_at (b := joinC 124 r.fields) (gone124 hv.1)
  have h2 := bef_at (b := fmtI r.version) (name46 (k := r.key) hv.1)
  unfold candRecI
  rw [rec_shape h, h1.1, h1.2]
  unfold goneTxt
  rw [h2.1, h2.2, origin_ok hv.1 hv.2.1, readI_fmt (by omega), cut_join (by intro e; rw [e] at hv; simp at hv) (fun x hx => (field_no (hv.2.2.2.2 x hx)).1)]
  rfl
theorem candRecS_ok (r : Rec) (h : validRec r = true) : candRecS (recTxt r) = some r := by
  have hv := validRec_iff.1 h
  unfold candRecS
  rw [rec_shape h, cutS_at (gone124 hv.1), cut_join (by intro e; rw [e] at hv; simp at hv) (fun x hx => (field_no (hv.2.2.2.2 x hx)).1)]
  simp only
  unfold goneTxt
  rw [cutS_at (name46 hv.1), cutS_no dig_no.2.2.2.1]
  simp only [nameStr]
  cases hf : fmtI r.key with
  | nil => exact absurd hf (fmtI_ne _)
  | cons d t =>
    simp only
    rw [← hf, getI_fmt (by omega), getI_fmt (by omega), src_no hv.1]
    obtain ⟨a, b, c, d⟩ := r
    simp only at hv
    simp only [Option.some.injEq, Rec.mk.injEq, and_true]
    omega
theorem readRec_I (s : Str) : readRec s = (candRecI s).bind fun a => if validRec a = true ∧ recTxt a = s then some a else none := inv_cand _ candRecI_ok s
theorem readRec_of {r : Rec} (h : validRec r = true) : readRec (recTxt r) = some r := by rw [readRec_I, candRecI_ok r h]; simp [h]
theorem readVer_of {v : Ver} (h : validVer v = true) : readVer (verTxt v) = some v := by rw [readVer_I, candVerI_ok v h]; simp [h]
noncomputable def candOpI (s : Str) : Option Opn :=
  if bef 32 s = wPut then (readRec (aft 32 s)).map fun r => ⟨1, r, ver0⟩
  else if bef 32 s = wDel then (origin? (bef 46 (aft 32 s))).map fun o => ⟨2, ⟨o.1, o.2, getI (aft 46 (aft 32 s)), []⟩, ver0⟩
  else if bef 32 s = wVer then (readVer (aft 32 s)).map fun v => ⟨3, rec0, v⟩
  else if bef 32 s = wRet then (readVer (aft 32 s)).map fun v => ⟨4, rec0, v⟩
  else none
noncomputable def recOr (s : Str) : Rec := (readRec s).getD rec0
noncomputable def verOr (s : Str) : Ver := (readVer s).getD ver0
def bars : Str := [124, 124, 124, 124]
noncomputable def candOpS (s : Str) : Option Opn :=
  if (32 : UInt8) ∈ s then some (
    if bef 32 s = wPut then ⟨1, recOr (aft 32 s), ver0⟩
    else if bef 32 s = wDel then ⟨2, ⟨(recOr (aft 32 s ++ bars)).source, (recOr (aft 32 s ++ bars)).key, (recOr (aft 32 s ++ bars)).version, []⟩, ver0⟩
    else if bef 32 s = wVer then ⟨3, rec0, verOr (aft 32 s)⟩
    else if bef 32 s = wRet then ⟨4, rec0, verOr (aft 32 s)⟩
    else op0)
  else none
theorem wPut_no : (32 : UInt8) ∉ wPut ∧ (32 : UInt8) ∉ wDel ∧ (32 : UInt8) ∉ wVer ∧ (32 : UInt8) ∉ wRet := by decide
theorem words_ne : wDel ≠ wPut ∧ wVer ≠ wPut ∧ wRet ≠ wPut ∧ wVer ≠ wDel ∧ wRet ≠ wDel ∧ wRet ≠ wVer := by decide
theorem op_cases {o : Opn} (h : validOp o = true) : (∃ r, validRec r = true ∧ o = ⟨1, r, ver0⟩ ∧ opTxt o = wPut ++ 32 :: recTxt r) ∨ (∃ r, goneRec r = true ∧ o = ⟨2, r, ver0⟩ ∧ opTxt o = wDel ++ 32 :: goneTxt r) ∨
    (∃ v, validVer v = true ∧ o = ⟨3, rec0, v⟩ ∧ opTxt o = wVer ++ 32 :: verTxt v) ∨ (∃ v, validVer v = true ∧ o = ⟨4, rec0, v⟩ ∧ opTxt o = wRet ++ 32 :: verTxt v) := by
  obtain ⟨k, r, v⟩ := o
  unfold validOp at h
  simp only at h
  unfold opTxt
  simp only
  split at h
  · rename_i hk
    simp only [Bool.and_eq_true, decide_eq_true_eq] at h
    subst hk
    exact .inl ⟨r, h.1, by rw [h.2], by simp⟩
  · split at h
    · rename_i hk
      simp only [Bool.and_eq_true, decide_eq_true_eq] at h
      subst hk
      exact .inr (.inl ⟨r, h.1, by rw [h.2], by simp⟩)
    · split at h
      · rename_i hk
        simp only [Bool.and_eq_true] at h
        have hz := zeroRec_iff.1 h.2
        subst hz
        rcases hk with rfl | rfl
        · exact .inr (.inr (.inl ⟨v, h.1, rfl, by simp⟩))
        · exact .inr (.inr (.inr ⟨v, h.1, rfl, by simp⟩))
      · cases h
theorem goneTxt_of (r : Rec) (f : List Str) : goneTxt { r with fields := f } = goneTxt r := rfl
theorem gone_valid {r : Rec} (h : goneRec r = true) : validRec { r with fields := [[], [], [], []] } = true ∧ recTxt { r with fields := [[], [], [], []] } = goneTxt r ++ bars := by
  have hv := goneRec_iff.1 h
  refine ⟨validRec_iff.2 ⟨hv.1, hv.2.1, hv.2.2.1, rfl, fun f hf => ?_⟩, ?_⟩
  · have : f = [] := by simpa using hf
    subst this; rfl
  · unfold recTxt bars; rw [goneTxt_of]; rfl
theorem candOpI_ok (o : Opn) (h : validOp o = true) : candOpI (opTxt o) = some o := by
  have hw := words_ne
  unfold candOpI
  rcases op_cases h with ⟨r, hr, rfl, ht⟩ | ⟨r, hr, rfl, ht⟩ | ⟨v, hv, rfl, ht⟩ | ⟨v, hv, rfl, ht⟩
  · have hb := bef_at (b := recTxt r) wPut_no.1
    rw [ht, hb.1, hb.2, if_pos rfl, readRec_of hr]; rfl
  · have hb := bef_at (b := goneTxt r) wPut_no.2.1
    have hg := goneRec_iff.1 hr
    have hc := bef_at (b := fmtI r.version) (name46 (k := r.key) hg.1)
    rw [ht, hb.1, hb.2, if_neg hw.1, if_pos rfl, show goneTxt r = nameStr r.source r.key ++ 46 :: fmtI r.version from rfl, hc.1, hc.2, origin_ok hg.1 hg.2.1, getI_fmt (by omega)]
    obtain ⟨a, b, c, d⟩ := r
    simp only at hg
    simp [hg.2.2.2]
  · have hb := bef_at (b := verTxt v) wPut_no.2.2.1
    rw [ht, hb.1, hb.2, if_neg hw.2.1, if_neg hw.2.2.2.1, if_pos rfl, readVer_of hv]; rfl
  · have hb := bef_at (b := verTxt v) wPut_no.2.2.2
    rw [ht, hb.1, hb.2, if_neg hw.2.2.1, if_neg hw.2.2.2.2.1, if_neg hw.2.2.2.2.2, if_pos rfl, readVer_of hv]; rfl
theorem candOpS_ok (o : Opn) (h : validOp o = true) : candOpS (opTxt o) = some o := by
  have hw := words_ne
  unfold candOpS
  rcases op_cases h with ⟨r, hr, rfl, ht⟩ | ⟨r, hr, rfl, ht⟩ | ⟨v, hv, rfl, ht⟩ | ⟨v, hv, rfl, ht⟩
  · have hb := bef_at (b := recTxt r) wPut_no.1
    rw [if_pos (by rw [ht]; simp), ht, hb.1, hb.2, if_pos rfl, recOr, readRec_of hr]; rfl
  · have hb := bef_at (b := goneTxt r) wPut_no.2.1
    have hg := goneRec_iff.1 hr
    have hv := gone_valid hr
    rw [if_pos (by rw [ht]; simp), ht, hb.1, hb.2, if_neg hw.1, if_pos rfl, recOr, ← hv.2, readRec_of hv.1]
    obtain ⟨a, b, c, d⟩ := r
    simp only at hg
    simp [hg.2.2.2]
  · have hb := bef_at (b := verTxt v) wPut_no.2.2.1
    rw [if_pos (by rw [ht]; simp), ht, hb.1, hb.2, if_neg hw.2.1, if_neg hw.2.2.2.1, if_pos rfl, verOr, readVer_of hv]; rfl
  · have hb := bef_at (b := verTxt v) wPut_no.2.2.2
    rw [if_pos (by rw [ht]; simp), ht, hb.1, hb.2, if_neg hw.2.2.1, if_neg hw.2.2.2.2.1, if_neg hw.2.2.2.2.2, if_pos rfl, verOr, readVer_of hv]; rfl
theorem readOp_I (s : Str) : readOp s = (candOpI s).bind fun a => if validOp a = true ∧ opTxt a = s then some a else none := inv_cand _ candOpI_ok s
theorem readOp_S (s : Str) : readOp s = (candOpS s).bind fun a => if validOp a = true ∧ opTxt a = s then some a else none := inv_cand _ candOpS_ok s
theorem readOp_of {o : Opn} (h : validOp o = true) : readOp (opTxt o) = some o := by rw [readOp_I, candOpI_ok o h]; simp [h]
theorem readOp_nil : readOp [] = none := by rw [readOp_S]; rfl
noncomputable def readOps : List Str → Option (List Opn)
  | [] => some []
  | x :: l => (readOp x).bind fun o => (readOps l).bind fun r => some (o :: r)
theorem readOps_ok : ∀ {l : List Opn}, (∀ o ∈ l, validOp o = true) → readOps (l.map opTxt) = some l
  | [], _ => rfl
  | o :: l, h => by simp only [List.map_cons, readOps, readOp_of (h o (by simp)), readOps_ok fun o ho => h o (List.mem_cons_of_mem _ ho), Option.bind_some]
theorem readOps_snoc : ∀ {l : List Str} {x : Str} {r : List Opn}, readOps l = some r → readOps (l ++ [x]) = (readOp x).map fun o => r ++ [o]
  | [], x, r, h => by
    obtain rfl := Option.some.inj h
    simp only [List.nil_append, readOps]
    cases readOp x <;> rfl
  | y :: l, x, r, h => by
    simp only [List.cons_append, readOps] at h ⊢
    cases hy : readOp y with
    | none => rw [hy] at h; cases h
    | some o =>
      rw [hy] at h
      simp only [Option.bind_some] at h ⊢
      cases hl : readOps l with
      | none => rw [hl] at h; cases h
      | some r' =>
        rw [hl] at h
        obtain rfl := Option.some.inj h
        rw [readOps_snoc hl]
        cases readOp x <;> rfl
theorem readOps_none : ∀ {l : List Str} {x : Str}, x ∈ l → readOp x = none → readOps l = none
  | y :: l, x, h, hx => by
    simp only [readOps]
    rcases List.mem_cons.1 h with rfl | h
    · rw [hx]; rfl
    · rw [readOps_none h hx]; cases readOp y <;> rfl
def trimL (c : UInt8) (s : Str) : Str := if s[0]? = some c then s.drop 1 else s
def trimR (c : UInt8) (s : Str) : Str := if s.getLast? = some c then s.dropLast else s
noncomputable def candBatI (s : Str) : Option (List Opn) := if s = [91, 93] then some [] else readOps (cutS 59 (trimR 93 (trimL 91 s)))
noncomputable def candBatS (s : Str) : Option (List Opn) := if s = [91, 93] then some [] else if s.length < 2 then none else readOps ((cutS 59 ((s.drop 1).take (s.length - 2))).take 7)
theorem validBat_iff {l : List Opn} : validBat l = true ↔ (∀ o ∈ l, validOp o = true) ∧ l.length ≤ 6 := by
  simp only [validBat, Bool.and_eq_true, List.all_eq_true, decide_eq_true_eq]
theorem opTxt_ne {o : Opn} (h : validOp o = true) : opTxt o ≠ [] := by
  intro e
  have := readOp_of h
  rw [e, readOp_nil] at this
  cases this
theorem joinC_ne {c : UInt8} {l : List Str} (h : l ≠ []) (hx : ∀ x ∈ l, x ≠ []) : joinC c l ≠ [] := by
  cases l with
  | nil => exact absurd rfl h
  | cons x l =>
    cases l with
    | nil => exact hx x (by simp)
    | cons y l => rw [joinC_cons (by simp)]; simp
theorem batTxt_two {l : List Opn} (h : l ≠ []) (hv : ∀ o ∈ l, validOp o = true) : batTxt l ≠ [91, 93] := by
  intro e
  have := joinC_ne (c := 59) (l := l.map opTxt) (by simpa using h) (fun x hx => by obtain ⟨o, ho, rfl⟩ := List.mem_map.1 hx; exact opTxt_ne (hv o ho))
  unfold batTxt at e
  simp only [List.cons.injEq, true_and] at e
  have h2 := congrArg List.length e
  simp only [List.length_append, List.length_cons, List.length_nil] at h2
  exact this (List.length_eq_zero_iff.1 (by omega))
theorem bat_cut {l : List Opn} (h : l ≠ []) (hv : ∀ o ∈ l, validOp o = true) : cutS 59 (joinC 59 (l.map opTxt)) = l.map opTxt :=
  cut_join (by simpa using h) fun x hx => by obtain ⟨o, ho, rfl⟩ := List.mem_map.1 hx; exact opTxt_no (hv o ho) (.inl rfl)
theorem candBatI_ok (l : List Opn) (h : validBat l = true) : candBatI (batTxt l) = some l := by
  have hv := validBat_iff.1 h
  by_cases hl : l = []
  · subst hl; rfl
  · unfold candBatI
    rw [if_neg (batTxt_two hl hv.1)]
    have h1 : trimL 91 (batTxt l) = joinC 59 (l.map opTxt) ++ [93] := by unfold trimL batTxt; simp
    have h2 : trimR 93 (joinC 59 (l.map opTxt) ++ [93]) = joinC 59 (l.map opTxt) := by unfold trimR; simp
    rw [h1, h2, bat_cut hl hv.1, readOps_ok hv.1]
theorem candBatS_ok (l : List Opn) (h : validBat l = true) : candBatS (batTxt l) = some l := by
  have hv := validBat_iff.1 h
  by_cases hl : l = []
  · subst hl; rfl
  · unfold candBatS
    have h1 : ((batTxt l).drop 1).take ((batTxt l).length - 2) = joinC 59 (l.map opTxt) := by
      unfold batTxt
      simp only [List.drop_succ_cons, List.drop_zero, List.length_cons, List.length_append, List.length_nil]
      rw [show (joinC 59 (l.map opTxt)).length + (0 + 1) + 1 - 2 = (joinC 59 (l.map opTxt)).length by omega]
      simp
    rw [if_neg (batTxt_two hl hv.1), if_neg (by unfold batTxt; simp), h1, bat_cut hl hv.1, List.take_of_length_le (by simp; omega), readOps_ok hv.1]
theorem readBat_I (s : Str) : readBat s = (candBatI s).bind fun a => if validBat a = true ∧ batTxt a = s then some a else none := inv_cand _ candBatI_ok s
theorem readBat_of {l : List Opn} (h : validBat l = true) : readBat (batTxt l) = some l := by rw [readBat_I, candBatI_ok l h]; simp [h]
end Go.Pl

end
section
set_option maxRecDepth 10000
namespace Go.Proofs.YtfhfidecmdhkoaaGreatDoor
open Go.Dv Go.Pl
abbrev nStrs (l : List Str) : D := .sl none (l.map dS)
abbrev oStrs (l : List Str) : D := .sl (some 9) (l.map dS)
abbrev oInts (l : List Int) : D := .sl (some 3) (l.map dI)
abbrev dVer (v : Ver) : D := .agg [dI v.a, dI v.b, dB v.same, dI v.time]
abbrev nRec (r : Rec) : D := .agg [dI r.source, dI r.key, dI r.version, nStrs r.fields]
abbrev oRec (r : Rec) : D := .agg [dI r.source, dI r.key, dI r.version, oStrs r.fields]
abbrev nOp (o : Opn) : D := .agg [dI o.kind, nRec o.rc, dVer o.ver]
abbrev oOp (o : Opn) : D := .agg [dI o.kind, oRec o.rc, dVer o.ver]
abbrev nOps (l : List Opn) : D := .sl none (l.map nOp)
abbrev oOps (l : List Opn) : D := .sl (some 81) (l.map oOp)
abbrev nBat (l : List Opn) : D := .agg [nOps l]
abbrev oBat (l : List Opn) : D := .agg [oOps l]
abbrev oBats (l : List (List Opn)) : D := .sl (some 30) (l.map oBat)
def smallO (o : Opn) : Prop := smallR o.rc
def smallB (l : List Opn) : Prop := l.length ≤ 1048576 ∧ ∀ o ∈ l, smallO o
theorem eqVer_at (a b c d : Int) (s t : Bool) (a' b' : Int) : Dv.EqAt Tryz.prog 79 [.int .i64 a, .int .i64 b, .bool s, .int .i64 c] [.int .i64 a', .int .i64 b', .bool t, .int .i64 d] (decide (a = a' ∧ b = b' ∧ s = t ∧ c = d)) := by
 refine ⟨by kernel_rfl, fun w => ?_⟩
 have u3 := Tryz.underlying3
 have a3 := Tryz.isAgg3
 have z3 := Tryz.sizeOf3
 have u4 := Tryz.underlying4
 have a4 := Tryz.isAgg4
 have z4 := Tryz.sizeOf4
 have hS : Tryz.prog.underlying 79 = some (.struct (Tryz.prog.fieldsOf 79)) := by kernel_rfl
 have hp : Tryz.prog.stoodInHeld 79 = false := by kernel_rfl
 rw [show (10000 : Nat) = 9999 + 1 from rfl, run_equalIn_agg w 9999 79 _ _ hS hp]
 simp only [Program.fieldsOf, Tryz.underlying79]
 go_simp
 by_cases h1 : a = a' <;> by_cases h2 : b = b' <;> by_cases h3 : s = t <;> by_cases h4 : c = d <;> simp [h1, h2, h3, h4]
@[go_sem] theorem eqVer_iff (a b c d : Int) (s t : Bool) (a' b' : Int) (r : Bool) : Dv.EqAt Tryz.prog 79 [.int .i64 a, .int .i64 b, .bool s, .int .i64 c] [.int .i64 a', .int .i64 b', .bool t, .int .i64 d] r ↔ r = (decide (a = a' ∧ b = b' ∧ s = t ∧ c = d)) := (eqVer_at a b c d s t a' b').iff
theorem fn_impl_within (x a b : Int) : FnOk Tryz.prog 38 [dI x, dI a, dI b] (fun res' => res' = .val (dB (inR x a b))) := by
 refine fn_of good (rs := [.tmp 6]) Tryz.func38 rfl Tryz.ntmps38 (by decide) (by simp) rfl fun w0 ow0 => ?_
 refine okC_rg good ?_
 simp [go_sem]
 repeat (with_reducible refine And.intro ?_ ?_; first | omega | assumption | (simp only [inI]; omega))
 refine okC_rg good ?_
 simp [go_sem]
 repeat (with_reducible refine And.intro ?_ ?_; first | omega | assumption | (simp only [inI]; omega))
 first | refine gI_dec (fun g1 => ?_) (fun g1 => ?_) | refine gI_ndec (fun g1 => ?_) (fun g1 => ?_) | refine gI_of (fun g1 => ?_) (fun g1 => ?_)
 ·have g1' := g1; try simp at g1'
  simp [go_sem, g1]
  repeat (with_reducible refine And.intro ?_ ?_; first | omega | assumption | (simp only [inI]; omega))
  refine okC_ret ?_
  simp [go_sem, g1]
  all_goals first | done | omega | grind | (simp; omega) | (simp_all; done) | (simp_all; omega)
 ·have g1' := g1; try simp at g1'
  simp [go_sem, g1]
  repeat (with_reducible refine And.intro ?_ ?_; first | omega | assumption | (simp only [inI]; omega))
  refine okC_ret ?_
  simp [go_sem, g1]
  all_goals first | done | omega | grind | (simp; omega) | (simp_all; done) | (simp_all; omega)
theorem fn_spec_l1In (x a b : Int) : FnOk Tryz.prog 46 [dI x, dI a, dI b] (fun res' => res' = .val (dB (inR x a b))) := by
 refine fn_of good (rs := [.tmp 6]) Tryz.func46 rfl Tryz.ntmps46 (by decide) (by simp) rfl fun w0 ow0 => ?_
 refine okC_rg good ?_
 simp [go_sem]
 repeat (with_reducible refine And.intro ?_ ?_; first | omega | assumption | (simp only [inI]; omega))
 refine okC_rg good ?_
 simp [go_sem]
 repeat (with_reducible refine And.intro ?_ ?_; first | omega | assumption | (simp only [inI]; omega))
 first | refine gI_dec (fun g1 => ?_) (fun g1 => ?_) | refine gI_ndec (fun g1 => ?_) (fun g1 => ?_) | refine gI_of (fun g1 => ?_) (fun g1 => ?_)
 ·have g1' := g1; try simp at g1'
  simp [go_sem, g1]
  repeat (with_reducible refine And.intro ?_ ?_; first | omega | assumption | (simp only [inI]; omega))
  refine okC_ret ?_
  simp [go_sem, g1]
  all_goals first | done | omega | grind | (simp; omega) | (simp_all; done) | (simp_all; omega)
 ·have g1' := g1; try simp at g1'
  simp [go_sem, g1]
  repeat (with_reducible refine And.intro ?_ ?_; first | omega | assumption | (simp only [inI]; omega))
  refine okC_ret ?_
  simp [go_sem, g1]
  all_goals first | done | omega | grind | (simp; omega) | (simp_all; done) | (simp_all; omega)
theorem fn_impl_isMember (x : Int) : FnOk Tryz.prog 144 [dI x] (fun res' => res' = .val (dB (inR x 1 399))) := by
 refine fn_of good (rs := [.tmp 2]) Tryz.func144 rfl Tryz.ntmps144 (by decide) (by simp) rfl fun w0 ow0 => ?_
 refine okC_rg good ?_
 simp [go_sem]
 repeat (with_reducible refine And.intro ?_ ?_; first | omega | assumption | (simp only [inI]; omega))
 refine okC_rg good ?_
 simp [go_sem]
 repeat (with_reducible refine And.intro ?_ ?_; first | omega | assumption | (simp only [inI]; omega))
 first | refine callK_of (fn_impl_within _ _ _) (by simp [go_sem]) ?_ | refine callK_fz (fn_impl_within _ _ _) (by simp [go_sem]) (by simp [go_sem]) ?_
 simp [go_sem]
 repeat (with_reducible refine And.intro ?_ ?_; first | omega | assumption | (simp only [inI]; omega))
 refine okC_ret ?_
 simp [go_sem]
 all_goals first | done | omega | grind | (simp; omega) | (simp_all; done) | (simp_all; omega)
theorem fn_impl_IsValidVerdict (v : Ver) : FnOk Tryz.prog 103 [dVer v] (fun res' => res' = .val (dB (validVer v))) := by
 refine fn_of good (rs := [.tmp 2]) Tryz.func103 rfl Tryz.ntmps103 (by decide) (by simp) rfl fun w0 ow0 => ?_
 refine okC_rg good ?_
 simp [go_sem]
 repeat (with_reducible refine And.intro ?_ ?_; first | omega | assumption | (simp only [inI]; omega))
 refine okC_rg good ?_
 simp [go_sem]
 repeat (with_reducible refine And.intro ?_ ?_; first | omega | assumption | (simp only [inI]; omega))
 first | refine callK_of (fn_impl_isMember _) (by simp [go_sem]) ?_ | refine callK_fz (fn_impl_isMember _) (by simp [go_sem]) (by simp [go_sem]) ?_
 simp [go_sem]
 repeat (with_reducible refine And.intro ?_ ?_; first | omega | assumption | (simp only [inI]; omega))
 first | refine gI_dec (fun g1 => ?_) (fun g1 => ?_) | refine gI_ndec (fun g1 => ?_) (fun g1 => ?_) | refine gI_of (fun g1 => ?_) (fun g1 => ?_)
 ·have g1' := g1; try simp at g1'
  simp [go_sem, g1]
  repeat (with_reducible refine And.intro ?_ ?_; first | omega | assumption | (simp only [inI]; omega))
  first | refine callK_of (fn_impl_isMember _) (by simp [go_sem]) ?_ | refine callK_fz (fn_impl_isMember _) (by simp [go_sem]) (by simp [go_sem]) ?_
  simp [go_sem, g1]
  repeat (with_reducible refine And.intro ?_ ?_; first | omega | assumption | (simp only [inI]; omega))
  first | refine gI_dec (fun g2 => ?_) (fun g2 => ?_) | refine gI_ndec (fun g2 => ?_) (fun g2 => ?_) | refine gI_of (fun g2 => ?_) (fun g2 => ?_)
  ·have g2' := g2; try simp at g2'
   simp [go_sem, g1, g2]
   repeat (with_reducible refine And.intro ?_ ?_; first | omega | assumption | (simp only [inI]; omega))
   first | refine gI_dec (fun g3 => ?_) (fun g3 => ?_) | refine gI_ndec (fun g3 => ?_) (fun g3 => ?_) | refine gI_of (fun g3 => ?_) (fun g3 => ?_)
   ·have g3' := g3; try simp at g3'
    simp [go_sem, g1, g2, g3]
    repeat (with_reducible refine And.intro ?_ ?_; first | omega | assumption | (simp only [inI]; omega))
    first | refine callK_of (fn_impl_within _ _ _) (by simp [go_sem]) ?_ | refine callK_fz (fn_impl_within _ _ _) (by simp [go_sem]) (by simp [go_sem]) ?_
    simp [go_sem, g1, g2, g3]
    repeat (with_reducible refine And.intro ?_ ?_; first | omega | assumption | (simp only [inI]; omega))
    refine okC_ret ?_
    simp [go_sem, g1, g2, g3]
    all_goals first | done | omega | grind [validVer] | (simp; omega) | (simp_all [validVer]; done) | (simp_all [validVer]; omega)
   ·have g3' := g3; try simp at g3'
    simp [go_sem, g1, g2, g3]
    repeat (with_reducible refine And.intro ?_ ?_; first | omega | assumption | (simp only [inI]; omega))
    refine okC_ret ?_
    simp [go_sem, g1, g2, g3]
    all_goals first | done | omega | grind [validVer] | (simp; omega) | (simp_all [validVer]; done) | (simp_all [validVer]; omega)
  ·have g2' := g2; try simp at g2'
   simp [go_sem, g1, g2]
   repeat (with_reducible refine And.intro ?_ ?_; first | omega | assumption | (simp only [inI]; omega))
   refine okC_ret ?_
   simp [go_sem, g1, g2]
   all_goals first | done | omega | grind [validVer] | (simp; omega) | (simp_all [validVer]; done) | (simp_all [validVer]; omega)
 ·have g1' := g1; try simp at g1'
  simp [go_sem, g1]
  repeat (with_reducible refine And.intro ?_ ?_; first | omega | assumption | (simp only [inI]; omega))
  refine okC_ret ?_
  simp [go_sem, g1]
  all_goals first | done | omega | grind [validVer] | (simp; omega) | (simp_all [validVer]; done) | (simp_all [validVer]; omega)
theorem fn_spec_IsValidVerdict (v : Ver) : FnOk Tryz.prog 124 [dVer v] (fun res' => res' = .val (dB (validVer v))) := by
 refine fn_of good (rs := [.tmp 2]) Tryz.func124 rfl Tryz.ntmps124 (by decide) (by simp) rfl fun w0 ow0 => ?_
 refine okC_rg good ?_
 simp [go_sem]
 repeat (with_reducible refine And.intro ?_ ?_; first | omega | assumption | (simp only [inI]; omega))
 refine okC_rg good ?_
 simp [go_sem]
 repeat (with_reducible refine And.intro ?_ ?_; first | omega | assumption | (simp only [inI]; omega))
 first | refine callK_of (fn_spec_l1In _ _ _) (by simp [go_sem]) ?_ | refine callK_fz (fn_spec_l1In _ _ _) (by simp [go_sem]) (by simp [go_sem]) ?_
 simp [go_sem]
 repeat (with_reducible refine And.intro ?_ ?_; first | omega | assumption | (simp only [inI]; omega))
 first | refine gI_dec (fun g1 => ?_) (fun g1 => ?_) | refine gI_ndec (fun g1 => ?_) (fun g1 => ?_) | refine gI_of (fun g1 => ?_) (fun g1 => ?_)
 ·have g1' := g1; try simp at g1'
  simp [go_sem, g1]
  repeat (with_reducible refine And.intro ?_ ?_; first | omega | assumption | (simp only [inI]; omega))
  first | refine callK_of (fn_spec_l1In _ _ _) (by simp [go_sem]) ?_ | refine callK_fz (fn_spec_l1In _ _ _) (by simp [go_sem]) (by simp [go_sem]) ?_
  simp [go_sem, g1]
  repeat (with_reducible refine And.intro ?_ ?_; first | omega | assumption | (simp only [inI]; omega))
  first | refine gI_dec (fun g2 => ?_) (fun g2 => ?_) | refine gI_ndec (fun g2 => ?_) (fun g2 => ?_) | refine gI_of (fun g2 => ?_) (fun g2 => ?_)
  ·have g2' := g2; try simp at g2'
   simp [go_sem, g1, g2]
   repeat (with_reducible refine And.intro ?_ ?_; first | omega | assumption | (simp only [inI]; omega))
   first | refine gI_dec (fun g3 => ?_) (fun g3 => ?_) | refine gI_ndec (fun g3 => ?_) (fun g3 => ?_) | refine gI_of (fun g3 => ?_) (fun g3 => ?_)
   ·have g3' := g3; try simp at g3'
    simp [go_sem, g1, g2, g3]
    repeat (with_reducible refine And.intro ?_ ?_; first | omega | assumption | (simp only [inI]; omega))
    first | refine callK_of (fn_spec_l1In _ _ _) (by simp [go_sem]) ?_ | refine callK_fz (fn_spec_l1In _ _ _) (by simp [go_sem]) (by simp [go_sem]) ?_
    simp [go_sem, g1, g2, g3]
    repeat (with_reducible refine And.intro ?_ ?_; first | omega | assumption | (simp only [inI]; omega))
    refine okC_ret ?_
    simp [go_sem, g1, g2, g3]
    all_goals first | done | omega | grind [validVer] | (simp; omega) | (simp_all [validVer]; done) | (simp_all [validVer]; omega)
   ·have g3' := g3; try simp at g3'
    simp [go_sem, g1, g2, g3]
    repeat (with_reducible refine And.intro ?_ ?_; first | omega | assumption | (simp only [inI]; omega))
    refine okC_ret ?_
    simp [go_sem, g1, g2, g3]
    all_goals first | done | omega | grind [validVer] | (simp; omega) | (simp_all [validVer]; done) | (simp_all [validVer]; omega)
  ·have g2' := g2; try simp at g2'
   simp [go_sem, g1, g2]
   repeat (with_reducible refine And.intro ?_ ?_; first | omega | assumption | (simp only [inI]; omega))
   refine okC_ret ?_
   simp [go_sem, g1, g2]
   all_goals first | done | omega | grind [validVer] | (simp; omega) | (simp_all [validVer]; done) | (simp_all [validVer]; omega)
 ·have g1' := g1; try simp at g1'
  simp [go_sem, g1]
  repeat (with_reducible refine And.intro ?_ ?_; first | omega | assumption | (simp only [inI]; omega))
  refine okC_ret ?_
  simp [go_sem, g1]
  all_goals first | done | omega | grind [validVer] | (simp; omega) | (simp_all [validVer]; done) | (simp_all [validVer]; omega)
theorem fn_spec_IsText (s : Str) (hs : s.length ≤ 1048576) : FnOk Tryz.prog 188 [dS s] (fun res' => res' = .val (dB (isText s))) := by
 refine fn_of good (rs := [.tmp 2]) Tryz.func188 rfl Tryz.ntmps188 (by decide) (by simp) rfl fun w0 ow0 => ?_
 refine okC_rg good ?_
 simp [go_sem]
 repeat (with_reducible refine And.intro ?_ ?_; first | omega | assumption | (simp only [inI]; omega))
 refine okC_seq ?_
 refine okC_rg good ?_
 simp [go_sem]
 repeat (with_reducible refine And.intro ?_ ?_; first | omega | assumption | (simp only [inI]; omega))
 refine okC_block ?_
 refine okC_rounds (fun (i : Nat) => [(0, .val (dS s)), (3, .val (dI i))]) (fun (i : Nat) => (s).length - i) (fun (i : Nat) => (i ≤ (s).length) ∧ (((s).take i).all textB = true)) (0) [] ⟨(by first | omega | rfl | (simp; done) | (simp; omega) | simp), (by first | omega | rfl | (simp; done) | (simp; omega) | simp)⟩ (by simp [go_sem]) ?_
 rintro i ⟨h1, h2⟩ K1 hK1
 refine okC_seq ?_
 refine okC_rg good ?_
 simp [go_sem]
 repeat (with_reducible refine And.intro ?_ ?_; first | omega | assumption | (simp only [inI]; omega))
 refine okC_if ?_
 simp [go_sem]
 first | refine gC_dec (fun a => ?_) (fun a => ?_) | refine gC_ndec (fun a => ?_) (fun a => ?_) | refine gC_of (fun a => ?_) (fun a => ?_)
 ·try simp at a
  refine okC_skip ?_
  refine okC_seq ?_
  refine okC_block ?_
  obtain ⟨c, hc⟩ := at_of (l := s) (i := i) (by omega)
  refine okC_rg good ?_
  simp [go_sem, hc]
  repeat (with_reducible refine And.intro ?_ ?_; first | omega | assumption | (simp only [inI]; omega))
  first | refine gI_dec (fun g => ?_) (fun g => ?_) | refine gI_ndec (fun g => ?_) (fun g => ?_) | refine gI_of (fun g => ?_) (fun g => ?_)
  ·have g' := g; try simp at g'
   simp [go_sem, hc, g]
   repeat (with_reducible refine And.intro ?_ ?_; first | omega | assumption | (simp only [inI]; omega))
   refine okC_if ?_
   simp [go_sem, hc, g]
   have hn := all_no hc (P := textB) (by first | assumption | (simp; omega) | (simp [*]; done) | (simp [textB, *]; done) | grind [textB] | (simp [textB]; omega))
   refine okC_rg good ?_
   simp [go_sem, hc, g, hn]
   repeat (with_reducible refine And.intro ?_ ?_; first | omega | assumption | (simp only [inI]; omega))
   refine okC_ret (show K1 _ _ from retE hK1 ?_)
   simp [go_sem, hc, g, hn]
   all_goals first | done | omega | grind [isText] | (simp; omega) | (simp_all [isText]; done) | (simp_all [isText]; omega)
  ·have g' := g; try simp at g'
   simp [go_sem, hc, g]
   repeat (with_reducible refine And.intro ?_ ?_; first | omega | assumption | (simp only [inI]; omega))
   refine okC_if ?_
   simp [go_sem, hc, g]
   first | refine gC_dec (fun b => ?_) (fun b => ?_) | refine gC_ndec (fun b => ?_) (fun b => ?_) | refine gC_of (fun b => ?_) (fun b => ?_)
   ·try simp at b
    have hn := all_no hc (P := textB) (by first | assumption | (simp; omega) | (simp [*]; done) | (simp [textB, *]; done) | grind [textB] | (simp [textB]; omega))
    refine okC_rg good ?_
    simp [go_sem, hc, g, hn]
    repeat (with_reducible refine And.intro ?_ ?_; first | omega | assumption | (simp only [inI]; omega))
    refine okC_ret (show K1 _ _ from retE hK1 ?_)
    simp [go_sem, hc, g, hn]
    all_goals first | done | omega | grind [isText] | (simp; omega) | (simp_all [isText]; done) | (simp_all [isText]; omega)
   ·try simp at b
    refine okC_skip ?_
    refine okC_rg1 good ?_
    simp [go_sem, hc, g]
    repeat (with_reducible refine And.intro ?_ ?_; first | omega | assumption | (simp only [inI]; omega))
    refine normalE hK1 ⟨i + 1, [], ⟨(by omega), (all_step hc h2 (by first | assumption | (simp; omega) | (simp [*]; done) | (simp [textB, *]; done) | grind [textB] | (simp [textB]; omega)))⟩, (by show _ < _; first | omega | simp <;> omega), (by simp [go_sem, hc, g])⟩
 ·try simp at a
  refine okC_exit (show K1 _ _ from exitE hK1 ?_)
  have hf := all_fin h2 a
  refine okC_rg good ?_
  simp [go_sem, hf]
  repeat (with_reducible refine And.intro ?_ ?_; first | omega | assumption | (simp only [inI]; omega))
  refine okC_ret ?_
  simp [go_sem, hf]
  all_goals first | done | omega | grind [isText] | (simp; omega) | (simp_all [isText]; done) | (simp_all [isText]; omega)
theorem fn_spec_l8Field (s : Str) (hs : s.length ≤ 1048576) : FnOk Tryz.prog 162 [dS s] (fun res' => res' = .val (dB (isField s))) := by
 refine fn_of good (rs := [.tmp 2]) Tryz.func162 rfl Tryz.ntmps162 (by decide) (by simp) rfl fun w0 ow0 => ?_
 refine okC_rg good ?_
 simp [go_sem]
 repeat (with_reducible refine And.intro ?_ ?_; first | omega | assumption | (simp only [inI]; omega))
 refine okC_seq ?_
 refine okC_rg good ?_
 simp [go_sem]
 repeat (with_reducible refine And.intro ?_ ?_; first | omega | assumption | (simp only [inI]; omega))
 refine okC_block ?_
 refine okC_rounds (fun (i : Nat) => [(0, .val (dS s)), (3, .val (dI i))]) (fun (i : Nat) => (s).length - i) (fun (i : Nat) => (i ≤ (s).length) ∧ (((s).take i).all fieldB = true)) (0) [] ⟨(by first | omega | rfl | (simp; done) | (simp; omega) | simp), (by first | omega | rfl | (simp; done) | (simp; omega) | simp)⟩ (by simp [go_sem]) ?_
 rintro i ⟨h1, h2⟩ K1 hK1
 refine okC_seq ?_
 refine okC_rg good ?_
 simp [go_sem]
 repeat (with_reducible refine And.intro ?_ ?_; first | omega | assumption | (simp only [inI]; omega))
 refine okC_if ?_
 simp [go_sem]
 first | refine gC_dec (fun a => ?_) (fun a => ?_) | refine gC_ndec (fun a => ?_) (fun a => ?_) | refine gC_of (fun a => ?_) (fun a => ?_)
 ·try simp at a
  refine okC_skip ?_
  refine okC_seq ?_
  refine okC_block ?_
  obtain ⟨c, hc⟩ := at_of (l := s) (i := i) (by omega)
  refine okC_rg good ?_
  simp [go_sem, hc]
  repeat (with_reducible refine And.intro ?_ ?_; first | omega | assumption | (simp only [inI]; omega))
  first | refine gI_dec (fun g => ?_) (fun g => ?_) | refine gI_ndec (fun g => ?_) (fun g => ?_) | refine gI_of (fun g => ?_) (fun g => ?_)
  ·have g' := g; try simp at g'
   simp [go_sem, hc, g]
   repeat (with_reducible refine And.intro ?_ ?_; first | omega | assumption | (simp only [inI]; omega))
   refine okC_if ?_
   simp [go_sem, hc, g]
   have hn := all_no hc (P := fieldB) (by first | assumption | (simp; omega) | (simp [*]; done) | (simp [fieldB, *]; done) | grind [fieldB] | (simp [fieldB]; omega))
   refine okC_rg good ?_
   simp [go_sem, hc, g, hn]
   repeat (with_reducible refine And.intro ?_ ?_; first | omega | assumption | (simp only [inI]; omega))
   refine okC_ret (show K1 _ _ from retE hK1 ?_)
   simp [go_sem, hc, g, hn]
   all_goals first | done | omega | grind [isField] | (simp; omega) | (simp_all [isField]; done) | (simp_all [isField]; omega)
  ·have g' := g; try simp at g'
   simp [go_sem, hc, g]
   repeat (with_reducible refine And.intro ?_ ?_; first | omega | assumption | (simp only [inI]; omega))
   refine okC_if ?_
   simp [go_sem, hc, g]
   first | refine gC_dec (fun b => ?_) (fun b => ?_) | refine gC_ndec (fun b => ?_) (fun b => ?_) | refine gC_of (fun b => ?_) (fun b => ?_)
   ·try simp at b
    have hn := all_no hc (P := fieldB) (by first | assumption | (simp; omega) | (simp [*]; done) | (simp [fieldB, *]; done) | grind [fieldB] | (simp [fieldB]; omega))
    refine okC_rg good ?_
    simp [go_sem, hc, g, hn]
    repeat (with_reducible refine And.intro ?_ ?_; first | omega | assumption | (simp only [inI]; omega))
    refine okC_ret (show K1 _ _ from retE hK1 ?_)
    simp [go_sem, hc, g, hn]
    all_goals first | done | omega | grind [isField] | (simp; omega) | (simp_all [isField]; done) | (simp_all [isField]; omega)
   ·try simp at b
    refine okC_skip ?_
    refine okC_rg1 good ?_
    simp [go_sem, hc, g]
    repeat (with_reducible refine And.intro ?_ ?_; first | omega | assumption | (simp only [inI]; omega))
    refine normalE hK1 ⟨i + 1, [], ⟨(by omega), (all_step hc h2 (by first | assumption | (simp; omega) | (simp [*]; done) | (simp [fieldB, *]; done) | grind [fieldB] | (simp [fieldB]; omega)))⟩, (by show _ < _; first | omega | simp <;> omega), (by simp [go_sem, hc, g])⟩
 ·try simp at a
  refine okC_exit (show K1 _ _ from exitE hK1 ?_)
  have hf := all_fin h2 a
  refine okC_rg good ?_
  simp [go_sem, hf]
  repeat (with_reducible refine And.intro ?_ ?_; first | omega | assumption | (simp only [inI]; omega))
  first | refine callK_of (fn_spec_IsText _ (by first | assumption | omega | (simp; omega) | grind)) (by simp [go_sem]) ?_ | refine callK_fz (fn_spec_IsText _ (by first | assumption | omega | (simp; omega) | grind)) (by simp [go_sem]) (by simp [go_sem]) ?_
  simp [go_sem, hf]
  repeat (with_reducible refine And.intro ?_ ?_; first | omega | assumption | (simp only [inI]; omega))
  refine okC_ret ?_
  simp [go_sem, hf]
  all_goals first | done | omega | grind [isField] | (simp; omega) | (simp_all [isField]; done) | (simp_all [isField]; omega)
theorem fn_spec_IsValidRecord (r : Rec) (hs : smallR r) : FnOk Tryz.prog 122 [nRec r] (fun res' => res' = .val (dB (validRec r))) := by
 refine fn_of good (rs := [.tmp 2]) Tryz.func122 rfl Tryz.ntmps122 (by decide) (by simp) rfl fun w0 ow0 => ?_
 obtain ⟨hs1, hs2⟩ := hs
 refine okC_rg good ?_
 simp [go_sem]
 repeat (with_reducible refine And.intro ?_ ?_; first | omega | assumption | (simp only [inI]; omega))
 refine okC_seq ?_
 refine okC_rg good ?_
 simp [go_sem]
 repeat (with_reducible refine And.intro ?_ ?_; first | omega | assumption | (simp only [inI]; omega))
 refine okC_block ?_
 refine okC_rounds (fun (i : Nat) => [(1, .own (.bx true (nRec r))), (3, .val (dI i))]) (fun (i : Nat) => (r.fields).length - i) (fun (i : Nat) => (i ≤ (r.fields).length) ∧ (((r.fields).take i).all isField = true)) (0) [] ⟨(by first | omega | rfl | (simp; done) | (simp; omega) | simp), (by first | omega | rfl | (simp; done) | (simp; omega) | simp)⟩ (by simp [go_sem]) ?_
 rintro i ⟨h1, h2⟩ K1 hK1
 refine okC_seq ?_
 refine okC_rg good ?_
 simp [go_sem]
 repeat (with_reducible refine And.intro ?_ ?_; first | omega | assumption | (simp only [inI]; omega))
 refine okC_if ?_
 simp [go_sem]
 first | refine gC_dec (fun a => ?_) (fun a => ?_) | refine gC_ndec (fun a => ?_) (fun a => ?_) | refine gC_of (fun a => ?_) (fun a => ?_)
 ·try simp at a
  refine okC_skip ?_
  refine okC_seq ?_
  refine okC_block ?_
  obtain ⟨c, hc⟩ := at_of (l := r.fields) (i := i) (by omega)
  refine okC_rg good ?_
  simp [go_sem, hc]
  repeat (with_reducible refine And.intro ?_ ?_; first | omega | assumption | (simp only [inI]; omega))
  first | refine callK_of (fn_spec_l8Field _ (hs2 c (List.mem_of_getElem? hc))) (by simp [go_sem]) ?_ | refine callK_fz (fn_spec_l8Field _ (hs2 c (List.mem_of_getElem? hc))) (by simp [go_sem]) (by simp [go_sem]) ?_
  simp [go_sem, hc]
  repeat (with_reducible refine And.intro ?_ ?_; first | omega | assumption | (simp only [inI]; omega))
  refine okC_if ?_
  simp [go_sem, hc]
  first | refine gC_dec (fun b => ?_) (fun b => ?_) | refine gC_ndec (fun b => ?_) (fun b => ?_) | refine gC_of (fun b => ?_) (fun b => ?_)
  ·try simp at b
   have hn := all_no hc (P := isField) (by first | assumption | (simp; omega) | (simp [*]; done) | (simp [isField, *]; done) | grind [isField] | (simp [isField]; omega))
   refine okC_rg good ?_
   simp [go_sem, hc, hn]
   repeat (with_reducible refine And.intro ?_ ?_; first | omega | assumption | (simp only [inI]; omega))
   refine okC_ret (show K1 _ _ from retE hK1 ?_)
   simp [go_sem, hc, hn]
   all_goals first | done | omega | grind [validRec] | (simp; omega) | (simp_all [validRec]; done) | (simp_all [validRec]; omega)
  ·try simp at b
   refine okC_skip ?_
   refine okC_rg1 good ?_
   simp [go_sem, hc]
   repeat (with_reducible refine And.intro ?_ ?_; first | omega | assumption | (simp only [inI]; omega))
   refine normalE hK1 ⟨i + 1, [], ⟨(by omega), (all_step hc h2 (by first | assumption | (simp; omega) | (simp [*]; done) | (simp [isField, *]; done) | grind [isField] | (simp [isField]; omega)))⟩, (by show _ < _; first | omega | simp <;> omega), (by simp [go_sem, hc])⟩
 ·try simp at a
  refine okC_exit (show K1 _ _ from exitE hK1 ?_)
  have hf := all_fin h2 a
  refine okC_rg good ?_
  simp [go_sem, hf]
  repeat (with_reducible refine And.intro ?_ ?_; first | omega | assumption | (simp only [inI]; omega))
  first | refine callK_of (fn_spec_l1In _ _ _) (by simp [go_sem]) ?_ | refine callK_fz (fn_spec_l1In _ _ _) (by simp [go_sem]) (by simp [go_sem]) ?_
  simp [go_sem, hf]
  repeat (with_reducible refine And.intro ?_ ?_; first | omega | assumption | (simp only [inI]; omega))
  first | refine gI_dec (fun g1 => ?_) (fun g1 => ?_) | refine gI_ndec (fun g1 => ?_) (fun g1 => ?_) | refine gI_of (fun g1 => ?_) (fun g1 => ?_)
  ·have g1' := g1; try simp at g1'
   simp [go_sem, hf, g1]
   repeat (with_reducible refine And.intro ?_ ?_; first | omega | assumption | (simp only [inI]; omega))
   first | refine callK_of (fn_spec_l1In _ _ _) (by simp [go_sem]) ?_ | refine callK_fz (fn_spec_l1In _ _ _) (by simp [go_sem]) (by simp [go_sem]) ?_
   simp [go_sem, hf, g1]
   repeat (with_reducible refine And.intro ?_ ?_; first | omega | assumption | (simp only [inI]; omega))
   first | refine gI_dec (fun g2 => ?_) (fun g2 => ?_) | refine gI_ndec (fun g2 => ?_) (fun g2 => ?_) | refine gI_of (fun g2 => ?_) (fun g2 => ?_)
   ·have g2' := g2; try simp at g2'
    simp [go_sem, hf, g1, g2]
    repeat (with_reducible refine And.intro ?_ ?_; first | omega | assumption | (simp only [inI]; omega))
    first | refine callK_of (fn_spec_l1In _ _ _) (by simp [go_sem]) ?_ | refine callK_fz (fn_spec_l1In _ _ _) (by simp [go_sem]) (by simp [go_sem]) ?_
    simp [go_sem, hf, g1, g2]
    repeat (with_reducible refine And.intro ?_ ?_; first | omega | assumption | (simp only [inI]; omega))
    first | refine gI_dec (fun g3 => ?_) (fun g3 => ?_) | refine gI_ndec (fun g3 => ?_) (fun g3 => ?_) | refine gI_of (fun g3 => ?_) (fun g3 => ?_)
    ·have g3' := g3; try simp at g3'
     simp [go_sem, hf, g1, g2, g3]
     repeat (with_reducible refine And.intro ?_ ?_; first | omega | assumption | (simp only [inI]; omega))
     refine okC_ret ?_
     simp [go_sem, hf, g1, g2, g3]
     all_goals first | done | omega | grind [validRec] | (simp; omega) | (simp_all [validRec]; done) | (simp_all [validRec]; omega)
    ·have g3' := g3; try simp at g3'
     simp [go_sem, hf, g1, g2, g3]
     repeat (with_reducible refine And.intro ?_ ?_; first | omega | assumption | (simp only [inI]; omega))
     refine okC_ret ?_
     simp [go_sem, hf, g1, g2, g3]
     all_goals first | done | omega | grind [validRec] | (simp; omega) | (simp_all [validRec]; done) | (simp_all [validRec]; omega)
   ·have g2' := g2; try simp at g2'
    simp [go_sem, hf, g1, g2]
    repeat (with_reducible refine And.intro ?_ ?_; first | omega | assumption | (simp only [inI]; omega))
    refine okC_ret ?_
    simp [go_sem, hf, g1, g2]
    all_goals first | done | omega | grind [validRec] | (simp; omega) | (simp_all [validRec]; done) | (simp_all [validRec]; omega)
  ·have g1' := g1; try simp at g1'
   simp [go_sem, hf, g1]
   repeat (with_reducible refine And.intro ?_ ?_; first | omega | assumption | (simp only [inI]; omega))
   refine okC_ret ?_
   simp [go_sem, hf, g1]
   all_goals first | done | omega | grind [validRec] | (simp; omega) | (simp_all [validRec]; done) | (simp_all [validRec]; omega)
theorem fn_spec_l29Gone (r : Rec) (hs : r.fields.length ≤ 1048576) : FnOk Tryz.prog 123 [nRec r] (fun res' => res' = .val (dB (goneRec r))) := by
 refine fn_of good (rs := [.tmp 2]) Tryz.func123 rfl Tryz.ntmps123 (by decide) (by simp) rfl fun w0 ow0 => ?_
 refine okC_rg good ?_
 simp [go_sem]
 repeat (with_reducible refine And.intro ?_ ?_; first | omega | assumption | (simp only [inI]; omega))
 refine okC_rg good ?_
 simp [go_sem]
 repeat (with_reducible refine And.intro ?_ ?_; first | omega | assumption | (simp only [inI]; omega))
 first | refine callK_of (fn_spec_l1In _ _ _) (by simp [go_sem]) ?_ | refine callK_fz (fn_spec_l1In _ _ _) (by simp [go_sem]) (by simp [go_sem]) ?_
 simp [go_sem]
 repeat (with_reducible refine And.intro ?_ ?_; first | omega | assumption | (simp only [inI]; omega))
 first | refine gI_dec (fun g1 => ?_) (fun g1 => ?_) | refine gI_ndec (fun g1 => ?_) (fun g1 => ?_) | refine gI_of (fun g1 => ?_) (fun g1 => ?_)
 ·have g1' := g1; try simp at g1'
  simp [go_sem, g1]
  repeat (with_reducible refine And.intro ?_ ?_; first | omega | assumption | (simp only [inI]; omega))
  first | refine callK_of (fn_spec_l1In _ _ _) (by simp [go_sem]) ?_ | refine callK_fz (fn_spec_l1In _ _ _) (by simp [go_sem]) (by simp [go_sem]) ?_
  simp [go_sem, g1]
  repeat (with_reducible refine And.intro ?_ ?_; first | omega | assumption | (simp only [inI]; omega))
  first | refine gI_dec (fun g2 => ?_) (fun g2 => ?_) | refine gI_ndec (fun g2 => ?_) (fun g2 => ?_) | refine gI_of (fun g2 => ?_) (fun g2 => ?_)
  ·have g2' := g2; try simp at g2'
   simp [go_sem, g1, g2]
   repeat (with_reducible refine And.intro ?_ ?_; first | omega | assumption | (simp only [inI]; omega))
   first | refine callK_of (fn_spec_l1In _ _ _) (by simp [go_sem]) ?_ | refine callK_fz (fn_spec_l1In _ _ _) (by simp [go_sem]) (by simp [go_sem]) ?_
   simp [go_sem, g1, g2]
   repeat (with_reducible refine And.intro ?_ ?_; first | omega | assumption | (simp only [inI]; omega))
   first | refine gI_dec (fun g3 => ?_) (fun g3 => ?_) | refine gI_ndec (fun g3 => ?_) (fun g3 => ?_) | refine gI_of (fun g3 => ?_) (fun g3 => ?_)
   ·have g3' := g3; try simp at g3'
    simp [go_sem, g1, g2, g3]
    repeat (with_reducible refine And.intro ?_ ?_; first | omega | assumption | (simp only [inI]; omega))
    refine okC_ret ?_
    simp [go_sem, g1, g2, g3]
    all_goals first | done | omega | grind [goneRec] | (simp; omega) | (simp_all [goneRec]; done) | (simp_all [goneRec]; omega)
   ·have g3' := g3; try simp at g3'
    simp [go_sem, g1, g2, g3]
    repeat (with_reducible refine And.intro ?_ ?_; first | omega | assumption | (simp only [inI]; omega))
    refine okC_ret ?_
    simp [go_sem, g1, g2, g3]
    all_goals first | done | omega | grind [goneRec] | (simp; omega) | (simp_all [goneRec]; done) | (simp_all [goneRec]; omega)
  ·have g2' := g2; try simp at g2'
   simp [go_sem, g1, g2]
   repeat (with_reducible refine And.intro ?_ ?_; first | omega | assumption | (simp only [inI]; omega))
   refine okC_ret ?_
   simp [go_sem, g1, g2]
   all_goals first | done | omega | grind [goneRec] | (simp; omega) | (simp_all [goneRec]; done) | (simp_all [goneRec]; omega)
 ·have g1' := g1; try simp at g1'
  simp [go_sem, g1]
  repeat (with_reducible refine And.intro ?_ ?_; first | omega | assumption | (simp only [inI]; omega))
  refine okC_ret ?_
  simp [go_sem, g1]
  all_goals first | done | omega | grind [goneRec] | (simp; omega) | (simp_all [goneRec]; done) | (simp_all [goneRec]; omega)
theorem fn_spec_l29Zero (r : Rec) (hs : r.fields.length ≤ 1048576) : FnOk Tryz.prog 125 [nRec r] (fun res' => res' = .val (dB (zeroRec r))) := by
 refine fn_of good (rs := [.tmp 2]) Tryz.func125 rfl Tryz.ntmps125 (by decide) (by simp) rfl fun w0 ow0 => ?_
 refine okC_rg good ?_
 simp [go_sem]
 repeat (with_reducible refine And.intro ?_ ?_; first | omega | assumption | (simp only [inI]; omega))
 refine okC_rg good ?_
 simp [go_sem]
 repeat (with_reducible refine And.intro ?_ ?_; first | omega | assumption | (simp only [inI]; omega))
 first | refine gI_dec (fun g1 => ?_) (fun g1 => ?_) | refine gI_ndec (fun g1 => ?_) (fun g1 => ?_) | refine gI_of (fun g1 => ?_) (fun g1 => ?_)
 ·have g1' := g1; try simp at g1'
  simp [go_sem, g1]
  repeat (with_reducible refine And.intro ?_ ?_; first | omega | assumption | (simp only [inI]; omega))
  first | refine gI_dec (fun g2 => ?_) (fun g2 => ?_) | refine gI_ndec (fun g2 => ?_) (fun g2 => ?_) | refine gI_of (fun g2 => ?_) (fun g2 => ?_)
  ·have g2' := g2; try simp at g2'
   simp [go_sem, g1, g2]
   repeat (with_reducible refine And.intro ?_ ?_; first | omega | assumption | (simp only [inI]; omega))
   first | refine gI_dec (fun g3 => ?_) (fun g3 => ?_) | refine gI_ndec (fun g3 => ?_) (fun g3 => ?_) | refine gI_of (fun g3 => ?_) (fun g3 => ?_)
   ·have g3' := g3; try simp at g3'
    simp [go_sem, g1, g2, g3]
    repeat (with_reducible refine And.intro ?_ ?_; first | omega | assumption | (simp only [inI]; omega))
    refine okC_ret ?_
    simp [go_sem, g1, g2, g3]
    all_goals first | done | omega | grind [zeroRec] | (simp; omega) | (simp_all [zeroRec]; done) | (simp_all [zeroRec]; omega)
   ·have g3' := g3; try simp at g3'
    simp [go_sem, g1, g2, g3]
    repeat (with_reducible refine And.intro ?_ ?_; first | omega | assumption | (simp only [inI]; omega))
    refine okC_ret ?_
    simp [go_sem, g1, g2, g3]
    all_goals first | done | omega | grind [zeroRec] | (simp; omega) | (simp_all [zeroRec]; done) | (simp_all [zeroRec]; omega)
  ·have g2' := g2; try simp at g2'
   simp [go_sem, g1, g2]
   repeat (with_reducible refine And.intro ?_ ?_; first | omega | assumption | (simp only [inI]; omega))
   refine okC_ret ?_
   simp [go_sem, g1, g2]
   all_goals first | done | omega | grind [zeroRec] | (simp; omega) | (simp_all [zeroRec]; done) | (simp_all [zeroRec]; omega)
 ·have g1' := g1; try simp at g1'
  simp [go_sem, g1]
  repeat (with_reducible refine And.intro ?_ ?_; first | omega | assumption | (simp only [inI]; omega))
  refine okC_ret ?_
  simp [go_sem, g1]
  all_goals first | done | omega | grind [zeroRec] | (simp; omega) | (simp_all [zeroRec]; done) | (simp_all [zeroRec]; omega)
theorem ver0_eq {v : Ver} : (v = ver0) = (v.a = 0 ∧ v.b = 0 ∧ v.same = false ∧ v.time = 0) := by cases v; simp [ver0]
theorem fn_spec_IsValidOp (o : Opn) (hs : smallO o) : FnOk Tryz.prog 82 [nOp o] (fun res' => res' = .val (dB (validOp o))) := by
 refine fn_of good (rs := [.tmp 2]) Tryz.func82 rfl Tryz.ntmps82 (by decide) (by simp) rfl fun w0 ow0 => ?_
 have hs1 := hs.1
 refine okC_rg good ?_
 simp [go_sem]
 repeat (with_reducible refine And.intro ?_ ?_; first | omega | assumption | (simp only [inI]; omega))
 refine okC_rg good ?_
 simp [go_sem]
 repeat (with_reducible refine And.intro ?_ ?_; first | omega | assumption | (simp only [inI]; omega))
 refine okC_seq ?_
 refine okC_rg good ?_
 simp [go_sem]
 repeat (with_reducible refine And.intro ?_ ?_; first | omega | assumption | (simp only [inI]; omega))
 refine okC_block ?_
 refine okC_rg good ?_
 simp [go_sem]
 repeat (with_reducible refine And.intro ?_ ?_; first | omega | assumption | (simp only [inI]; omega))
 refine okC_if ?_
 simp [go_sem]
 first | refine gC_dec (fun k1 => ?_) (fun k1 => ?_) | refine gC_ndec (fun k1 => ?_) (fun k1 => ?_) | refine gC_of (fun k1 => ?_) (fun k1 => ?_)
 ·try simp at k1
  refine okC_rg good ?_
  simp [go_sem]
  repeat (with_reducible refine And.intro ?_ ?_; first | omega | assumption | (simp only [inI]; omega))
  first | refine callK_of (fn_spec_IsValidRecord o.rc hs) (by simp [go_sem]) ?_ | refine callK_fz (fn_spec_IsValidRecord o.rc hs) (by simp [go_sem]) (by simp [go_sem]) ?_
  simp [go_sem]
  repeat (with_reducible refine And.intro ?_ ?_; first | omega | assumption | (simp only [inI]; omega))
  first | refine gI_dec (fun e => ?_) (fun e => ?_) | refine gI_ndec (fun e => ?_) (fun e => ?_) | refine gI_of (fun e => ?_) (fun e => ?_)
  ·have e' := e; try simp at e'
   simp [go_sem, e]
   repeat (with_reducible refine And.intro ?_ ?_; first | omega | assumption | (simp only [inI]; omega))
   refine okC_ret ?_
   simp [go_sem, e]
   simp [validOp, k1, e, ver0_eq]
  ·have e' := e; try simp at e'
   simp [go_sem, e]
   repeat (with_reducible refine And.intro ?_ ?_; first | omega | assumption | (simp only [inI]; omega))
   refine okC_ret ?_
   simp [go_sem, e]
   simp [validOp, k1, e]
 ·try simp at k1
  refine okC_rg good ?_
  simp [go_sem]
  repeat (with_reducible refine And.intro ?_ ?_; first | omega | assumption | (simp only [inI]; omega))
  refine okC_if ?_
  simp [go_sem]
  first | refine gC_dec (fun k2 => ?_) (fun k2 => ?_) | refine gC_ndec (fun k2 => ?_) (fun k2 => ?_) | refine gC_of (fun k2 => ?_) (fun k2 => ?_)
  ·try simp at k2
   refine okC_rg good ?_
   simp [go_sem]
   repeat (with_reducible refine And.intro ?_ ?_; first | omega | assumption | (simp only [inI]; omega))
   first | refine callK_of (fn_spec_l29Gone o.rc hs1) (by simp [go_sem]) ?_ | refine callK_fz (fn_spec_l29Gone o.rc hs1) (by simp [go_sem]) (by simp [go_sem]) ?_
   simp [go_sem]
   repeat (with_reducible refine And.intro ?_ ?_; first | omega | assumption | (simp only [inI]; omega))
   first | refine gI_dec (fun e => ?_) (fun e => ?_) | refine gI_ndec (fun e => ?_) (fun e => ?_) | refine gI_of (fun e => ?_) (fun e => ?_)
   ·have e' := e; try simp at e'
    simp [go_sem, e]
    repeat (with_reducible refine And.intro ?_ ?_; first | omega | assumption | (simp only [inI]; omega))
    refine okC_ret ?_
    simp [go_sem, e]
    simp [validOp, k1, k2, e, ver0_eq]
   ·have e' := e; try simp at e'
    simp [go_sem, e]
    repeat (with_reducible refine And.intro ?_ ?_; first | omega | assumption | (simp only [inI]; omega))
    refine okC_ret ?_
    simp [go_sem, e]
    simp [validOp, k1, k2, e]
  ·try simp at k2
   refine okC_seq ?_
   refine okC_rg good ?_
   simp [go_sem]
   repeat (with_reducible refine And.intro ?_ ?_; first | omega | assumption | (simp only [inI]; omega))
   refine okC_if ?_
   simp [go_sem]
   first | refine gC_dec (fun k3 => ?_) (fun k3 => ?_) | refine gC_ndec (fun k3 => ?_) (fun k3 => ?_) | refine gC_of (fun k3 => ?_) (fun k3 => ?_)
   ·try simp at k3
    refine okC_skip ?_
    refine okC_if ?_
    simp [go_sem, k3]
    refine okC_rg good ?_
    simp [go_sem, k3]
    repeat (with_reducible refine And.intro ?_ ?_; first | omega | assumption | (simp only [inI]; omega))
    first | refine callK_of (fn_spec_IsValidVerdict _) (by simp [go_sem]) ?_ | refine callK_fz (fn_spec_IsValidVerdict _) (by simp [go_sem]) (by simp [go_sem]) ?_
    simp [go_sem, k3]
    repeat (with_reducible refine And.intro ?_ ?_; first | omega | assumption | (simp only [inI]; omega))
    first | refine gI_dec (fun e => ?_) (fun e => ?_) | refine gI_ndec (fun e => ?_) (fun e => ?_) | refine gI_of (fun e => ?_) (fun e => ?_)
    ·have e' := e; try simp at e'
     simp [go_sem, k3, e]
     repeat (with_reducible refine And.intro ?_ ?_; first | omega | assumption | (simp only [inI]; omega))
     first | refine callK_of (fn_spec_l29Zero o.rc hs1) (by simp [go_sem]) ?_ | refine callK_fz (fn_spec_l29Zero o.rc hs1) (by simp [go_sem]) (by simp [go_sem]) ?_
     simp [go_sem, k3, e]
     repeat (with_reducible refine And.intro ?_ ?_; first | omega | assumption | (simp only [inI]; omega))
     refine okC_ret ?_
     simp [go_sem, k3, e]
     simp [validOp, k1, k2, k3, e]
    ·have e' := e; try simp at e'
     simp [go_sem, k3, e]
     repeat (with_reducible refine And.intro ?_ ?_; first | omega | assumption | (simp only [inI]; omega))
     refine okC_ret ?_
     simp [go_sem, k3, e]
     simp [validOp, k1, k2, k3, e]
   ·try simp at k3
    refine okC_rg1 good ?_
    simp [go_sem]
    repeat (with_reducible refine And.intro ?_ ?_; first | omega | assumption | (simp only [inI]; omega))
    refine okC_if ?_
    simp [go_sem]
    first | refine gC_dec (fun k4 => ?_) (fun k4 => ?_) | refine gC_ndec (fun k4 => ?_) (fun k4 => ?_) | refine gC_of (fun k4 => ?_) (fun k4 => ?_)
    ·try simp at k4
     refine okC_rg good ?_
     simp [go_sem, k4]
     repeat (with_reducible refine And.intro ?_ ?_; first | omega | assumption | (simp only [inI]; omega))
     first | refine callK_of (fn_spec_IsValidVerdict _) (by simp [go_sem]) ?_ | refine callK_fz (fn_spec_IsValidVerdict _) (by simp [go_sem]) (by simp [go_sem]) ?_
     simp [go_sem, k4]
     repeat (with_reducible refine And.intro ?_ ?_; first | omega | assumption | (simp only [inI]; omega))
     first | refine gI_dec (fun e => ?_) (fun e => ?_) | refine gI_ndec (fun e => ?_) (fun e => ?_) | refine gI_of (fun e => ?_) (fun e => ?_)
     ·have e' := e; try simp at e'
      simp [go_sem, k4, e]
      repeat (with_reducible refine And.intro ?_ ?_; first | omega | assumption | (simp only [inI]; omega))
      first | refine callK_of (fn_spec_l29Zero o.rc hs1) (by simp [go_sem]) ?_ | refine callK_fz (fn_spec_l29Zero o.rc hs1) (by simp [go_sem]) (by simp [go_sem]) ?_
      simp [go_sem, k4, e]
      repeat (with_reducible refine And.intro ?_ ?_; first | omega | assumption | (simp only [inI]; omega))
      refine okC_ret ?_
      simp [go_sem, k4, e]
      simp [validOp, k1, k2, k3, k4, e]
     ·have e' := e; try simp at e'
      simp [go_sem, k4, e]
      repeat (with_reducible refine And.intro ?_ ?_; first | omega | assumption | (simp only [inI]; omega))
      refine okC_ret ?_
      simp [go_sem, k4, e]
      simp [validOp, k1, k2, k3, k4, e]
    ·try simp at k4
     refine okC_skip ?_
     refine okC_rg good ?_
     simp [go_sem]
     repeat (with_reducible refine And.intro ?_ ?_; first | omega | assumption | (simp only [inI]; omega))
     refine okC_ret ?_
     simp [go_sem]
     simp [validOp, k1, k2, k3, k4]
theorem fn_spec_IsValidBatch (l : List Opn) (hs : smallB l) : FnOk Tryz.prog 47 [nBat l] (fun res' => res' = .val (dB (validBat l))) := by
 refine fn_of good (rs := [.tmp 2]) Tryz.func47 rfl Tryz.ntmps47 (by decide) (by simp) rfl fun w0 ow0 => ?_
 obtain ⟨hs1, hs2⟩ := hs
 refine okC_rg good ?_
 simp [go_sem]
 repeat (with_reducible refine And.intro ?_ ?_; first | omega | assumption | (simp only [inI]; omega))
 refine okC_seq ?_
 refine okC_rg good ?_
 simp [go_sem]
 repeat (with_reducible refine And.intro ?_ ?_; first | omega | assumption | (simp only [inI]; omega))
 refine okC_block ?_
 refine okC_rounds (fun (i : Nat) => [(1, .own (.bx true (nBat l))), (3, .val (dI i))]) (fun (i : Nat) => (l).length - i) (fun (i : Nat) => (i ≤ (l).length) ∧ (((l).take i).all validOp = true)) (0) [] ⟨(by first | omega | rfl | (simp; done) | (simp; omega) | simp), (by first | omega | rfl | (simp; done) | (simp; omega) | simp)⟩ (by simp [go_sem]) ?_
 rintro i ⟨h1, h2⟩ K1 hK1
 refine okC_seq ?_
 refine okC_rg good ?_
 simp [go_sem]
 repeat (with_reducible refine And.intro ?_ ?_; first | omega | assumption | (simp only [inI]; omega))
 refine okC_if ?_
 simp [go_sem]
 first | refine gC_dec (fun a => ?_) (fun a => ?_) | refine gC_ndec (fun a => ?_) (fun a => ?_) | refine gC_of (fun a => ?_) (fun a => ?_)
 ·try simp at a
  refine okC_skip ?_
  refine okC_seq ?_
  refine okC_block ?_
  obtain ⟨c, hc⟩ := at_of (l := l) (i := i) (by omega)
  refine okC_rg good ?_
  simp [go_sem, hc]
  repeat (with_reducible refine And.intro ?_ ?_; first | omega | assumption | (simp only [inI]; omega))
  first | refine callK_of (fn_spec_IsValidOp _ (hs2 c (List.mem_of_getElem? hc))) (by simp [go_sem]) ?_ | refine callK_fz (fn_spec_IsValidOp _ (hs2 c (List.mem_of_getElem? hc))) (by simp [go_sem]) (by simp [go_sem]) ?_
  simp [go_sem, hc]
  repeat (with_reducible refine And.intro ?_ ?_; first | omega | assumption | (simp only [inI]; omega))
  refine okC_if ?_
  simp [go_sem, hc]
  first | refine gC_dec (fun b => ?_) (fun b => ?_) | refine gC_ndec (fun b => ?_) (fun b => ?_) | refine gC_of (fun b => ?_) (fun b => ?_)
  ·try simp at b
   have hn := all_no hc (P := validOp) (by first | assumption | (simp; omega) | (simp [*]; done) | (simp [validOp, *]; done) | grind [validOp] | (simp [validOp]; omega))
   refine okC_rg good ?_
   simp [go_sem, hc, hn]
   repeat (with_reducible refine And.intro ?_ ?_; first | omega | assumption | (simp only [inI]; omega))
   refine okC_ret (show K1 _ _ from retE hK1 ?_)
   simp [go_sem, hc, hn]
   all_goals first | done | omega | grind [validBat] | (simp; omega) | (simp_all [validBat]; done) | (simp_all [validBat]; omega)
  ·try simp at b
   refine okC_skip ?_
   refine okC_rg1 good ?_
   simp [go_sem, hc]
   repeat (with_reducible refine And.intro ?_ ?_; first | omega | assumption | (simp only [inI]; omega))
   refine normalE hK1 ⟨i + 1, [], ⟨(by omega), (all_step hc h2 (by first | assumption | (simp; omega) | (simp [*]; done) | (simp [validOp, *]; done) | grind [validOp] | (simp [validOp]; omega)))⟩, (by show _ < _; first | omega | simp <;> omega), (by simp [go_sem, hc])⟩
 ·try simp at a
  refine okC_exit (show K1 _ _ from exitE hK1 ?_)
  have hf := all_fin h2 a
  refine okC_rg good ?_
  simp [go_sem, hf]
  repeat (with_reducible refine And.intro ?_ ?_; first | omega | assumption | (simp only [inI]; omega))
  refine okC_ret ?_
  simp [go_sem, hf]
  all_goals first | done | omega | grind [validBat] | (simp; omega) | (simp_all [validBat]; done) | (simp_all [validBat]; omega)
end Go.Proofs.YtfhfidecmdhkoaaGreatDoor

end
section
set_option maxRecDepth 10000
namespace Go.Proofs.YtfhfidecmdhkoaaGreatDoor
open Go.Dv Go.Pl
theorem fn_spec_FormatInt (n : Int) (hn : -9000000000000000000 ≤ n ∧ n ≤ 9000000000000000000) : FnOk Tryz.prog 48 [dI n] (fun res' => res' = .val (dS (fmtI n))) := by
 refine fn_of good (rs := [.tmp 2]) Tryz.func48 rfl Tryz.ntmps48 (by decide) (by simp) rfl fun w0 ow0 => ?_
 refine okC_rg good ?_
 simp [go_sem]
 repeat (with_reducible refine And.intro ?_ ?_; first | omega | assumption | (simp only [inI]; omega))
 refine okC_seq ?_
 refine okC_rg good ?_
 simp [go_sem]
 repeat (with_reducible refine And.intro ?_ ?_; first | omega | assumption | (simp only [inI]; omega))
 refine okC_if ?_
 simp [go_sem]
 first | refine gC_dec (fun e => ?_) (fun e => ?_) | refine gC_ndec (fun e => ?_) (fun e => ?_) | refine gC_of (fun e => ?_) (fun e => ?_)
 ·try simp at e
  have hr : fmtI n = [48] := if_pos e
  refine okC_rg good ?_
  simp [go_sem, hr]
  repeat (with_reducible refine And.intro ?_ ?_; first | omega | assumption | (simp only [inI]; omega))
  refine okC_ret ?_
  simp [go_sem, hr]
  all_goals first | done | omega | grind | (simp; omega) | (simp_all; done) | (simp_all; omega)
 ·try simp at e
  refine okC_skip ?_
  refine okC_rg good ?_
  simp [go_sem]
  repeat (with_reducible refine And.intro ?_ ?_; first | omega | assumption | (simp only [inI]; omega))
  refine okC_rg good ?_
  simp [go_sem]
  repeat (with_reducible refine And.intro ?_ ?_; first | omega | assumption | (simp only [inI]; omega))
  refine okC_seq ?_
  refine okC_block ?_
  refine okC_rounds (fun (x' : (Int) × (Str)) => match x' with | (k, s) => [(0, .val (dI k)), (3, .val (dS s)), (4, .val (dB (decide (n < 0))))]) (fun (x' : (Int) × (Str)) => match x' with | (k, s) => k.natAbs) (fun (x' : (Int) × (Str)) => match x' with | (k, s) => (natDec k.natAbs ++ s = natDec n.natAbs) ∧ (k.natAbs ≤ n.natAbs)) ((n, [])) [] ⟨(by simp), (by simp)⟩ (by simp [go_sem]) ?_
  rintro ⟨k, s⟩ ⟨h1, h2⟩ K1 hK1
  simp only at h1 h2 ⊢
  refine okC_seq ?_
  have hlen : s.length ≤ 19 := by have h3 := congrArg List.length h1; have h4 := natDec_len n.natAbs 19 (by rw [show (10:Nat)^19 = 10000000000000000000 by rfl]; omega); simp only [List.length_append] at h3; omega
  refine okC_rg good ?_
  simp [go_sem]
  repeat (with_reducible refine And.intro ?_ ?_; first | omega | assumption | (simp only [inI]; omega))
  refine okC_if ?_
  simp [go_sem]
  first | refine gC_dec (fun a => ?_) (fun a => ?_) | refine gC_ndec (fun a => ?_) (fun a => ?_) | refine gC_of (fun a => ?_) (fun a => ?_)
  ·try simp at a
   refine okC_skip ?_
   refine okC_block ?_
   have ht : (k.tmod 10).natAbs = k.natAbs % 10 := Int.natAbs_tmod k 10
   have hq : (k.tdiv 10).natAbs = k.natAbs / 10 := Int.natAbs_tdiv k 10
   have hqi := inI_tdivs (a := k) (b := 10) (by omega) (by omega)
   have hdec := natDec_pos (m := k.natAbs) (by omega)
   generalize hT : k.tmod 10 = t at ht ⊢
   generalize hQ : k.tdiv 10 = q at hq hqi ⊢
   refine okC_rg good ?_
   simp [go_sem, hT, hQ, hqi]
   repeat (with_reducible refine And.intro ?_ ?_; first | omega | assumption | (simp only [inI]; omega))
   refine okC_cut (fun (_ : Unit) => [(0, .val (dI k)), (3, .val (dS s)), (4, .val (dB (decide (n < 0)))), (5, .val (dI (k.natAbs % 10 : Nat)))]) (fun (_ : Unit) => True) ?_ ?_
   rotate_left
   ·rintro K2 hK2
    refine okC_rg good ?_
    simp [go_sem, hT, hQ, hqi]
    repeat (with_reducible refine And.intro ?_ ?_; first | omega | assumption | (simp only [inI]; omega))
    refine okC_if ?_
    simp [go_sem, hT, hQ, hqi]
    first | refine gC_dec (fun b => ?_) (fun b => ?_) | refine gC_ndec (fun b => ?_) (fun b => ?_) | refine gC_of (fun b => ?_) (fun b => ?_)
    ·try simp at b
     have hj : -t = (k.natAbs : Int) % 10 := by omega
     refine okC_rg1 good ?_
     simp [go_sem, hT, hQ, hqi, hj]
     repeat (with_reducible refine And.intro ?_ ?_; first | omega | assumption | (simp only [inI]; omega))
     refine normalE hK2 ⟨(), [], trivial, (by simp [go_sem, hT, hQ, hqi, hj])⟩
    ·try simp at b
     refine okC_skip ?_
     have hj : t = (k.natAbs : Int) % 10 := by omega
     refine normalE hK2 ⟨(), [], trivial, (by simp [go_sem, hT, hQ, hqi, hj])⟩
   rintro ⟨⟩ -
   try simp only
   obtain ⟨c, hc⟩ : ∃ c : UInt8, c = UInt8.ofNat (48 + k.natAbs % 10) := ⟨_, rfl⟩
   have hu8 : (48 + (k.natAbs : Int) % 10) % 256 = (c.toNat : Int) := by rw [hc, UInt8.toNat_ofNat']; omega
   have hu9 : IntKind.u8.wrap (48 + (k.natAbs : Int) % 10) = (c.toNat : Int) := by rw [← hu8]; simp [IntKind.wrap, IntKind.bits, IntKind.signed]
   refine okC_rg good ?_
   simp [go_sem, hT, hQ, hqi, hu9]
   repeat (with_reducible refine And.intro ?_ ?_; first | omega | assumption | (simp only [inI]; omega))
   refine okC_rg1 good ?_
   simp [go_sem, hT, hQ, hqi, hu9]
   repeat (with_reducible refine And.intro ?_ ?_; first | omega | assumption | (simp only [inI]; omega))
   refine show K1 .normal _ from normalE hK1 ⟨(q, c :: s), [], ⟨(by rw [hq, ← h1, hdec, hc]; simp), (by omega)⟩, (by show _ < _; first | omega | simp <;> omega), (by simp [go_sem, hT, hQ, hqi, hu9])⟩
  ·try simp at a
   refine okC_exit (show K1 _ _ from exitE hK1 ?_)
   refine okC_seq ?_
   have hk : k = 0 := by omega
   rw [hk] at h1
   have hs : s = natDec n.natAbs := by simpa [natDec_zero] using h1
   refine okC_rg good ?_
   simp [go_sem]
   repeat (with_reducible refine And.intro ?_ ?_; first | omega | assumption | (simp only [inI]; omega))
   refine okC_if ?_
   simp [go_sem]
   first | refine gC_dec (fun b => ?_) (fun b => ?_) | refine gC_ndec (fun b => ?_) (fun b => ?_) | refine gC_of (fun b => ?_) (fun b => ?_)
   ·try simp at b
    have hr : fmtI n = 45 :: s := by rw [fmtI, if_neg e, if_pos (by omega), hs]; rfl
    refine okC_rg good ?_
    simp [go_sem, hr]
    repeat (with_reducible refine And.intro ?_ ?_; first | omega | assumption | (simp only [inI]; omega))
    refine okC_ret ?_
    simp [go_sem, hr]
    all_goals first | done | omega | grind | (simp; omega) | (simp_all; done) | (simp_all; omega)
   ·try simp at b
    refine okC_skip ?_
    have hr : fmtI n = s := by rw [fmtI, if_neg e, if_neg (by omega), hs]; rfl
    refine okC_rg good ?_
    simp [go_sem, hr]
    repeat (with_reducible refine And.intro ?_ ?_; first | omega | assumption | (simp only [inI]; omega))
    refine okC_ret ?_
    simp [go_sem, hr]
    all_goals first | done | omega | grind | (simp; omega) | (simp_all; done) | (simp_all; omega)
theorem pow_le {i : Nat} (h : i ≤ 11) : (10 : Int) ^ i ≤ 100000000000 := by
 have h1 : (10 : Nat) ^ i ≤ 10 ^ 11 := Nat.pow_le_pow_right (by omega) h
 have h2 : ((10 ^ i : Nat) : Int) ≤ ((10 ^ 11 : Nat) : Int) := by exact_mod_cast h1
 simpa using h2
theorem getI_eq (s : Str) : getI s = if parseB s = true then parseV s else 0 := by unfold getI readI; split <;> rfl
theorem fn_spec_ParseInt (s : Str) (hs : s.length ≤ 1048576) : FnOk Tryz.prog 60 [dS s] (fun res' => res' = .tup [.val (dI (getI s)), .val (dB (parseB s))]) := by
 rw [getI_eq]
 refine fn_of good (rs := [.tmp 2, .tmp 3]) Tryz.func60 rfl Tryz.ntmps60 (by decide) (by simp) rfl fun w0 ow0 => ?_
 refine okC_rg good ?_
 simp [go_sem]
 repeat (with_reducible refine And.intro ?_ ?_; first | omega | assumption | (simp only [inI]; omega))
 refine okC_rg good ?_
 simp [go_sem]
 repeat (with_reducible refine And.intro ?_ ?_; first | omega | assumption | (simp only [inI]; omega))
 refine okC_rg good ?_
 simp [go_sem]
 repeat (with_reducible refine And.intro ?_ ?_; first | omega | assumption | (simp only [inI]; omega))
 refine okC_cut (fun (x' : (Int) × (Int)) => match x' with | (v, d) => [(0, .val (dS s)), (4, .val (dI v)), (5, .val (dI d))]) (fun (x' : (Int) × (Int)) => match x' with | (v, d) => ((v, d) = parseN s) ∧ (0 ≤ v ∧ v ≤ 100000000000) ∧ (0 ≤ d ∧ d ≤ 11)) ?_ ?_
 rotate_left
 ·rintro K1 hK1
  refine okC_rg good ?_
  simp [go_sem]
  repeat (with_reducible refine And.intro ?_ ?_; first | omega | assumption | (simp only [inI]; omega))
  refine okC_block ?_
  refine okC_rounds (fun (x' : (Nat) × (Int) × (Int)) => match x' with | (i, v, d) => [(0, .val (dS s)), (4, .val (dI v)), (5, .val (dI d)), (6, .val (dI i))]) (fun (x' : (Nat) × (Int) × (Int)) => match x' with | (i, v, d) => s.length - i) (fun (x' : (Nat) × (Int) × (Int)) => match x' with | (i, v, d) => (i ≤ s.length ∧ i ≤ 11) ∧ ((v, d) = (s.take i).foldl pStep (0, 0)) ∧ (0 ≤ v ∧ v < 10 ^ i) ∧ (0 ≤ d ∧ d ≤ i)) ((0, 0, 0)) [] ⟨(by simp), (rfl), (by simp), (by simp)⟩ (by simp [go_sem]) ?_
  rintro ⟨i, v, d⟩ ⟨h1, h2, h3, h4⟩ K2 hK2
  simp only at h1 h2 h3 h4 ⊢
  refine okC_seq ?_
  have hp11 : (10 : Int) ^ i ≤ 100000000000 := pow_le (by omega)
  refine okC_rg good ?_
  simp [go_sem]
  repeat (with_reducible refine And.intro ?_ ?_; first | omega | assumption | (simp only [inI]; omega))
  first | refine gI_dec (fun a => ?_) (fun a => ?_) | refine gI_ndec (fun a => ?_) (fun a => ?_) | refine gI_of (fun a => ?_) (fun a => ?_)
  ·have a' := a; try simp at a'
   simp [go_sem, a]
   repeat (with_reducible refine And.intro ?_ ?_; first | omega | assumption | (simp only [inI]; omega))
   refine okC_if ?_
   simp [go_sem, a]
   first | refine gC_dec (fun b => ?_) (fun b => ?_) | refine gC_ndec (fun b => ?_) (fun b => ?_) | refine gC_of (fun b => ?_) (fun b => ?_)
   ·try simp at b
    refine okC_skip ?_
    refine okC_seq ?_
    refine okC_block ?_
    obtain ⟨c, hc⟩ := at_of (l := s) (i := i) (by omega)
    have hm := foldl_snoc pStep (0, 0) hc
    rw [← h2] at hm
    refine okC_rg good ?_
    simp [go_sem, hc]
    repeat (with_reducible refine And.intro ?_ ?_; first | omega | assumption | (simp only [inI]; omega))
    first | refine gI_dec (fun e => ?_) (fun e => ?_) | refine gI_ndec (fun e => ?_) (fun e => ?_) | refine gI_of (fun e => ?_) (fun e => ?_)
    ·have e' := e; try simp at e'
     simp [go_sem, hc, e]
     repeat (with_reducible refine And.intro ?_ ?_; first | omega | assumption | (simp only [inI]; omega))
     refine okC_if ?_
     simp [go_sem, hc, e]
     first | refine gC_dec (fun f => ?_) (fun f => ?_) | refine gC_ndec (fun f => ?_) (fun f => ?_) | refine gC_of (fun f => ?_) (fun f => ?_)
     ·try simp at f
      have hu : pStep (v, d) c = (v * 10 + (c.toNat - 48), d + 1) := if_pos ⟨by omega, by omega⟩
      have hw : IntKind.i64.wrap ((c.toNat : Int) - 48) = c.toNat - 48 := by simp [IntKind.wrap, IntKind.bits, IntKind.signed]; omega
      have hps : (10 : Int) ^ (i + 1) = 10 ^ i * 10 := Int.pow_succ 10 i
      refine okC_rg good ?_
      simp [go_sem, hc, e, hw]
      repeat (with_reducible refine And.intro ?_ ?_; first | omega | assumption | (simp only [inI]; omega))
      refine okC_rg1 good ?_
      simp [go_sem, hc, e, hw]
      repeat (with_reducible refine And.intro ?_ ?_; first | omega | assumption | (simp only [inI]; omega))
      refine okC_rg1 good ?_
      simp [go_sem, hc, e, hw]
      repeat (with_reducible refine And.intro ?_ ?_; first | omega | assumption | (simp only [inI]; omega))
      refine normalE hK2 ⟨(i + 1, v * 10 + (c.toNat - 48), d + 1), [], ⟨(by omega), (by rw [hm, hu]), (by rw [hps]; omega), (by omega)⟩, (by show _ < _; first | omega | simp <;> omega), (by simp [go_sem, hc, e, hw])⟩
     ·try simp at f
      refine okC_skip ?_
      have hu : pStep (v, d) c = (v, d) := if_neg (by omega)
      have hps : (10 : Int) ^ (i + 1) = 10 ^ i * 10 := Int.pow_succ 10 i
      refine okC_rg1 good ?_
      simp [go_sem, hc, e]
      repeat (with_reducible refine And.intro ?_ ?_; first | omega | assumption | (simp only [inI]; omega))
      refine normalE hK2 ⟨(i + 1, v, d), [], ⟨(by omega), (by rw [hm, hu]), (by rw [hps]; omega), (by omega)⟩, (by show _ < _; first | omega | simp <;> omega), (by simp [go_sem, hc, e])⟩
    ·have e' := e; try simp at e'
     simp [go_sem, hc, e]
     repeat (with_reducible refine And.intro ?_ ?_; first | omega | assumption | (simp only [inI]; omega))
     refine okC_if ?_
     simp [go_sem, hc, e]
     refine okC_skip ?_
     have hu : pStep (v, d) c = (v, d) := if_neg (by omega)
     have hps : (10 : Int) ^ (i + 1) = 10 ^ i * 10 := Int.pow_succ 10 i
     refine okC_rg1 good ?_
     simp [go_sem, hc, e]
     repeat (with_reducible refine And.intro ?_ ?_; first | omega | assumption | (simp only [inI]; omega))
     refine normalE hK2 ⟨(i + 1, v, d), [], ⟨(by omega), (by rw [hm, hu]), (by rw [hps]; omega), (by omega)⟩, (by show _ < _; first | omega | simp <;> omega), (by simp [go_sem, hc, e])⟩
   ·try simp at b
    refine okC_exit (show K2 _ _ from exitE hK2 ?_)
    refine normalE hK1 ⟨(v, d), [], ⟨(by rw [h2, parseN, show i = 11 by omega]), (by omega), (by omega)⟩, (by simp [go_sem, a])⟩
  ·have a' := a; try simp at a'
   simp [go_sem, a]
   repeat (with_reducible refine And.intro ?_ ?_; first | omega | assumption | (simp only [inI]; omega))
   refine okC_if ?_
   simp [go_sem, a]
   refine okC_exit (show K2 _ _ from exitE hK2 ?_)
   refine normalE hK1 ⟨(v, d), [], ⟨(by rw [h2, parseN, List.take_of_length_le (show s.length ≤ i by omega), List.take_of_length_le (show s.length ≤ 11 by omega)]), (by omega), (by omega)⟩, (by simp [go_sem, a])⟩
 rintro ⟨v, d⟩ ⟨h5, h6, h7⟩
 simp only at h5 h6 h7 ⊢
 have hv : (parseN s).1 = v := by rw [← h5]
 have hd : (parseN s).2 = d := by rw [← h5]
 refine okC_cut (fun (z : Int) => [(0, .val (dS s)), (4, .val (dI z)), (5, .val (dI d))]) (fun (z : Int) => (z = parseV s) ∧ (-100000000000 ≤ z ∧ z ≤ 100000000000)) ?_ ?_
 rotate_left
 ·rintro K3 hK3
  refine okC_rg good ?_
  simp [go_sem]
  repeat (with_reducible refine And.intro ?_ ?_; first | omega | assumption | (simp only [inI]; omega))
  first | refine gI_dec (fun e => ?_) (fun e => ?_) | refine gI_ndec (fun e => ?_) (fun e => ?_) | refine gI_of (fun e => ?_) (fun e => ?_)
  ·have e' := e; try simp at e'
   obtain ⟨c, hc⟩ := at_of (l := s) (i := 0) (by simpa using e)
   have hcz : ∀ h, (⟨s.toArray⟩ : ByteArray)[0]'h = c := fun h => by have := ba_get s 0; rw [hc] at this; exact Option.some.inj ((getElem?_pos (⟨s.toArray⟩ : ByteArray) 0 h).symm.trans this)
   simp [go_sem, e, hcz]
   repeat (with_reducible refine And.intro ?_ ?_; first | omega | assumption | (simp only [inI]; omega))
   refine okC_if ?_
   simp [go_sem, e, hcz]
   first | refine gC_dec (fun f => ?_) (fun f => ?_) | refine gC_ndec (fun f => ?_) (fun f => ?_) | refine gC_of (fun f => ?_) (fun f => ?_)
   ·try simp at f
    have hpv : parseV s = -v := by rw [parseV, if_pos (by rw [hc]; congr 1; exact UInt8.toNat_inj.1 (by show c.toNat = 45; omega)), hv]
    refine okC_rg1 good ?_
    simp [go_sem, e, hcz]
    repeat (with_reducible refine And.intro ?_ ?_; first | omega | assumption | (simp only [inI]; omega))
    refine normalE hK3 ⟨-v, [], ⟨(hpv.symm), (by omega)⟩, (by simp [go_sem, e, hcz])⟩
   ·try simp at f
    refine okC_skip ?_
    have hpv : parseV s = v := by rw [parseV, if_neg (by rw [hc]; intro h; have := Option.some.inj h; subst this; exact f rfl), hv]
    refine normalE hK3 ⟨v, [], ⟨(hpv.symm), (by omega)⟩, (by simp [go_sem, e, hcz])⟩
  ·have e' := e; try simp at e'
   simp [go_sem, e]
   repeat (with_reducible refine And.intro ?_ ?_; first | omega | assumption | (simp only [inI]; omega))
   refine okC_if ?_
   simp [go_sem, e]
   refine okC_skip ?_
   have hpv : parseV s = v := by rw [parseV, if_neg (by rw [show s = [] from List.eq_nil_of_length_eq_zero (by simpa using e)]; simp), hv]
   refine normalE hK3 ⟨v, [], ⟨(hpv.symm), (by omega)⟩, (by simp [go_sem, e])⟩
 rintro z ⟨h8, h9⟩
 refine okC_seq ?_
 refine okC_rg good ?_
 simp [go_sem]
 repeat (with_reducible refine And.intro ?_ ?_; first | omega | assumption | (simp only [inI]; omega))
 first | refine gI_dec (fun e => ?_) (fun e => ?_) | refine gI_ndec (fun e => ?_) (fun e => ?_) | refine gI_of (fun e => ?_) (fun e => ?_)
 ·have e' := e; try simp at e'
  simp [go_sem, e]
  repeat (with_reducible refine And.intro ?_ ?_; first | omega | assumption | (simp only [inI]; omega))
  refine okC_if ?_
  simp [go_sem, e]
  have hb : parseB s = false := by simp only [parseB, hd]; rw [decide_eq_false (by omega)]; rfl
  refine okC_rg good ?_
  simp [go_sem, e]
  repeat (with_reducible refine And.intro ?_ ?_; first | omega | assumption | (simp only [inI]; omega))
  refine okC_ret ?_
  simp [go_sem, e]
  all_goals simp [hb]
 ·have e' := e; try simp at e'
  simp [go_sem, e]
  repeat (with_reducible refine And.intro ?_ ?_; first | omega | assumption | (simp only [inI]; omega))
  first | refine gI_dec (fun g => ?_) (fun g => ?_) | refine gI_ndec (fun g => ?_) (fun g => ?_) | refine gI_of (fun g => ?_) (fun g => ?_)
  ·have g' := g; try simp at g'
   simp [go_sem, e, g]
   repeat (with_reducible refine And.intro ?_ ?_; first | omega | assumption | (simp only [inI]; omega))
   refine okC_if ?_
   simp [go_sem, e, g]
   have hb : parseB s = false := by simp only [parseB, hd]; rw [decide_eq_false (p := s.length ≤ 10) (by omega)]; simp
   refine okC_rg good ?_
   simp [go_sem, e, g]
   repeat (with_reducible refine And.intro ?_ ?_; first | omega | assumption | (simp only [inI]; omega))
   refine okC_ret ?_
   simp [go_sem, e, g]
   all_goals simp [hb]
  ·have g' := g; try simp at g'
   simp [go_sem, e, g]
   repeat (with_reducible refine And.intro ?_ ?_; first | omega | assumption | (simp only [inI]; omega))
   first | refine callK_of (fn_spec_FormatInt z (by omega)) (by simp [go_sem]) ?_ | refine callK_fz (fn_spec_FormatInt z (by omega)) (by simp [go_sem]) (by simp [go_sem]) ?_
   simp [go_sem, e, g]
   repeat (with_reducible refine And.intro ?_ ?_; first | omega | assumption | (simp only [inI]; omega))
   refine okC_if ?_
   simp [go_sem, e, g]
   first | refine gC_dec (fun b => ?_) (fun b => ?_) | refine gC_ndec (fun b => ?_) (fun b => ?_) | refine gC_of (fun b => ?_) (fun b => ?_)
   ·try simp at b
    have hb : parseB s = false := by simp only [parseB, hd, ← h8]; rw [decide_eq_false (p := fmtI z = s) b]; simp
    refine okC_rg good ?_
    simp [go_sem, e, g]
    repeat (with_reducible refine And.intro ?_ ?_; first | omega | assumption | (simp only [inI]; omega))
    refine okC_ret ?_
    simp [go_sem, e, g]
    all_goals simp [hb]
   ·try simp at b
    refine okC_skip ?_
    have hb : parseB s = true := by simp only [parseB, hd, ← h8]; simp [b]; omega
    refine okC_rg good ?_
    simp [go_sem, e, g]
    repeat (with_reducible refine And.intro ?_ ?_; first | omega | assumption | (simp only [inI]; omega))
    refine okC_ret ?_
    simp [go_sem, e, g]
    all_goals simp [hb, h8]
abbrev dC (c : UInt8) : D := .one (.int .u8 c.toNat)
theorem drop_at {α : Type} {l : List α} {i : Nat} {c : α} (h : l[i]? = some c) : l.drop i = c :: l.drop (i + 1) := by
 have hi := getElem?_lt h
 rw [List.drop_eq_getElem_cons hi]; congr 1; simpa [List.getElem?_eq_getElem hi] using h
theorem drop_atS {l : Str} {i : Nat} {c : UInt8} (h : l[i]? = some c) : l.drop i = c :: l.drop (i + 1) := drop_at h
theorem fn_spec_l2Cut (s : Str) (c : UInt8) (hs : s.length ≤ 1048576) : FnOk Tryz.prog 93 [dS s, dC c] (fun res' => res' = .own (oStrs (cutS c s))) := by
 refine fn_of good (rs := [.tmp 4]) Tryz.func93 rfl Tryz.ntmps93 (by decide) (by simp) rfl fun w0 ow0 => ?_
 refine okC_rg good ?_
 simp [go_sem]
 repeat (with_reducible refine And.intro ?_ ?_; first | omega | assumption | (simp only [inI]; omega))
 refine okC_rg good ?_
 simp [go_sem]
 repeat (with_reducible refine And.intro ?_ ?_; first | omega | assumption | (simp only [inI]; omega))
 refine okC_rg good ?_
 simp [go_sem]
 repeat (with_reducible refine And.intro ?_ ?_; first | omega | assumption | (simp only [inI]; omega))
 refine okC_seq ?_
 refine okC_rg good ?_
 simp [go_sem]
 repeat (with_reducible refine And.intro ?_ ?_; first | omega | assumption | (simp only [inI]; omega))
 refine okC_block ?_
 refine okC_rounds (fun (x' : (Nat) × (Nat) × (List Str)) => match x' with | (i, f, o) => [(0, .val (dS s)), (1, .val (dC c)), (5, .own (oStrs o)), (6, .val (dI f)), (7, .val (dI i))]) (fun (x' : (Nat) × (Nat) × (List Str)) => match x' with | (i, f, o) => s.length - i) (fun (x' : (Nat) × (Nat) × (List Str)) => match x' with | (i, f, o) => (i ≤ s.length) ∧ (f ≤ i) ∧ (o.length ≤ i) ∧ (o ++ cutA c ((s.drop f).take (i - f)) (s.drop i) = cutS c s)) ((0, 0, [])) [] ⟨(by simp), (by simp), (by simp), (by simp [cutS])⟩ (by simp [go_sem]) ?_
 rintro ⟨i, f, o⟩ ⟨h1, h2, h3, h4⟩ K1 hK1
 simp only at h1 h2 h3 h4 ⊢
 refine okC_seq ?_
 refine okC_rg good ?_
 simp [go_sem]
 repeat (with_reducible refine And.intro ?_ ?_; first | omega | assumption | (simp only [inI]; omega))
 refine okC_if ?_
 simp [go_sem]
 first | refine gC_dec (fun a => ?_) (fun a => ?_) | refine gC_ndec (fun a => ?_) (fun a => ?_) | refine gC_of (fun a => ?_) (fun a => ?_)
 ·try simp at a
  refine okC_skip ?_
  refine okC_seq ?_
  refine okC_block ?_
  obtain ⟨d, hd⟩ := at_of (l := s) (i := i) (by omega)
  rw [drop_atS hd] at h4
  refine okC_rg good ?_
  simp [go_sem, hd]
  repeat (with_reducible refine And.intro ?_ ?_; first | omega | assumption | (simp only [inI]; omega))
  refine okC_if ?_
  simp [go_sem, hd]
  first | refine gC_dec (fun b => ?_) (fun b => ?_) | refine gC_ndec (fun b => ?_) (fun b => ?_) | refine gC_of (fun b => ?_) (fun b => ?_)
  ·try simp at b
   refine okC_rg good ?_
   simp [go_sem, hd]
   repeat (with_reducible refine And.intro ?_ ?_; first | omega | assumption | (simp only [inI]; omega))
   refine okC_rg1 good ?_
   simp [go_sem, hd]
   repeat (with_reducible refine And.intro ?_ ?_; first | omega | assumption | (simp only [inI]; omega))
   refine okC_rg1 good ?_
   simp [go_sem, hd]
   repeat (with_reducible refine And.intro ?_ ?_; first | omega | assumption | (simp only [inI]; omega))
   refine normalE hK1 ⟨(i + 1, i + 1, o ++ [(s.drop f).take (i - f)]), [], ⟨(by omega), (by omega), (by simp; omega), (by simpa [cutA, b] using h4)⟩, (by show _ < _; first | omega | simp <;> omega), (by simp [go_sem, hd])⟩
  ·try simp at b
   refine okC_skip ?_
   have he : (s.drop f).take (i + 1 - f) = (s.drop f).take (i - f) ++ [d] := by rw [show i + 1 - f = (i - f) + 1 by omega]; exact take_snoc (by rw [List.getElem?_drop, show f + (i - f) = i by omega]; exact hd)
   refine okC_rg1 good ?_
   simp [go_sem, hd]
   repeat (with_reducible refine And.intro ?_ ?_; first | omega | assumption | (simp only [inI]; omega))
   refine normalE hK1 ⟨(i + 1, f, o), [], ⟨(by omega), (by omega), (by omega), (by rw [he]; simpa [cutA, b] using h4)⟩, (by show _ < _; first | omega | simp <;> omega), (by simp [go_sem, hd])⟩
 ·try simp at a
  refine okC_exit (show K1 _ _ from exitE hK1 ?_)
  have : i = s.length := by omega
  subst this
  rw [List.drop_length, take_drop_len] at h4
  refine okC_rg good ?_
  simp [go_sem]
  repeat (with_reducible refine And.intro ?_ ?_; first | omega | assumption | (simp only [inI]; omega))
  refine okC_ret ?_
  simp [go_sem]
  rw [← h4]; simp [cutA]
end Go.Proofs.YtfhfidecmdhkoaaGreatDoor

end
