/- Owned data that grow by append; rows whose element is filled in place. -/
import Derived.Test.YtdgpbgpapcldeaaMLib
import Derived.Laws.OwnMore
import Derived.Laws.AppendOwnNone
set_option linter.unusedVariables false
set_option linter.unusedSimpArgs false
namespace Go.Er
open Go.RowKit

/-- v is a slice that grows by append: its elements, of k cells, read as l; its own block and the elements' blocks lie from B on, all apart. -/
def AppO {α : Type} (k : Nat) (R : ORel α) (B : Nat) (w : World) (e : TypeId) (v : Value) (l : List α) : Prop :=
  ∃ (xs : List Value) (T : Nat → Nat → Prop), w.ownsRow B e k v l.length xs ∧ (∀ i c, i < l.length → T i c → B ≤ c ∧ c < w.heap.size ∧ v.ownBlock ≠ some c) ∧
    (∀ i j c, i < l.length → j < l.length → i ≠ j → T i c → ¬ T j c) ∧
    ∀ i, (h : i < l.length) → ∃ vs : List Value, vs.length = k ∧ (∀ j, (hj : j < vs.length) → xs[i * k + j]? = some vs[j]) ∧ R (T i) w vs l[i]
theorem AppO.nil {α : Type} {k : Nat} {R : ORel α} {B : Nat} {w : World} {e : TypeId} : AppO k R B w e (.slice none 0 0) ([] : List α) :=
  ⟨[], fun _ _ => False, World.ownsRow_nil w B e k, fun i c h => by simp at h, fun i j c h => by simp at h, fun i h => by simp at h⟩
theorem AppO.lit0 {α : Type} {k : Nat} {R : ORel α} {B b : Nat} {w : World} {e : TypeId} (hb : B ≤ b) (hh : w.heap[b]? = some (.cells #[] e (0, 0))) : AppO k R B w e (.slice (some ⟨b, 0, none⟩) 0 0) ([] : List α) :=
  ⟨[], fun _ _ => False, ⟨by simp, Or.inr ⟨b, 0, #[], rfl, hb, hh, Nat.le_refl _, Nat.zero_le _, by simp, by simp⟩⟩, fun i c h => by simp at h, fun i j c h => by simp at h, fun i h => by simp at h⟩
theorem AppO.len {α : Type} {k : Nat} {R : ORel α} {B : Nat} {w : World} {e : TypeId} {v : Value} {l : List α} (h : AppO k R B w e v l) : ∃ a cap, v = .slice a l.length cap ∧ l.length ≤ maxLen := by
  obtain ⟨xs, T, h1, h2, h3, h4⟩ := h
  rcases h1.2 with ⟨rfl, h0⟩ | ⟨g, cap, cur, rfl, hg, hh, hn, hm, hs, ht⟩
  · exact ⟨none, 0, by rw [h0], by rw [h0]; exact Nat.zero_le _⟩
  · exact ⟨_, _, rfl, Nat.le_trans hn hm⟩
theorem AppO.row {α : Type} {k : Nat} {R : ORel α} {B : Nat} {w : World} {e : TypeId} {a : Option Addr} {n cap : Nat} {l : List α} (h : AppO k R B w e (.slice a n cap) l) : RowO k R (From B) w a l := by
  have hl := h.len
  obtain ⟨a', cap', hv, hl⟩ := hl
  simp only [Value.slice.injEq] at hv
  obtain ⟨rfl, rfl, rfl⟩ := hv
  obtain ⟨xs, T, h1, h2, h3, h4⟩ := h
  rcases h1.2 with ⟨hv, h0⟩ | ⟨g, cap, cur, hv, hg, hh, hn, hm, hs, ht⟩
  · obtain rfl : l = [] := List.eq_nil_of_length_eq_zero h0
    exact RowO.nil
  · simp only [Value.slice.injEq] at hv
    obtain ⟨rfl, -, rfl⟩ := hv
    refine ⟨hl, g, e, T, fun _ => ⟨rfl, hg, fun i c hi hc => (h2 i c hi hc).1, cur, hh, ?_, fun i c hi hc he => (h2 i c hi hc).2.2 (by rw [he]; rfl), h3, fun i hi => ?_⟩⟩
    · rw [hs]; exact Nat.mul_le_mul_right k hn
    · obtain ⟨vs, q1, q2, q3⟩ := h4 i hi
      refine ⟨vs, q1, fun j hj => ?_, q3⟩
      have := q2 j hj
      rw [← ht, List.getElem?_take] at this
      split at this
      · simpa using this
      · cases this
theorem AppO.ext {α : Type} {k : Nat} {R : ORel α} {Q : Rel α} (g : GoodO R Q) {B : Nat} {w w' : World} {e : TypeId} {v : Value} {l : List α} (h : AppO k R B w e v l) (hE : Ext w w') : AppO k R B w' e v l := by
  obtain ⟨xs, T, h1, h2, h3, h4⟩ := h
  refine ⟨xs, T, h1.kept (row := none) ⟨hE.os, hE.tape, hE.output, hE.size, fun c hc _ => hE.block c hc⟩ (by cases v.ownBlock <;> simp), fun i c hi hc => ⟨(h2 i c hi hc).1, Nat.lt_of_lt_of_le (h2 i c hi hc).2.1 hE.size, (h2 i c hi hc).2.2⟩, h3, fun i hi => ?_⟩
  obtain ⟨vs, q1, q2, q3⟩ := h4 i hi
  exact ⟨vs, q1, q2, g.ext q3 hE⟩
/-- A store into a block ahead of B. -/
theorem AppO.setO {α : Type} {k : Nat} {R : ORel α} {Q : Rel α} (g : GoodO R Q) {B : Nat} {w : World} {e : TypeId} {v : Value} {l : List α} (h : AppO k R B w e v l) {b : Nat} (hb : b < B) (o : Nat) (u : Value) : AppO k R B (w.setCell ⟨b, o, none⟩ u) e v l := by
  obtain ⟨xs, T, h1, h2, h3, h4⟩ := h
  refine ⟨xs, T, h1.kept (row := some b) ⟨rfl, rfl, rfl, by simp, fun c hc hne => heap_setCell_other w ⟨b, o, none⟩ c u (fun e => hne (by rw [e]))⟩ ?_, fun i c hi hc => ⟨(h2 i c hi hc).1, by simpa using (h2 i c hi hc).2.1, (h2 i c hi hc).2.2⟩, h3, fun i hi => ?_⟩
  · cases hv : v.ownBlock with
    | none => exact Or.inl rfl
    | some c =>
      right
      intro e
      have := (h1.lt c hv).1
      simp only [Option.some.injEq] at e
      omega
  · obtain ⟨vs, q1, q2, q3⟩ := h4 i hi
    refine ⟨vs, q1, q2, g.keep (fun c hc _ => heap_setCell_other w ⟨b, o, none⟩ c u (fun e => ?_)) q3⟩
    have := (h2 i c hi hc).1
    simp only at e
    omega
theorem AppO.mono {α : Type} {k : Nat} {R : ORel α} {B B' : Nat} {w : World} {e : TypeId} {v : Value} {l : List α} (h : AppO k R B w e v l) (hB : B' ≤ B) : AppO k R B' w e v l := by
  obtain ⟨xs, T, h1, h2, h3, h4⟩ := h
  refine ⟨xs, T, ⟨h1.1, ?_⟩, fun i c hi hc => ⟨Nat.le_trans hB (h2 i c hi hc).1, (h2 i c hi hc).2⟩, h3, h4⟩
  rcases h1.2 with h5 | ⟨g, cap, cur, hv, hg, r⟩
  · exact Or.inl h5
  · exact Or.inr ⟨g, cap, cur, hv, Nat.le_trans hB hg, r⟩
/-- append(v, x), x made behind world w1. -/
theorem run_append_O {P : Program} {α : Type} {k : Nat} {R : ORel α} {Q : Rel α} (g : GoodO R Q) {B : Nat} {w1 w : World} (t ty : TypeId)
    {e : TypeId} {i : TypeInfo} {z : Value} {bytes : Nat} (ht : P.underlying t = some (.slice e)) (hi : P.info? e = some i) (hz : i.zero = some z) (hsz : i.size = k) (hb : i.bytes = bytes)
    (hzs : z.cells.size = k) (hs0 : 0 < k) (hby : bytes ≤ 1024) (v : Value) (l : List α) (hown : AppO k R B w1 e v l) (hE1 : Ext w1 w) (hB : B ≤ w1.heap.size) (hlen : l.length ≤ 1073741824)
    (ad : Addr) (c : Nat) (us : List Value) (x : α) (hR : R (From w1.heap.size) w us x) (hl : us.length = k) (hu : ∀ j, (h : j < us.length) → w.cell? (ad.add j) = some us[j]) (h1 : ∀ u ∈ us, u.oneCell' = true) :
    ∃ v' w', (Builtin.append_ #[t, t] ty #[v, .slice (some ad) 1 c]).run P w = .ok v' w' ∧ AppO k R B w' e v' (l ++ [x]) ∧ Chg (fun c => v.ownBlock = some c) w w' ∧ (∀ c, v.ownBlock = some c → B ≤ c ∧ c < w1.heap.size) := by
  have hown2 := hown.ext g hE1
  obtain ⟨xs, T, g1, g2, g3, g4⟩ := hown
  obtain ⟨xs2, T2, o1, _⟩ := hown2
  have hgrow0 : w1.grownBy w none := ⟨hE1.os, hE1.tape, hE1.output, hE1.size, fun c hc _ => hE1.block c hc⟩
  have o1' : w.ownsRow B e k v l.length xs := g1.kept (row := none) hgrow0 (by cases v.ownBlock <;> simp)
  have hnews : ∀ j u, us[j]? = some u → w.cell? (ad.add j) = some u := by
    intro j u hj
    obtain ⟨hj1, hj2⟩ := List.getElem?_eq_some_iff.1 hj
    rw [← hj2]; exact hu j hj1
  have h63 : l.length + 1 ≤ maxLen := by unfold maxLen; omega
  have hbytes : (l.length + 1) * bytes ≤ 140737488355328 := by
    have : (l.length + 1) * bytes ≤ 1073741825 * 1024 := Nat.mul_le_mul (by omega) hby
    omega
  have hB2 : B ≤ w.heap.size := Nat.le_trans hB hE1.size
  obtain ⟨v', w', hrun, r2, r3, _⟩ := run_append_own (P := P) w B t ty e i z k bytes ht hi hz hsz hb hzs hs0 v l.length xs o1' ad 1 c us (by simpa using hl) hnews h1 h63 hbytes hB2
  have hblk := append_block (P := P) (w := w) B t ty e i z k bytes ht hi hz hsz hb v l.length xs o1' ad 1 c us (by simpa using hl) hnews h1 (by decide) h63 hbytes hrun
  have hvlt : ∀ c, v.ownBlock = some c → B ≤ c ∧ c < w1.heap.size := fun c hc => g1.lt c hc
  have hxl := g1.1
  have hsize := hE1.size
  refine ⟨v', w', hrun, ⟨xs ++ us, fun j c => if j = l.length then w1.heap.size ≤ c ∧ c < w.heap.size else T j c, by simpa using r2, ?_, ?_, ?_⟩, ⟨r3.os, r3.tape, r3.output, r3.size, fun c hc hn => r3.block c hc (fun e => hn e.symm)⟩, hvlt⟩
  · intro j c hj hc
    simp only [List.length_append, List.length_cons, List.length_nil] at hj
    have hs3 := r3.size
    by_cases hji : j = l.length
    · simp only [if_pos hji] at hc
      refine ⟨by omega, by omega, fun hv => ?_⟩
      rcases hblk with ⟨h5, _⟩ | h5
      · have := hvlt c (h5 ▸ hv); omega
      · rw [h5] at hv; simp only [Option.some.injEq] at hv; omega
    · simp only [if_neg hji] at hc
      have := g2 j c (by omega) hc
      refine ⟨this.1, by omega, fun hv => ?_⟩
      rcases hblk with ⟨h5, _⟩ | h5
      · exact this.2.2 (h5 ▸ hv)
      · rw [h5] at hv; simp only [Option.some.injEq] at hv; omega
  · intro j j' c hj hj' hne hc hc'
    simp only [List.length_append, List.length_cons, List.length_nil] at hj hj'
    by_cases hji : j = l.length
    · simp only [if_pos hji] at hc
      have hji' : ¬ j' = l.length := by omega
      simp only [if_neg hji'] at hc'
      have := g2 j' c (by omega) hc'; omega
    · simp only [if_neg hji] at hc
      by_cases hji' : j' = l.length
      · simp only [if_pos hji'] at hc'
        have := g2 j c (by omega) hc; omega
      · simp only [if_neg hji'] at hc'
        exact g3 j j' c (by omega) (by omega) hne hc hc'
  · intro j hj
    have hj2 : j < l.length + 1 := by simpa using hj
    by_cases hji : j = l.length
    · subst hji
      refine ⟨us, hl, fun t ht => ?_, ?_⟩
      · rw [List.getElem?_append_right (by omega), hxl]
        have : l.length * k + t - l.length * k = t := by omega
        rw [this]; simp [ht]
      · have e1 : (l ++ [x])[l.length]'hj = x := by simp
        rw [e1]
        refine g.keep (w := w) (fun c hc hlc => ?_) (g.mono (fun c hc => ?_) (g.trim hR))
        · simp only [if_true] at hc
          refine r3.block c hlc (fun e => ?_)
          have := hvlt c e.symm; omega
        · simp only [if_true]; exact ⟨hc.1, hc.2⟩
    · have hjl : j < l.length := by omega
      obtain ⟨vs, q1, q2, q3⟩ := g4 j hjl
      refine ⟨vs, q1, fun t ht => ?_, ?_⟩
      · have hmul : (j + 1) * k ≤ l.length * k := Nat.mul_le_mul_right k hjl
        rw [Nat.add_mul] at hmul
        rw [List.getElem?_append_left (by rw [hxl]; omega)]
        exact q2 t ht
      · rw [List.getElem_append_left hjl]
        refine g.keep (w := w) (fun c hc hlc => ?_) (g.mono (fun c hc => ?_) (g.ext q3 hE1))
        · simp only [if_neg hji] at hc
          exact r3.block c hlc (fun e => (g2 j c hjl hc).2.2 e.symm)
        · simp only [if_neg hji]; exact hc
theorem wpList_append_O {P : Program} {ops : Array Oper} {rest : List Oper} {o : Oper} {a : Act} {Q : Exit → Act → World → Prop} {α : Type} {k : Nat} {R : ORel α} {Q' : Rel α} (g : GoodO R Q') {B : Nat} {w1 w : World} (hgd : o.guard = none) (s x : Operand) (t : TypeId)
    (ho : o.op = .call { callee := .builtin .append, args := #[s, x], argTypes := #[t, t] })
    {e : TypeId} {z : Value} {bytes : Nat} (ht : P.underlying t = some (.slice e)) (hinfo : (P.info? e).map (fun i => (i.zero, i.size, i.bytes)) = some (some z, k, bytes))
    (hzs : z.cells.size = k) (hs0 : 0 < k) (hby : bytes ≤ 1024) (v : Value) (l : List α) (hs : a.eval s = v) (hown : AppO k R B w1 e v l) (hE1 : Ext w1 w) (hB : B ≤ w1.heap.size) (hlen : l.length ≤ 1073741824)
    (ad : Addr) (c : Nat) (us : List Value) (y : α) (hx : a.eval x = .slice (some ad) 1 c) (hR : R (From w1.heap.size) w us y) (hl : us.length = k) (hu : ∀ j, (h : j < us.length) → w.cell? (ad.add j) = some us[j]) (h1 : ∀ u ∈ us, u.oneCell' = true)
    (h : ∀ v' w', AppO k R B w' e v' (l ++ [y]) → Chg (fun c => v.ownBlock = some c) w w' → (∀ c, v.ownBlock = some c → B ≤ c ∧ c < w1.heap.size) → wpList P ops Q rest (a.put o.dst v') w') : wpList P ops Q (o :: rest) a w := by
  obtain ⟨i, hi, hz, hsz, hb⟩ := info_parts hinfo
  refine wpList_plain hgd fun K hK' => ?_
  obtain ⟨v', w', hrun, h2, h3, h4⟩ := run_append_O (P := P) g t o.type ht hi hz hsz hb hzs hs0 hby v l hown hE1 hB hlen ad c us y hR hl hu h1
  unfold Oper.wp execOp
  simp only [ho, resolve, invoke, builtin, Sem.run_bind, Sem.run_pure, Result.andThen_ok, List.map_toArray, List.map_cons, List.map_nil, hs, hx, hrun]
  exact hK' _ _ (h v' w' h2 h3 h4)
theorem step_append_O {P : Program} {o : Oper} {ops : Array Oper} {a : Act} {K : Act → World → Prop} {Q : Exit → Act → World → Prop} {E : Prop} {α : Type} {k : Nat} {R : ORel α} {Q' : Rel α} (g : GoodO R Q') {B : Nat} {w1 w : World} (hgd : o.guard = none) (s x : Operand) (t : TypeId)
    (ho : o.op = .call { callee := .builtin .append, args := #[s, x], argTypes := #[t, t] })
    {e : TypeId} {z : Value} {bytes : Nat} (ht : P.underlying t = some (.slice e)) (hinfo : (P.info? e).map (fun i => (i.zero, i.size, i.bytes)) = some (some z, k, bytes))
    (hzs : z.cells.size = k) (hs0 : 0 < k) (hby : bytes ≤ 1024) (v : Value) (l : List α) (hs : a.eval s = v) (hown : AppO k R B w1 e v l) (hE1 : Ext w1 w) (hB : B ≤ w1.heap.size) (hlen : l.length ≤ 1073741824)
    (ad : Addr) (c : Nat) (us : List Value) (y : α) (hx : a.eval x = .slice (some ad) 1 c) (hR : R (From w1.heap.size) w us y) (hl : us.length = k) (hu : ∀ j, (h : j < us.length) → w.cell? (ad.add j) = some us[j]) (h1 : ∀ u ∈ us, u.oneCell' = true)
    (h : ∀ v' w', AppO k R B w' e v' (l ++ [y]) → Chg (fun c => v.ownBlock = some c) w w' → (∀ c, v.ownBlock = some c → B ≤ c ∧ c < w1.heap.size) → K (a.put o.dst v') w') : if Region.wanted o (yielded ops a.tmps) = true then Oper.wp P o a w K Q else E := by
  have hw : Region.wanted o (yielded ops a.tmps) = true := by simp [Region.wanted, hgd]
  rw [if_pos hw]
  obtain ⟨i, hi, hz, hsz, hb⟩ := info_parts hinfo
  obtain ⟨v', w', hrun, h2, h3, h4⟩ := run_append_O (P := P) g t o.type ht hi hz hsz hb hzs hs0 hby v l hown hE1 hB hlen ad c us y hR hl hu h1
  unfold Oper.wp execOp
  simp only [ho, resolve, invoke, builtin, Sem.run_bind, Sem.run_pure, Result.andThen_ok, List.map_toArray, List.map_cons, List.map_nil, hs, hx, hrun]
  exact h v' w' h2 h3 h4

/-! ### append(v, s...), v still empty: elements without rows of their own -/
theorem flatMap_at {α : Type} {enc : α → List Value} {k : Nat} (henc : ∀ x, (enc x).length = k) : ∀ (l : List α) (i : Nat) (hi : i < l.length) (j : Nat), j < k → (l.flatMap enc)[i * k + j]? = (enc l[i])[j]?
  | [], i, hi, _, _ => by simp at hi
  | x :: l, 0, hi, j, hj => by
    simp only [List.flatMap_cons, Nat.zero_mul, Nat.zero_add, List.getElem_cons_zero]
    rw [List.getElem?_append_left (by rw [henc]; exact hj)]
  | x :: l, i + 1, hi, j, hj => by
    simp only [List.flatMap_cons, List.getElem_cons_succ]
    rw [List.getElem?_append_right (by rw [henc, Nat.add_mul]; omega), henc]
    have e : (i + 1) * k + j - k = i * k + j := by rw [Nat.add_mul]; omega
    rw [e]
    exact flatMap_at henc l i (by simpa using hi) j hj
theorem flatMap_len {α : Type} {enc : α → List Value} {k : Nat} (henc : ∀ x, (enc x).length = k) : ∀ (l : List α), (l.flatMap enc).length = l.length * k
  | [] => by simp
  | x :: l => by simp only [List.flatMap_cons, List.length_append, henc, flatMap_len henc l, List.length_cons, Nat.add_mul]; omega
theorem run_append_none {P : Program} {w : World} (base : Nat) (t ty e : TypeId) (i : TypeInfo) (size : Nat) (ht : P.underlying t = some (.slice e)) (hi : P.info? e = some i)
    (v : Value) (n : Nat) (xs : List Value) (hown : w.ownsRow base e size v n xs) (c : Nat) :
    (Builtin.append_ #[t, t] ty #[v, .slice none 0 c]).run P w = .ok v w := by
  rcases hown.2 with ⟨rfl, rfl⟩ | ⟨g, cap, cur, rfl, _, _, hnc, _⟩
  · simp [Builtin.append_, run_underlying ht, sizeOf, typeInfo, hi, Builtin.lenOf, Builtin.firstCells]
  · simp [Builtin.append_, run_underlying ht, sizeOf, typeInfo, hi, Builtin.lenOf, Builtin.firstCells, hnc, storeCells]
/-- What is known of elements that bear no rows. -/
structure Enc {α : Type} (k : Nat) (R : ORel α) (Q : Rel α) (enc : α → List Value) (p : α → Prop) : Prop where
  len : ∀ x, (enc x).length = k
  cell : ∀ x, ∀ u ∈ enc x, u.oneCell' = true
  read : ∀ {B w vs x}, Q B w vs x → vs = enc x ∧ p x
  make : ∀ {S w x}, p x → R S w (enc x) x
theorem enc_int : Enc 1 IntO IntR (fun x => [.int .i64 x]) (fun _ => True) := ⟨fun _ => rfl, fun x u h => by simp at h; subst h; rfl, fun h => ⟨h, trivial⟩, fun _ => rfl⟩
theorem enc_str : Enc 1 StrO StrR (fun x => [.string x]) (fun x => x.size ≤ maxLen) := ⟨fun _ => rfl, fun x u h => by simp at h; subst h; rfl, fun h => h, fun h => ⟨rfl, h⟩⟩
theorem run_append_all {P : Program} {α : Type} {k : Nat} {R : ORel α} {Q : Rel α} {enc : α → List Value} {p : α → Prop} (E : Enc k R Q enc p) {B B' : Nat} {w : World} (t ty : TypeId)
    {e : TypeId} {i : TypeInfo} {z : Value} {bytes : Nat} (ht : P.underlying t = some (.slice e)) (hi : P.info? e = some i) (hz : i.zero = some z) (hsz : i.size = k) (hb : i.bytes = bytes)
    (hzs : z.cells.size = k) (hs0 : 0 < k) (hby : bytes ≤ 1024) (v : Value) (hown : AppO k R B w e v ([] : List α)) (hB : B ≤ w.heap.size)
    (a : Option Addr) (l : List α) (c : Nat) (hr : RowR k Q B' w a l) (hlen : l.length ≤ 1073741824) :
    ∃ v' w', (Builtin.append_ #[t, t] ty #[v, .slice a l.length c]).run P w = .ok v' w' ∧ AppO k R B w' e v' l ∧ Chg (fun c => v.ownBlock = some c) w w' ∧ (∀ c, v.ownBlock = some c → B ≤ c ∧ c < w.heap.size) := by
  have hown2 := hown
  obtain ⟨xs, T, g1, g2, g3, g4⟩ := hown
  have hxs : xs = [] := List.eq_nil_of_length_eq_zero (by have := g1.1; simpa using this)
  subst hxs
  have hvlt := g1.lt
  cases a with
  | none =>
    obtain rfl : l = [] := by
      cases l with
      | nil => rfl
      | cons x l => obtain ⟨b, o, vs, h, _⟩ := hr.2 0 (by simp); cases h
    exact ⟨v, w, run_append_none B t ty e i k ht hi v _ _ g1 c, hown2, Chg.refl _ _, hvlt⟩
  | some ad =>
    have hnews : ∀ j u, (l.flatMap enc)[j]? = some u → w.cell? (ad.add j) = some u := by
      intro j u hj
      have hjl : j < l.length * k := by
        obtain ⟨h, _⟩ := List.getElem?_eq_some_iff.1 hj
        rwa [flatMap_len E.len] at h
      have hi2 : j / k < l.length := Nat.div_lt_of_lt_mul (by rw [Nat.mul_comm]; exact hjl)
      have hjm : j % k < k := Nat.mod_lt _ hs0
      have hj3 : j / k * k + j % k = j := by rw [Nat.mul_comm]; exact Nat.div_add_mod j k
      obtain ⟨b, o, vs, h1, _, h3, h4, h5⟩ := hr.2 (j / k) hi2
      obtain ⟨rfl, _⟩ := E.read h5
      simp only [Option.some.injEq] at h1
      subst h1
      have h6 := h4 (j % k) (by rw [E.len]; exact hjm)
      have h7 := flatMap_at E.len l (j / k) hi2 (j % k) hjm
      rw [hj3, hj] at h7
      have h8 : (enc l[j / k])[j % k]? = some ((enc l[j / k])[j % k]'(by rw [E.len]; exact hjm)) := List.getElem?_eq_getElem _
      rw [h8] at h7
      simp only [Option.some.injEq] at h7
      rw [← h7] at h6
      rw [Addr.add_lit]
      rw [Nat.add_assoc, hj3] at h6
      exact h6
    have h1c : ∀ u ∈ l.flatMap enc, u.oneCell' = true := by
      intro u hu
      obtain ⟨x, _, hx⟩ := List.mem_flatMap.1 hu
      exact E.cell x u hx
    have h63 : 0 + l.length ≤ maxLen := by unfold maxLen; omega
    have hbytes : (0 + l.length) * bytes ≤ 140737488355328 := by
      have : (0 + l.length) * bytes ≤ 1073741824 * 1024 := Nat.mul_le_mul (by omega) hby
      omega
    obtain ⟨v', w', hrun, r2, r3, _⟩ := run_append_own (P := P) w B t ty e i z k bytes ht hi hz hsz hb hzs hs0 v 0 [] g1 ad l.length c (l.flatMap enc) (flatMap_len E.len l) hnews h1c h63 hbytes hB
    refine ⟨v', w', hrun, ⟨l.flatMap enc, fun _ _ => False, by simpa using r2, fun i c _ h => h.elim, fun i j c _ _ _ h => h.elim, fun i hi => ⟨enc l[i], E.len _, fun j hj => ?_, ?_⟩⟩, ⟨r3.os, r3.tape, r3.output, r3.size, fun c hc hn => r3.block c hc (fun e => hn e.symm)⟩, hvlt⟩
    · rw [flatMap_at E.len l i hi j (by rw [← E.len l[i]]; exact hj)]
      exact List.getElem?_eq_getElem _
    · obtain ⟨b, o, vs, _, _, _, _, h5⟩ := hr.2 i hi
      exact E.make (E.read h5).2
theorem wpList_append_all {P : Program} {ops : Array Oper} {rest : List Oper} {o : Oper} {a : Act} {Q : Exit → Act → World → Prop} {α : Type} {k : Nat} {R : ORel α} {Q' : Rel α} {enc : α → List Value} {p : α → Prop} (E : Enc k R Q' enc p) {B B' : Nat} {w : World} (hgd : o.guard = none) (s x : Operand) (t : TypeId)
    (ho : o.op = .call { callee := .builtin .append, args := #[s, x], argTypes := #[t, t] })
    {e : TypeId} {z : Value} {bytes : Nat} (ht : P.underlying t = some (.slice e)) (hinfo : (P.info? e).map (fun i => (i.zero, i.size, i.bytes)) = some (some z, k, bytes))
    (hzs : z.cells.size = k) (hs0 : 0 < k) (hby : bytes ≤ 1024) (v : Value) (hs : a.eval s = v) (hown : AppO k R B w e v ([] : List α)) (hB : B ≤ w.heap.size)
    (ad : Option Addr) (l : List α) (c : Nat) (hx : a.eval x = .slice ad l.length c) (hr : RowR k Q' B' w ad l) (hlen : l.length ≤ 1073741824)
    (h : ∀ v' w', AppO k R B w' e v' l → Chg (fun c => v.ownBlock = some c) w w' → (∀ c, v.ownBlock = some c → B ≤ c ∧ c < w.heap.size) → wpList P ops Q rest (a.put o.dst v') w') : wpList P ops Q (o :: rest) a w := by
  obtain ⟨i, hi, hz, hsz, hb⟩ := info_parts hinfo
  refine wpList_plain hgd fun K hK' => ?_
  obtain ⟨v', w', hrun, h2, h3, h4⟩ := run_append_all (P := P) E t o.type ht hi hz hsz hb hzs hs0 hby v hown hB ad l c hr hlen
  unfold Oper.wp execOp
  simp only [ho, resolve, invoke, builtin, Sem.run_bind, Sem.run_pure, Result.andThen_ok, List.map_toArray, List.map_cons, List.map_nil, hs, hx, hrun]
  exact hK' _ _ (h v' w' h2 h3 h4)
theorem step_append_all {P : Program} {o : Oper} {ops : Array Oper} {a : Act} {K : Act → World → Prop} {Q : Exit → Act → World → Prop} {E0 : Prop} {α : Type} {k : Nat} {R : ORel α} {Q' : Rel α} {enc : α → List Value} {p : α → Prop} (E : Enc k R Q' enc p) {B B' : Nat} {w : World} (hgd : o.guard = none) (s x : Operand) (t : TypeId)
    (ho : o.op = .call { callee := .builtin .append, args := #[s, x], argTypes := #[t, t] })
    {e : TypeId} {z : Value} {bytes : Nat} (ht : P.underlying t = some (.slice e)) (hinfo : (P.info? e).map (fun i => (i.zero, i.size, i.bytes)) = some (some z, k, bytes))
    (hzs : z.cells.size = k) (hs0 : 0 < k) (hby : bytes ≤ 1024) (v : Value) (hs : a.eval s = v) (hown : AppO k R B w e v ([] : List α)) (hB : B ≤ w.heap.size)
    (ad : Option Addr) (l : List α) (c : Nat) (hx : a.eval x = .slice ad l.length c) (hr : RowR k Q' B' w ad l) (hlen : l.length ≤ 1073741824)
    (h : ∀ v' w', AppO k R B w' e v' l → Chg (fun c => v.ownBlock = some c) w w' → (∀ c, v.ownBlock = some c → B ≤ c ∧ c < w.heap.size) → K (a.put o.dst v') w') : if Region.wanted o (yielded ops a.tmps) = true then Oper.wp P o a w K Q else E0 := by
  have hw : Region.wanted o (yielded ops a.tmps) = true := by simp [Region.wanted, hgd]
  rw [if_pos hw]
  obtain ⟨i, hi, hz, hsz, hb⟩ := info_parts hinfo
  obtain ⟨v', w', hrun, h2, h3, h4⟩ := run_append_all (P := P) E t o.type ht hi hz hsz hb hzs hs0 hby v hown hB ad l c hr hlen
  unfold Oper.wp execOp
  simp only [ho, resolve, invoke, builtin, Sem.run_bind, Sem.run_pure, Result.andThen_ok, List.map_toArray, List.map_cons, List.map_nil, hs, hx, hrun]
  exact h v' w' h2 h3 h4
theorem AppO.rowOf {α : Type} {k : Nat} {R : ORel α} {B : Nat} {w : World} {e : TypeId} {v : Value} {l : List α} (h : AppO k R B w e v l) : ∃ a cap, v = .slice a l.length cap ∧ RowO k R (From B) w a l := by
  obtain ⟨a, cap, rfl, _⟩ := h.len
  exact ⟨a, cap, rfl, h.row⟩

/-! ### A row whose element i is filled in place -/
def FilledM {α : Type} (k : Nat) (R : ORel α) (N : Nat) (e : TypeId) (n m : Nat) (w : World) (l : List α) (i : Nat) : Prop :=
  ∃ (arr : Array Value) (T : Nat → Nat → Prop), Box w N e arr ∧ arr.size = n * k ∧ (∀ j c, j < i → T j c → N < c ∧ c < m) ∧ (∀ j j' c, j < i → j' < i → j ≠ j' → T j c → ¬ T j' c) ∧
    ∀ j, (hj : j < l.length) → j < i → ∃ vs : List Value, vs.length = k ∧ (∀ t, (ht : t < vs.length) → arr[j * k + t]? = some vs[t]) ∧ R (T j) w vs l[j]
theorem FilledO.toM {α : Type} {k : Nat} {R : ORel α} {N : Nat} {e : TypeId} {n : Nat} {w : World} {l : List α} {i : Nat} (h : FilledO k R N e n w l i) : FilledM k R N e n w.heap.size w l i := h
theorem FilledM.free {α : Type} {k : Nat} {R : ORel α} {N m : Nat} {e : TypeId} {n : Nat} {w : World} {l : List α} {i : Nat} (h : FilledM k R N e n m w l i) (o : Nat) : w.frozen? ⟨N, o, none⟩ = false := by
  obtain ⟨arr, T, h1, _⟩ := h
  exact h1.free o
theorem FilledM.lt {α : Type} {k : Nat} {R : ORel α} {N m : Nat} {e : TypeId} {n : Nat} {w : World} {l : List α} {i : Nat} (h : FilledM k R N e n m w l i) : N < w.heap.size := by
  obtain ⟨arr, T, h1, _⟩ := h
  exact h1.lt
theorem FilledM.set_ {α : Type} {k : Nat} {R : ORel α} {Q : Rel α} (g : GoodO R Q) {N m : Nat} {e : TypeId} {n : Nat} {w : World} {l : List α} {i : Nat} (h : FilledM k R N e n m w l i) {o : Nat} (ho : i * k ≤ o) (u : Value) : FilledM k R N e n m (w.setCell ⟨N, o, none⟩ u) l i := by
  obtain ⟨arr, T, h1, h2, h3, h4, h5⟩ := h
  refine ⟨_, T, h1.set o u, by simpa using h2, h3, h4, fun j hj hji => ?_⟩
  obtain ⟨vs, q1, q2, q3⟩ := h5 j hj hji
  refine ⟨vs, q1, fun t ht => ?_, g.keep (fun c hc _ => heap_setCell_other w ⟨N, o, none⟩ c u (fun e => ?_)) q3⟩
  · have hlt : (j + 1) * k ≤ i * k := Nat.mul_le_mul_right k (by omega)
    rw [Nat.add_mul] at hlt
    rw [Array.getElem?_setIfInBounds, if_neg (by omega)]
    exact q2 t ht
  · have := h3 j c hji hc
    simp only at e
    omega
theorem FilledM.chg {α : Type} {k : Nat} {R : ORel α} {Q : Rel α} (g : GoodO R Q) {N m : Nat} {e : TypeId} {n : Nat} {w w' : World} {l : List α} {i : Nat} (h : FilledM k R N e n m w l i) {S : Nat → Prop} (hC : Chg S w w') (hS : ∀ c, S c → m ≤ c) (hN : N < m) : FilledM k R N e n m w' l i := by
  obtain ⟨arr, T, h1, h2, h3, h4, h5⟩ := h
  refine ⟨arr, T, h1.chg hC (fun hb => by have := hS N hb; omega), h2, h3, h4, fun j hj hji => ?_⟩
  obtain ⟨vs, q1, q2, q3⟩ := h5 j hj hji
  exact ⟨vs, q1, q2, g.chg q3 hC (fun c hc hs => by have := h3 j c hji hc; have := hS c hs; omega)⟩
theorem FilledM.last {α : Type} {k : Nat} {R : ORel α} {Q : Rel α} (g : GoodO R Q) {N m : Nat} {e : TypeId} {n : Nat} {w : World} {l : List α} {i : Nat} (h : FilledM k R N e n m w l i) (hi : i < l.length) (hN : N < m) (hm : m ≤ w.heap.size)
    {us : List Value} (hu : us.length = k) (hc : ∀ j, (hj : j < us.length) → w.cell? ⟨N, i * k + j, none⟩ = some us[j]) (hR : R (From m) w us l[i]) : FilledO k R N e n w l (i + 1) := by
  obtain ⟨arr, T, h1, h2, h3, h4, h5⟩ := h
  refine ⟨arr, fun j c => if j = i then m ≤ c ∧ c < w.heap.size else T j c, h1, h2, fun j c hj hc' => ?_, fun j j' c hj hj' hne hc hc' => ?_, fun j hj hji => ?_⟩
  · by_cases hji : j = i
    · simp only [if_pos hji] at hc'; omega
    · simp only [if_neg hji] at hc'
      have := h3 j c (by omega) hc'; omega
  · by_cases hji : j = i
    · have hji' : ¬ j' = i := by omega
      simp only [if_pos hji] at hc; simp only [if_neg hji'] at hc'
      have := h3 j' c (by omega) hc'; omega
    · simp only [if_neg hji] at hc
      by_cases hji' : j' = i
      · simp only [if_pos hji'] at hc'
        have := h3 j c (by omega) hc; omega
      · simp only [if_neg hji'] at hc'
        exact h4 j j' c (by omega) (by omega) hne hc hc'
  · by_cases hji2 : j = i
    · subst hji2
      refine ⟨us, hu, fun t ht => ?_, g.mono (fun c hc => ?_) (g.trim hR)⟩
      · have := hc t ht
        rw [h1.cell] at this; exact this
      · simp only [if_true]; exact ⟨hc.1, hc.2⟩
    · obtain ⟨vs, q1, q2, q3⟩ := h5 j hj (by omega)
      exact ⟨vs, q1, q2, g.mono (fun c hc => by simp only [if_neg hji2]; exact hc) q3⟩
end Go.Er
