/- Several rows of one datum, each in blocks of its own. -/
import Derived.Test.YtdgpbgpapcldeaaBLib
set_option linter.unusedVariables false
set_option linter.unusedSimpArgs false
namespace Go.Er
open Go.RowKit

/-- The sets of blocks are apart. -/
def ApartT (T : Nat → Nat → Prop) : Prop := ∀ i j c, i ≠ j → T i c → ¬ T j c
/-- All lie between two sizes of the heap. -/
def InT (T : Nat → Nat → Prop) (a b : Nat) : Prop := ∀ i c, T i c → a ≤ c ∧ c < b
def oneT (S : Nat → Prop) : Nat → Nat → Prop := fun i c => i = 0 ∧ S c
def joinT (n : Nat) (T U : Nat → Nat → Prop) : Nat → Nat → Prop := fun i c => (i < n ∧ T i c) ∨ (n ≤ i ∧ U (i - n) c)
def shiftT (k : Nat) (T : Nat → Nat → Prop) : Nat → Nat → Prop := fun i => T (k + i)
def someT (n : Nat) (T : Nat → Nat → Prop) : Nat → Prop := fun c => ∃ i, i < n ∧ T i c
/-- The blocks from a to b. -/
def Span (a b : Nat) : Nat → Prop := fun c => a ≤ c ∧ c < b
theorem ApartT.one (S : Nat → Prop) : ApartT (oneT S) := fun i j c hij hi hj => hij (hi.1.trans hj.1.symm)
theorem InT.one {S : Nat → Prop} {a b : Nat} (h : ∀ c, S c → a ≤ c ∧ c < b) : InT (oneT S) a b := fun i c hc => h c hc.2
theorem ApartT.join {n : Nat} {T U : Nat → Nat → Prop} {a b c d : Nat} (hT : ApartT T) (hU : ApartT U) (h1 : InT T a b) (h2 : InT U c d) (h : b ≤ c) : ApartT (joinT n T U) := by
  intro i j x hij hi hj
  rcases hi with ⟨hi, hi'⟩ | ⟨hi, hi'⟩ <;> rcases hj with ⟨hj, hj'⟩ | ⟨hj, hj'⟩
  · exact hT i j x hij hi' hj'
  · have := h1 i x hi'; have := h2 _ x hj'; omega
  · have := h1 j x hj'; have := h2 _ x hi'; omega
  · exact hU (i - n) (j - n) x (by omega) hi' hj'
theorem InT.join {n : Nat} {T U : Nat → Nat → Prop} {a b c d : Nat} (h1 : InT T a b) (h2 : InT U c d) (h : b ≤ c) (h3 : a ≤ b) (h4 : c ≤ d) : InT (joinT n T U) a d := by
  intro i x hx
  rcases hx with ⟨_, hx⟩ | ⟨_, hx⟩
  · have := h1 i x hx; omega
  · have := h2 _ x hx; omega
theorem InT.mono {T : Nat → Nat → Prop} {a b c d : Nat} (h : InT T a b) (h1 : c ≤ a) (h2 : b ≤ d) : InT T c d := fun i x hx => by have := h i x hx; omega
theorem ApartT.shift {T : Nat → Nat → Prop} (h : ApartT T) (k : Nat) : ApartT (shiftT k T) := fun i j c hij => h (k + i) (k + j) c (by omega)
theorem InT.shift {T : Nat → Nat → Prop} {a b : Nat} (h : InT T a b) (k : Nat) : InT (shiftT k T) a b := fun i c hc => h (k + i) c hc
theorem RowO.span {α : Type} {k : Nat} {R : ORel α} {Q : Rel α} (g : GoodO R Q) {B : Nat} {w : World} {a : Option Addr} {l : List α} (h : RowO k R (From B) w a l) : RowO k R (Span B w.heap.size) w a l := h.trim g
theorem span_in {a b : Nat} : InT (oneT (Span a b)) a b := InT.one (fun _ h => h)
theorem span_grow {a b a' b' : Nat} (h1 : a' ≤ a) (h2 : b ≤ b') : ∀ c, Span a b c → Span a' b' c := fun c h => ⟨Nat.le_trans h1 h.1, Nat.lt_of_lt_of_le h.2 h2⟩
theorem RowR.none_ {α : Type} {k : Nat} {R : Rel α} {B : Nat} {w : World} {a : Option Addr} : RowR k R B w a ([] : List α) := ⟨Nat.zero_le _, fun i h => absurd h (Nat.not_lt_zero i)⟩
theorem RowO.keepS {α : Type} {k : Nat} {R : ORel α} {Q : Rel α} (g : GoodO R Q) {a b B : Nat} {w w' : World} {p : Option Addr} {l : List α} (h : RowO k R (Span a b) w p l) (hk : Keep B w w') (hB : B ≤ a) : RowO k R (Span a b) w' p l :=
  h.keep g (fun c hc hl => hk.2 c (Nat.le_trans hB hc.1) hl)
theorem RowO.keepT {α : Type} {k : Nat} {R : ORel α} {Q : Rel α} (g : GoodO R Q) {T : Nat → Nat → Prop} {a b B i : Nat} {w w' : World} {p : Option Addr} {l : List α} (h : RowO k R (T i) w p l) (hT : InT T a b) (hk : Keep B w w') (hB : B ≤ a) : RowO k R (T i) w' p l :=
  h.keep g (fun c hc hl => hk.2 c (Nat.le_trans hB (hT i c hc).1) hl)
theorem InT.disj {T U : Nat → Nat → Prop} {a b c d : Nat} (h1 : InT T a b) (h2 : InT U c d) (h : b ≤ c ∨ d ≤ a) : ∀ i j x, T i x → ¬ U j x := fun i j x hi hj => by have := h1 i x hi; have := h2 j x hj; omega
theorem joinT_disj {n : Nat} {T U V : Nat → Nat → Prop} (h1 : ∀ i j x, T i x → ¬ U j x) (h2 : ∀ i j x, T i x → ¬ V j x) : ∀ i j x, T i x → ¬ joinT n U V j x := fun i j x hi hj => by
  rcases hj with ⟨_, hj⟩ | ⟨_, hj⟩
  · exact h1 _ _ _ hi hj
  · exact h2 _ _ _ hi hj
theorem ApartT.joinD {n : Nat} {T U : Nat → Nat → Prop} (hT : ApartT T) (hU : ApartT U) (h : ∀ i j x, T i x → ¬ U j x) : ApartT (joinT n T U) := by
  intro i j x hij hi hj
  rcases hi with ⟨hi, hi'⟩ | ⟨hi, hi'⟩ <;> rcases hj with ⟨hj, hj'⟩ | ⟨hj, hj'⟩
  · exact hT i j x hij hi' hj'
  · exact h _ _ _ hi' hj'
  · exact h _ _ _ hj' hi'
  · exact hU (i - n) (j - n) x (by omega) hi' hj'
theorem InT.joinD {n : Nat} {T U : Nat → Nat → Prop} {a b : Nat} (h1 : InT T a b) (h2 : InT U a b) : InT (joinT n T U) a b := by
  intro i x hx
  rcases hx with ⟨_, hx⟩ | ⟨_, hx⟩
  · exact h1 i x hx
  · exact h2 _ x hx
/-! ### append([]T{}, s...): elements without rows of their own, always in a new block -/
theorem run_append_lit {P : Program} {α : Type} {k : Nat} {R : ORel α} {Q : Rel α} {enc : α → List Value} {p : α → Prop} (E : Enc k R Q enc p) {B' : Nat} {w : World} (t ty : TypeId)
    {e : TypeId} {i : TypeInfo} {z : Value} {bytes : Nat} (ht : P.underlying t = some (.slice e)) (hi : P.info? e = some i) (hz : i.zero = some z) (hsz : i.size = k) (hb : i.bytes = bytes)
    (hs0 : 0 < k) (hby : bytes ≤ 1024) (b : Nat) (a : Option Addr) (l : List α) (c : Nat) (hr : RowR k Q B' w a l) (hlen : l.length ≤ 1073741824) :
    ∃ a' c' w', (Builtin.append_ #[t, t] ty #[.slice (some ⟨b, 0, none⟩) 0 0, .slice a l.length c]).run P w = .ok (.slice a' l.length c') w' ∧ RowO k R (From w.heap.size) w' a' l ∧ Ext w w' := by
  by_cases hl0 : l = []
  · subst hl0
    refine ⟨some ⟨b, 0, none⟩, 0, w, ?_, RowO.nil, Ext.refl _⟩
    cases a <;> simp [Builtin.append_, run_underlying ht, sizeOf, typeInfo, hi, Builtin.lenOf, Builtin.firstCells, storeCells, loadCells, loadCellsFrom]
  · have hpos : 0 < l.length := List.length_pos_iff.2 hl0
    obtain ⟨ad, rfl⟩ : ∃ ad, a = some ad := by
      obtain ⟨b, o, vs, h, _⟩ := hr.2 0 hpos
      exact ⟨_, h⟩
    have hnews : ∀ j u, (l.flatMap enc)[j]? = some u → w.cell? (ad.add j) = some u := by
      intro j u hj
      have hjl : j < l.length * k := by
        obtain ⟨h, _⟩ := List.getElem?_eq_some_iff.1 hj
        rwa [flatMap_len E.len] at h
      have hi2 : j / k < l.length := Nat.div_lt_of_lt_mul (by rw [Nat.mul_comm]; exact hjl)
      have hjm : j % k < k := Nat.mod_lt _ hs0
      have hj3 : j / k * k + j % k = j := by rw [Nat.mul_comm]; exact Nat.div_add_mod j k
      obtain ⟨b, o, vs, h1, _, h3, h4, h5⟩ := hr.2 (j / k) hi2
      obtain ⟨rfl, _⟩ := E.read h5
      simp only [Option.some.injEq] at h1
      subst h1
      have h6 := h4 (j % k) (by rw [E.len]; exact hjm)
      have h7 := flatMap_at E.len l (j / k) hi2 (j % k) hjm
      rw [hj3, hj] at h7
      have h8 : (enc l[j / k])[j % k]? = some ((enc l[j / k])[j % k]'(by rw [E.len]; exact hjm)) := List.getElem?_eq_getElem _
      rw [h8] at h7
      simp only [Option.some.injEq] at h7
      rw [← h7] at h6
      rw [Addr.add_lit]
      rw [Nat.add_assoc, hj3] at h6
      exact h6
    subst hsz
    subst hb
    have hbytes : (0 + l.length) * i.bytes ≤ 140737488355328 := by
      have : (0 + l.length) * i.bytes ≤ 1073741824 * 1024 := Nat.mul_le_mul (by omega) hby
      omega
    have hrun := run_append_grow (P := P) w t ty e i z ht hi hz ⟨b, 0, none⟩ 0 0 [] (by simp) (by simp) ad l.length c (l.flatMap enc) (flatMap_len E.len l) hnews (by omega) (by omega) (growslice_fits (by omega) hbytes)
    rw [Nat.zero_add] at hrun
    refine ⟨_, _, _, hrun, ?_, (Ext.drew' (Ext.refl w)).alloc' _⟩
    refine ⟨by unfold maxLen; omega, w.heap.size, e, fun _ _ => False, fun _ => ⟨rfl, Nat.le_refl _, fun q c _ h => h.elim, _, Box.new' _ _ _ _ rfl, ?_, fun q c _ h => h.elim, fun q j c _ _ _ h => h.elim, fun q hq => ⟨enc l[q], E.len _, fun j hj => ?_, ?_⟩⟩⟩
    · simp [flatMap_len E.len l]
    · rw [E.len] at hj
      have h9 := flatMap_at E.len l q hq j hj
      have hlt : q * i.size + j < (l.flatMap enc).length := by
        rw [flatMap_len E.len]
        have h := Nat.mul_le_mul_right i.size (show q + 1 ≤ l.length from hq)
        rw [Nat.add_mul] at h
        omega
      have h10 : ∀ (zs : Array Value), (([] : List Value).toArray ++ (l.flatMap enc).toArray ++ zs)[q * i.size + j]? = (l.flatMap enc)[q * i.size + j]? := fun zs => by
        rw [Array.getElem?_append_left (by simpa using hlt)]; simp
      rw [h10, h9]
      exact List.getElem?_eq_getElem _
    · obtain ⟨b, o, vs, _, _, _, _, h5⟩ := hr.2 q hq
      exact E.make (E.read h5).2
theorem wpList_append_lit {P : Program} {ops : Array Oper} {rest : List Oper} {o : Oper} {a : Act} {Q : Exit → Act → World → Prop} {α : Type} {k : Nat} {R : ORel α} {Q' : Rel α} {enc : α → List Value} {p : α → Prop} (E : Enc k R Q' enc p) {B' : Nat} {w : World} (hgd : o.guard = none) (s x : Operand) (t : TypeId)
    (ho : o.op = .call { callee := .builtin .append, args := #[s, x], argTypes := #[t, t] })
    {e : TypeId} {z : Value} {bytes : Nat} (ht : P.underlying t = some (.slice e)) (hinfo : (P.info? e).map (fun i => (i.zero, i.size, i.bytes)) = some (some z, k, bytes))
    (hs0 : 0 < k) (hby : bytes ≤ 1024) (b : Nat) (hs : a.eval s = .slice (some ⟨b, 0, none⟩) 0 0)
    (ad : Option Addr) (l : List α) (c : Nat) (hx : a.eval x = .slice ad l.length c) (hr : RowR k Q' B' w ad l) (hlen : l.length ≤ 1073741824)
    (h : ∀ a' c' w', RowO k R (From w.heap.size) w' a' l → Ext w w' → wpList P ops Q rest (a.put o.dst (.slice a' l.length c')) w') : wpList P ops Q (o :: rest) a w := by
  obtain ⟨i, hi, hz, hsz, hb⟩ := info_parts hinfo
  refine wpList_plain hgd fun K hK' => ?_
  obtain ⟨a', c', w', hrun, h2, h3⟩ := run_append_lit (P := P) E t o.type ht hi hz hsz hb hs0 hby b ad l c hr hlen
  unfold Oper.wp execOp
  simp only [ho, resolve, invoke, builtin, Sem.run_bind, Sem.run_pure, Result.andThen_ok, List.map_toArray, List.map_cons, List.map_nil, hs, hx, hrun]
  exact hK' _ _ (h a' c' w' h2 h3)
theorem step_append_lit {P : Program} {o : Oper} {ops : Array Oper} {a : Act} {K : Act → World → Prop} {Q : Exit → Act → World → Prop} {E0 : Prop} {α : Type} {k : Nat} {R : ORel α} {Q' : Rel α} {enc : α → List Value} {p : α → Prop} (E : Enc k R Q' enc p) {B' : Nat} {w : World} (hgd : o.guard = none) (s x : Operand) (t : TypeId)
    (ho : o.op = .call { callee := .builtin .append, args := #[s, x], argTypes := #[t, t] })
    {e : TypeId} {z : Value} {bytes : Nat} (ht : P.underlying t = some (.slice e)) (hinfo : (P.info? e).map (fun i => (i.zero, i.size, i.bytes)) = some (some z, k, bytes))
    (hs0 : 0 < k) (hby : bytes ≤ 1024) (b : Nat) (hs : a.eval s = .slice (some ⟨b, 0, none⟩) 0 0)
    (ad : Option Addr) (l : List α) (c : Nat) (hx : a.eval x = .slice ad l.length c) (hr : RowR k Q' B' w ad l) (hlen : l.length ≤ 1073741824)
    (h : ∀ a' c' w', RowO k R (From w.heap.size) w' a' l → Ext w w' → K (a.put o.dst (.slice a' l.length c')) w') : if Region.wanted o (yielded ops a.tmps) = true then Oper.wp P o a w K Q else E0 := by
  have hw : Region.wanted o (yielded ops a.tmps) = true := by simp [Region.wanted, hgd]
  rw [if_pos hw]
  obtain ⟨i, hi, hz, hsz, hb⟩ := info_parts hinfo
  obtain ⟨a', c', w', hrun, h2, h3⟩ := run_append_lit (P := P) E t o.type ht hi hz hsz hb hs0 hby b ad l c hr hlen
  unfold Oper.wp execOp
  simp only [ho, resolve, invoke, builtin, Sem.run_bind, Sem.run_pure, Result.andThen_ok, List.map_toArray, List.map_cons, List.map_nil, hs, hx, hrun]
  exact h a' c' w' h2 h3
/-- A guard: the operation at hand is this append (it fails fast elsewhere). -/
theorem isApp {P : Program} {o : Oper} {ops : Array Oper} {a : Act} {w : World} {K : Act → World → Prop} {Q : Exit → Act → World → Prop} {E0 : Prop} (s x : Operand) (t : TypeId)
    (_ : o.op = .call { callee := .builtin .append, args := #[s, x], argTypes := #[t, t] })
    (h : if Region.wanted o (yielded ops a.tmps) = true then Oper.wp P o a w K Q else E0) : if Region.wanted o (yielded ops a.tmps) = true then Oper.wp P o a w K Q else E0 := h
end Go.Er
