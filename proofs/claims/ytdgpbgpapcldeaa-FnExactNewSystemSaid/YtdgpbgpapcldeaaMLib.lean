/- Data that are owned: each of its rows lies in a block of its own; what may be written. -/
import Derived.Test.YtdgpbgpapcldeaaDLib
set_option linter.unusedVariables false
set_option linter.unusedSimpArgs false
namespace Go.Er
open Go.RowKit

/-- Of what was there only blocks of S may have turned. -/
structure Chg (S : Nat → Prop) (w w' : World) : Prop where
  os : w'.os = w.os
  tape : w'.tape = w.tape
  output : w'.output = w.output
  size : w.heap.size ≤ w'.heap.size
  block : ∀ k, k < w.heap.size → ¬ S k → w'.heap[k]? = w.heap[k]?
theorem Chg.refl (S : Nat → Prop) (w : World) : Chg S w w := ⟨rfl, rfl, rfl, Nat.le_refl _, fun _ _ _ => rfl⟩
theorem Chg.trans {S : Nat → Prop} {a b c : World} (h : Chg S a b) (k : Chg S b c) : Chg S a c :=
  ⟨k.os.trans h.os, k.tape.trans h.tape, k.output.trans h.output, Nat.le_trans h.size k.size, fun i hi hs => (k.block i (Nat.lt_of_lt_of_le hi h.size) hs).trans (h.block i hi hs)⟩
theorem Chg.mono {S S' : Nat → Prop} {a b : World} (h : Chg S a b) (hs : ∀ c, S c → S' c) : Chg S' a b :=
  ⟨h.os, h.tape, h.output, h.size, fun k hk hn => h.block k hk (fun hc => hn (hs k hc))⟩
theorem Chg.of_ext {S : Nat → Prop} {a b : World} (h : Ext a b) : Chg S a b := ⟨h.os, h.tape, h.output, h.size, fun k hk _ => h.block k hk⟩
theorem Chg.ext {S : Nat → Prop} {W a b : World} (hE : Ext W a) (h : Chg S a b) (hs : ∀ c, S c → W.heap.size ≤ c) : Ext W b :=
  ⟨h.os.trans hE.os, h.tape.trans hE.tape, h.output.trans hE.output, Nat.le_trans hE.size h.size, fun k hk => by
    rw [h.block k (Nat.lt_of_lt_of_le hk hE.size) (fun hc => by have := hs k hc; omega)]; exact hE.block k hk⟩
theorem Chg.set_ {S : Nat → Prop} {a w : World} (h : Chg S a w) {b : Nat} (hb : S b) (o : Nat) (u : Value) : Chg S a (w.setCell ⟨b, o, none⟩ u) :=
  ⟨h.os, h.tape, h.output, by simpa using h.size, fun k hk hn => by
    rw [heap_setCell_other w ⟨b, o, none⟩ k u (fun e => hn (by simp only at e; subst e; exact hb))]; exact h.block k hk hn⟩
theorem Chg.alloc_ {S : Nat → Prop} {a w : World} (h : Chg S a w) (o : Obj) : Chg S a (w.alloc o) := h.trans (Chg.of_ext (Ext.alloc w o))
theorem Chg.drew_ {S : Nat → Prop} {a w : World} (h : Chg S a w) : Chg S a w.drew := h.trans (Chg.of_ext (Ext.drew' (Ext.refl w)))
theorem Chg.drewN_ {S : Nat → Prop} {a w : World} (h : Chg S a w) (n : Nat) : Chg S a (w.drewN n) := h.trans (Chg.of_ext (Ext.drewN' (Ext.refl w) n))
theorem Box.chg {S : Nat → Prop} {w w' : World} {b : Nat} {t : TypeId} {vs : Array Value} (h : Box w b t vs) (hc : Chg S w w') (hb : ¬ S b) : Box w' b t vs := by
  have hs := h.lt
  unfold Box at *
  rw [hc.block b hs hb]; exact h

/-- How a datum lies in memory, its rows in blocks of S, each in one of its own. -/
abbrev ORel (α : Type) := (Nat → Prop) → World → List Value → α → Prop
structure GoodO {α : Type} (R : ORel α) (Q : Rel α) : Prop where
  keep : ∀ {S : Nat → Prop} {w w' : World} {vs x}, (∀ c, S c → c < w.heap.size → w'.heap[c]? = w.heap[c]?) → R S w vs x → R S w' vs x
  mono : ∀ {S S' : Nat → Prop} {w vs x}, (∀ c, S c → S' c) → R S w vs x → R S' w vs x
  trim : ∀ {S : Nat → Prop} {w vs x}, R S w vs x → R (fun c => S c ∧ c < w.heap.size) w vs x
  rel : ∀ {S : Nat → Prop} {B w vs x}, (∀ c, S c → B ≤ c) → R S w vs x → Q B w vs x

def IntO : ORel Int := fun _ _ vs x => vs = [.int .i64 x]
def StrO : ORel ByteArray := fun _ _ vs x => vs = [.string x] ∧ x.size ≤ maxLen
theorem goodO_int : GoodO IntO IntR := ⟨fun _ h => h, fun _ h => h, fun h => h, fun _ h => h⟩
theorem goodO_str : GoodO StrO StrR := ⟨fun _ h => h, fun _ h => h, fun h => h, fun _ h => h⟩
theorem GoodO.chg {α : Type} {R : ORel α} {Q : Rel α} (g : GoodO R Q) {S S' : Nat → Prop} {w w' : World} {vs : List Value} {x : α} (h : R S w vs x) (hc : Chg S' w w') (hd : ∀ c, S c → ¬ S' c) : R S w' vs x :=
  g.keep (fun c hs hl => hc.block c hl (hd c hs)) h
theorem GoodO.ext {α : Type} {R : ORel α} {Q : Rel α} (g : GoodO R Q) {S : Nat → Prop} {w w' : World} {vs : List Value} {x : α} (h : R S w vs x) (hE : Ext w w') : R S w' vs x :=
  g.keep (fun c _ hl => hE.block c hl) h

/-- Block b is a row of elements of k cells, which read as l, element i's own rows in blocks of T i. -/
def RowX {α : Type} (k : Nat) (R : ORel α) (b : Nat) (e : TypeId) (T : Nat → Nat → Prop) (w : World) (l : List α) : Prop :=
  ∃ arr : Array Value, Box w b e arr ∧ l.length * k ≤ arr.size ∧ (∀ i c, i < l.length → T i c → c ≠ b) ∧ (∀ i j c, i < l.length → j < l.length → i ≠ j → T i c → ¬ T j c) ∧
    ∀ i, (h : i < l.length) → ∃ vs : List Value, vs.length = k ∧ (∀ j, (hj : j < vs.length) → arr[i * k + j]? = some vs[j]) ∧ R (T i) w vs l[i]
/-- The same, of element i only its cells are known. -/
def RowC {α : Type} (k : Nat) (R : ORel α) (b : Nat) (e : TypeId) (T : Nat → Nat → Prop) (w : World) (l : List α) (i : Nat) (vs : List Value) : Prop :=
  i < l.length ∧ vs.length = k ∧ ∃ arr : Array Value, Box w b e arr ∧ l.length * k ≤ arr.size ∧ (∀ i c, i < l.length → T i c → c ≠ b) ∧ (∀ i j c, i < l.length → j < l.length → i ≠ j → T i c → ¬ T j c) ∧
    (∀ j, (hj : j < vs.length) → arr[i * k + j]? = some vs[j]) ∧
    ∀ i', (h : i' < l.length) → i' ≠ i → ∃ vs : List Value, vs.length = k ∧ (∀ j, (hj : j < vs.length) → arr[i' * k + j]? = some vs[j]) ∧ R (T i') w vs l[i']
theorem RowX.openAt {α : Type} {k : Nat} {R : ORel α} {b : Nat} {e : TypeId} {T : Nat → Nat → Prop} {w : World} {l : List α} (h : RowX k R b e T w l) {i : Nat} (hi : i < l.length) :
    ∃ vs, RowC k R b e T w l i vs ∧ R (T i) w vs l[i] := by
  obtain ⟨arr, h1, h2, h3, h4, h5⟩ := h
  obtain ⟨vs, h6, h7, h8⟩ := h5 i hi
  exact ⟨vs, ⟨hi, h6, arr, h1, h2, h3, h4, h7, fun i' hi' _ => h5 i' hi'⟩, h8⟩
theorem RowC.close {α : Type} {k : Nat} {R : ORel α} {b : Nat} {e : TypeId} {T : Nat → Nat → Prop} {w : World} {l : List α} {i : Nat} {vs : List Value} (h : RowC k R b e T w l i vs) {y : α} (hR : R (T i) w vs y) :
    RowX k R b e T w (l.set i y) := by
  obtain ⟨hi, hv, arr, h1, h2, h3, h4, h7, h5⟩ := h
  refine ⟨arr, h1, by simpa using h2, by simpa using h3, by simpa using h4, fun i' hi' => ?_⟩
  have hi2 : i' < l.length := by simpa using hi'
  by_cases he : i' = i
  · subst he
    exact ⟨vs, hv, h7, by simpa using hR⟩
  · obtain ⟨us, g1, g2, g3⟩ := h5 i' hi2 he
    refine ⟨us, g1, g2, ?_⟩
    rw [List.getElem_set_ne (Ne.symm he)]; exact g3
theorem RowC.cell {α : Type} {k : Nat} {R : ORel α} {b : Nat} {e : TypeId} {T : Nat → Nat → Prop} {w : World} {l : List α} {i : Nat} {vs : List Value} (h : RowC k R b e T w l i vs) (j : Nat) (hj : j < vs.length) :
    w.cell? ⟨b, i * k + j, none⟩ = some vs[j] := by
  obtain ⟨hi, hv, arr, h1, h2, h3, h4, h7, h5⟩ := h
  rw [h1.cell]; exact h7 j hj
theorem RowC.free {α : Type} {k : Nat} {R : ORel α} {b : Nat} {e : TypeId} {T : Nat → Nat → Prop} {w : World} {l : List α} {i : Nat} {vs : List Value} (h : RowC k R b e T w l i vs) (m : Nat) :
    w.frozen? ⟨b, m, none⟩ = false := by
  obtain ⟨hi, hv, arr, h1, _⟩ := h
  exact h1.free m
theorem RowC.lt {α : Type} {k : Nat} {R : ORel α} {b : Nat} {e : TypeId} {T : Nat → Nat → Prop} {w : World} {l : List α} {i : Nat} {vs : List Value} (h : RowC k R b e T w l i vs) : b < w.heap.size := by
  obtain ⟨hi, hv, arr, h1, _⟩ := h
  exact h1.lt
theorem RowC.apart {α : Type} {k : Nat} {R : ORel α} {b : Nat} {e : TypeId} {T : Nat → Nat → Prop} {w : World} {l : List α} {i : Nat} {vs : List Value} (h : RowC k R b e T w l i vs) : ∀ c, T i c → c ≠ b := by
  obtain ⟨hi, hv, arr, h1, h2, h3, _⟩ := h
  exact fun c hc => h3 i c hi hc
theorem RowC.set_ {α : Type} {k : Nat} {R : ORel α} {Q : Rel α} (g : GoodO R Q) {b : Nat} {e : TypeId} {T : Nat → Nat → Prop} {w : World} {l : List α} {i : Nat} {vs : List Value} (h : RowC k R b e T w l i vs)
    {j m : Nat} {u : Value} {vs' : List Value} (hj : j < vs.length) (hm : m = i * k + j) (hvs : vs' = vs.set j u) : RowC k R b e T (w.setCell ⟨b, m, none⟩ u) l i vs' := by
  subst hm; subst hvs
  obtain ⟨hi, hv, arr, h1, h2, h3, h4, h7, h5⟩ := h
  have hin : i * k + j < arr.size := by
    have : (i + 1) * k ≤ l.length * k := Nat.mul_le_mul_right k hi
    rw [Nat.add_mul] at this; omega
  refine ⟨hi, by simpa using hv, _, h1.set _ u, by simpa using h2, h3, h4, fun j' hj' => ?_, fun i' hi' hne => ?_⟩
  · rw [Array.getElem?_setIfInBounds]
    by_cases hjj : j = j'
    · subst hjj
      rw [if_pos rfl, if_pos hin]; simp
    · rw [if_neg (by omega), List.getElem_set_ne hjj]
      exact h7 j' (by simpa using hj')
  · obtain ⟨us, g1, g2, g3⟩ := h5 i' hi' hne
    refine ⟨us, g1, fun j' hj' => ?_, ?_⟩
    · rw [Array.getElem?_setIfInBounds]
      have hdis : ¬ i * k + j = i' * k + j' := by
        intro heq
        rcases Nat.lt_or_gt_of_ne hne with hlt | hlt
        · have : (i' + 1) * k ≤ i * k := Nat.mul_le_mul_right k hlt
          rw [Nat.add_mul] at this; omega
        · have : (i + 1) * k ≤ i' * k := Nat.mul_le_mul_right k hlt
          rw [Nat.add_mul] at this; omega
      rw [if_neg hdis]
      exact g2 j' hj'
    · refine g.keep (fun c hc hl => ?_) g3
      exact heap_setCell_other w ⟨b, _, none⟩ c u (h3 i' c hi' hc)
theorem RowC.chg {α : Type} {k : Nat} {R : ORel α} {Q : Rel α} (g : GoodO R Q) {b : Nat} {e : TypeId} {T : Nat → Nat → Prop} {w w' : World} {l : List α} {i : Nat} {vs : List Value} (h : RowC k R b e T w l i vs)
    (hc : Chg (T i) w w') : RowC k R b e T w' l i vs := by
  obtain ⟨hi, hv, arr, h1, h2, h3, h4, h7, h5⟩ := h
  refine ⟨hi, hv, arr, h1.chg hc (fun hb => h3 i b hi hb rfl), h2, h3, h4, h7, fun i' hi' hne => ?_⟩
  obtain ⟨us, g1, g2, g3⟩ := h5 i' hi' hne
  exact ⟨us, g1, g2, g.chg g3 hc (fun c hc' => h4 i' i c hi' hi hne hc')⟩
theorem RowX.keep {α : Type} {k : Nat} {R : ORel α} {Q : Rel α} (g : GoodO R Q) {b : Nat} {e : TypeId} {T : Nat → Nat → Prop} {w w' : World} {l : List α} (h : RowX k R b e T w l)
    (hb : w'.heap[b]? = w.heap[b]?) (hk : ∀ i c, i < l.length → T i c → c < w.heap.size → w'.heap[c]? = w.heap[c]?) : RowX k R b e T w' l := by
  obtain ⟨arr, h1, h2, h3, h4, h5⟩ := h
  refine ⟨arr, by unfold Box at *; rw [hb]; exact h1, h2, h3, h4, fun i hi => ?_⟩
  obtain ⟨us, g1, g2, g3⟩ := h5 i hi
  exact ⟨us, g1, g2, g.keep (fun c hc hl => hk i c hi hc hl) g3⟩

/-- From address a on lie elements of k cells, which read as l; all that belongs to them lies in blocks of S, each row in one of its own. -/
def RowO {α : Type} (k : Nat) (R : ORel α) (S : Nat → Prop) (w : World) (a : Option Addr) (l : List α) : Prop :=
  l.length ≤ maxLen ∧ ∃ b e T, l ≠ [] → a = some ⟨b, 0, none⟩ ∧ S b ∧ (∀ i c, i < l.length → T i c → S c) ∧ RowX k R b e T w l
theorem RowO.nil {α : Type} {k : Nat} {R : ORel α} {S : Nat → Prop} {w : World} {a : Option Addr} : RowO k R S w a ([] : List α) := ⟨Nat.zero_le _, 0, 0, fun _ _ => False, fun h => absurd rfl h⟩
theorem RowO.keep {α : Type} {k : Nat} {R : ORel α} {Q : Rel α} (g : GoodO R Q) {S : Nat → Prop} {w w' : World} {a : Option Addr} {l : List α} (hk : ∀ c, S c → c < w.heap.size → w'.heap[c]? = w.heap[c]?) (h : RowO k R S w a l) : RowO k R S w' a l := by
  obtain ⟨h1, b, e, T, h2⟩ := h
  refine ⟨h1, b, e, T, fun hne => ?_⟩
  obtain ⟨h3, h4, h5, h6⟩ := h2 hne
  refine ⟨h3, h4, h5, h6.keep g (hk b h4 ?_) (fun i c hi hc => hk c (h5 i c hi hc))⟩
  obtain ⟨arr, g1, _⟩ := h6
  exact g1.lt
theorem RowO.mono {α : Type} {k : Nat} {R : ORel α} {S S' : Nat → Prop} {w : World} {a : Option Addr} {l : List α} (h : RowO k R S w a l) (hs : ∀ c, S c → S' c) : RowO k R S' w a l := by
  obtain ⟨h1, b, e, T, h2⟩ := h
  refine ⟨h1, b, e, T, fun hne => ?_⟩
  obtain ⟨h3, h4, h5, h6⟩ := h2 hne
  exact ⟨h3, hs _ h4, fun i c hi hc => hs _ (h5 i c hi hc), h6⟩
theorem RowO.trim {α : Type} {k : Nat} {R : ORel α} {Q : Rel α} (g : GoodO R Q) {S : Nat → Prop} {w : World} {a : Option Addr} {l : List α} (h : RowO k R S w a l) : RowO k R (fun c => S c ∧ c < w.heap.size) w a l := by
  obtain ⟨h1, b, e, T, h2⟩ := h
  refine ⟨h1, b, e, fun i c => T i c ∧ c < w.heap.size, fun hne => ?_⟩
  obtain ⟨h3, h4, h5, arr, g1, g2, g3, g4, g5⟩ := h2 hne
  refine ⟨h3, ⟨h4, g1.lt⟩, fun i c hi hc => ⟨h5 i c hi hc.1, hc.2⟩, arr, g1, g2, fun i c hi hc => g3 i c hi hc.1, fun i j c hi hj hne hc hc' => g4 i j c hi hj hne hc.1 hc'.1, fun i hi => ?_⟩
  obtain ⟨us, q1, q2, q3⟩ := g5 i hi
  exact ⟨us, q1, q2, g.trim q3⟩
theorem RowO.rel {α : Type} {k : Nat} {R : ORel α} {Q : Rel α} (g : GoodO R Q) {S : Nat → Prop} {B : Nat} {w : World} {a : Option Addr} {l : List α} (hs : ∀ c, S c → B ≤ c) (h : RowO k R S w a l) : RowR k Q B w a l := by
  obtain ⟨h1, b, e, T, h2⟩ := h
  refine ⟨h1, fun i hi => ?_⟩
  obtain ⟨h3, h4, h5, arr, g1, g2, g3, g4, g5⟩ := h2 (fun e => by subst e; simp at hi)
  obtain ⟨us, q1, q2, q3⟩ := g5 i hi
  refine ⟨b, 0, us, h3, hs b h4, q1, fun j hj => ?_, g.rel (fun c hc => hs c (h5 i c hi hc)) q3⟩
  rw [g1.cell, Nat.zero_add]; exact q2 j hj
def SliceO {α : Type} (k : Nat) (R : ORel α) : ORel (List α) := fun S w vs l => ∃ a cap, vs = [.slice a l.length cap] ∧ RowO k R S w a l
theorem goodO_slice {α : Type} {k : Nat} {R : ORel α} {Q : Rel α} (g : GoodO R Q) : GoodO (SliceO k R) (SliceR k Q) :=
  ⟨fun hk ⟨a, cap, h1, h2⟩ => ⟨a, cap, h1, h2.keep g hk⟩, fun hs ⟨a, cap, h1, h2⟩ => ⟨a, cap, h1, h2.mono hs⟩, fun ⟨a, cap, h1, h2⟩ => ⟨a, cap, h1, h2.trim g⟩, fun hs ⟨a, cap, h1, h2⟩ => ⟨a, cap, h1, h2.rel g hs⟩⟩
theorem RowO.chg {α : Type} {k : Nat} {R : ORel α} {Q : Rel α} (g : GoodO R Q) {S S' : Nat → Prop} {w w' : World} {a : Option Addr} {l : List α} (h : RowO k R S w a l) (hc : Chg S' w w') (hd : ∀ c, S c → ¬ S' c) : RowO k R S w' a l :=
  h.keep g (fun c hs hl => hc.block c hl (hd c hs))
theorem RowO.ext {α : Type} {k : Nat} {R : ORel α} {Q : Rel α} (g : GoodO R Q) {S : Nat → Prop} {w w' : World} {a : Option Addr} {l : List α} (h : RowO k R S w a l) (hE : Ext w w') : RowO k R S w' a l :=
  h.keep g (fun c _ hl => hE.block c hl)
theorem RowO.setO {α : Type} {k : Nat} {R : ORel α} {Q : Rel α} (g : GoodO R Q) {S : Nat → Prop} {w : World} {a : Option Addr} {l : List α} (h : RowO k R S w a l) {b : Nat} (hb : ∀ c, S c → c ≠ b) (o : Nat) (u : Value) : RowO k R S (w.setCell ⟨b, o, none⟩ u) a l :=
  h.keep g (fun c hc _ => heap_setCell_other w ⟨b, o, none⟩ c u (hb c hc))
/-- The blocks from B on. -/
def From (B : Nat) : Nat → Prop := fun c => B ≤ c
theorem RowO.keepB {α : Type} {k : Nat} {R : ORel α} {Q : Rel α} (g : GoodO R Q) {B : Nat} {w w' : World} {a : Option Addr} {l : List α} (h : RowO k R (From B) w a l) (hk : Keep B w w') : RowO k R (From B) w' a l :=
  h.keep g (fun c hc hl => hk.2 c hc hl)
theorem RowO.monoB {α : Type} {k : Nat} {R : ORel α} {B B' : Nat} {w : World} {a : Option Addr} {l : List α} (h : RowO k R (From B) w a l) (hB : B' ≤ B) : RowO k R (From B') w a l :=
  h.mono (fun c hc => Nat.le_trans hB hc)

/-! ### Marks: what a call writes into all cells of a datum -/
def sumC {α : Type} (c : α → Nat) : List α → Nat
  | [] => 0
  | x :: xs => c x + sumC c xs
theorem sumC_append {α : Type} (c : α → Nat) : ∀ l r : List α, sumC c (l ++ r) = sumC c l + sumC c r
  | [], r => by simp [sumC]
  | x :: l, r => by simp [sumC, sumC_append c l r]; omega
theorem sumC_le {α : Type} (c : α → Nat) (M : Nat) : ∀ l : List α, (∀ x ∈ l, c x ≤ M) → sumC c l ≤ l.length * M
  | [], _ => by simp [sumC]
  | x :: l, h => by
    have h1 := h x (by simp); have h2 := sumC_le c M l (fun y hy => h y (by simp [hy]))
    simp only [sumC, List.length_cons, Nat.add_mul]; omega
def markL {α : Type} (m : α → Int → α) (c : α → Nat) : List α → Int → List α
  | [], _ => []
  | x :: xs, k => m x k :: markL m c xs (k + c x)
theorem markL_length {α : Type} (m : α → Int → α) (c : α → Nat) : ∀ (l : List α) (k : Int), (markL m c l k).length = l.length
  | [], _ => rfl
  | x :: l, k => by simp [markL, markL_length m c l]
/-- The number that element i's marks begin with. -/
def pos {α : Type} (c : α → Nat) (l : List α) (k : Int) (i : Nat) : Int := k + (sumC c (l.take i) : Nat)
theorem pos_zero {α : Type} (c : α → Nat) (l : List α) (k : Int) : pos c l k 0 = k := by simp [pos, sumC]
theorem pos_full {α : Type} (c : α → Nat) (l : List α) (k : Int) : pos c l k l.length = k + (sumC c l : Nat) := by simp [pos]
theorem pos_succ {α : Type} (c : α → Nat) (l : List α) (k : Int) {i : Nat} (hi : i < l.length) : pos c l k (i + 1) = pos c l k i + (c l[i] : Nat) := by
  unfold pos
  rw [List.take_succ_eq_append_getElem hi, sumC_append]
  simp [sumC]; omega
theorem pos_le {α : Type} (c : α → Nat) (l : List α) (k : Int) (i : Nat) : k ≤ pos c l k i ∧ pos c l k i ≤ k + (sumC c l : Nat) := by
  unfold pos
  have h := sumC_append c (l.take i) (l.drop i)
  rw [List.take_append_drop] at h
  omega
theorem pos_cons {α : Type} (c : α → Nat) (x : α) (l : List α) (k : Int) (i : Nat) : pos c (x :: l) k (i + 1) = pos c l (k + c x) i := by
  simp [pos, sumC]; omega
theorem markL_get {α : Type} (m : α → Int → α) (c : α → Nat) : ∀ (l : List α) (k : Int) (i : Nat) (h : i < (markL m c l k).length), (markL m c l k)[i] = m (l[i]'(by rw [markL_length] at h; exact h)) (pos c l k i)
  | [], k, i, h => by simp [markL] at h
  | x :: l, k, 0, h => by simp [markL, pos_zero]
  | x :: l, k, i + 1, h => by
    have h2 : i < (markL m c l (k + c x)).length := by simpa [markL] using h
    have := markL_get m c l (k + c x) i h2
    simp only [markL, List.getElem_cons_succ, this, pos_cons]
/-- The first i elements are marked. -/
def mix {α : Type} (m : α → Int → α) (c : α → Nat) (l : List α) (k : Int) (i : Nat) : List α := (markL m c l k).take i ++ l.drop i
theorem mix_zero {α : Type} (m : α → Int → α) (c : α → Nat) (l : List α) (k : Int) : mix m c l k 0 = l := by simp [mix]
theorem mix_full {α : Type} (m : α → Int → α) (c : α → Nat) (l : List α) (k : Int) : mix m c l k l.length = markL m c l k := by
  have := markL_length m c l k
  simp [mix, ← this]
theorem mix_length {α : Type} (m : α → Int → α) (c : α → Nat) (l : List α) (k : Int) (i : Nat) (hi : i ≤ l.length) : (mix m c l k i).length = l.length := by
  simp [mix, markL_length]; omega
theorem mix_get {α : Type} (m : α → Int → α) (c : α → Nat) (l : List α) (k : Int) (i : Nat) (hi : i < l.length) (h : i < (mix m c l k i).length) : (mix m c l k i)[i] = l[i] := by
  simp only [mix]
  rw [List.getElem_append_right (by simp [markL_length]; omega)]
  simp [markL_length, Nat.min_eq_left (Nat.le_of_lt hi)]
theorem mix_set {α : Type} (m : α → Int → α) (c : α → Nat) (l : List α) (k : Int) (i : Nat) (hi : i < l.length) : (mix m c l k i).set i (m l[i] (pos c l k i)) = mix m c l k (i + 1) := by
  have hm : i < (markL m c l k).length := by rw [markL_length]; exact hi
  unfold mix
  rw [List.set_append_right _ _ (by simp [markL_length]; omega)]
  have e1 : i - ((markL m c l k).take i).length = 0 := by simp [markL_length]; omega
  rw [e1, List.drop_eq_getElem_cons hi, List.set_cons_zero, List.take_succ_eq_append_getElem hm, markL_get m c l k i hm]
  simp
theorem RowX.openM {α : Type} {k : Nat} {R : ORel α} {b : Nat} {e : TypeId} {T : Nat → Nat → Prop} {w : World} {l : List α} {m : α → Int → α} {c : α → Nat} {q : Int} {i : Nat} (h : RowX k R b e T w (mix m c l q i)) (hi : i < l.length) :
    ∃ vs, RowC k R b e T w (mix m c l q i) i vs ∧ R (T i) w vs l[i] := by
  have hl : i < (mix m c l q i).length := by rw [mix_length m c l q i (Nat.le_of_lt hi)]; exact hi
  obtain ⟨vs, h1, h2⟩ := h.openAt hl
  rw [mix_get m c l q i hi hl] at h2
  exact ⟨vs, h1, h2⟩
theorem RowC.closeM {α : Type} {k : Nat} {R : ORel α} {b : Nat} {e : TypeId} {T : Nat → Nat → Prop} {w : World} {l : List α} {m : α → Int → α} {c : α → Nat} {q : Int} {i : Nat} {vs : List Value} (h : RowC k R b e T w (mix m c l q i) i vs) (hi : i < l.length)
    (hR : R (T i) w vs (m l[i] (pos c l q i))) : RowX k R b e T w (mix m c l q (i + 1)) := by
  rw [← mix_set m c l q i hi]
  exact h.close hR
/-- What a call that marks leaves. -/
def MarkedS {α : Type} (kk : Nat) (R : ORel α) (m : α → Int → α) (c : α → Nat) (S : Nat → Prop) (w : World) (a : Option Addr) (l : List α) (k : Int) (e : Ending) (w' : World) : Prop :=
  e = .returned (.int .i64 (k + (sumC c l : Nat))) ∧ RowO kk R S w' a (markL m c l k) ∧ Chg S w w'
theorem marked_len {α : Type} {m : α → Int → α} {c : α → Nat} {l : List α} {k : Int} (h : l.length ≤ maxLen) : (markL m c l k).length ≤ maxLen := by rw [markL_length]; exact h
theorem markL_nil {α : Type} {m : α → Int → α} {c : α → Nat} {l : List α} {k : Int} (h : markL m c l k ≠ []) : l ≠ [] := fun e => h (by subst e; rfl)

/-- Rows that are filled one element after the other, each element's own rows younger than those of the elements ahead. -/
def FilledO {α : Type} (k : Nat) (R : ORel α) (N : Nat) (e : TypeId) (n : Nat) (w : World) (l : List α) (i : Nat) : Prop :=
  ∃ (arr : Array Value) (T : Nat → Nat → Prop), Box w N e arr ∧ arr.size = n * k ∧ (∀ j c, j < i → T j c → N < c ∧ c < w.heap.size) ∧ (∀ j j' c, j < i → j' < i → j ≠ j' → T j c → ¬ T j' c) ∧
    ∀ j, (hj : j < l.length) → j < i → ∃ vs : List Value, vs.length = k ∧ (∀ t, (ht : t < vs.length) → arr[j * k + t]? = some vs[t]) ∧ R (T j) w vs l[j]
theorem FilledO.cell {α : Type} {k : Nat} {R : ORel α} {N : Nat} {e : TypeId} {n : Nat} {w : World} {l : List α} {i : Nat} (h : FilledO k R N e n w l i) {m : Nat} (hm : m < n * k) : ∃ y, w.cell? ⟨N, m, none⟩ = some y := by
  obtain ⟨arr, T, h1, h2, _⟩ := h
  have h3 : m < arr.size := by omega
  exact ⟨arr[m], by rw [h1.cell m]; simp [h3]⟩
theorem FilledO.free {α : Type} {k : Nat} {R : ORel α} {N : Nat} {e : TypeId} {n : Nat} {w : World} {l : List α} {i : Nat} (h : FilledO k R N e n w l i) (m : Nat) : w.frozen? ⟨N, m, none⟩ = false := by
  obtain ⟨arr, T, h1, _⟩ := h
  exact h1.free m
theorem FilledO.lt {α : Type} {k : Nat} {R : ORel α} {N : Nat} {e : TypeId} {n : Nat} {w : World} {l : List α} {i : Nat} (h : FilledO k R N e n w l i) : N < w.heap.size := by
  obtain ⟨arr, T, h1, _⟩ := h
  exact h1.lt
theorem FilledO.ext {α : Type} {k : Nat} {R : ORel α} {Q : Rel α} (g : GoodO R Q) {N : Nat} {e : TypeId} {n : Nat} {w w' : World} {l : List α} {i : Nat} (h : FilledO k R N e n w l i) (hE : Ext w w') : FilledO k R N e n w' l i := by
  obtain ⟨arr, T, h1, h2, h3, h4, h5⟩ := h
  refine ⟨arr, T, h1.ext hE, h2, fun j c hj hc => ⟨(h3 j c hj hc).1, Nat.lt_of_lt_of_le (h3 j c hj hc).2 hE.size⟩, h4, fun j hj hji => ?_⟩
  obtain ⟨vs, h6, h7, h8⟩ := h5 j hj hji
  exact ⟨vs, h6, h7, g.ext h8 hE⟩
theorem FilledO.start {α : Type} {k : Nat} {R : ORel α} {N B : Nat} {e : TypeId} {n : Nat} {w : World} {l : List α} {xs : List Value} (h : w.ownsRow B e k (.slice (some ⟨N, 0, none⟩) n n) n xs) : FilledO k R N e n w l 0 := by
  rcases h.2 with ⟨h1, _⟩ | ⟨g, cap, cur, h1, _, h2, _, _, h3, _⟩
  · cases h1
  · cases h1
    exact ⟨cur, fun _ _ => False, h2, h3, fun j c hj => absurd hj (by omega), fun j j' c hj => absurd hj (by omega), fun j _ hj => absurd hj (by omega)⟩
/-- Element i is made behind world w, and written in world w2. -/
theorem FilledO.step {α : Type} {k : Nat} {R : ORel α} {Q : Rel α} (g : GoodO R Q) {N : Nat} {e : TypeId} {n : Nat} {w w2 : World} {l : List α} {i : Nat} (h : FilledO k R N e n w l i) (hE : Ext w w2) (hi : i < l.length) (hn : l.length ≤ n)
    {us : List Value} (hu : us.length = k) (hR : R (From w.heap.size) w2 us l[i]) : FilledO k R N e n (setCells w2 N (i * k) us) l (i + 1) := by
  have hN := h.lt
  obtain ⟨arr, T, h1, h2, hT, hD, h3⟩ := h
  replace h1 := h1.ext hE
  have hb : (i + 1) * k ≤ n * k := Nat.mul_le_mul_right k (by omega)
  have hb2 : i * k + us.length ≤ arr.size := by rw [h2, hu]; rw [Nat.add_mul] at hb; omega
  have hkp := keep_setCells (N := N) (B := N + 1) (by omega) us w2 (i * k)
  have hsz : w2.heap.size ≤ (setCells w2 N (i * k) us).heap.size := hkp.1
  refine ⟨_, fun j c => if j = i then w.heap.size ≤ c ∧ c < w2.heap.size else T j c, h1.setCells us (i * k), by rw [setMany_size]; exact h2, ?_, ?_, fun j hj hji => ?_⟩
  · intro j c hj hc
    by_cases hji : j = i
    · rw [if_pos hji] at hc; omega
    · rw [if_neg hji] at hc
      have := hT j c (by omega) hc
      have := hE.size
      omega
  · intro j j' c hj hj' hne hc hc'
    by_cases hji : j = i
    · rw [if_pos hji] at hc; rw [if_neg (by omega)] at hc'
      have := hT j' c (by omega) hc'; omega
    · rw [if_neg hji] at hc
      have h9 := hT j c (by omega) hc
      by_cases hji' : j' = i
      · rw [if_pos hji'] at hc'; omega
      · rw [if_neg hji'] at hc'; exact hD j j' c (by omega) (by omega) hne hc hc'
  · by_cases hji2 : j = i
    · subst hji2
      refine ⟨us, hu, fun t ht => ?_, ?_⟩
      · rw [setMany_get us arr _ _ hb2, if_pos ⟨by omega, by omega⟩]
        have : j * k + t - j * k = t := by omega
        rw [this]; simp [ht]
      · have h9 := g.trim hR
        refine g.keep (w := w2) (fun c hc hl => ?_) (g.mono (fun c hc => ?_) h9)
        · simp only [if_true] at hc
          exact hkp.2 c (by omega) hl
        · simp only [if_true]
          exact ⟨hc.1, hc.2⟩
    · obtain ⟨vs, h4, h5, h6⟩ := h3 j hj (by omega)
      refine ⟨vs, h4, fun t ht => ?_, ?_⟩
      · have hlt : (j + 1) * k ≤ i * k := Nat.mul_le_mul_right k (by omega)
        rw [Nat.add_mul] at hlt
        rw [setMany_get us arr _ _ hb2, if_neg (by omega)]
        exact h5 t ht
      · refine g.keep (w := w2) (fun c hc hl => ?_) (g.mono (fun c hc => ?_) (g.ext h6 hE))
        · simp only [if_neg hji2] at hc
          exact hkp.2 c (hT j c (by omega) hc).1 hl
        · simp only [if_neg hji2]; exact hc
theorem FilledO.done {α : Type} {k : Nat} {R : ORel α} {N : Nat} {e : TypeId} {n : Nat} {w : World} {l : List α} (h : FilledO k R N e n w l l.length) (hl : l.length ≤ maxLen) (hn : l.length ≤ n) : RowO k R (From N) w (some ⟨N, 0, none⟩) l := by
  obtain ⟨arr, T, h1, h2, h3, h4, h5⟩ := h
  refine ⟨hl, N, e, T, fun _ => ⟨rfl, Nat.le_refl _, fun i c hi hc => Nat.le_of_lt (h3 i c hi hc).1, arr, h1, by rw [h2]; exact Nat.mul_le_mul_right k hn, fun i c hi hc => by have := (h3 i c hi hc).1; omega, h4, fun i hi => h5 i hi hi⟩⟩
/-- What a copying function leaves. -/
def MadeO {α : Type} (R : ORel α) (w : World) (x : α) (e : Ending) (w' : World) : Prop := ∃ vs, e = .returned (.agg vs.toArray) ∧ R (From w.heap.size) w' vs x ∧ Ext w w'
def MadeSO {α : Type} (k : Nat) (R : ORel α) (w : World) (l : List α) (e : Ending) (w' : World) : Prop := ∃ a cap, e = .returned (.slice a l.length cap) ∧ RowO k R (From w.heap.size) w' a l ∧ Ext w w'
theorem wpList_make_rowO {P : Program} {w0 w : World} {ops : Array Oper} {rest : List Oper} {o : Oper} {a : Act} {Q : Exit → Act → World → Prop} {α : Type} (R : ORel α) (l : List α) (hgd : o.guard = none) (x c : Operand) (t : TypeId)
    (ho : o.op = .makeSlice t x c)
    {e : TypeId} {z : Value} {k bytes : Nat} (ht : P.underlying t = some (.slice e)) (hinfo : (P.info? e).map (fun i => (i.zero, i.size, i.bytes)) = some (some z, k, bytes)) (hby : bytes ≤ 1024)
    (kl kc : IntKind) (hl : a.eval x = .int kl (l.length : Int)) (hc : a.eval c = .int kc (l.length : Int)) (hn : l.length ≤ 1048576) (hE : Ext w0 w)
    (h : ∀ w', FilledO k R w.heap.size e l.length w' l 0 → Ext w0 w' → wpList P ops Q rest (a.put o.dst (.slice (some ⟨w.heap.size, 0, none⟩) l.length l.length)) w') : wpList P ops Q (o :: rest) a w := by
  obtain ⟨i, hi, hz, hsz, hb⟩ := info_parts hinfo
  refine wpList_make_full w hgd x c t ho w0.heap.size e i z k ht hi hz hsz kl kc l.length l.length l.length hl hc rfl rfl ?_ ?_ hE.size ?_
  · have : bytes * l.length ≤ 1024 * 1048576 := Nat.mul_le_mul hby hn
    rw [hb]; omega
  · unfold maxLen; omega
  · intro w' hown hgrow
    exact h w' (FilledO.start hown) (Below.grown hE hgrow hE.size (fun k hk => by cases hk))
end Go.Er
