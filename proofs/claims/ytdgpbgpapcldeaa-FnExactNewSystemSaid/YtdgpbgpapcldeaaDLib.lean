/- Data with depth: lists of elements of k cells, each of which may bear slices itself: how they lie in memory, and what keeps them so. -/
import Derived.Test.YtdgpbgpapcldeaaRows2
set_option linter.unusedVariables false
set_option linter.unusedSimpArgs false
namespace Go.Er
open Go.RowKit

theorem Ext.set_ {a w : World} (h : Ext a w) {b : Nat} (hb : a.heap.size ≤ b) (o : Nat) (u : Value) : Ext a (w.setCell ⟨b, o, none⟩ u) := h.setCell' (p := ⟨b, o, none⟩) hb u
/-- Blocks from B on that were there stay as they are. -/
def Keep (B : Nat) (w w' : World) : Prop := w.heap.size ≤ w'.heap.size ∧ ∀ k, B ≤ k → k < w.heap.size → w'.heap[k]? = w.heap[k]?
theorem Keep.of_ext {B : Nat} {w w' : World} (h : Ext w w') : Keep B w w' := ⟨h.size, fun k _ hk => h.block k hk⟩
theorem Keep.trans {B : Nat} {a b c : World} (h : Keep B a b) (k : Keep B b c) : Keep B a c :=
  ⟨Nat.le_trans h.1 k.1, fun i hi hk => (k.2 i hi (Nat.lt_of_lt_of_le hk h.1)).trans (h.2 i hi hk)⟩
theorem Keep.refl (B : Nat) (w : World) : Keep B w w := ⟨Nat.le_refl _, fun _ _ _ => rfl⟩
theorem Keep.set_trans {B : Nat} {w0 w : World} (h : Keep B w0 w) {b : Nat} (hb : b < B) (o : Nat) (u : Value) : Keep B w0 (w.setCell ⟨b, o, none⟩ u) :=
  ⟨by simpa using h.1, fun k hk hs => (heap_setCell_other w ⟨b, o, none⟩ k u (by simp; omega)).trans (h.2 k hk hs)⟩
theorem Keep.cell {B : Nat} {w w' : World} (h : Keep B w w') {b o : Nat} {v : Value} (hb : B ≤ b) (hc : w.cell? ⟨b, o, none⟩ = some v) : w'.cell? ⟨b, o, none⟩ = some v :=
  (World.cell?_of_block (a := ⟨b, o, none⟩) (h.2 b hb (lt_of_cell hc))).trans hc
theorem Keep.setCell {B : Nat} (w : World) {b : Nat} (hb : b < B) (o : Nat) (u : Value) : Keep B w (w.setCell ⟨b, o, none⟩ u) :=
  ⟨by simp, fun k hk _ => heap_setCell_other w ⟨b, o, none⟩ k u (by simp; omega)⟩

/-- How a datum lies in memory: its cells' values, and what they point to, in blocks from B on. -/
abbrev Rel (α : Type) := Nat → World → List Value → α → Prop
structure GoodR {α : Type} (R : Rel α) : Prop where
  keep : ∀ {B w w' vs x}, Keep B w w' → R B w vs x → R B w' vs x
  mono : ∀ {B B' w vs x}, B' ≤ B → R B w vs x → R B' w vs x
theorem GoodR.ext {α : Type} {R : Rel α} (g : GoodR R) {B : Nat} {w w' : World} {vs : List Value} {x : α} (h : R B w vs x) (hE : Ext w w') : R B w' vs x := g.keep (Keep.of_ext hE) h

def IntR : Rel Int := fun _ _ vs x => vs = [.int .i64 x]
def BoolR : Rel Bool := fun _ _ vs x => vs = [.bool x]
def StrR : Rel ByteArray := fun _ _ vs x => vs = [.string x] ∧ x.size ≤ maxLen
theorem good_int : GoodR IntR := ⟨fun _ h => h, fun _ h => h⟩
theorem good_bool : GoodR BoolR := ⟨fun _ h => h, fun _ h => h⟩
theorem good_str : GoodR StrR := ⟨fun _ h => h, fun _ h => h⟩

/-- From address a on lie elements of k cells, which read as the list l. -/
def RowR {α : Type} (k : Nat) (R : Rel α) (B : Nat) (w : World) (a : Option Addr) (l : List α) : Prop :=
  l.length ≤ maxLen ∧ ∀ i, (h : i < l.length) → ∃ b o vs, a = some ⟨b, o, none⟩ ∧ B ≤ b ∧ vs.length = k ∧ (∀ j, (hj : j < vs.length) → w.cell? ⟨b, o + i * k + j, none⟩ = some vs[j]) ∧ R B w vs l[i]
def SliceR {α : Type} (k : Nat) (R : Rel α) : Rel (List α) := fun B w vs l => ∃ a cap, vs = [.slice a l.length cap] ∧ RowR k R B w a l
theorem RowR.keep {α : Type} {k : Nat} {R : Rel α} (g : GoodR R) {B : Nat} {w w' : World} {a : Option Addr} {l : List α} (h : RowR k R B w a l) (hk : Keep B w w') : RowR k R B w' a l := by
  refine ⟨h.1, fun i hi => ?_⟩
  obtain ⟨b, o, vs, h1, h2, h3, h4, h5⟩ := h.2 i hi
  exact ⟨b, o, vs, h1, h2, h3, fun j hj => hk.cell h2 (h4 j hj), g.keep hk h5⟩
theorem RowR.mono {α : Type} {k : Nat} {R : Rel α} (g : GoodR R) {B B' : Nat} {w : World} {a : Option Addr} {l : List α} (h : RowR k R B w a l) (hB : B' ≤ B) : RowR k R B' w a l := by
  refine ⟨h.1, fun i hi => ?_⟩
  obtain ⟨b, o, vs, h1, h2, h3, h4, h5⟩ := h.2 i hi
  exact ⟨b, o, vs, h1, Nat.le_trans hB h2, h3, h4, g.mono hB h5⟩
theorem RowR.ext {α : Type} {k : Nat} {R : Rel α} (g : GoodR R) {B : Nat} {w w' : World} {a : Option Addr} {l : List α} (h : RowR k R B w a l) (hE : Ext w w') : RowR k R B w' a l := h.keep g (Keep.of_ext hE)
theorem good_slice {α : Type} {k : Nat} {R : Rel α} (g : GoodR R) : GoodR (SliceR k R) :=
  ⟨fun hk ⟨a, cap, h1, h2⟩ => ⟨a, cap, h1, h2.keep g hk⟩, fun hB ⟨a, cap, h1, h2⟩ => ⟨a, cap, h1, h2.mono g hB⟩⟩

/-- All its slices have at most 2^20 elements. -/
def SmallL {α : Type} (p : α → Prop) (l : List α) : Prop := l.length ≤ 1048576 ∧ ∀ x ∈ l, p x

/-! ### A row that a call fills, element by element -/
def setCells (w : World) (N : Nat) : Nat → List Value → World
  | _, [] => w
  | o, u :: us => setCells (w.setCell ⟨N, o, none⟩ u) N (o + 1) us
def setMany (arr : Array Value) : Nat → List Value → Array Value
  | _, [] => arr
  | o, u :: us => setMany (arr.setIfInBounds o u) (o + 1) us
theorem setMany_size : ∀ (us : List Value) (arr : Array Value) (o : Nat), (setMany arr o us).size = arr.size
  | [], _, _ => rfl
  | u :: us, arr, o => by rw [setMany, setMany_size us]; simp
theorem setMany_get : ∀ (us : List Value) (arr : Array Value) (o m : Nat), o + us.length ≤ arr.size → (setMany arr o us)[m]? = if o ≤ m ∧ m < o + us.length then us[m - o]? else arr[m]?
  | [], arr, o, m, _ => by
    have : ¬ (o ≤ m ∧ m < o + ([] : List Value).length) := by simp
    rw [if_neg this]; rfl
  | u :: us, arr, o, m, h => by
    simp only [List.length_cons] at h
    rw [setMany, setMany_get us _ (o + 1) m (by simp; omega)]
    by_cases h1 : m = o
    · subst h1
      have h2 : ¬ (m + 1 ≤ m ∧ m < m + 1 + us.length) := by omega
      have h3 : m ≤ m ∧ m < m + (u :: us).length := by simp
      rw [if_neg h2, if_pos h3]
      have h4 : m < arr.size := by omega
      simp [h4]
    · by_cases h2 : o + 1 ≤ m ∧ m < o + 1 + us.length
      · have h3 : o ≤ m ∧ m < o + (u :: us).length := by simp; omega
        rw [if_pos h2, if_pos h3]
        have h4 : m - o = (m - (o + 1)) + 1 := by omega
        rw [h4, List.getElem?_cons_succ]
      · have h3 : ¬ (o ≤ m ∧ m < o + (u :: us).length) := by simp; omega
        rw [if_neg h2, if_neg h3]
        rw [Array.getElem?_setIfInBounds]
        have h4 : ¬ o = m := fun h => h1 h.symm
        rw [if_neg h4]
theorem Box.setCells {N : Nat} {e : TypeId} : ∀ (us : List Value) {w : World} {arr : Array Value} (o : Nat), Box w N e arr → Box (setCells w N o us) N e (setMany arr o us)
  | [], _, _, _, h => h
  | u :: us, _, _, o, h => Box.setCells us (o + 1) (h.set o u)
theorem keep_setCells {N B : Nat} (hB : N < B) : ∀ (us : List Value) (w : World) (o : Nat), Keep B w (setCells w N o us)
  | [], _, _ => ⟨Nat.le_refl _, fun _ _ _ => rfl⟩
  | u :: us, w, o => (Keep.setCell w hB o u).trans (keep_setCells hB us _ (o + 1))
theorem ext_setCells {N : Nat} {w0 : World} (hN : w0.heap.size ≤ N) : ∀ (us : List Value) {w : World} (o : Nat), Ext w0 w → Ext w0 (setCells w N o us)
  | [], _, _, h => h
  | u :: us, _, o, h => ext_setCells hN us (o + 1) (h.setCell' hN u)

/-- Block N is a row for n elements of k cells; the first i of them read as l's. -/
def Filled {α : Type} (k : Nat) (R : Rel α) (N : Nat) (e : TypeId) (n : Nat) (w : World) (l : List α) (i : Nat) : Prop :=
  ∃ arr : Array Value, Box w N e arr ∧ arr.size = n * k ∧ ∀ j, (hj : j < l.length) → j < i → ∃ vs : List Value, vs.length = k ∧ (∀ t, (ht : t < vs.length) → arr[j * k + t]? = some vs[t]) ∧ R (N + 1) w vs l[j]
theorem Filled.cell {α : Type} {k : Nat} {R : Rel α} {N : Nat} {e : TypeId} {n : Nat} {w : World} {l : List α} {i : Nat} (h : Filled k R N e n w l i) {m : Nat} (hm : m < n * k) : ∃ y, w.cell? ⟨N, m, none⟩ = some y := by
  obtain ⟨arr, h1, h2, _⟩ := h
  have h3 : m < arr.size := by omega
  exact ⟨arr[m], by rw [h1.cell m]; simp [h3]⟩
theorem Filled.free {α : Type} {k : Nat} {R : Rel α} {N : Nat} {e : TypeId} {n : Nat} {w : World} {l : List α} {i : Nat} (h : Filled k R N e n w l i) (m : Nat) : w.frozen? ⟨N, m, none⟩ = false := by
  obtain ⟨arr, h1, _⟩ := h
  exact h1.free m
theorem Filled.lt {α : Type} {k : Nat} {R : Rel α} {N : Nat} {e : TypeId} {n : Nat} {w : World} {l : List α} {i : Nat} (h : Filled k R N e n w l i) : N < w.heap.size := by
  obtain ⟨arr, h1, _⟩ := h
  exact h1.lt
theorem Filled.ext {α : Type} {k : Nat} {R : Rel α} (g : GoodR R) {N : Nat} {e : TypeId} {n : Nat} {w w' : World} {l : List α} {i : Nat} (h : Filled k R N e n w l i) (hE : Ext w w') : Filled k R N e n w' l i := by
  obtain ⟨arr, h1, h2, h3⟩ := h
  refine ⟨arr, h1.ext hE, h2, fun j hj hji => ?_⟩
  obtain ⟨vs, h4, h5, h6⟩ := h3 j hj hji
  exact ⟨vs, h4, h5, g.ext h6 hE⟩
theorem Filled.start {α : Type} {k : Nat} {R : Rel α} {N B : Nat} {e : TypeId} {n : Nat} {w : World} {l : List α} {xs : List Value} (h : w.ownsRow B e k (.slice (some ⟨N, 0, none⟩) n n) n xs) (hn : l.length ≤ n) : Filled k R N e n w l 0 := by
  rcases h.2 with ⟨h1, _⟩ | ⟨g, cap, cur, h1, _, h2, _, _, h3, _⟩
  · cases h1
  · cases h1
    exact ⟨cur, h2, h3, fun j _ hj => absurd hj (by omega)⟩
theorem Filled.step {α : Type} {k : Nat} {R : Rel α} (g : GoodR R) {N : Nat} {e : TypeId} {n : Nat} {w : World} {l : List α} {i : Nat} (h : Filled k R N e n w l i) (hi : i < l.length) (hn : l.length ≤ n)
    {us : List Value} (hu : us.length = k) (hR : R (N + 1) w us l[i]) : Filled k R N e n (setCells w N (i * k) us) l (i + 1) := by
  obtain ⟨arr, h1, h2, h3⟩ := h
  have hb : (i + 1) * k ≤ n * k := Nat.mul_le_mul_right k (by omega)
  have hb2 : i * k + us.length ≤ arr.size := by rw [h2, hu]; rw [Nat.add_mul] at hb; omega
  have hkp := keep_setCells (N := N) (B := N + 1) (by omega) us w (i * k)
  refine ⟨_, h1.setCells us (i * k), by rw [setMany_size]; exact h2, fun j hj hji => ?_⟩
  by_cases hji2 : j = i
  · subst hji2
    refine ⟨us, hu, fun t ht => ?_, g.keep hkp hR⟩
    rw [setMany_get us arr _ _ hb2, if_pos ⟨by omega, by omega⟩]
    have : j * k + t - j * k = t := by omega
    rw [this]
    simp [ht]
  · obtain ⟨vs, h4, h5, h6⟩ := h3 j hj (by omega)
    refine ⟨vs, h4, fun t ht => ?_, g.keep hkp h6⟩
    have hlt : (j + 1) * k ≤ i * k := Nat.mul_le_mul_right k (by omega)
    rw [Nat.add_mul] at hlt
    rw [setMany_get us arr _ _ hb2, if_neg (by omega)]
    exact h5 t ht
theorem Filled.done {α : Type} {k : Nat} {R : Rel α} (g : GoodR R) {N : Nat} {e : TypeId} {n : Nat} {w : World} {l : List α} (h : Filled k R N e n w l l.length) (hl : l.length ≤ maxLen) : RowR k R N w (some ⟨N, 0, none⟩) l := by
  obtain ⟨arr, h1, h2, h3⟩ := h
  refine ⟨hl, fun i hi => ?_⟩
  obtain ⟨vs, h4, h5, h6⟩ := h3 i hi hi
  refine ⟨N, 0, vs, rfl, Nat.le_refl _, h4, fun j hj => ?_, g.mono (by omega) h6⟩
  rw [h1.cell, Nat.zero_add]
  exact h5 j hj

theorem Box.new' (w : World) (t : TypeId) (vs : Array Value) (b : Nat) (hb : b = w.heap.size) : Box (w.alloc (.cells vs t)) b t vs := by subst hb; exact Box.new w t vs
theorem Box.set' {w : World} {b : Nat} {t : TypeId} {vs : Array Value} (h : Box w b t vs) {i : Nat} {u : Value} {vs' : Array Value} (e : vs' = vs.setIfInBounds i u) : Box (w.setCell ⟨b, i, none⟩ u) b t vs' := by subst e; exact h.set i u
theorem Box.keep {B : Nat} {w w' : World} {b : Nat} {t : TypeId} {vs : Array Value} (h : Box w b t vs) (hk : Keep B w w') (hb : B ≤ b) : Box w' b t vs := by
  have hs := h.lt
  unfold Box at *
  rw [hk.2 b hb hs]; exact h

/-- What a copying function leaves: the same datum in new memory. -/
def Made {α : Type} (R : Rel α) (w : World) (x : α) (e : Ending) (w' : World) : Prop := ∃ vs, e = .returned (.agg vs.toArray) ∧ R w.heap.size w' vs x ∧ Ext w w'
def MadeS {α : Type} (k : Nat) (R : Rel α) (w : World) (l : List α) (e : Ending) (w' : World) : Prop := ∃ a cap, e = .returned (.slice a l.length cap) ∧ RowR k R w.heap.size w' a l ∧ Ext w w'
/-- What a counting function leaves: what is left, or -1; if something is left, the datum is small. -/
def Sized (left : Int) (p : Prop) (w : World) (e : Ending) (w' : World) : Prop := ∃ v : Int, e = .returned (.int .i64 v) ∧ v ≤ left ∧ -1 ≤ v ∧ (0 ≤ v → p) ∧ Ext w w'
def Yes (w : World) (e : Ending) (w' : World) : Prop := e = .returned (.bool true) ∧ Ext w w'
theorem small_step {α : Type} {p : α → Prop} {l : List α} {i : Nat} (hi : i < l.length) (h : ∀ x ∈ l.take i, p x) (hx : p l[i]) : ∀ x ∈ l.take (i + 1), p x := by
  intro x hm
  rw [List.take_succ_eq_append_getElem hi, List.mem_append] at hm
  rcases hm with h1 | h1
  · exact h x h1
  · simp at h1; subst h1; exact hx
theorem wp_region_ext {P : Program} {id : Nat} {Q : Exit → Act → World → Prop} {a : Act} {w : World} {l : List Oper} (hm : P.follows .mixedOrders = true) (hB : Region.lexB .any l.toArray = true)
    (h : wpQuiet P l.toArray (fun w' => Ext w w') (fun a' => ∀ w', Ext w w' → Q .normal a' w') l a) : (Code.region id l.toArray true).wp P Q a w :=
  wp_region_quiet (C := fun w' => Ext w w') hm hB (Ext.drew' (Ext.refl w)) (by simpa using h)

/-- make([]T, n), T of k cells: a row to be filled. -/
theorem wpList_make_row {P : Program} {w0 w : World} {ops : Array Oper} {rest : List Oper} {o : Oper} {a : Act} {Q : Exit → Act → World → Prop} {α : Type} (R : Rel α) (l : List α) (hgd : o.guard = none) (x c : Operand) (t : TypeId)
    (ho : o.op = .makeSlice t x c)
    {e : TypeId} {z : Value} {k bytes : Nat} (ht : P.underlying t = some (.slice e)) (hinfo : (P.info? e).map (fun i => (i.zero, i.size, i.bytes)) = some (some z, k, bytes)) (hby : bytes ≤ 1024)
    (kl kc : IntKind) (hl : a.eval x = .int kl (l.length : Int)) (hc : a.eval c = .int kc (l.length : Int)) (hn : l.length ≤ 1048576) (hE : Ext w0 w)
    (h : ∀ w', Filled k R w.heap.size e l.length w' l 0 → Ext w0 w' → wpList P ops Q rest (a.put o.dst (.slice (some ⟨w.heap.size, 0, none⟩) l.length l.length)) w') : wpList P ops Q (o :: rest) a w := by
  obtain ⟨i, hi, hz, hsz, hb⟩ := info_parts hinfo
  refine wpList_make_full w hgd x c t ho w0.heap.size e i z k ht hi hz hsz kl kc l.length l.length l.length hl hc rfl rfl ?_ ?_ hE.size ?_
  · have : bytes * l.length ≤ 1024 * 1048576 := Nat.mul_le_mul hby hn
    rw [hb]; omega
  · unfold maxLen; omega
  · intro w' hown hgrow
    exact h w' (Filled.start hown (Nat.le_refl _)) (Below.grown hE hgrow hE.size (fun k hk => by cases hk))
end Go.Er
