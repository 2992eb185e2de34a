/- General lemmas (data by value) and the walks on which the law's proof leans, part 1. No condition. -/
import Derived.WalkKit
import Derived.ProofKit
import Derived.OpenShut
import Derived.ShutString
import Derived.ChangeOld
import Derived.Below
import Derived.Carry
import Derived.SizedLaws
import Derived.Lib.Hide
import Derived.BigQuiet
import Derived.Deep.QuietTactic
import Derived.StillTailTactics
import Derived.Deep.RegionLaw
import Derived.JoinedTies
import Derived.KernelRfl
import Derived.Lib.SmallJoins
import Derived.IntWalk
import Derived.Deep.MidRow
import Derived.Laws.CopyRow
set_option linter.unusedVariables false
set_option linter.unusedSimpArgs false
set_option linter.unusedSectionVars false
section
namespace Go.Er
open Go.ChangeShapes Go.WideShapes Go.ChangeAt Go.RowKit
section
variable {H : Type} {enc : TypeId × Value → H}
theorem trodAll_below {P : Program} (hl : laidOutB P = true) {W W' : World} (hb : Below W.heap.size W W') :
    ∀ {ts : List TypeId} {vs : List Value} {ds : List (DataW H)} {ps : List MemPlace}, (∀ t ∈ ts, P.readableRec t = true ∧ t < P.types.size) →
      DataW.TrodAll enc P W 0 (fun _ => true) true ts vs ds ps → DataW.TrodAll enc P W' 0 (fun b => decide (b < W.heap.size)) true ts vs ds ps := by
  intro ts
  induction ts with
  | nil =>
    intro vs ds ps _ h
    cases vs <;> cases ds <;> simp_all [DataW.TrodAll]
  | cons t ts ih =>
    intro vs ds ps hr h
    obtain ⟨v, vs', d, ds', p, q, rfl, rfl, rfl, h0, h1⟩ := trodAll_cons h
    have lt0 : ∀ x ∈ p, x.block < W.heap.size := by obtain ⟨m, hm⟩ := h0; exact DataW.trod_lt m _ _ _ hm
    exact trodAll_cons_mk (Below.trod hl (hr t (by simp)).1 (hr t (by simp)).2 h0 hb lt0) (ih (fun t' h' => hr t' (by simp [h'])) h1)
theorem trodAll_length {P : Program} {W : World} {base : Nat} {sp : Nat → Bool} {hd : Bool} :
    ∀ {ts : List TypeId} {vs : List Value} {ds : List (DataW H)} {ps : List MemPlace}, DataW.TrodAll enc P W base sp hd ts vs ds ps → vs.length = ts.length ∧ ds.length = ts.length := by
  intro ts
  induction ts with
  | nil => intro vs ds ps h; cases vs <;> cases ds <;> simp_all [DataW.TrodAll]
  | cons t ts ih =>
    intro vs ds ps h
    obtain ⟨v, vs', d, ds', p, q, rfl, rfl, rfl, h0, h1⟩ := trodAll_cons h
    have := ih h1
    simp [this]
end
abbrev Ext (w w' : World) : Prop := Below w.heap.size w w'
theorem Ext.refl (w : World) : Ext w w := Below.refl _ _
theorem Ext.trans {a b c : World} (h : Ext a b) (k : Ext b c) : Ext a c := Below.trans h (k.mono h.size)
theorem Ext.alloc (w : World) (o : Obj) : Ext w (w.alloc o) := (Below.refl _ _).alloc (Nat.le_refl _) o
theorem Ext.setCell' {a w : World} (h : Ext a w) {p : Addr} (hp : a.heap.size ≤ p.block) (u : Value) : Ext a (w.setCell p u) := Below.setCell h hp u
theorem Ext.cells {W w1 : World} (hb : Ext W w1) : ∀ b o, b < W.heap.size → w1.cell? ⟨b, o, none⟩ = W.cell? ⟨b, o, none⟩ :=
  fun b o h => Below.cell hb (p := ⟨b, o, none⟩) h
def Cells (w : World) (a : Option Addr) (cs : List Value) : Prop :=
  ∀ i, (h : i < cs.length) → ∃ b o, a = some ⟨b, o, none⟩ ∧ w.cell? ⟨b, o + i, none⟩ = some cs[i]
def Ints (w : World) (a : Option Addr) (l : List Int) : Prop :=
  ∀ i, (h : i < l.length) → ∃ b o, a = some ⟨b, o, none⟩ ∧ w.cell? ⟨b, o + i, none⟩ = some (.int .i64 l[i])
theorem Ints.cells {w : World} {a : Option Addr} {l : List Int} (h : Ints w a l) : Cells w a (l.map (.int .i64)) := by
  intro i hi
  obtain ⟨b, o, h1, h2⟩ := h i (by simpa using hi)
  exact ⟨b, o, h1, by simpa using h2⟩
theorem Cells.ints {w : World} {a : Option Addr} {l : List Int} (h : Cells w a (l.map (.int .i64))) : Ints w a l := by
  intro i hi
  obtain ⟨b, o, h1, h2⟩ := h i (by simpa using hi)
  exact ⟨b, o, h1, by simpa using h2⟩
theorem lt_of_cell {w : World} {b o : Nat} {v : Value} (h : w.cell? ⟨b, o, none⟩ = some v) : b < w.heap.size :=
  World.block_lt_of_cell? w ⟨b, o, none⟩ h
theorem Cells.ext {w w' : World} {a : Option Addr} {cs : List Value} (h : Cells w a cs) (e : Ext w w') : Cells w' a cs := by
  intro i hi
  obtain ⟨b, o, h1, h2⟩ := h i hi
  exact ⟨b, o, h1, by rw [e.cells b _ (lt_of_cell h2)]; exact h2⟩
theorem Ints.ext {w w' : World} {a : Option Addr} {l : List Int} (h : Ints w a l) (e : Ext w w') : Ints w' a l := (h.cells.ext e).ints
def Own1 (w : World) (B : Nat) (e : TypeId) (v : Value) (cs : List Value) : Prop := w.ownsRow B e 1 v cs.length cs
theorem Own1.nil (w : World) (B : Nat) (e : TypeId) : Own1 w B e (.slice none 0 0) [] := World.ownsRow_nil w B e 1
theorem Own1.ext {w w' : World} {B : Nat} {e : TypeId} {v : Value} {cs : List Value} (h : Own1 w B e v cs) (hE : Ext w w') : Own1 w' B e v cs := by
  refine ⟨h.1, ?_⟩
  rcases h.2 with h2 | ⟨g, cap, cur, hv, hg, hh, r⟩
  · exact Or.inl h2
  · exact Or.inr ⟨g, cap, cur, hv, hg, by rw [hE.block g (Array.getElem?_eq_some_iff.1 hh).1]; exact hh, r⟩
theorem Own1.mono {w : World} {B B' : Nat} {e : TypeId} {v : Value} {cs : List Value} (h : Own1 w B e v cs) (hB : B' ≤ B) : Own1 w B' e v cs := by
  refine ⟨h.1, ?_⟩
  rcases h.2 with h2 | ⟨g, cap, cur, hv, hg, r⟩
  · exact Or.inl h2
  · exact Or.inr ⟨g, cap, cur, hv, Nat.le_trans hB hg, r⟩
theorem Own1.alloc {w : World} {B : Nat} {e : TypeId} {v : Value} {cs : List Value} (h : Own1 w B e v cs) (o : Obj) : Own1 (w.alloc o) B e v cs := h.ext (Ext.alloc w o)
theorem Own1.drewN {w : World} {B : Nat} {e : TypeId} {v : Value} {cs : List Value} (h : Own1 w B e v cs) (n : Nat) : Own1 (w.drewN n) B e v cs := h
theorem Own1.slice {w : World} {B : Nat} {e : TypeId} {v : Value} {cs : List Value} (h : Own1 w B e v cs) : ∃ a cap, v = .slice a cs.length cap ∧ Cells w a cs ∧ (a = none → cs = []) := by
  rcases h.2 with ⟨rfl, hn⟩ | ⟨g, cap, cur, rfl, hg, hh, hn, hm, hs, ht⟩
  · have : cs = [] := List.eq_nil_of_length_eq_zero hn
    subst this
    exact ⟨none, 0, rfl, fun i hi => by simp at hi, fun _ => rfl⟩
  · refine ⟨some ⟨g, 0, none⟩, cap, rfl, fun i hi => ⟨g, 0, rfl, ?_⟩, fun h => by cases h⟩
    have := World.ownsRow.cellAt (w := w) h i (by omega)
    rw [Nat.zero_add, this]
    simp [hi]
theorem Own1.ints {w : World} {B : Nat} {e : TypeId} {v : Value} {l : List Int} (h : Own1 w B e v (l.map (.int .i64))) : ∃ a cap, v = .slice a l.length cap ∧ Ints w a l := by
  obtain ⟨a, cap, h1, h2, _⟩ := h.slice
  exact ⟨a, cap, by simpa using h1, h2.ints⟩
theorem Own1.set {w w0 : World} {e : TypeId} {b n cap : Nat} {cs : List Value} (h : Own1 w w0.heap.size e (.slice (some ⟨b, 0, none⟩) n cap) cs) (hE : Ext w0 w) (j : Nat) (u : Value) :
    Own1 (w.setCell ⟨b, j, none⟩ u) w0.heap.size e (.slice (some ⟨b, 0, none⟩) n cap) (cs.set j u) ∧ Ext w0 (w.setCell ⟨b, j, none⟩ u) := by
  have hn : cs.length = n := by
    rcases h.2 with ⟨h', _⟩ | ⟨g', cap', cur, h', _⟩ <;> simp at h'
    omega
  subst hn
  have hs := World.ownsRow.stored (w := w) h j u
  refine ⟨?_, hE.setCell' (p := ⟨b, j, none⟩) (World.ownsRow.lt h b rfl).1 u⟩
  unfold Own1
  rw [List.length_set]
  exact hs.1
theorem Own1.cellAt {w : World} {B : Nat} {e : TypeId} {b n cap : Nat} {cs : List Value} (h : Own1 w B e (.slice (some ⟨b, 0, none⟩) n cap) cs) (j : Nat) (hj : j < cs.length) : w.cell? ⟨b, j, none⟩ = some cs[j] := by
  have hn : cs.length = n := by
    rcases h.2 with ⟨h', _⟩ | ⟨g', cap', cur, h', _⟩ <;> simp at h'
    omega
  subst hn
  have := World.ownsRow.cellAt (w := w) h j (by omega)
  rw [this]; simp [hj]
theorem Own1.kept {w w' : World} {B : Nat} {e : TypeId} {v v2 : Value} {cs : List Value} (h : Own1 w B e v2 cs) (hg : w.grownBy w' v.ownBlock) (hne : v2.ownBlock = none ∨ v2.ownBlock ≠ v.ownBlock) : Own1 w' B e v2 cs :=
  World.ownsRow.kept h hg hne
def Apart (v v2 : Value) : Prop := ∀ b, v.ownBlock = some b → v2.ownBlock ≠ some b
theorem Apart.symm {v v2 : Value} (h : Apart v v2) : Apart v2 v := fun b h1 h2 => h b h2 h1
theorem Own1.lt {w : World} {B : Nat} {e : TypeId} {v : Value} {cs : List Value} (h : Own1 w B e v cs) {b : Nat} (hb : v.ownBlock = some b) : b < w.heap.size := (World.ownsRow.lt h b hb).2
theorem Own1.beside {w w' : World} {B : Nat} {e : TypeId} {v v' v2 : Value} {cs2 : List Value} (h2 : Own1 w B e v2 cs2) (hap : Apart v v2) (hg : w.grownBy w' v.ownBlock)
    (hb : (v'.ownBlock = v.ownBlock ∧ v.ownBlock ≠ none) ∨ v'.ownBlock = some w.heap.size) : Own1 w' B e v2 cs2 ∧ Apart v' v2 := by
  refine ⟨h2.kept hg ?_, ?_⟩
  · cases h : v2.ownBlock with
    | none => exact Or.inl rfl
    | some b =>
      right
      intro h3
      exact hap b h3.symm h
  · intro b h3 h4
    rcases hb with ⟨h5, _⟩ | h5
    · exact hap b (h5 ▸ h3) h4
    · rw [h5] at h3
      simp at h3
      have := h2.lt h4
      omega
theorem Ext.at {w w' : World} (h : Ext w w') {b o : Nat} {v : Value} (hc : w.cell? ⟨b, o, none⟩ = some v) : w'.cell? ⟨b, o, none⟩ = some v :=
  (h.cells b o (lt_of_cell hc)).trans hc
def Box (w : World) (b : Nat) (t : TypeId) (vs : Array Value) : Prop := w.heap[b]? = some (.cells vs t (0, 0))
theorem Box.new (w : World) (t : TypeId) (vs : Array Value) : Box (w.alloc (.cells vs t)) w.heap.size t vs := heap_alloc_new w _
theorem Box.ext {w w' : World} {b : Nat} {t : TypeId} {vs : Array Value} (h : Box w b t vs) (e : Ext w w') : Box w' b t vs := by
  unfold Box at *
  rw [e.block b (Array.getElem?_eq_some_iff.1 h).1]; exact h
theorem Box.alloc {w : World} {b : Nat} {t : TypeId} {vs : Array Value} (h : Box w b t vs) (o : Obj) : Box (w.alloc o) b t vs := h.ext (Ext.alloc w o)
theorem Box.lt {w : World} {b : Nat} {t : TypeId} {vs : Array Value} (h : Box w b t vs) : b < w.heap.size := (Array.getElem?_eq_some_iff.1 h).1
theorem Box.cell {w : World} {b : Nat} {t : TypeId} {vs : Array Value} (h : Box w b t vs) (i : Nat) : w.cell? ⟨b, i, none⟩ = vs[i]? := cell_of_row w b i vs t (0, 0) h
theorem Box.free {w : World} {b : Nat} {t : TypeId} {vs : Array Value} (h : Box w b t vs) (i : Nat) : w.frozen? ⟨b, i, none⟩ = false := by
  unfold Box at h
  simp [World.frozen?, h]
theorem Box.set {w : World} {b : Nat} {t : TypeId} {vs : Array Value} (h : Box w b t vs) (i : Nat) (u : Value) : Box (w.setCell ⟨b, i, none⟩ u) b t (vs.setIfInBounds i u) := by
  unfold Box at *
  exact heap_setCell_same w b i vs t u h
theorem Box.setOther {w : World} {b c i : Nat} {t : TypeId} {vs : Array Value} (h : Box w b t vs) (hne : b ≠ c) (u : Value) : Box (w.setCell ⟨c, i, none⟩ u) b t vs := by
  unfold Box at *
  rw [heap_setCell_other w ⟨c, i, none⟩ b u hne]; exact h
theorem Box.drewN {w : World} {b : Nat} {t : TypeId} {vs : Array Value} (h : Box w b t vs) (n : Nat) : Box (w.drewN n) b t vs := h
end Go.Er

end
section
namespace Go.Er
open Go.RowKit
def IntRows (w : World) (a : Option Addr) (L : List (List Int)) : Prop :=
  ∀ i, (h : i < L.length) → ∃ b o ai ci, a = some ⟨b, o, none⟩ ∧ w.cell? ⟨b, o + i, none⟩ = some (.slice ai L[i].length ci) ∧ Ints w ai L[i]
theorem IntRows.ext {w w' : World} {a : Option Addr} {L : List (List Int)} (h : IntRows w a L) (e : Ext w w') : IntRows w' a L := by
  intro i hi
  obtain ⟨b, o, ai, ci, h1, h2, h3⟩ := h i hi
  exact ⟨b, o, ai, ci, h1, e.at h2, h3.ext e⟩
theorem Own1.setOther {w : World} {B : Nat} {e : TypeId} {v : Value} {cs : List Value} (h : Own1 w B e v cs) {b j : Nat} (hne : v.ownBlock ≠ some b) (u : Value) : Own1 (w.setCell ⟨b, j, none⟩ u) B e v cs := by
  refine ⟨h.1, ?_⟩
  rcases h.2 with h2 | ⟨g, cap, cur, rfl, hg, hh, r⟩
  · exact Or.inl h2
  · refine Or.inr ⟨g, cap, cur, rfl, hg, ?_, r⟩
    rw [heap_setCell_other w ⟨b, j, none⟩ g u (fun e => hne (by simp only [Value.ownBlock]; rw [e]))]
    exact hh
theorem Own1.shape {w : World} {B : Nat} {e : TypeId} {v : Value} {cs : List Value} (h : Own1 w B e v cs) (hne : 0 < cs.length) : ∃ g cap, v = .slice (some ⟨g, 0, none⟩) cs.length cap := by
  rcases h.2 with ⟨_, hn⟩ | ⟨g, cap, cur, rfl, _⟩
  · omega
  · exact ⟨g, cap, rfl⟩
theorem Apart.nil (v : Value) : Apart (.slice none 0 0) v := fun b h => by simp [Value.ownBlock] at h
def Own2 (w : World) (B : Nat) (e2 e1 : TypeId) (v : Value) (vs : List Value) (L : List (List Value)) : Prop :=
  Own1 w B e2 v vs ∧ vs.length = L.length ∧ (∀ i, (h : i < vs.length) → (h' : i < L.length) → Own1 w B e1 vs[i] L[i] ∧ Apart vs[i] v) ∧
    ∀ i j, (h : i < vs.length) → (h' : j < vs.length) → i ≠ j → Apart vs[i] vs[j]
theorem Own2.ext {w w' : World} {B : Nat} {e2 e1 : TypeId} {v : Value} {vs : List Value} {L : List (List Value)} (h : Own2 w B e2 e1 v vs L) (hE : Ext w w') : Own2 w' B e2 e1 v vs L :=
  ⟨h.1.ext hE, h.2.1, fun i h1 h2 => ⟨(h.2.2.1 i h1 h2).1.ext hE, (h.2.2.1 i h1 h2).2⟩, h.2.2.2⟩
theorem Own2.mono {w : World} {B B' : Nat} {e2 e1 : TypeId} {v : Value} {vs : List Value} {L : List (List Value)} (h : Own2 w B e2 e1 v vs L) (hB : B' ≤ B) : Own2 w B' e2 e1 v vs L :=
  ⟨h.1.mono hB, h.2.1, fun i h1 h2 => ⟨(h.2.2.1 i h1 h2).1.mono hB, (h.2.2.1 i h1 h2).2⟩, h.2.2.2⟩
theorem Own2.push {w w' : World} {B : Nat} {e2 e1 : TypeId} {v v' : Value} {vs : List Value} {L : List (List Value)} {u : Value} {cs : List Value} (h : Own2 w B e2 e1 v vs L)
    (hu : Own1 w B e1 u cs) (huv : Apart u v) (hus : ∀ i, (hi : i < vs.length) → Apart u vs[i])
    (hv' : Own1 w' B e2 v' (vs ++ [u])) (hg : w.grownBy w' v.ownBlock) (hb : (v'.ownBlock = v.ownBlock ∧ v.ownBlock ≠ none) ∨ v'.ownBlock = some w.heap.size) :
    Own2 w' B e2 e1 v' (vs ++ [u]) (L ++ [cs]) := by
  obtain ⟨h1, h2, h3, h4⟩ := h
  have hbu := hu.beside huv.symm hg hb
  refine ⟨hv', by simp [h2], ?_, ?_⟩
  · intro i hi hi'
    simp only [List.length_append, List.length_cons, List.length_nil] at hi hi'
    by_cases hlt : i < vs.length
    · have := h3 i hlt (by omega)
      have hbi := this.1.beside this.2.symm hg hb
      simp only [List.getElem_append_left hlt, List.getElem_append_left (show i < L.length by omega)]
      exact ⟨hbi.1, hbi.2.symm⟩
    · have e1 : (vs ++ [u])[i]'(by simp; omega) = u := by rw [List.getElem_append_right (by omega)]; simp
      have e2 : (L ++ [cs])[i]'(by simp; omega) = cs := by rw [List.getElem_append_right (by omega)]; simp
      rw [e1, e2]
      exact ⟨hbu.1, hbu.2.symm⟩
  · intro i j hi hj hne
    simp only [List.length_append, List.length_cons, List.length_nil] at hi hj
    by_cases hli : i < vs.length
    · by_cases hlj : j < vs.length
      · simp only [List.getElem_append_left hli, List.getElem_append_left hlj]; exact h4 i j hli hlj hne
      · obtain rfl : j = vs.length := by omega
        simp only [List.getElem_append_left hli, List.getElem_append_right (Nat.le_refl _), Nat.sub_self]
        exact (hus i hli).symm
    · obtain rfl : i = vs.length := by omega
      have hlj : j < vs.length := by omega
      simp only [List.getElem_append_left hlj, List.getElem_append_right (Nat.le_refl _), Nat.sub_self]
      exact hus j hlj
theorem Own2.put {w w' w0 : World} {e2 e1 : TypeId} {b n cap k : Nat} {vs : List Value} {L : List (List Value)} {x : Value} {cs : List Value} (h : Own2 w w0.heap.size e2 e1 (.slice (some ⟨b, 0, none⟩) n cap) vs L) (hE : Ext w0 w')
    (hk : k < vs.length) (hx : Own1 w' w0.heap.size e1 x cs) (hg : w.grownBy w' vs[k].ownBlock) (hb : (x.ownBlock = vs[k].ownBlock ∧ vs[k].ownBlock ≠ none) ∨ x.ownBlock = some w.heap.size) :
    Own2 (w'.setCell ⟨b, k, none⟩ x) w0.heap.size e2 e1 (.slice (some ⟨b, 0, none⟩) n cap) (vs.set k x) (L.set k cs) ∧ Ext w0 (w'.setCell ⟨b, k, none⟩ x) := by
  obtain ⟨h1, h2, h3, h4⟩ := h
  have hkv := (h3 k hk (by omega)).2
  have hv := h1.beside hkv hg hb
  have hset := hv.1.set hE k x
  have hne : ∀ y : Value, Apart y (.slice (some ⟨b, 0, none⟩) n cap) → y.ownBlock ≠ some b := fun y hy hyb => hy b hyb rfl
  refine ⟨⟨hset.1, by simp [h2], ?_, ?_⟩, hset.2⟩
  · intro i hi hi'
    have hi2 : i < vs.length := by simpa using hi
    have hi3 : i < L.length := by simpa using hi'
    rw [List.getElem_set, List.getElem_set]
    by_cases hik : k = i
    · rw [if_pos hik, if_pos hik]
      exact ⟨hx.setOther (hne _ hv.2) x, hv.2⟩
    · rw [if_neg hik, if_neg hik]
      have := h3 i hi2 hi3
      have hbi := this.1.beside (h4 k i hk hi2 hik) hg hb
      exact ⟨hbi.1.setOther (hne _ this.2) x, this.2⟩
  · intro i j hi hj hne2
    have hi2 : i < vs.length := by simpa using hi
    have hj2 : j < vs.length := by simpa using hj
    rw [List.getElem_set, List.getElem_set]
    by_cases hik : k = i
    · rw [if_pos hik, if_neg (by omega)]
      subst hik
      exact ((h3 j hj2 (by omega)).1.beside (h4 k j hk hj2 hne2) hg hb).2
    · rw [if_neg hik]
      by_cases hjk : k = j
      · rw [if_pos hjk]
        subst hjk
        exact ((h3 i hi2 (by omega)).1.beside (h4 k i hk hi2 (Ne.symm hne2)) hg hb).2.symm
      · rw [if_neg hjk]
        exact h4 i j hi2 hj2 hne2
end Go.Er

end
section
namespace Go.Er
open Go.RowKit
def Keep (B : Nat) (w w' : World) : Prop := w.heap.size ≤ w'.heap.size ∧ ∀ k, B ≤ k → k < w.heap.size → w'.heap[k]? = w.heap[k]?
theorem Keep.of_ext {B : Nat} {w w' : World} (h : Ext w w') : Keep B w w' := ⟨h.size, fun k _ hk => h.block k hk⟩
theorem Keep.trans {B : Nat} {a b c : World} (h : Keep B a b) (k : Keep B b c) : Keep B a c :=
  ⟨Nat.le_trans h.1 k.1, fun i hi hk => (k.2 i hi (Nat.lt_of_lt_of_le hk h.1)).trans (h.2 i hi hk)⟩
theorem Keep.refl (B : Nat) (w : World) : Keep B w w := ⟨Nat.le_refl _, fun _ _ _ => rfl⟩
theorem Keep.cell {B : Nat} {w w' : World} (h : Keep B w w') {b o : Nat} {v : Value} (hb : B ≤ b) (hc : w.cell? ⟨b, o, none⟩ = some v) : w'.cell? ⟨b, o, none⟩ = some v :=
  (World.cell?_of_block (a := ⟨b, o, none⟩) (h.2 b hb (lt_of_cell hc))).trans hc
theorem Keep.setCell {B : Nat} (w : World) {b : Nat} (hb : b < B) (o : Nat) (u : Value) : Keep B w (w.setCell ⟨b, o, none⟩ u) :=
  ⟨by simp, fun k hk _ => heap_setCell_other w ⟨b, o, none⟩ k u (by simp; omega)⟩
abbrev Rel (α : Type) := Nat → World → List Value → α → Prop
structure GoodR {α : Type} (R : Rel α) : Prop where
  keep : ∀ {B w w' vs x}, Keep B w w' → R B w vs x → R B w' vs x
  mono : ∀ {B B' w vs x}, B' ≤ B → R B w vs x → R B' w vs x
theorem GoodR.ext {α : Type} {R : Rel α} (g : GoodR R) {B : Nat} {w w' : World} {vs : List Value} {x : α} (h : R B w vs x) (hE : Ext w w') : R B w' vs x := g.keep (Keep.of_ext hE) h
def RowR {α : Type} (k : Nat) (R : Rel α) (B : Nat) (w : World) (a : Option Addr) (l : List α) : Prop :=
  l.length ≤ maxLen ∧ ∀ i, (h : i < l.length) → ∃ b o vs, a = some ⟨b, o, none⟩ ∧ B ≤ b ∧ vs.length = k ∧ (∀ j, (hj : j < vs.length) → w.cell? ⟨b, o + i * k + j, none⟩ = some vs[j]) ∧ R B w vs l[i]
theorem RowR.keep {α : Type} {k : Nat} {R : Rel α} (g : GoodR R) {B : Nat} {w w' : World} {a : Option Addr} {l : List α} (h : RowR k R B w a l) (hk : Keep B w w') : RowR k R B w' a l := by
  refine ⟨h.1, fun i hi => ?_⟩
  obtain ⟨b, o, vs, h1, h2, h3, h4, h5⟩ := h.2 i hi
  exact ⟨b, o, vs, h1, h2, h3, fun j hj => hk.cell h2 (h4 j hj), g.keep hk h5⟩
theorem RowR.mono {α : Type} {k : Nat} {R : Rel α} (g : GoodR R) {B B' : Nat} {w : World} {a : Option Addr} {l : List α} (h : RowR k R B w a l) (hB : B' ≤ B) : RowR k R B' w a l := by
  refine ⟨h.1, fun i hi => ?_⟩
  obtain ⟨b, o, vs, h1, h2, h3, h4, h5⟩ := h.2 i hi
  exact ⟨b, o, vs, h1, Nat.le_trans hB h2, h3, h4, g.mono hB h5⟩
theorem RowR.ext {α : Type} {k : Nat} {R : Rel α} (g : GoodR R) {B : Nat} {w w' : World} {a : Option Addr} {l : List α} (h : RowR k R B w a l) (hE : Ext w w') : RowR k R B w' a l := h.keep g (Keep.of_ext hE)
def setCells (w : World) (N : Nat) : Nat → List Value → World
  | _, [] => w
  | o, u :: us => setCells (w.setCell ⟨N, o, none⟩ u) N (o + 1) us
def setMany (arr : Array Value) : Nat → List Value → Array Value
  | _, [] => arr
  | o, u :: us => setMany (arr.setIfInBounds o u) (o + 1) us
theorem Box.setCells {N : Nat} {e : TypeId} : ∀ (us : List Value) {w : World} {arr : Array Value} (o : Nat), Box w N e arr → Box (setCells w N o us) N e (setMany arr o us)
  | [], _, _, _, h => h
  | u :: us, _, _, o, h => Box.setCells us (o + 1) (h.set o u)
def Filled {α : Type} (k : Nat) (R : Rel α) (N : Nat) (e : TypeId) (n : Nat) (w : World) (l : List α) (i : Nat) : Prop :=
  ∃ arr : Array Value, Box w N e arr ∧ arr.size = n * k ∧ ∀ j, (hj : j < l.length) → j < i → ∃ vs : List Value, vs.length = k ∧ (∀ t, (ht : t < vs.length) → arr[j * k + t]? = some vs[t]) ∧ R (N + 1) w vs l[j]
theorem Filled.cell {α : Type} {k : Nat} {R : Rel α} {N : Nat} {e : TypeId} {n : Nat} {w : World} {l : List α} {i : Nat} (h : Filled k R N e n w l i) {m : Nat} (hm : m < n * k) : ∃ y, w.cell? ⟨N, m, none⟩ = some y := by
  obtain ⟨arr, h1, h2, _⟩ := h
  have h3 : m < arr.size := by omega
  exact ⟨arr[m], by rw [h1.cell m]; simp [h3]⟩
theorem Filled.free {α : Type} {k : Nat} {R : Rel α} {N : Nat} {e : TypeId} {n : Nat} {w : World} {l : List α} {i : Nat} (h : Filled k R N e n w l i) (m : Nat) : w.frozen? ⟨N, m, none⟩ = false := by
  obtain ⟨arr, h1, _⟩ := h
  exact h1.free m
theorem Filled.lt {α : Type} {k : Nat} {R : Rel α} {N : Nat} {e : TypeId} {n : Nat} {w : World} {l : List α} {i : Nat} (h : Filled k R N e n w l i) : N < w.heap.size := by
  obtain ⟨arr, h1, _⟩ := h
  exact h1.lt
theorem Filled.ext {α : Type} {k : Nat} {R : Rel α} (g : GoodR R) {N : Nat} {e : TypeId} {n : Nat} {w w' : World} {l : List α} {i : Nat} (h : Filled k R N e n w l i) (hE : Ext w w') : Filled k R N e n w' l i := by
  obtain ⟨arr, h1, h2, h3⟩ := h
  refine ⟨arr, h1.ext hE, h2, fun j hj hji => ?_⟩
  obtain ⟨vs, h4, h5, h6⟩ := h3 j hj hji
  exact ⟨vs, h4, h5, g.ext h6 hE⟩
theorem Filled.done {α : Type} {k : Nat} {R : Rel α} (g : GoodR R) {N : Nat} {e : TypeId} {n : Nat} {w : World} {l : List α} (h : Filled k R N e n w l l.length) (hl : l.length ≤ maxLen) : RowR k R N w (some ⟨N, 0, none⟩) l := by
  obtain ⟨arr, h1, h2, h3⟩ := h
  refine ⟨hl, fun i hi => ?_⟩
  obtain ⟨vs, h4, h5, h6⟩ := h3 i hi hi
  refine ⟨N, 0, vs, rfl, Nat.le_refl _, h4, fun j hj => ?_, g.mono (by omega) h6⟩
  rw [h1.cell, Nat.zero_add]
  exact h5 j hj
theorem Box.keep {B : Nat} {w w' : World} {b : Nat} {t : TypeId} {vs : Array Value} (h : Box w b t vs) (hk : Keep B w w') (hb : B ≤ b) : Box w' b t vs := by
  have hs := h.lt
  unfold Box at *
  rw [hk.2 b hb hs]; exact h
end Go.Er

end
section
namespace Go.Er
open Go.RowKit Go.ChangeShapes Go.WideShapes Go.ChangeAt
end Go.Er

end
section
namespace Go.Dv
open Go.RowKit
inductive D where
  | one (v : Value)
  | sl (o : Option TypeId) (xs : List D)
  | agg (xs : List D)
  | bx (o : Bool) (x : D)
  | any (n : Nat)
mutual
def D.w : D → Nat
  | .one _ => 1
  | .sl _ _ => 1
  | .agg xs => D.ws xs
  | .bx _ _ => 1
  | .any n => n
def D.ws : List D → Nat
  | [] => 0
  | x :: xs => x.w + D.ws xs
end
def Unfz (fz : Nat × Nat) (n : Nat) : Prop := ∀ j, j < n → ¬ (fz.1 ≤ j ∧ j < fz.2)
theorem unfz0 (n : Nat) : Unfz (0, 0) n := fun j _ h => absurd h.2 (by simp)
abbrev Own := Nat → Option (List Nat)
mutual
def R (P : Program) (w : World) (ow : Own) : D → List Nat → List Value → Prop
  | .one v, _, cs => cs = [v] ∧ v.oneCell' = true
  | .sl o xs, l, cs => ∃ a cap, cs = [.slice a xs.length cap] ∧ xs.length ≤ cap ∧ cap ≤ maxLen ∧
      ((a = none ∧ xs = [] ∧ cap = 0) ∨ (o = none ∧ xs = []) ∨
        ∃ b off s C e fz, a = some ⟨b, off, none⟩ ∧ w.heap[b]? = some (.cells C e fz) ∧ (o = none → ow b = none) ∧
          (∀ t, o = some t → ow b = some l ∧ t = e ∧ Unfz fz C.size ∧ off = 0 ∧ C.size = cap * s ∧ ∃ i, P.info? t = some i ∧ i.size = s) ∧ Rs P w ow xs l 0 C off s)
  | .agg xs, l, cs => Ra P w ow xs l 0 cs
  | .bx o x, l, cs => ∃ b off C e fz cs', cs = [.pointer (some ⟨b, off, none⟩)] ∧ w.heap[b]? = some (.cells C e fz) ∧ (o = false → ow b = none) ∧
      (o = true → ow b = some l ∧ Unfz fz C.size ∧ off = 0 ∧ C.size = x.w) ∧ cs'.length = x.w ∧ (∀ j, j < cs'.length → C[off + j]? = cs'[j]?) ∧ R P w ow x (0 :: l) cs'
  | .any n, _, cs => cs.length = n ∧ ∀ v ∈ cs, v.oneCell' = true
def Rs (P : Program) (w : World) (ow : Own) : List D → List Nat → Nat → Array Value → Nat → Nat → Prop
  | [], _, _, _, _, _ => True
  | x :: xs, l, i, C, off, s => ∃ cs, x.w = s ∧ cs.length = s ∧ (∀ j, j < s → C[off + j]? = cs[j]?) ∧ R P w ow x (i :: l) cs ∧ Rs P w ow xs l (i + 1) C (off + s) s
def Ra (P : Program) (w : World) (ow : Own) : List D → List Nat → Nat → List Value → Prop
  | [], _, _, cs => cs = []
  | x :: xs, l, i, cs => ∃ c1 c2, cs = c1 ++ c2 ∧ c1.length = x.w ∧ R P w ow x (i :: l) c1 ∧ Ra P w ow xs l (i + 1) c2
end
mutual
theorem R.len {P : Program} {w : World} {ow : Own} : ∀ {d : D} {l : List Nat} {cs : List Value}, R P w ow d l cs → cs.length = d.w
  | .one v, l, cs, h => by simp only [R] at h; simp [h.1, D.w]
  | .sl o xs, l, cs, h => by simp only [R] at h; obtain ⟨a, cap, rfl, _⟩ := h; simp [D.w]
  | .agg xs, l, cs, h => by simp only [R] at h; simpa [D.w] using Ra.len h
  | .bx o x, l, cs, h => by simp only [R] at h; obtain ⟨b, off, C, e, fz, cs', rfl, _⟩ := h; simp [D.w]
  | .any n, l, cs, h => by simp only [R] at h; simpa only [D.w] using h.1
theorem Ra.len {P : Program} {w : World} {ow : Own} : ∀ {xs : List D} {l : List Nat} {i : Nat} {cs : List Value}, Ra P w ow xs l i cs → cs.length = D.ws xs
  | [], l, i, cs, h => by simp only [Ra] at h; simp [h, D.ws]
  | x :: xs, l, i, cs, h => by
    simp only [Ra] at h
    obtain ⟨c1, c2, rfl, h1, _, h3⟩ := h
    simp [D.ws, h1, Ra.len h3]
end
mutual
theorem R.cells1 {P : Program} {w : World} {ow : Own} : ∀ {d : D} {l : List Nat} {cs : List Value}, R P w ow d l cs → ∀ v ∈ cs, v.oneCell' = true
  | .one v, l, cs, h => by simp only [R] at h; obtain ⟨rfl, h⟩ := h; simpa using h
  | .sl o xs, l, cs, h => by simp only [R] at h; obtain ⟨a, cap, rfl, _⟩ := h; simp [Value.oneCell']
  | .agg xs, l, cs, h => by simp only [R] at h; exact Ra.cells1 h
  | .bx o x, l, cs, h => by simp only [R] at h; obtain ⟨b, off, C, e, fz, cs', rfl, _⟩ := h; simp [Value.oneCell']
  | .any n, l, cs, h => by simp only [R] at h; exact h.2
theorem Ra.cells1 {P : Program} {w : World} {ow : Own} : ∀ {xs : List D} {l : List Nat} {i : Nat} {cs : List Value}, Ra P w ow xs l i cs → ∀ v ∈ cs, v.oneCell' = true
  | [], l, i, cs, h => by simp only [Ra] at h; simp [h]
  | x :: xs, l, i, cs, h => by
    simp only [Ra] at h
    obtain ⟨c1, c2, rfl, h1, h2, h3⟩ := h
    intro v hv
    rcases List.mem_append.1 hv with hv | hv
    · exact R.cells1 h2 v hv
    · exact Ra.cells1 h3 v hv
end
def Keeps (w : World) (ow : Own) (l : List Nat) (w' : World) (ow' : Own) (l2 : List Nat) : Prop :=
  ∀ b, b < w.heap.size → (ow b = none → w'.heap[b]? = w.heap[b]? ∧ ow' b = none) ∧ (∀ q, ow b = some (q ++ l) → w'.heap[b]? = w.heap[b]? ∧ ow' b = some (q ++ l2))
theorem Keeps.child {w : World} {ow : Own} {l : List Nat} {w' : World} {ow' : Own} {l2 : List Nat} (h : Keeps w ow l w' ow' l2) (i : Nat) : Keeps w ow (i :: l) w' ow' (i :: l2) := by
  intro b hb
  refine ⟨(h b hb).1, fun q hq => ?_⟩
  have := (h b hb).2 (q ++ [i]) (by simpa using hq)
  simpa using this
theorem lt_of_heap {w : World} {b : Nat} {o : Obj} (h : w.heap[b]? = some o) : b < w.heap.size := (Array.getElem?_eq_some_iff.1 h).1
mutual
theorem R.tr {P : Program} {w w' : World} {ow ow' : Own} : ∀ {d : D} {l l2 : List Nat} {cs : List Value}, Keeps w ow l w' ow' l2 → R P w ow d l cs → R P w' ow' d l2 cs
  | .one v, l, l2, cs, _, h => by simpa only [R] using h
  | .sl o xs, l, l2, cs, hk, h => by
    simp only [R] at h ⊢
    obtain ⟨a, cap, h1, h2, h3, h4⟩ := h
    refine ⟨a, cap, h1, h2, h3, ?_⟩
    rcases h4 with h4 | h4 | ⟨b, off, s, C, e, fz, ha, hh, hn, hs, hr⟩
    · exact .inl h4
    · exact .inr (.inl h4)
    · refine .inr (.inr ⟨b, off, s, C, e, fz, ha, ?_, ?_, ?_, Rs.tr hk hr⟩)
      · cases o with
        | none => rw [((hk b (lt_of_heap hh)).1 (hn rfl)).1]; exact hh
        | some t => rw [((hk b (lt_of_heap hh)).2 [] (hs t rfl).1).1]; exact hh
      · exact fun ho => ((hk b (lt_of_heap hh)).1 (hn ho)).2
      · exact fun t ht => ⟨by simpa using ((hk b (lt_of_heap hh)).2 [] (hs t ht).1).2, (hs t ht).2⟩
  | .agg xs, l, l2, cs, hk, h => by simp only [R] at h ⊢; exact Ra.tr hk h
  | .bx o x, l, l2, cs, hk, h => by
    simp only [R] at h ⊢
    obtain ⟨b, off, C, e, fz, cs', h1, hh, hn, hs, hl, hc, hr⟩ := h
    refine ⟨b, off, C, e, fz, cs', h1, ?_, ?_, ?_, hl, hc, R.tr (hk.child 0) hr⟩
    · cases o with
      | false => rw [((hk b (lt_of_heap hh)).1 (hn rfl)).1]; exact hh
      | true => rw [((hk b (lt_of_heap hh)).2 [] (hs rfl).1).1]; exact hh
    · exact fun ho => ((hk b (lt_of_heap hh)).1 (hn ho)).2
    · exact fun ho => ⟨by simpa using ((hk b (lt_of_heap hh)).2 [] (hs ho).1).2, (hs ho).2⟩
  | .any n, l, l2, cs, _, h => by simpa only [R] using h
theorem Rs.tr {P : Program} {w w' : World} {ow ow' : Own} : ∀ {xs : List D} {l l2 : List Nat} {i : Nat} {C : Array Value} {off s : Nat}, Keeps w ow l w' ow' l2 → Rs P w ow xs l i C off s → Rs P w' ow' xs l2 i C off s
  | [], _, _, _, _, _, _, _, _ => by simp only [Rs]
  | x :: xs, l, l2, i, C, off, s, hk, h => by
    simp only [Rs] at h ⊢
    obtain ⟨cs, h1, h2, h3, h4, h5⟩ := h
    exact ⟨cs, h1, h2, h3, R.tr (hk.child i) h4, Rs.tr hk h5⟩
theorem Ra.tr {P : Program} {w w' : World} {ow ow' : Own} : ∀ {xs : List D} {l l2 : List Nat} {i : Nat} {cs : List Value}, Keeps w ow l w' ow' l2 → Ra P w ow xs l i cs → Ra P w' ow' xs l2 i cs
  | [], _, _, _, _, _, h => by simpa only [Ra] using h
  | x :: xs, l, l2, i, cs, hk, h => by
    simp only [Ra] at h ⊢
    obtain ⟨c1, c2, h1, h2, h3, h4⟩ := h
    exact ⟨c1, c2, h1, h2, R.tr (hk.child i) h3, Ra.tr hk h4⟩
end
mutual
def D.fz : D → D
  | .one v => .one v
  | .sl _ xs => .sl none (D.fzs xs)
  | .agg xs => .agg (D.fzs xs)
  | .bx _ x => .bx false x.fz
  | .any n => .any n
def D.fzs : List D → List D
  | [] => []
  | x :: xs => x.fz :: D.fzs xs
end
mutual
theorem D.fz_w : ∀ d : D, d.fz.w = d.w
  | .one v => rfl
  | .sl _ xs => rfl
  | .agg xs => by simp only [D.fz, D.w]; exact D.fzs_ws xs
  | .bx _ x => rfl
  | .any n => rfl
theorem D.fzs_ws : ∀ xs : List D, D.ws (D.fzs xs) = D.ws xs
  | [] => rfl
  | x :: xs => by simp only [D.fzs, D.ws, D.fz_w x, D.fzs_ws xs]
end
theorem D.fzs_map : ∀ xs : List D, D.fzs xs = xs.map D.fz
  | [] => rfl
  | x :: xs => by simp [D.fzs, D.fzs_map xs]
def Frees (w : World) (ow : Own) (l : List Nat) (ow' : Own) : Prop :=
  ∀ b, b < w.heap.size → (ow b = none → ow' b = none) ∧ (∀ q, ow b = some (q ++ l) → ow' b = none)
theorem Frees.child {w : World} {ow : Own} {l : List Nat} {ow' : Own} (h : Frees w ow l ow') (i : Nat) : Frees w ow (i :: l) ow' := by
  intro b hb
  refine ⟨(h b hb).1, fun q hq => ?_⟩
  exact (h b hb).2 (q ++ [i]) (by simpa using hq)
theorem Frees.none (w : World) (ow : Own) (l : List Nat) : Frees w ow l (fun _ => none) := fun _ _ => ⟨fun _ => rfl, fun _ _ => rfl⟩
mutual
theorem R.fz {P : Program} {w : World} {ow ow' : Own} : ∀ {d : D} {l l2 : List Nat} {cs : List Value}, Frees w ow l ow' → R P w ow d l cs → R P w ow' d.fz l2 cs
  | .one v, l, l2, cs, _, h => by simpa only [R, D.fz] using h
  | .sl o xs, l, l2, cs, hk, h => by
    simp only [R, D.fz] at h ⊢
    obtain ⟨a, cap, h1, h2, h3, h4⟩ := h
    have hl : (D.fzs xs).length = xs.length := by rw [D.fzs_map]; simp
    refine ⟨a, cap, by rw [hl]; exact h1, by rw [hl]; exact h2, h3, ?_⟩
    rcases h4 with ⟨h4, h5, h6⟩ | ⟨h4, h5⟩ | ⟨b, off, s, C, e, fz, ha, hh, hn, hs, hr⟩
    · exact .inl ⟨h4, by rw [h5]; rfl, h6⟩
    · exact .inr (.inl ⟨trivial, by rw [h5]; rfl⟩)
    · refine .inr (.inr ⟨b, off, s, C, e, fz, ha, hh, ?_, ?_, Rs.fz hk hr⟩)
      · intro _
        cases o with
        | none => exact (hk b (lt_of_heap hh)).1 (hn rfl)
        | some t => exact (hk b (lt_of_heap hh)).2 [] (hs t rfl).1
      · intro t ht; cases ht
  | .agg xs, l, l2, cs, hk, h => by simp only [R, D.fz] at h ⊢; exact Ra.fz hk h
  | .bx o x, l, l2, cs, hk, h => by
    simp only [R, D.fz] at h ⊢
    obtain ⟨b, off, C, e, fz, cs', h1, hh, hn, hs, hl, hc, hr⟩ := h
    refine ⟨b, off, C, e, fz, cs', h1, hh, ?_, ?_, by rw [D.fz_w]; exact hl, hc, R.fz (hk.child 0) hr⟩
    · intro _
      cases o with
      | false => exact (hk b (lt_of_heap hh)).1 (hn rfl)
      | true => exact (hk b (lt_of_heap hh)).2 [] (hs rfl).1
    · intro ho; cases ho
  | .any n, l, l2, cs, _, h => by simpa only [R, D.fz] using h
theorem Rs.fz {P : Program} {w : World} {ow ow' : Own} : ∀ {xs : List D} {l l2 : List Nat} {i : Nat} {C : Array Value} {off s : Nat}, Frees w ow l ow' → Rs P w ow xs l i C off s → Rs P w ow' (D.fzs xs) l2 i C off s
  | [], _, _, _, _, _, _, _, _ => by simp only [Rs, D.fzs]
  | x :: xs, l, l2, i, C, off, s, hk, h => by
    simp only [Rs, D.fzs] at h ⊢
    obtain ⟨cs, h1, h2, h3, h4, h5⟩ := h
    exact ⟨cs, by rw [D.fz_w]; exact h1, h2, h3, R.fz (hk.child i) h4, Rs.fz hk h5⟩
theorem Ra.fz {P : Program} {w : World} {ow ow' : Own} : ∀ {xs : List D} {l l2 : List Nat} {i : Nat} {cs : List Value}, Frees w ow l ow' → Ra P w ow xs l i cs → Ra P w ow' (D.fzs xs) l2 i cs
  | [], _, _, _, _, _, h => by simpa only [Ra, D.fzs] using h
  | x :: xs, l, l2, i, cs, hk, h => by
    simp only [Ra, D.fzs] at h ⊢
    obtain ⟨c1, c2, h1, h2, h3, h4⟩ := h
    exact ⟨c1, c2, h1, by rw [D.fz_w]; exact h2, R.fz (hk.child i) h3, Ra.fz hk h4⟩
end
end Go.Dv

end
section
namespace Go.Dv
open Go.RowKit
def Lies (P : Program) (w : World) (ow : Own) (d : D) (l : List Nat) (b off : Nat) : Prop :=
  ∃ C e fz cs, w.heap[b]? = some (.cells C e fz) ∧ (∀ j, j < d.w → C[off + j]? = cs[j]?) ∧ R P w ow d l cs
theorem Rs.iff {P : Program} {w : World} {ow : Own} {C : Array Value} {s b : Nat} {e : TypeId} {fz : Nat × Nat} (hb : w.heap[b]? = some (.cells C e fz)) :
    ∀ {xs : List D} {l : List Nat} {i off : Nat}, Rs P w ow xs l i C off s ↔ ∀ j x, xs[j]? = some x → x.w = s ∧ Lies P w ow x ((i + j) :: l) b (off + j * s)
  | [], l, i, off => by simp [Rs]
  | x :: xs, l, i, off => by
    simp only [Rs]
    constructor
    · rintro ⟨cs, h1, h2, h3, h4, h5⟩ j y hj
      cases j with
      | zero =>
        simp at hj; subst hj
        exact ⟨h1, C, e, fz, cs, hb, by rw [h1]; simpa using h3, by simpa using h4⟩
      | succ j =>
        have := (Rs.iff hb).1 h5 j y (by simpa using hj)
        rw [show i + 1 + j = i + (j + 1) from by omega, show off + s + j * s = off + (j + 1) * s from by rw [Nat.add_mul]; omega] at this
        exact this
    · intro h
      obtain ⟨h1, C', e', fz', cs, hb', h3, h4⟩ := h 0 x (by simp)
      rw [hb] at hb'
      obtain ⟨rfl, rfl, rfl⟩ : C = C' ∧ e = e' ∧ fz = fz' := by simpa using hb'
      have hl := h4.len
      refine ⟨cs, h1, by rw [hl, h1], by rw [h1] at h3; simpa using h3, by simpa using h4, (Rs.iff hb).2 fun j y hj => ?_⟩
      have := h (j + 1) y (by simpa using hj)
      rw [show i + 1 + j = i + (j + 1) from by omega, show off + s + j * s = off + (j + 1) * s from by rw [Nat.add_mul]; omega]
      exact this
theorem ws_take : ∀ (xs : List D) (j : Nat) (x : D), xs[j]? = some x → D.ws (xs.take j) + x.w ≤ D.ws xs
  | [], j, x, h => by simp at h
  | y :: xs, 0, x, h => by simp at h; subst h; simp [D.ws]
  | y :: xs, j + 1, x, h => by
    have := ws_take xs j x (by simpa using h)
    simp [D.ws]; omega
theorem Ra.iff {P : Program} {w : World} {ow : Own} {C : Array Value} {b : Nat} {e : TypeId} {fz : Nat × Nat} (hb : w.heap[b]? = some (.cells C e fz)) :
    ∀ {xs : List D} {l : List Nat} {i off : Nat}, (off + D.ws xs ≤ C.size ∧ ∀ j x, xs[j]? = some x → Lies P w ow x ((i + j) :: l) b (off + D.ws (xs.take j))) →
      ∃ cs, (∀ j, j < D.ws xs → C[off + j]? = cs[j]?) ∧ Ra P w ow xs l i cs
  | [], l, i, off, _ => ⟨[], by simp [D.ws], by simp [Ra]⟩
  | x :: xs, l, i, off, ⟨hs, h⟩ => by
    obtain ⟨C', e', fz', c1, hb', h3, h4⟩ := h 0 x (by simp)
    rw [hb] at hb'
    obtain ⟨rfl, rfl, rfl⟩ : C = C' ∧ e = e' ∧ fz = fz' := by simpa using hb'
    have hl := h4.len
    simp only [D.ws] at hs
    obtain ⟨c2, h5, h6⟩ := Ra.iff (P := P) (ow := ow) hb (xs := xs) (l := l) (i := i + 1) (off := off + x.w) ⟨by omega, fun j y hj => by
      have := h (j + 1) y (by simpa using hj)
      simp only [List.take_succ_cons, D.ws] at this
      rw [show i + 1 + j = i + (j + 1) from by omega, Nat.add_assoc]
      exact this⟩
    refine ⟨c1 ++ c2, ?_, ?_⟩
    · intro j hj
      by_cases hjx : j < x.w
      · rw [List.getElem?_append_left (by omega)]
        have := h3 j hjx
        simpa [D.ws] using this
      · rw [List.getElem?_append_right (by omega), hl]
        have := h5 (j - x.w) (by simp [D.ws] at hj; omega)
        rw [show off + x.w + (j - x.w) = off + j from by omega] at this
        exact this
    · simp only [Ra]
      exact ⟨c1, c2, rfl, hl, by simpa using h4, h6⟩
theorem Ra.kids {P : Program} {w : World} {ow : Own} {C : Array Value} {b : Nat} {e : TypeId} {fz : Nat × Nat} (hb : w.heap[b]? = some (.cells C e fz)) :
    ∀ {xs : List D} {l : List Nat} {i off : Nat} {cs : List Value}, (∀ j, j < D.ws xs → C[off + j]? = cs[j]?) → Ra P w ow xs l i cs →
      ∀ j x, xs[j]? = some x → Lies P w ow x ((i + j) :: l) b (off + D.ws (xs.take j))
  | [], _, _, _, _, _, _, j, x, h => by simp at h
  | y :: xs, l, i, off, cs, hc, h, j, x, hj => by
    simp only [Ra] at h
    obtain ⟨c1, c2, rfl, h1, h2, h3⟩ := h
    cases j with
    | zero =>
      simp at hj; subst hj
      refine ⟨C, e, fz, c1, hb, fun k hk => ?_, by simpa using h2⟩
      have := hc k (by simp [D.ws]; omega)
      rw [List.getElem?_append_left (by omega)] at this
      simpa [D.ws] using this
    | succ j =>
      have := Ra.kids hb (off := off + y.w) (fun k hk => by
        have := hc (y.w + k) (by simp [D.ws]; omega)
        rw [List.getElem?_append_right (by omega), h1, show y.w + k - y.w = k from by omega] at this
        rw [Nat.add_assoc]; exact this) h3 j x (by simpa using hj)
      simp only [List.take_succ_cons, D.ws]
      rw [show i + (j + 1) = i + 1 + j from by omega, ← Nat.add_assoc]
      exact this
def D.kid : D → Nat → Option D
  | .sl _ xs, i => xs[i]?
  | .agg xs, i => xs[i]?
  | .bx _ x, i => if i = 0 then some x else none
  | _, _ => none
def D.setKid : D → Nat → D → D
  | .sl o xs, i, x => .sl o (xs.set i x)
  | .agg xs, i, x => .agg (xs.set i x)
  | .bx o _, _, x => .bx o x
  | d, _, _ => d
def D.sub : List Nat → D → Option D
  | [], d => some d
  | i :: p, d => match d.kid i with
    | some x => D.sub p x
    | none => none
def D.upd : List Nat → D → D → D
  | [], _, n => n
  | i :: p, d, n => match d.kid i with
    | some x => d.setKid i (D.upd p x n)
    | none => d
def D.free : List Nat → D → Bool
  | [], _ => true
  | i :: p, d => (match d with | .sl o _ => o.isSome | .bx o _ => o | _ => true) && match d.kid i with
    | some x => D.free p x
    | none => false
def into : D → Nat → Value → Option (D × Nat × Nat)
  | .sl _ xs, i, .slice (some ⟨b, off, none⟩) _ _ => xs[i]?.map fun x => (x, b, off + i * x.w)
  | .bx _ x, i, .pointer (some ⟨b, off, none⟩) => if i = 0 then some (x, b, off) else none
  | _, _, _ => none
def locAt (w : World) : List Nat → D → Nat → Nat → Option (Nat × Nat)
  | [], _, b, off => some (b, off)
  | i :: p, .agg xs, b, off => match xs[i]? with
    | some x => locAt w p x b (off + D.ws (xs.take i))
    | none => none
  | i :: p, d, b, off => match w.cell? ⟨b, off, none⟩ with
    | some v => match into d i v with
      | some (x, b', off') => locAt w p x b' off'
      | none => none
    | none => none
def loc (w : World) : List Nat → D → Value → Option (Nat × Nat)
  | [], _, _ => none
  | i :: p, d, v => match into d i v with
    | some (x, b, off) => locAt w p x b off
    | none => none
theorem ws_set : ∀ (xs : List D) (i : Nat) (x y : D), xs[i]? = some x → y.w = x.w → D.ws (xs.set i y) = D.ws xs
  | [], _, _, _, h, _ => by simp at h
  | z :: xs, 0, x, y, h, hw => by simp at h; subst h; simp [D.ws, hw]
  | z :: xs, i + 1, x, y, h, hw => by simp [D.ws, ws_set xs i x y (by simpa using h) hw]
theorem D.upd_w : ∀ (p : List Nat) (d n m : D), D.sub p d = some m → n.w = m.w → (D.upd p d n).w = d.w
  | [], d, n, m, h, hw => by simp [D.sub] at h; subst h; simpa [D.upd] using hw
  | i :: p, d, n, m, h, hw => by
    simp only [D.sub] at h
    simp only [D.upd]
    cases hk : d.kid i with
    | none => rfl
    | some x =>
      rw [hk] at h
      have ih := D.upd_w p x n m h hw
      cases d with
      | one v => cases hk
      | any k => cases hk
      | sl o xs => rfl
      | bx o y => rfl
      | agg xs => simp only [D.kid] at hk; simp only [D.setKid, D.w]; exact ws_set xs i x _ hk ih
structure Wr (w w' : World) (b off n : Nat) : Prop where
  other : ∀ k, k ≠ b → w'.heap[k]? = w.heap[k]?
  this : ∃ C C' e fz, w.heap[b]? = some (.cells C e fz) ∧ w'.heap[b]? = some (.cells C' e fz) ∧ C'.size = C.size ∧ ∀ k, (k < off ∨ off + n ≤ k) → C'[k]? = C[k]?
theorem Wr.cell {w w' : World} {b off n : Nat} (h : Wr w w' b off n) {b1 o1 : Nat} (hd : b1 ≠ b ∨ o1 < off ∨ off + n ≤ o1) : w'.cell? ⟨b1, o1, none⟩ = w.cell? ⟨b1, o1, none⟩ := by
  by_cases hb : b1 = b
  · subst hb
    obtain ⟨C, C', e, fz, h1, h2, _, h4⟩ := h.this
    rw [cell_of_row w b1 o1 C e fz h1, cell_of_row w' b1 o1 C' e fz h2]
    exact h4 o1 (by omega)
  · simp [World.cell?, h.other b1 hb]
theorem suffix_absurd {l : List Nat} {i : Nat} {q : List Nat} (h : l = q ++ i :: l) : False := by
  have := congrArg List.length h; simp at this; omega
theorem suffix_inj {l : List Nat} {i j : Nat} {q q' : List Nat} (h : q ++ i :: l = q' ++ j :: l) : i = j := by
  have h2 : (q ++ [i]) ++ l = (q' ++ [j]) ++ l := by simpa using h
  have h3 := List.append_cancel_right h2
  have := congrArg List.getLast? h3
  simpa using this
def Off (ow : Own) (l : List Nat) (b1 : Nat) : Prop := ow b1 ≠ none ∧ ∀ q, ow b1 ≠ some (q ++ l)
theorem Off.child {ow : Own} {l : List Nat} {b1 : Nat} (h : Off ow l b1) (i : Nat) : Off ow (i :: l) b1 := ⟨h.1, fun q hq => h.2 (q ++ [i]) (by simpa using hq)⟩
theorem Off.keeps {w w' : World} {ow : Own} {l : List Nat} {b1 o1 n : Nat} (hw : Wr w w' b1 o1 n) (h : Off ow l b1) : Keeps w ow l w' ow l := by
  intro b hb
  refine ⟨fun h0 => ⟨hw.other b fun e => ?_, h0⟩, fun q hq => ⟨hw.other b fun e => ?_, hq⟩⟩
  · subst e; exact h.1 h0
  · subst e; exact h.2 q hq
theorem Lies.frame {P : Program} {w w' : World} {ow : Own} {d : D} {l : List Nat} {b off b1 o1 n : Nat} (h : Lies P w ow d l b off) (hw : Wr w w' b1 o1 n) (ho : Off ow l b1)
    (hd : b ≠ b1 ∨ o1 + n ≤ off ∨ off + d.w ≤ o1) : Lies P w' ow d l b off := by
  obtain ⟨C, e, fz, cs, hb, hc, hr⟩ := h
  by_cases he : b = b1
  · subst he
    obtain ⟨C1, C', e', fz', h1, h2, h3, h4⟩ := hw.this
    rw [hb] at h1
    obtain ⟨rfl, rfl, rfl⟩ : C = C1 ∧ e = e' ∧ fz = fz' := by simpa using h1
    refine ⟨C', e, fz, cs, h2, fun j hj => ?_, R.tr (ho.keeps hw) hr⟩
    rw [h4 _ (by omega)]; exact hc j hj
  · exact ⟨C, e, fz, cs, by rw [hw.other b he]; exact hb, hc, R.tr (ho.keeps hw) hr⟩
theorem Lies.cell {P : Program} {w : World} {ow : Own} {d : D} {l : List Nat} {b off : Nat} (h : Lies P w ow d l b off) (hd : d.w = 1) : ∃ v, w.cell? ⟨b, off, none⟩ = some v ∧ R P w ow d l [v] := by
  obtain ⟨C, e, fz, cs, hb, hc, hr⟩ := h
  have hl := hr.len
  rw [hd] at hl hc
  obtain ⟨v, rfl⟩ := List.length_eq_one_iff.1 hl
  refine ⟨v, ?_, hr⟩
  rw [cell_of_row w b off C e fz hb]
  simpa using hc 0 (by omega)
theorem R.into {P : Program} {w : World} {ow : Own} {d : D} {l : List Nat} {v : Value} {i b off : Nat} {x : D} (h : R P w ow d l [v]) (hi : into d i v = some (x, b, off)) :
    d.kid i = some x ∧ Lies P w ow x (i :: l) b off ∧ (ow b = none ∨ ow b = some l) ∧ (D.free [i] d = true → ow b = some l) := by
  cases d with
  | one u => simp [Dv.into] at hi
  | any k => simp [Dv.into] at hi
  | agg xs => simp [Dv.into] at hi
  | sl o xs =>
    simp only [R] at h
    obtain ⟨a, cap, hv, _, _, h4⟩ := h
    obtain rfl : v = .slice a xs.length cap := by simpa using hv
    rcases h4 with ⟨rfl, _⟩ | ⟨rfl, rfl⟩ | ⟨b', off', s, C, e, fz, rfl, hh, hn, hs, hr⟩
    · simp [Dv.into] at hi
    · cases a with
      | none => simp [Dv.into] at hi
      | some a => obtain ⟨ab, ao, as⟩ := a; cases as <;> simp [Dv.into] at hi
    · simp only [Dv.into, Option.map_eq_some_iff] at hi
      obtain ⟨y, hy, he⟩ := hi
      obtain ⟨rfl, rfl, rfl⟩ : y = x ∧ b' = b ∧ off' + i * y.w = off := by simpa using he
      obtain ⟨hw, hL⟩ := (Rs.iff hh).1 hr i y hy
      refine ⟨by simpa [D.kid] using hy, by rw [hw]; simpa using hL, ?_, ?_⟩
      · cases o with
        | none => exact .inl (hn rfl)
        | some t => exact .inr (hs t rfl).1
      · intro hf
        cases o with
        | none => simp [D.free] at hf
        | some t => exact (hs t rfl).1
  | bx o y =>
    simp only [R] at h
    obtain ⟨b', off', C, e, fz, cs', hv, hh, hn, hs, hl, hc, hr⟩ := h
    obtain rfl : v = .pointer (some ⟨b', off', none⟩) := by simpa using hv
    simp only [Dv.into] at hi
    split at hi
    · rename_i h0; subst h0
      obtain ⟨rfl, rfl, rfl⟩ : y = x ∧ b' = b ∧ off' = off := by simpa using hi
      refine ⟨rfl, ⟨C, e, fz, cs', hh, by rw [← hl]; exact hc, hr⟩, ?_, ?_⟩
      · cases o with
        | false => exact .inl (hn rfl)
        | true => exact .inr (hs rfl).1
      · intro hf
        cases o with
        | false => simp [D.free] at hf
        | true => exact (hs rfl).1
    · cases hi
end Go.Dv

end
section
namespace Go.Dv
open Go.RowKit
theorem cell_lt {w : World} {b off : Nat} {C : Array Value} {e : TypeId} {fz : Nat × Nat} {cs : List Value} {n : Nat} (_hb : w.heap[b]? = some (.cells C e fz)) (hc : ∀ j, j < n → C[off + j]? = cs[j]?) (hl : cs.length = n) : n = 0 ∨ off + n ≤ C.size := by
  rcases Nat.eq_zero_or_pos n with h | h
  · exact .inl h
  · right
    have := hc (n - 1) (by omega)
    have h2 : cs[n - 1]? ≠ none := by simp; omega
    rw [← this] at h2
    have := (Array.getElem?_eq_some_iff.1 (Option.ne_none_iff_exists'.1 h2).choose_spec).1
    omega
theorem Lies.agg_kid {P : Program} {w : World} {ow : Own} {xs : List D} {l : List Nat} {b off : Nat} (h : Lies P w ow (.agg xs) l b off) {i : Nat} {x : D} (hi : xs[i]? = some x) : Lies P w ow x (i :: l) b (off + D.ws (xs.take i)) := by
  obtain ⟨C, e, fz, cs, hb, hc, hr⟩ := h
  simp only [R] at hr
  have := Ra.kids hb (off := off) (by simpa [D.w] using hc) hr i x hi
  simpa using this
theorem Lies.agg_mk {P : Program} {w w' : World} {ow ow' : Own} {xs ys : List D} {l : List Nat} {b off : Nat} (h : Lies P w ow (.agg xs) l b off) (hw : D.ws ys = D.ws xs)
    (hb' : ∀ C e fz, w.heap[b]? = some (.cells C e fz) → ∃ C', w'.heap[b]? = some (.cells C' e fz) ∧ C'.size = C.size)
    (hk : ∀ i y, ys[i]? = some y → Lies P w' ow' y (i :: l) b (off + D.ws (ys.take i))) : Lies P w' ow' (.agg ys) l b off := by
  obtain ⟨C, e, fz, cs, hb, hc, hr⟩ := h
  obtain ⟨C', h1, h2⟩ := hb' C e fz hb
  have hl := hr.len
  simp only [D.w] at hl hc
  rcases cell_lt hb hc hl with h0 | h0
  · -- nothing there
    have hy : D.ws ys = 0 := by omega
    have : ∀ (ys : List D) (i : Nat), D.ws ys = 0 → (∀ j y, ys[j]? = some y → ∃ cs, R P w' ow' y ((i + j) :: l) cs ∧ cs.length = y.w) → Ra P w' ow' ys l i [] := by
      intro ys
      induction ys with
      | nil => intro i _ _; simp [Ra]
      | cons y ys ih =>
        intro i h0 hh
        simp only [D.ws] at h0
        obtain ⟨c, hc1, hc2⟩ := hh 0 y (by simp)
        have : c = [] := List.eq_nil_of_length_eq_zero (by omega)
        subst this
        simp only [Ra]
        refine ⟨[], [], rfl, hc2, by simpa using hc1, ih (i + 1) (by omega) fun j z hj => ?_⟩
        have := hh (j + 1) z (by simpa using hj)
        rwa [show i + 1 + j = i + (j + 1) from by omega]
    refine ⟨C', e, fz, [], h1, by intro j hj; simp only [D.w] at hj; omega, ?_⟩
    simp only [R]
    refine this ys 0 hy fun j y hj => ?_
    obtain ⟨_, _, _, c, _, _, hc2⟩ := hk j y hj
    exact ⟨c, by simpa using hc2, hc2.len⟩
  · obtain ⟨cs', h3, h4⟩ := Ra.iff (P := P) (ow := ow') h1 (xs := ys) (l := l) (i := 0) (off := off) ⟨by omega, fun j y hj => by simpa using hk j y hj⟩
    exact ⟨C', e, fz, cs', h1, by simpa [D.w] using h3, by simpa only [R] using h4⟩
theorem Lies.lt {P : Program} {w : World} {ow : Own} {d : D} {l : List Nat} {b off : Nat} (h : Lies P w ow d l b off) : b < w.heap.size := by
  obtain ⟨C, e, fz, cs, hb, _⟩ := h
  exact lt_of_heap hb
theorem locAt_ptr {w : World} {i : Nat} {p : List Nat} {d : D} {b off b1 o1 : Nat} (hd : ∀ xs, d ≠ .agg xs) (h : locAt w (i :: p) d b off = some (b1, o1)) :
    ∃ v x b' off', w.cell? ⟨b, off, none⟩ = some v ∧ into d i v = some (x, b', off') ∧ locAt w p x b' off' = some (b1, o1) := by
  have : locAt w (i :: p) d b off = (match w.cell? ⟨b, off, none⟩ with
    | some v => match into d i v with
      | some (x, b', off') => locAt w p x b' off'
      | none => none
    | none => none) := by
    cases d with
    | agg xs => exact absurd rfl (hd xs)
    | one _ => rfl
    | sl _ _ => rfl
    | bx _ _ => rfl
    | any _ => rfl
  rw [this] at h
  cases hv : w.cell? ⟨b, off, none⟩ with
  | none => rw [hv] at h; cases h
  | some v =>
    rw [hv] at h
    simp only at h
    cases hx : into d i v with
    | none => rw [hx] at h; cases h
    | some r =>
      obtain ⟨x, b', off'⟩ := r
      rw [hx] at h
      exact ⟨v, x, b', off', rfl, hx, h⟩
theorem locAt_ptr_mk {w : World} {i : Nat} {p : List Nat} {d x : D} {b off b' off' : Nat} {v : Value} (hd : ∀ xs, d ≠ .agg xs) (hv : w.cell? ⟨b, off, none⟩ = some v) (hx : into d i v = some (x, b', off')) :
    locAt w (i :: p) d b off = locAt w p x b' off' := by
  cases d with
  | agg xs => exact absurd rfl (hd xs)
  | one _ => simp [Dv.into] at hx
  | sl _ _ => simp only [locAt, hv, hx]
  | bx _ _ => simp only [locAt, hv, hx]
  | any _ => simp [Dv.into] at hx
theorem into_w {d x : D} {i b off : Nat} {v : Value} (h : into d i v = some (x, b, off)) : d.w = 1 ∧ ∀ xs, d ≠ .agg xs := by
  cases d with
  | agg xs => simp [Dv.into] at h
  | one _ => simp [Dv.into] at h
  | any _ => simp [Dv.into] at h
  | sl _ _ => exact ⟨rfl, fun xs h => by cases h⟩
  | bx _ _ => exact ⟨rfl, fun xs h => by cases h⟩
theorem Lies.at {P : Program} {w : World} {ow : Own} : ∀ (p : List Nat) {d n : D} {l : List Nat} {b off b1 o1 : Nat}, Lies P w ow d l b off → locAt w p d b off = some (b1, o1) → D.sub p d = some n →
    Lies P w ow n (p.reverse ++ l) b1 o1 ∧ ((b1 = b ∧ off ≤ o1 ∧ o1 + n.w ≤ off + d.w) ∨ ow b1 = none ∨ ∃ q, ow b1 = some (q ++ l)) ∧
      (D.free p d = true → (b1 = b ∧ off ≤ o1 ∧ o1 + n.w ≤ off + d.w) ∨ ∃ q, ow b1 = some (q ++ l))
  | [], d, n, l, b, off, b1, o1, h, hl, hs => by
    simp only [locAt, Option.some.injEq, Prod.mk.injEq] at hl
    simp only [D.sub, Option.some.injEq] at hs
    obtain ⟨rfl, rfl⟩ := hl
    subst hs
    exact ⟨by simpa using h, .inl ⟨rfl, Nat.le_refl _, Nat.le_refl _⟩, fun _ => .inl ⟨rfl, Nat.le_refl _, Nat.le_refl _⟩⟩
  | i :: p, d, n, l, b, off, b1, o1, h, hl, hs => by
    by_cases hagg : ∃ xs, d = .agg xs
    · obtain ⟨xs, rfl⟩ := hagg
      simp only [locAt] at hl
      simp only [D.sub, D.kid] at hs
      cases hx : xs[i]? with
      | none => rw [hx] at hl; cases hl
      | some x =>
        rw [hx] at hl hs
        have hk := h.agg_kid hx
        obtain ⟨h1, h2, h3⟩ := Lies.at p hk hl hs
        have hle := ws_take xs i x hx
        refine ⟨by simpa using h1, ?_, ?_⟩
        · rcases h2 with ⟨e1, e2, e3⟩ | h2 | ⟨q, h2⟩
          · exact .inl ⟨e1, by omega, by simp only [D.w]; omega⟩
          · exact .inr (.inl h2)
          · exact .inr (.inr ⟨q ++ [i], by simpa using h2⟩)
        · intro hf
          simp only [D.free, D.kid, hx, Bool.true_and] at hf
          rcases h3 hf with ⟨e1, e2, e3⟩ | ⟨q, h2⟩
          · exact .inl ⟨e1, by omega, by simp only [D.w]; omega⟩
          · exact .inr ⟨q ++ [i], by simpa using h2⟩
    · have hd : ∀ xs, d ≠ .agg xs := fun xs e => hagg ⟨xs, e⟩
      obtain ⟨v, x, b', off', hv, hx, hl'⟩ := locAt_ptr hd hl
      obtain ⟨v', hv', hr⟩ := h.cell (into_w hx).1
      rw [hv] at hv'
      obtain rfl : v = v' := by simpa using hv'
      obtain ⟨hkid, hL, ho, hfr⟩ := hr.into hx
      simp only [D.sub, hkid] at hs
      obtain ⟨h1, h2, h3⟩ := Lies.at p hL hl' hs
      refine ⟨by simpa using h1, ?_, ?_⟩
      · rcases h2 with ⟨rfl, _, _⟩ | h2 | ⟨q, h2⟩
        · rcases ho with ho | ho
          · exact .inr (.inl ho)
          · exact .inr (.inr ⟨[], by simpa using ho⟩)
        · exact .inr (.inl h2)
        · exact .inr (.inr ⟨q ++ [i], by simpa using h2⟩)
      · intro hf
        have hf1 : D.free [i] d = true := by
          simp only [D.free, hkid] at hf ⊢
          simp only [Bool.and_eq_true] at hf
          simp [hf.1]
        have hf2 : D.free p x = true := by
          simp only [D.free, hkid, Bool.and_eq_true] at hf
          exact hf.2
        rcases h3 hf2 with ⟨rfl, _, _⟩ | ⟨q, h2⟩
        · exact .inr ⟨[], by simpa using hfr hf1⟩
        · exact .inr ⟨q ++ [i], by simpa using h2⟩
theorem ws_take_set : ∀ (xs : List D) (i : Nat) (x y : D), xs[i]? = some x → y.w = x.w → ∀ j, D.ws ((xs.set i y).take j) = D.ws (xs.take j)
  | [], _, _, _, h, _, _ => by simp at h
  | z :: xs, 0, x, y, h, hw, j => by
    simp at h; subst h
    cases j <;> simp [D.ws, hw]
  | z :: xs, i + 1, x, y, h, hw, j => by
    cases j with
    | zero => simp [D.ws]
    | succ j => simp [D.ws, ws_take_set xs i x y (by simpa using h) hw j]
theorem ws_apart : ∀ (xs : List D) (i j : Nat) (x y : D), xs[i]? = some x → xs[j]? = some y → i ≠ j → D.ws (xs.take i) + x.w ≤ D.ws (xs.take j) ∨ D.ws (xs.take j) + y.w ≤ D.ws (xs.take i)
  | [], i, j, x, y, h, _, _ => by simp at h
  | z :: xs, 0, 0, x, y, _, _, hne => absurd rfl hne
  | z :: xs, 0, j + 1, x, y, h, _, _ => by simp at h; subst h; left; simp [D.ws]
  | z :: xs, i + 1, 0, x, y, _, h, _ => by simp at h; subst h; right; simp [D.ws]
  | z :: xs, i + 1, j + 1, x, y, h, h2, hne => by
    have := ws_apart xs i j x y (by simpa using h) (by simpa using h2) (by omega)
    simp only [List.take_succ_cons, D.ws]
    omega
theorem Wr.same_shape {w w' : World} {b1 o1 n : Nat} (h : Wr w w' b1 o1 n) (b : Nat) : ∀ C e fz, w.heap[b]? = some (.cells C e fz) → ∃ C', w'.heap[b]? = some (.cells C' e fz) ∧ C'.size = C.size := by
  intro C e fz hb
  by_cases he : b = b1
  · subst he
    obtain ⟨C1, C', e', fz', h1, h2, h3, h4⟩ := h.this
    rw [hb] at h1
    obtain ⟨rfl, rfl, rfl⟩ : C = C1 ∧ e = e' ∧ fz = fz' := by simpa using h1
    exact ⟨C', h2, h3⟩
  · exact ⟨C, by rw [h.other b he]; exact hb, rfl⟩
theorem R.upd_kid {P : Program} {w w' : World} {ow : Own} {p l : List Nat} {i b' off' b1 o1 : Nat} {d x n n' : D} {v : Value} (hr : R P w ow d l [v]) (hx : Dv.into d i v = some (x, b', off')) (hf : D.free (i :: p) d = true)
    (hl' : locAt w p x b' off' = some (b1, o1)) (hs : D.sub p x = some n) (hw : Wr w w' b1 o1 n.w) (hnw : n'.w = n.w) (hup : Lies P w' ow (D.upd p x n') (i :: l) b' off') : R P w' ow (D.upd (i :: p) d n') l [v] := by
  have hd := (into_w hx).2
  obtain ⟨hkid, hL, _, hfr⟩ := hr.into hx
  have hf1 : D.free [i] d = true := by
    simp only [D.free, hkid] at hf ⊢
    simp only [Bool.and_eq_true] at hf
    simp [hf.1]
  have hf2 : D.free p x = true := by
    simp only [D.free, hkid, Bool.and_eq_true] at hf
    exact hf.2
  have hob := hfr hf1
  obtain ⟨_, _, hat⟩ := Lies.at p hL hl' hs
  have hxw := D.upd_w p x n' n hs hnw
  have hkidoff : ∀ (j : Nat), j ≠ i → b1 ≠ b' → Off ow (j :: l) b1 := by
    intro j hij hbb
    rcases hat hf2 with ⟨rfl, _, _⟩ | ⟨q, hq⟩
    · exact absurd rfl hbb
    · exact ⟨by rw [hq]; simp, fun q' hq' => hij (suffix_inj (by rw [hq] at hq'; simpa using hq'.symm))⟩
  have hoff' : ∀ (j : Nat), b1 = b' → Off ow (j :: l) b1 := by
    intro j e
    refine ⟨by rw [e, hob]; simp, fun q' hq' => ?_⟩
    rw [e, hob] at hq'
    exact suffix_absurd (by simpa using hq')
  cases d with
  | agg xs => exact absurd rfl (hd xs)
  | one _ => simp [Dv.into] at hx
  | any _ => simp [Dv.into] at hx
  | sl o xs =>
    simp only [R] at hr
    obtain ⟨a, cap, hva, hcap, hmax, h4⟩ := hr
    obtain rfl : v = .slice a xs.length cap := by simpa using hva
    have hix : xs[i]? = some x := by simpa [D.kid] using hkid
    simp only [D.upd, D.kid, hix, D.setKid, R]
    refine ⟨a, cap, by simp, by simpa using hcap, hmax, ?_⟩
    rcases h4 with ⟨_, h4, _⟩ | ⟨_, h4⟩ | ⟨b2, off2, s, C, e, fz, rfl, hh, hn0, hs0, hr0⟩
    · rw [h4] at hix; simp at hix
    · rw [h4] at hix; simp at hix
    · right; right
      simp only [Dv.into, hix, Option.map_some, Option.some.injEq, Prod.mk.injEq] at hx
      obtain ⟨_, rfl, rfl⟩ := hx
      obtain ⟨C', hC', hsz⟩ := hw.same_shape b2 C e fz hh
      refine ⟨b2, off2, s, C', e, fz, rfl, hC', hn0, fun t ht => ?_, ?_⟩
      · obtain ⟨g1, g2, g3, g4, g5, g6⟩ := hs0 t ht
        exact ⟨g1, g2, by rw [hsz]; exact g3, g4, by rw [hsz]; exact g5, g6⟩
      · refine (Rs.iff hC').2 fun j y hj => ?_
        have hall := (Rs.iff hh).1 hr0
        by_cases hij : j = i
        · subst hij
          obtain ⟨g1, g2⟩ := hall j x hix
          have hlt := (List.getElem?_eq_some_iff.1 hix).1
          rw [List.getElem?_set_self hlt] at hj
          obtain rfl : D.upd p x n' = y := by simpa using hj
          exact ⟨by rw [hxw]; exact g1, by rw [g1] at hup; simpa using hup⟩
        · rw [List.getElem?_set_ne (by omega)] at hj
          obtain ⟨g1, g2⟩ := hall j y hj
          obtain ⟨gx, _⟩ := hall i x hix
          refine ⟨g1, g2.frame hw ?_ ?_⟩
          · rw [Nat.zero_add]
            by_cases hbb : b1 = b2
            · exact hoff' j hbb
            · exact hkidoff j hij hbb
          · by_cases hbb : b2 = b1
            · right
              rcases hat hf2 with ⟨_, h5, h6⟩ | ⟨q, hq⟩
              · rw [gx] at h5 h6
                rw [g1]
                rcases Nat.lt_or_gt_of_ne hij with h7 | h7
                · right
                  have : j * s + s ≤ i * s := by rw [← Nat.succ_mul]; exact Nat.mul_le_mul_right _ h7
                  omega
                · left
                  have : i * s + s ≤ j * s := by rw [← Nat.succ_mul]; exact Nat.mul_le_mul_right _ h7
                  omega
              · rw [← hbb, hob] at hq
                exact (suffix_absurd (by simpa using hq)).elim
            · exact .inl hbb
  | bx o y =>
    simp only [R] at hr
    obtain ⟨b2, off2, C, e, fz, cs', hva, hh, hn0, hs0, hl0, hc0, hr0⟩ := hr
    obtain rfl : v = .pointer (some ⟨b2, off2, none⟩) := by simpa using hva
    simp only [Dv.into] at hx
    split at hx
    · rename_i h0; subst h0
      obtain ⟨rfl, rfl, rfl⟩ : y = x ∧ b2 = b' ∧ off2 = off' := by simpa using hx
      simp only [D.upd, D.kid, if_true, D.setKid, R]
      obtain ⟨C', hC', hsz⟩ := hw.same_shape b2 C e fz hh
      obtain ⟨C2, e2, fz2, cs2, g1, g2, g3⟩ := hup
      rw [hC'] at g1
      obtain ⟨rfl, rfl, rfl⟩ : C' = C2 ∧ e = e2 ∧ fz = fz2 := by simpa using g1
      have hl2 := g3.len
      refine ⟨b2, off2, C', e, fz, cs2, rfl, hC', hn0, fun ho => ?_, hl2, by rw [hl2]; exact g2, g3⟩
      obtain ⟨k1, k2, k3, k4⟩ := hs0 ho
      exact ⟨k1, by rw [hsz]; exact k2, k3, by rw [hsz, hxw]; exact k4⟩
    · cases hx
theorem Lies.upd {P : Program} {w w' : World} {ow : Own} : ∀ (p : List Nat) {d n n' : D} {l : List Nat} {b off b1 o1 : Nat}, Lies P w ow d l b off → locAt w p d b off = some (b1, o1) → D.sub p d = some n →
    D.free p d = true → Wr w w' b1 o1 n.w → n'.w = n.w → Lies P w' ow n' (p.reverse ++ l) b1 o1 → (∀ q, ow b ≠ some (q ++ l)) → ow b ≠ none →
    Lies P w' ow (D.upd p d n') l b off
  | [], d, n, n', l, b, off, b1, o1, h, hl, hs, hf, hw, hnw, hn, hb1, hb2 => by
    simp only [locAt, Option.some.injEq, Prod.mk.injEq] at hl
    obtain ⟨rfl, rfl⟩ := hl
    simpa [D.upd] using hn
  | i :: p, d, n, n', l, b, off, b1, o1, h, hl, hs, hf, hw, hnw, hn, hb1, hb2 => by
    by_cases hagg : ∃ xs, d = .agg xs
    · obtain ⟨xs, rfl⟩ := hagg
      simp only [locAt] at hl
      simp only [D.sub, D.kid] at hs
      simp only [D.free, D.kid, Bool.true_and] at hf
      cases hx : xs[i]? with
      | none => rw [hx] at hl; cases hl
      | some x =>
        rw [hx] at hl hs hf
        have hk := h.agg_kid hx
        have hup := Lies.upd p (n' := n') hk hl hs hf hw hnw (by simpa using hn) (fun q hq => hb1 (q ++ [i]) (by simpa using hq)) hb2
        obtain ⟨_, _, hat⟩ := Lies.at p hk hl hs
        have hxw := D.upd_w p x n' n hs hnw
        simp only [D.upd, D.kid, hx, D.setKid]
        refine h.agg_mk (ws_set xs i x _ hx hxw) (hw.same_shape b) ?_
        intro j y hj
        rw [ws_take_set xs i x _ hx hxw]
        by_cases hij : j = i
        · subst hij
          have : y = D.upd p x n' := by
            have hlt := (List.getElem?_eq_some_iff.1 hx).1
            rw [List.getElem?_set_self hlt] at hj
            simpa using hj.symm
          subst this; exact hup
        · rw [List.getElem?_set_ne (by omega)] at hj
          refine (h.agg_kid hj).frame hw ?_ ?_
          · rcases hat hf with ⟨rfl, _, _⟩ | ⟨q, hq⟩
            · exact ⟨hb2, fun q hq => hb1 (q ++ [j]) (by simpa using hq)⟩
            · refine ⟨by rw [hq]; simp, fun q' hq' => ?_⟩
              rw [hq] at hq'
              exact hij (suffix_inj (by simpa using hq'.symm))
          · rcases hat hf with ⟨rfl, h5, h6⟩ | ⟨q, hq⟩
            · right
              have := ws_apart xs i j x y hx hj (by omega)
              omega
            · left; intro e; subst e; exact hb1 (q ++ [i]) (by simpa using hq)
    · have hd : ∀ xs, d ≠ .agg xs := fun xs e => hagg ⟨xs, e⟩
      obtain ⟨v, x, b', off', hv, hx, hl'⟩ := locAt_ptr hd hl
      obtain ⟨v', hv', hr⟩ := h.cell (into_w hx).1
      rw [hv] at hv'
      obtain rfl : v = v' := by simpa using hv'
      obtain ⟨hkid, hL, _, hfr⟩ := hr.into hx
      simp only [D.sub, hkid] at hs
      have hf1 : D.free [i] d = true := by
        simp only [D.free, hkid] at hf ⊢
        simp only [Bool.and_eq_true] at hf
        simp [hf.1]
      have hf2 : D.free p x = true := by
        simp only [D.free, hkid, Bool.and_eq_true] at hf
        exact hf.2
      have hob := hfr hf1
      have hup := Lies.upd p (n' := n') hL hl' hs hf2 hw hnw (by simpa using hn) (fun q hq => by rw [hob] at hq; exact suffix_absurd (by simpa using hq)) (by rw [hob]; simp)
      obtain ⟨_, _, hat⟩ := Lies.at p hL hl' hs
      have hxw := D.upd_w p x n' n hs hnw
      have hb1own : ∃ q, ow b1 = some (q ++ l) := by
        rcases hat hf2 with ⟨rfl, _, _⟩ | ⟨q, hq⟩
        · exact ⟨[], by simpa using hob⟩
        · exact ⟨q ++ [i], by simpa using hq⟩
      have hne : b ≠ b1 := by
        rintro rfl
        obtain ⟨q, hq⟩ := hb1own
        exact hb1 q hq
      have hcell : w'.cell? ⟨b, off, none⟩ = some v := by rw [hw.cell (.inl hne)]; exact hv
      have key : R P w' ow (D.upd (i :: p) d n') l [v] := hr.upd_kid hx hf hl' hs hw hnw hup
      have hw1 : (D.upd (i :: p) d n').w = 1 := by
        have := D.upd_w (i :: p) d n' n (by simp only [D.sub, hkid]; exact hs) hnw
        rw [this]; exact (into_w hx).1
      obtain ⟨C, e, fz, cs, hb, hc, _⟩ := h
      refine ⟨C, e, fz, [v], by rw [hw.other b hne]; exact hb, ?_, key⟩
      intro j hj
      rw [hw1] at hj
      obtain rfl : j = 0 := by omega
      rw [cell_of_row w b off C e fz hb] at hv
      simpa using hv
theorem R.upd {P : Program} {w w' : World} {ow : Own} {p : List Nat} {d n n' : D} {l : List Nat} {v : Value} {b1 o1 : Nat} (h : R P w ow d l [v]) (hl : loc w p d v = some (b1, o1)) (hs : D.sub p d = some n)
    (hf : D.free p d = true) (hw : Wr w w' b1 o1 n.w) (hnw : n'.w = n.w) (hn : Lies P w' ow n' (p.reverse ++ l) b1 o1) : R P w' ow (D.upd p d n') l [v] := by
  cases p with
  | nil => simp [loc] at hl
  | cons i p =>
    simp only [loc] at hl
    cases hx : Dv.into d i v with
    | none => rw [hx] at hl; cases hl
    | some r =>
      obtain ⟨x, b', off'⟩ := r
      rw [hx] at hl
      obtain ⟨hk, hL, _, hfr⟩ := h.into hx
      simp only [D.sub, hk] at hs
      have hf1 : D.free [i] d = true := by
        simp only [D.free, hk] at hf ⊢
        simp only [Bool.and_eq_true] at hf
        simp [hf.1]
      have hf2 : D.free p x = true := by
        simp only [D.free, hk, Bool.and_eq_true] at hf
        exact hf.2
      have hob := hfr hf1
      exact h.upd_kid hx hf hl hs hw hnw (Lies.upd p hL hl hs hf2 hw hnw (by simpa using hn) (fun q hq => by rw [hob] at hq; exact suffix_absurd (by simpa using hq)) (by rw [hob]; simp))
end Go.Dv

end
section
namespace Go.Dv
open Go.RowKit
theorem locAt_agg {w : World} {i : Nat} {p : List Nat} {xs : List D} {b off : Nat} : locAt w (i :: p) (.agg xs) b off = (match xs[i]? with
    | some x => locAt w p x b (off + D.ws (xs.take i))
    | none => none) := rfl
theorem locAt_none {w : World} {i : Nat} {p : List Nat} {d : D} {b off : Nat} (hd : ∀ xs, d ≠ .agg xs) (h : ∀ v x b' off', w.cell? ⟨b, off, none⟩ = some v → into d i v ≠ some (x, b', off')) : locAt w (i :: p) d b off = none := by
  cases hh : locAt w (i :: p) d b off with
  | none => rfl
  | some r =>
    obtain ⟨b1, o1⟩ := r
    obtain ⟨v, x, b', off', hv, hx, _⟩ := locAt_ptr hd hh
    exact absurd hx (h v x b' off' hv)
theorem locAt_frame {P : Program} {w w' : World} {ow : Own} {b1 o1 n : Nat} (hw : Wr w w' b1 o1 n) : ∀ (r : List Nat) {d : D} {l : List Nat} {b off : Nat}, Lies P w ow d l b off → Off ow l b1 → (b ≠ b1 ∨ o1 + n ≤ off ∨ off + d.w ≤ o1) →
    locAt w' r d b off = locAt w r d b off
  | [], _, _, _, _, _, _, _ => by simp [locAt]
  | i :: r, d, l, b, off, h, ho, hdj => by
    by_cases hagg : ∃ xs, d = .agg xs
    · obtain ⟨xs, rfl⟩ := hagg
      simp only [locAt_agg]
      cases hx : xs[i]? with
      | none => rfl
      | some x =>
        have := ws_take xs i x hx
        simp only [D.w] at hdj
        exact locAt_frame hw r (h.agg_kid hx) (ho.child i) (by omega)
    · have hd : ∀ xs, d ≠ .agg xs := fun xs e => hagg ⟨xs, e⟩
      by_cases hex : ∃ v x b' off', w.cell? ⟨b, off, none⟩ = some v ∧ into d i v = some (x, b', off')
      · obtain ⟨v, x, b', off', hv, hx⟩ := hex
        have hcell : w'.cell? ⟨b, off, none⟩ = some v := by
          rw [hw.cell (by have := (into_w hx).1; omega)]; exact hv
        rw [locAt_ptr_mk hd hv hx, locAt_ptr_mk hd hcell hx]
        obtain ⟨v', hv', hr⟩ := h.cell (into_w hx).1
        rw [hv] at hv'
        obtain rfl : v = v' := by simpa using hv'
        obtain ⟨_, hL, hob, _⟩ := hr.into hx
        refine locAt_frame hw r hL (ho.child i) (.inl ?_)
        rintro rfl
        rcases hob with hob | hob
        · exact ho.1 hob
        · exact ho.2 [] (by simpa using hob)
      · have hno : ∀ v x b' off', w.cell? ⟨b, off, none⟩ = some v → into d i v ≠ some (x, b', off') := fun v x b' off' hv hx => hex ⟨v, x, b', off', hv, hx⟩
        rw [locAt_none hd hno]
        cases hd1 : d with
        | agg xs => exact absurd hd1 (hd xs)
        | one u => exact locAt_none (fun xs e => by cases e) (fun v x b' off' _ hx => by simp [Dv.into] at hx)
        | any k => exact locAt_none (fun xs e => by cases e) (fun v x b' off' _ hx => by simp [Dv.into] at hx)
        | sl o xs =>
          subst hd1
          refine locAt_none hd fun v x b' off' hv hx => hno v x b' off' ?_ hx
          rw [hw.cell (by simp only [D.w] at hdj; omega)] at hv; exact hv
        | bx o y =>
          subst hd1
          refine locAt_none hd fun v x b' off' hv hx => hno v x b' off' ?_ hx
          rw [hw.cell (by simp only [D.w] at hdj; omega)] at hv; exact hv
theorem into_setKid {d y : D} {i j : Nat} {v : Value} {x : D} (hk : d.kid i = some x) (hy : y.w = x.w) :
    (into (d.setKid i y) j v) = (into d j v).map fun r => (if j = i then y else r.1, r.2.1, r.2.2) := by
  cases d with
  | one _ => cases hk
  | any _ => cases hk
  | agg xs => cases v <;> rfl
  | sl o xs =>
    simp only [D.kid] at hk
    simp only [D.setKid]
    cases v with
    | slice a n cap =>
      cases a with
      | none => rfl
      | some a =>
        obtain ⟨ab, ao, as⟩ := a
        cases as with
        | some _ => rfl
        | none =>
          simp only [Dv.into, Option.map_map]
          by_cases hij : j = i
          · subst hij
            have hlt := (List.getElem?_eq_some_iff.1 hk).1
            rw [List.getElem?_set_self hlt, hk]
            simp [hy]
          · rw [List.getElem?_set_ne (by omega)]
            cases xs[j]? <;> simp [hij]
    | _ => rfl
  | bx o z =>
    simp only [D.kid] at hk
    split at hk
    · rename_i h0; subst h0
      simp only [D.setKid]
      cases v with
      | pointer a =>
        cases a with
        | none => rfl
        | some a =>
          obtain ⟨ab, ao, as⟩ := a
          cases as with
          | some _ => rfl
          | none =>
            simp only [Dv.into]
            by_cases hj : j = 0 <;> simp [hj]
      | _ => rfl
    · cases hk
theorem locAt_loc {w : World} {i : Nat} {p : List Nat} {d : D} {b off : Nat} {v : Value} (hd : ∀ xs, d ≠ .agg xs) (hv : w.cell? ⟨b, off, none⟩ = some v) : locAt w (i :: p) d b off = loc w (i :: p) d v := by
  cases d with
  | agg xs => exact absurd rfl (hd xs)
  | one _ => simp only [locAt, hv, loc]
  | sl _ _ => simp only [locAt, hv, loc]
  | bx _ _ => simp only [locAt, hv, loc]
  | any _ => simp only [locAt, hv, loc]
theorem D.free_parts {i : Nat} {p : List Nat} {d x : D} (hk : d.kid i = some x) (hf : D.free (i :: p) d = true) : D.free [i] d = true ∧ D.free p x = true := by
  simp only [D.free, hk, Bool.and_eq_true] at hf ⊢
  exact ⟨⟨hf.1, trivial⟩, hf.2⟩
theorem R.upd_loc_kid {P : Program} {w w' : World} {ow : Own} {u u' : Value} {p l : List Nat} {i b' off' b1 o1 : Nat} {d x : D} {v : Value} (hr : R P w ow d l [v]) (hx : Dv.into d i v = some (x, b', off')) (hf : D.free (i :: p) d = true)
    (hl' : locAt w p x b' off' = some (b1, o1)) (hs : D.sub p x = some (.one u)) (hw : Wr w w' b1 o1 1) (ih : ∀ r, locAt w' r (D.upd p x (.one u')) b' off' = locAt w r x b' off') (j : Nat) (r : List Nat) :
    loc w' (j :: r) (D.upd (i :: p) d (.one u')) v = loc w (j :: r) d v := by
  obtain ⟨hkid, hL, _, hfr⟩ := hr.into hx
  obtain ⟨hf1, hf2⟩ := D.free_parts hkid hf
  have hob := hfr hf1
  obtain ⟨_, _, hat⟩ := Lies.at p hL hl' hs
  have hxw := D.upd_w p x (.one u') (.one u) hs rfl
  have hupd : D.upd (i :: p) d (.one u') = d.setKid i (D.upd p x (.one u')) := by simp only [D.upd, hkid]
  simp only [loc]
  rw [hupd, into_setKid hkid hxw]
  cases hj : Dv.into d j v with
  | none => rfl
  | some res =>
    obtain ⟨y, b2, o2⟩ := res
    simp only [Option.map_some]
    by_cases hij : j = i
    · subst hij
      rw [hx] at hj
      obtain ⟨rfl, rfl, rfl⟩ : x = y ∧ b' = b2 ∧ off' = o2 := by simpa using hj
      rw [if_pos rfl]
      exact ih r
    · rw [if_neg hij]
      obtain ⟨hkj, hLj, hoj, _⟩ := hr.into hj
      have hb2 : b2 = b' := by
        cases d with
        | agg xs => simp [Dv.into] at hx
        | one _ => cases hkid
        | any _ => cases hkid
        | sl o xs =>
          cases v with
          | slice a n cap =>
            cases a with
            | none => simp [Dv.into] at hx
            | some a =>
              obtain ⟨ab, ao, as⟩ := a
              cases as with
              | some _ => simp [Dv.into] at hx
              | none =>
                simp only [Dv.into, Option.map_eq_some_iff, Prod.mk.injEq] at hx hj
                obtain ⟨_, _, _, rfl, _⟩ := hx
                obtain ⟨_, _, _, rfl, _⟩ := hj
                rfl
          | _ => simp [Dv.into] at hx
        | bx o z =>
          simp only [D.kid] at hkid hkj
          split at hkid
          · split at hkj
            · omega
            · cases hkj
          · cases hkid
      subst hb2
      refine locAt_frame hw r hLj ?_ ?_
      · rcases hat hf2 with ⟨rfl, _, _⟩ | ⟨q, hq⟩
        · exact ⟨by rw [hob]; simp, fun q' hq' => by rw [hob] at hq'; exact suffix_absurd (by simpa using hq')⟩
        · exact ⟨by rw [hq]; simp, fun q' hq' => hij (suffix_inj (by rw [hq] at hq'; simpa using hq'.symm))⟩
      · rcases hat hf2 with ⟨rfl, h5, h6⟩ | ⟨q, hq⟩
        · right
          cases d with
          | agg xs => simp [Dv.into] at hx
          | one _ => cases hkid
          | any _ => cases hkid
          | bx o z =>
            simp only [D.kid] at hkid hkj
            split at hkid
            · split at hkj
              · omega
              · cases hkj
            · cases hkid
          | sl o xs =>
            simp only [R] at hr
            obtain ⟨a, cap, hva, _, _, h4⟩ := hr
            obtain rfl : v = .slice a xs.length cap := by simpa using hva
            simp only [D.kid] at hkid hkj
            rcases h4 with ⟨_, h4, _⟩ | ⟨_, h4⟩ | ⟨b3, off3, s, C, e, fz, rfl, hh, _, _, hr0⟩
            · rw [h4] at hkid; simp at hkid
            · rw [h4] at hkid; simp at hkid
            · have hall := (Rs.iff hh).1 hr0
              obtain ⟨gx, _⟩ := hall i x hkid
              obtain ⟨gy, _⟩ := hall j y hkj
              simp only [Dv.into, hkid, hkj, Option.map_some, Option.some.injEq, Prod.mk.injEq] at hx hj
              obtain ⟨_, _, rfl⟩ := hx
              obtain ⟨_, _, rfl⟩ := hj
              simp only [D.w] at h6
              rw [gx] at h5 h6
              rw [gy]
              rcases Nat.lt_or_gt_of_ne hij with h7 | h7
              · right
                have : j * s + s ≤ i * s := by rw [← Nat.succ_mul]; exact Nat.mul_le_mul_right _ h7
                omega
              · left
                have : i * s + s ≤ j * s := by rw [← Nat.succ_mul]; exact Nat.mul_le_mul_right _ h7
                omega
        · left
          intro e
          rw [← e, hob] at hq
          exact suffix_absurd (by simpa using hq)
theorem upd_ne_agg {i : Nat} {p : List Nat} {d n : D} (hd : ∀ xs, d ≠ .agg xs) : ∀ xs, D.upd (i :: p) d n ≠ .agg xs := by
  intro xs
  simp only [D.upd]
  cases hk : d.kid i with
  | none => exact hd xs
  | some x =>
    cases d with
    | agg ys => exact absurd rfl (hd ys)
    | one _ => cases hk
    | any _ => cases hk
    | sl _ _ => simp [D.setKid]
    | bx _ _ => simp [D.setKid]
theorem Lies.upd_loc {P : Program} {w w' : World} {ow : Own} {u u' : Value} : ∀ (p r : List Nat) {d : D} {l : List Nat} {b off b1 o1 : Nat}, Lies P w ow d l b off → locAt w p d b off = some (b1, o1) → D.sub p d = some (.one u) →
    D.free p d = true → Wr w w' b1 o1 1 → (∀ q, ow b ≠ some (q ++ l)) → ow b ≠ none →
    locAt w' r (D.upd p d (.one u')) b off = locAt w r d b off
  | p, [], d, l, b, off, b1, o1, h, hl, hs, hf, hw, hb1, hb2 => by simp [locAt]
  | [], j :: r, d, l, b, off, b1, o1, h, hl, hs, hf, hw, hb1, hb2 => by
    simp only [D.sub, Option.some.injEq] at hs
    subst hs
    simp only [D.upd]
    rw [locAt_none (fun xs e => by cases e) (fun v x b' off' _ hx => by simp [Dv.into] at hx), locAt_none (fun xs e => by cases e) (fun v x b' off' _ hx => by simp [Dv.into] at hx)]
  | i :: p, j :: r, d, l, b, off, b1, o1, h, hl, hs, hf, hw, hb1, hb2 => by
    by_cases hagg : ∃ xs, d = .agg xs
    · obtain ⟨xs, rfl⟩ := hagg
      simp only [locAt] at hl
      simp only [D.sub, D.kid] at hs
      simp only [D.free, D.kid, Bool.true_and] at hf
      cases hx : xs[i]? with
      | none => rw [hx] at hl; cases hl
      | some x =>
        rw [hx] at hl hs hf
        have hk := h.agg_kid hx
        obtain ⟨_, _, hat⟩ := Lies.at p hk hl hs
        have hxw := D.upd_w p x (.one u') (.one u) hs rfl
        simp only [D.upd, D.kid, hx, D.setKid, locAt_agg]
        rw [ws_take_set xs i x _ hx hxw]
        by_cases hij : j = i
        · subst hij
          have hlt := (List.getElem?_eq_some_iff.1 hx).1
          rw [List.getElem?_set_self hlt, hx]
          exact Lies.upd_loc p r hk hl hs hf hw (fun q hq => hb1 (q ++ [j]) (by simpa using hq)) hb2
        · rw [List.getElem?_set_ne (by omega)]
          cases hy : xs[j]? with
          | none => rfl
          | some y =>
            simp only
            refine locAt_frame hw r (h.agg_kid hy) ?_ ?_
            · rcases hat hf with ⟨rfl, _, _⟩ | ⟨q, hq⟩
              · exact ⟨hb2, fun q hq => hb1 (q ++ [j]) (by simpa using hq)⟩
              · refine ⟨by rw [hq]; simp, fun q' hq' => ?_⟩
                rw [hq] at hq'
                exact hij (suffix_inj (by simpa using hq'.symm))
            · rcases hat hf with ⟨rfl, h5, h6⟩ | ⟨q, hq⟩
              · right
                have := ws_apart xs i j x y hx hy (by omega)
                simp only [D.w] at h6
                omega
              · left; intro e; subst e; exact hb1 (q ++ [i]) (by simpa using hq)
    · have hd : ∀ xs, d ≠ .agg xs := fun xs e => hagg ⟨xs, e⟩
      obtain ⟨v, x, b', off', hv, hx, hl'⟩ := locAt_ptr hd hl
      obtain ⟨v', hv', hr⟩ := h.cell (into_w hx).1
      rw [hv] at hv'
      obtain rfl : v = v' := by simpa using hv'
      obtain ⟨hkid, hL, _, hfr⟩ := hr.into hx
      simp only [D.sub, hkid] at hs
      obtain ⟨hf1, hf2⟩ := D.free_parts hkid hf
      have hob := hfr hf1
      obtain ⟨_, _, hat⟩ := Lies.at p hL hl' hs
      have hne : b ≠ b1 := by
        rintro rfl
        rcases hat hf2 with ⟨rfl, _, _⟩ | ⟨q, hq⟩
        · exact hb1 [] (by simpa using hob)
        · exact hb1 (q ++ [i]) (by simpa using hq)
      have hcell : w'.cell? ⟨b, off, none⟩ = some v := by rw [hw.cell (.inl hne)]; exact hv
      rw [locAt_loc hd hv, locAt_loc (upd_ne_agg hd) hcell]
      exact hr.upd_loc_kid hx hf hl' hs hw (fun r => Lies.upd_loc p r hL hl' hs hf2 hw (fun q hq => by rw [hob] at hq; exact suffix_absurd (by simpa using hq)) (by rw [hob]; simp)) j r
theorem R.upd_loc {P : Program} {w w' : World} {ow : Own} {u u' : Value} {p l : List Nat} {b1 o1 : Nat} {d : D} {v : Value} (hr : R P w ow d l [v]) (hl : loc w p d v = some (b1, o1)) (hs : D.sub p d = some (.one u))
    (hf : D.free p d = true) (hw : Wr w w' b1 o1 1) (r : List Nat) : loc w' r (D.upd p d (.one u')) v = loc w r d v := by
  cases r with
  | nil => rfl
  | cons j r =>
    cases p with
    | nil => simp [loc] at hl
    | cons i p =>
      simp only [loc] at hl
      cases hx : Dv.into d i v with
      | none => rw [hx] at hl; cases hl
      | some res =>
        obtain ⟨x, b', off'⟩ := res
        rw [hx] at hl
        obtain ⟨hk, hL, _, hfr⟩ := hr.into hx
        simp only [D.sub, hk] at hs
        obtain ⟨hf1, hf2⟩ := D.free_parts hk hf
        have hob := hfr hf1
        exact hr.upd_loc_kid hx hf hl hs hw (fun r => Lies.upd_loc p r hL hl hs hf2 hw (fun q hq => by rw [hob] at hq; exact suffix_absurd (by simpa using hq)) (by rw [hob]; simp)) j r
end Go.Dv

end
section
namespace Go.Dv
open Go.RowKit
def Same (w : World) (ow : Own) (l : List Nat) (w' : World) : Prop :=
  ∀ b, b < w.heap.size → (ow b = none ∨ ∃ q, ow b = some (q ++ l)) → w'.heap[b]? = w.heap[b]?
theorem Same.child {w w' : World} {ow : Own} {l : List Nat} (h : Same w ow l w') (i : Nat) : Same w ow (i :: l) w' := fun b hb ho => h b hb (ho.imp id fun ⟨q, hq⟩ => ⟨q ++ [i], by simpa using hq⟩)
theorem Keeps.same {w w' : World} {ow ow' : Own} {l l2 : List Nat} (h : Keeps w ow l w' ow' l2) : Same w ow l w' := fun b hb ho => by
  rcases ho with ho | ⟨q, hq⟩
  · exact ((h b hb).1 ho).1
  · exact ((h b hb).2 q hq).1
theorem cell_same {w w' : World} {b o : Nat} (h : w'.heap[b]? = w.heap[b]?) : w'.cell? ⟨b, o, none⟩ = w.cell? ⟨b, o, none⟩ := by simp [World.cell?, h]
theorem locAt_same {P : Program} {w w' : World} {ow : Own} : ∀ (r : List Nat) {d : D} {l : List Nat} {b off : Nat}, Lies P w ow d l b off → Same w ow l w' → w'.heap[b]? = w.heap[b]? → locAt w' r d b off = locAt w r d b off
  | [], _, _, _, _, _, _, _ => by simp [locAt]
  | i :: r, d, l, b, off, h, hs, hb => by
    by_cases hagg : ∃ xs, d = .agg xs
    · obtain ⟨xs, rfl⟩ := hagg
      simp only [locAt_agg]
      cases hx : xs[i]? with
      | none => rfl
      | some x => exact locAt_same r (h.agg_kid hx) (hs.child i) hb
    · have hd : ∀ xs, d ≠ .agg xs := fun xs e => hagg ⟨xs, e⟩
      by_cases hex : ∃ v x b' off', w.cell? ⟨b, off, none⟩ = some v ∧ into d i v = some (x, b', off')
      · obtain ⟨v, x, b', off', hv, hx⟩ := hex
        have hcell : w'.cell? ⟨b, off, none⟩ = some v := by rw [cell_same hb]; exact hv
        rw [locAt_ptr_mk hd hv hx, locAt_ptr_mk hd hcell hx]
        obtain ⟨v', hv', hr⟩ := h.cell (into_w hx).1
        rw [hv] at hv'
        obtain rfl : v = v' := by simpa using hv'
        obtain ⟨_, hL, hob, _⟩ := hr.into hx
        refine locAt_same r hL (hs.child i) (hs _ hL.lt ?_)
        rcases hob with hob | hob
        · exact .inl hob
        · exact .inr ⟨[], by simpa using hob⟩
      · rw [locAt_none hd fun v x b' off' hv hx => hex ⟨v, x, b', off', hv, hx⟩, locAt_none hd fun v x b' off' hv hx => hex ⟨v, x, b', off', by rw [cell_same hb] at hv; exact hv, hx⟩]
theorem loc_same {P : Program} {w w' : World} {ow : Own} {p : List Nat} {d : D} {l : List Nat} {v : Value} (h : R P w ow d l [v]) (hs : Same w ow l w') : loc w' p d v = loc w p d v := by
  cases p with
  | nil => rfl
  | cons i p =>
    simp only [loc]
    cases hx : Dv.into d i v with
    | none => rfl
    | some r =>
      obtain ⟨x, b, off⟩ := r
      obtain ⟨_, hL, hob, _⟩ := h.into hx
      refine locAt_same p hL (hs.child i) (hs _ hL.lt ?_)
      rcases hob with hob | hob
      · exact .inl hob
      · exact .inr ⟨[], by simpa using hob⟩
theorem R.at {P : Program} {w : World} {ow : Own} {p : List Nat} {d n : D} {l : List Nat} {v : Value} {b1 o1 : Nat} (h : R P w ow d l [v]) (hl : loc w p d v = some (b1, o1)) (hs : D.sub p d = some n) :
    Lies P w ow n (p.reverse ++ l) b1 o1 ∧ (ow b1 = none ∨ ∃ q, ow b1 = some (q ++ l)) ∧ (D.free p d = true → ∃ q, ow b1 = some (q ++ l)) := by
  cases p with
  | nil => simp [loc] at hl
  | cons i p =>
    simp only [loc] at hl
    cases hx : Dv.into d i v with
    | none => rw [hx] at hl; cases hl
    | some r =>
      obtain ⟨x, b, off⟩ := r
      rw [hx] at hl
      obtain ⟨hk, hL, hob, hfr⟩ := h.into hx
      simp only [D.sub, hk] at hs
      obtain ⟨h1, h2, h3⟩ := Lies.at p hL hl hs
      refine ⟨by simpa using h1, ?_, ?_⟩
      · rcases h2 with ⟨rfl, _, _⟩ | h2 | ⟨q, hq⟩
        · rcases hob with hob | hob
          · exact .inl hob
          · exact .inr ⟨[], by simpa using hob⟩
        · exact .inl h2
        · exact .inr ⟨q ++ [i], by simpa using hq⟩
      · intro hf
        have hf1 : D.free [i] d = true := by
          simp only [D.free, hk] at hf ⊢
          simp only [Bool.and_eq_true] at hf
          simp [hf.1]
        have hf2 : D.free p x = true := by
          simp only [D.free, hk, Bool.and_eq_true] at hf
          exact hf.2
        rcases h3 hf2 with ⟨rfl, _, _⟩ | ⟨q, hq⟩
        · exact ⟨[], by simpa using hfr hf1⟩
        · exact ⟨q ++ [i], by simpa using hq⟩
end Go.Dv

end
section
namespace Go.Dv
open Go.RowKit
inductive S where
  | un
  | val (d : D)
  | rp (d : D)
  | own (d : D)
  | al (t : Nat) (p : List Nat)
  | rf (t : Nat) (p : List Nat)
  | ag (t : Nat) (p : List Nat)
  | tup (l : List S)
abbrev St := Nat → S
def D.isAgg : D → Bool
  | .agg _ => true
  | _ => false
def D.isHd : D → Bool
  | .sl _ _ => true
  | .bx _ _ => true
  | _ => false
def S.isOwn : S → Bool
  | .own _ => true
  | _ => false
def S.root : S → Option Nat
  | .al t _ => some t
  | .rf t _ => some t
  | .ag t _ => some t
  | _ => none
def S.drop (t : Nat) (x : S) : S := if x.root = some t then .un else x
def St.put (s : St) (t : Nat) (x : S) : St := fun j => if j = t then x else s j
def St.kill (s : St) (t : Nat) : St := fun j => if j = t then .un else (s j).drop t
def aval (a : Act) (i : Nat) : Value := if i < 1000000 then a.tmps.getD i undef else .pointer (some ⟨(i - 1000000) / 2, 0, none⟩)
def V (P : Program) (w : World) (ow : Own) (d : D) (l : List Nat) (v : Value) : Prop :=
  match d with
  | .agg xs => ∃ cs : Array Value, v = .agg cs ∧ R P w ow (.agg xs) l cs.toList
  | d => R P w ow d l [v]
theorem V.tr {P : Program} {w w' : World} {ow ow' : Own} {d : D} {l l2 : List Nat} {v : Value} (hk : Keeps w ow l w' ow' l2) (h : V P w ow d l v) : V P w' ow' d l2 v := by
  cases d <;> simp only [V] at h ⊢
  case agg xs => obtain ⟨cs, h1, h2⟩ := h; exact ⟨cs, h1, h2.tr hk⟩
  all_goals exact R.tr hk h
theorem V.fz {P : Program} {w : World} {ow ow' : Own} {d : D} {l l2 : List Nat} {v : Value} (hk : Frees w ow l ow') (h : V P w ow d l v) : V P w ow' d.fz l2 v := by
  cases d <;> simp only [V, D.fz] at h ⊢
  case agg xs => obtain ⟨cs, h1, h2⟩ := h; exact ⟨cs, h1, by simpa only [D.fz] using R.fz hk h2⟩
  all_goals exact (by simpa only [D.fz] using R.fz hk h)
def Quiet (w : World) (ow : Own) (w' : World) (ow' : Own) : Prop := ∀ b, b < w.heap.size → ow b = none → w'.heap[b]? = w.heap[b]? ∧ ow' b = none
mutual
theorem R.trf {P : Program} {w w' : World} {ow ow' : Own} : ∀ {d : D} {l l2 : List Nat} {cs : List Value}, Quiet w ow w' ow' → R P w ow d.fz l cs → R P w' ow' d.fz l2 cs
  | .one v, l, l2, cs, _, h => by simpa only [R, D.fz] using h
  | .sl o xs, l, l2, cs, hk, h => by
    simp only [R, D.fz] at h ⊢
    obtain ⟨a, cap, h1, h2, h3, h4⟩ := h
    refine ⟨a, cap, h1, h2, h3, ?_⟩
    rcases h4 with h4 | h4 | ⟨b, off, s, C, e, fz, ha, hh, hn, hs, hr⟩
    · exact .inl h4
    · exact .inr (.inl h4)
    · refine .inr (.inr ⟨b, off, s, C, e, fz, ha, ?_, ?_, ?_, Rs.trf hk hr⟩)
      · rw [(hk b (lt_of_heap hh) (hn trivial)).1]; exact hh
      · exact fun ho => (hk b (lt_of_heap hh) (hn ho)).2
      · intro t ht; cases ht
  | .agg xs, l, l2, cs, hk, h => by simp only [R, D.fz] at h ⊢; exact Ra.trf hk h
  | .bx o x, l, l2, cs, hk, h => by
    simp only [R, D.fz] at h ⊢
    obtain ⟨b, off, C, e, fz, cs', h1, hh, hn, hs, hl, hc, hr⟩ := h
    refine ⟨b, off, C, e, fz, cs', h1, ?_, ?_, ?_, hl, hc, R.trf hk hr⟩
    · rw [(hk b (lt_of_heap hh) (hn trivial)).1]; exact hh
    · exact fun ho => (hk b (lt_of_heap hh) (hn ho)).2
    · intro ho; cases ho
  | .any n, l, l2, cs, _, h => by simpa only [R, D.fz] using h
theorem Rs.trf {P : Program} {w w' : World} {ow ow' : Own} : ∀ {xs : List D} {l l2 : List Nat} {i : Nat} {C : Array Value} {off s : Nat}, Quiet w ow w' ow' → Rs P w ow (D.fzs xs) l i C off s → Rs P w' ow' (D.fzs xs) l2 i C off s
  | [], _, _, _, _, _, _, _, _ => by simp only [Rs, D.fzs]
  | x :: xs, l, l2, i, C, off, s, hk, h => by
    simp only [Rs, D.fzs] at h ⊢
    obtain ⟨cs, h1, h2, h3, h4, h5⟩ := h
    exact ⟨cs, h1, h2, h3, R.trf hk h4, Rs.trf hk h5⟩
theorem Ra.trf {P : Program} {w w' : World} {ow ow' : Own} : ∀ {xs : List D} {l l2 : List Nat} {i : Nat} {cs : List Value}, Quiet w ow w' ow' → Ra P w ow (D.fzs xs) l i cs → Ra P w' ow' (D.fzs xs) l2 i cs
  | [], _, _, _, _, _, h => by simpa only [Ra, D.fzs] using h
  | x :: xs, l, l2, i, cs, hk, h => by
    simp only [Ra, D.fzs] at h ⊢
    obtain ⟨c1, c2, h1, h2, h3, h4⟩ := h
    exact ⟨c1, c2, h1, h2, R.trf hk h3, Ra.trf hk h4⟩
end
theorem V.trf {P : Program} {w w' : World} {ow ow' : Own} {d : D} {l l2 : List Nat} {v : Value} (hk : Quiet w ow w' ow') (h : V P w ow d.fz l v) : V P w' ow' d.fz l2 v := by
  cases d <;> simp only [V, D.fz] at h ⊢
  case agg xs => obtain ⟨cs, h1, h2⟩ := h; exact ⟨cs, h1, by have := R.trf (d := .agg xs) (l2 := l2) hk (by simpa only [D.fz] using h2); simpa only [D.fz] using this⟩
  case one v => exact h
  case any n => exact h
  case sl o xs => have := R.trf (d := .sl o xs) (l2 := l2) hk (by simpa only [D.fz] using h); simpa only [D.fz] using this
  case bx o x => have := R.trf (d := .bx o x) (l2 := l2) hk (by simpa only [D.fz] using h); simpa only [D.fz] using this
theorem Lies.trf {P : Program} {w w' : World} {ow ow' : Own} {d : D} {l l2 : List Nat} {b off : Nat} (hk : Quiet w ow w' ow') (hb : ow b = none) (h : Lies P w ow d.fz l b off) : Lies P w' ow' d.fz l2 b off := by
  obtain ⟨C, e, fz, cs, h1, h2, h3⟩ := h
  exact ⟨C, e, fz, cs, by rw [(hk b (lt_of_heap h1) hb).1]; exact h1, h2, h3.trf hk⟩
def SV (P : Program) (w : World) (ow : Own) (s : St) (a : Act) (i : Nat) (x : S) (v : Value) : Prop :=
  match x with
  | .un => True
  | .val d => V P w ow d.fz [] v
  | .rp d => ∃ b off, v = .pointer (some ⟨b, off, none⟩) ∧ ow b = none ∧ Lies P w ow d.fz [] b off
  | .own d => V P w ow d [i] v
  | .al t p => ∃ d n, s t = .own d ∧ D.sub p d = some n ∧ (n.w = 1 ∧ n.isAgg = false ∧ (p = [] ∨ n.isHd = true)) ∧ ((p = [] ∧ v = aval a t) ∨ ∃ b off, loc w p d (aval a t) = some (b, off) ∧ w.cell? ⟨b, off, none⟩ = some v)
  | .rf t p => ∃ d n b off, s t = .own d ∧ D.sub p d = some n ∧ loc w p d (aval a t) = some (b, off) ∧ v = .pointer (some ⟨b, off, none⟩)
  | .ag t p => ∃ d n, s t = .own d ∧ D.sub p d = some n ∧ n.isAgg = true ∧ V P w ow n (p.reverse ++ [t]) v
  | .tup l => ∃ vs : Array Value, v = .tuple vs ∧ vs.size = l.length ∧ ∀ k x, l[k]? = some x → (match x with | S.val d => V P w ow d.fz [] (vs.getD k undef) | S.own d => V P w ow d [k, i] (vs.getD k undef) | _ => True)
structure Bel (w0 : World) (ow0 : Own) (w : World) : Prop where
  os : w.os = w0.os
  tape : w.tape = w0.tape
  output : w.output = w0.output
  size : w0.heap.size ≤ w.heap.size
  block : ∀ b, b < w0.heap.size → ow0 b = none → w.heap[b]? = w0.heap[b]?
def far0 : Nat := 3000001
class Glob where
  ok : List (Nat × Obj) → Prop
variable [Glob]
def Laid (w : World) (ow : Own) : Prop := ∃ gl, Glob.ok gl ∧ ∀ p ∈ gl, w.heap[p.1]? = some p.2 ∧ ow p.1 = none
theorem Laid.mono {w w' : World} {ow ow' : Own} (h : Laid w ow) (hw : ∀ b o, w.heap[b]? = some o → ow b = none → w'.heap[b]? = some o ∧ ow' b = none) : Laid w' ow' := by
  obtain ⟨gl, h1, h2⟩ := h
  exact ⟨gl, h1, fun p hp => hw _ _ (h2 p hp).1 (h2 p hp).2⟩
structure Fits (P : Program) (n : Nat) (w0 : World) (ow0 : Own) (ow : Own) (s : St) (a : Act) (w : World) : Prop where
  nodef : a.defers = []
  size : a.tmps.size = n
  small : n ≤ 1000000
  laid : Laid w0 ow0
  bel : Bel w0 ow0 w
  own : ∀ b, b < w0.heap.size → ow0 b = none → ow b = none
  new : ∀ b, w.heap.size ≤ b → ow b = none
  far : s far0 = .un
  keep : ∀ b, b < w0.heap.size → ∀ q, ow0 b = some (q ++ [far0]) → w.heap[b]? = w0.heap[b]? ∧ ow b = some (q ++ [far0])
  slot : ∀ i, SV P w ow s a i (s i) (aval a i)
theorem Fits.laidNow {P : Program} {n : Nat} {w0 w : World} {ow0 ow : Own} {s : St} {a : Act} (h : Fits P n w0 ow0 ow s a w) : Laid w ow := h.laid.mono fun b o h1 h2 => by
  have hlt := lt_of_heap h1
  exact ⟨(h.bel.block b hlt h2).trans h1, h.own b hlt h2⟩
def Rel (P : Program) (n : Nat) (w0 : World) (ow0 : Own) (s : St) (a : Act) (w : World) : Prop := ∃ ow, Fits P n w0 ow0 ow s a w
theorem aval_put {n : Nat} {a : Act} {t i : Nat} {v : Value} (hs : a.tmps.size = n) (hn : n ≤ 1000000) (ht : t < n) : aval (a.put (some t) v) i = if i = t then v else aval a i := by
  unfold aval Act.put
  by_cases hi : i < 1000000
  · rw [if_pos hi]
    simp only [if_pos hi]
    by_cases h : i = t
    · subst h; simp [hs, ht]
    · rw [if_neg h]
      simp [Array.getD_eq_getD_getElem?, Ne.symm h]
  · rw [if_neg hi, if_neg (by omega), if_neg hi]
theorem SV.put {P : Program} {w : World} {ow : Own} {n : Nat} {s : St} {a : Act} {t i : Nat} {x y : S} {v u : Value} (hs : a.tmps.size = n) (hn : n ≤ 1000000) (ht : t < n) (ho : (s t).isOwn = false) (h : SV P w ow s a i y u) :
    SV P w ow (s.put t x) (a.put (some t) v) i y u := by
  cases y with
  | al r p =>
    obtain ⟨d, m, h1, h2, h3, h4⟩ := h
    have hrt : r ≠ t := by rintro rfl; rw [h1] at ho; cases ho
    exact ⟨d, m, by simpa [St.put, hrt] using h1, h2, h3, by rw [aval_put hs hn ht, if_neg hrt]; exact h4⟩
  | rf r p =>
    obtain ⟨d, m, b, off, h1, h2, h3, h4⟩ := h
    have hrt : r ≠ t := by rintro rfl; rw [h1] at ho; cases ho
    exact ⟨d, m, b, off, by simpa [St.put, hrt] using h1, h2, by rw [aval_put hs hn ht, if_neg hrt]; exact h3, h4⟩
  | ag r p =>
    obtain ⟨d, m, h1, h2⟩ := h
    have hrt : r ≠ t := by rintro rfl; rw [h1] at ho; cases ho
    exact ⟨d, m, by simpa [St.put, hrt] using h1, h2⟩
  | un => trivial
  | val d => exact h
  | rp d => exact h
  | own d => exact h
  | tup l => exact h
theorem Fits.put {P : Program} {n : Nat} {w0 w : World} {ow0 ow : Own} {s : St} {a : Act} {t : Nat} {x : S} {v : Value} (h : Fits P n w0 ow0 ow s a w) (ht : t < n) (ho : (s t).isOwn = false) (hx : SV P w ow s a t x v) :
    Fits P n w0 ow0 ow (s.put t x) (a.put (some t) v) w := by
  refine ⟨h.nodef, by simp [Act.put, h.size], h.small, h.laid, h.bel, h.own, h.new, ?_, h.keep, fun i => ?_⟩
  · have : far0 ≠ t := by have := h.small; unfold far0; omega
    simp only [St.put, if_neg this, h.far]
  rw [aval_put h.size h.small ht]
  by_cases hi : i = t
  · subst hi
    simp only [St.put, if_true]
    exact SV.put h.size h.small ht ho hx
  · rw [if_neg hi]
    have : (s.put t x) i = s i := by simp [St.put, hi]
    rw [this]
    exact SV.put h.size h.small ht ho (h.slot i)
theorem kill_at (s : St) (t i : Nat) : (s.kill t) i = .un ∨ ((s.kill t) i = s i ∧ i ≠ t ∧ (s i).root ≠ some t) := by
  by_cases hi : i = t
  · left; simp [St.kill, hi]
  · by_cases hr : (s i).root = some t
    · left; simp [St.kill, hi, S.drop, hr]
    · right; exact ⟨by simp [St.kill, hi, S.drop, hr], hi, hr⟩
theorem SV.cong {P : Program} {w : World} {ow : Own} {s s' : St} {a a' : Act} {i : Nat} {x : S} {v : Value} (h : SV P w ow s a i x v) (hr : ∀ j, x.root = some j → s' j = s j ∧ aval a' j = aval a j) : SV P w ow s' a' i x v := by
  cases x with
  | al r p =>
    obtain ⟨d, m, h1, h2⟩ := h
    obtain ⟨g1, g2⟩ := hr r rfl
    exact ⟨d, m, by rw [g1]; exact h1, by rw [g2]; exact h2⟩
  | rf r p =>
    obtain ⟨d, m, b, off, h1, h2⟩ := h
    obtain ⟨g1, g2⟩ := hr r rfl
    exact ⟨d, m, b, off, by rw [g1]; exact h1, by rw [g2]; exact h2⟩
  | ag r p =>
    obtain ⟨d, m, h1, h2⟩ := h
    obtain ⟨g1, g2⟩ := hr r rfl
    exact ⟨d, m, by rw [g1]; exact h1, h2⟩
  | un => trivial
  | val d => exact h
  | rp d => exact h
  | own d => exact h
  | tup l => exact h
theorem SV.root {P : Program} {w : World} {ow : Own} {s : St} {a : Act} {i j : Nat} {x : S} {v : Value} (h : SV P w ow s a i x v) (hx : x.root = some j) : (s j).isOwn = true := by
  cases x with
  | al r p => obtain ⟨d, m, h1, _⟩ := h; obtain rfl : r = j := by simpa [S.root] using hx
              rw [h1]; rfl
  | rf r p => obtain ⟨d, m, b, off, h1, _⟩ := h; obtain rfl : r = j := by simpa [S.root] using hx
              rw [h1]; rfl
  | ag r p => obtain ⟨d, m, h1, _⟩ := h; obtain rfl : r = j := by simpa [S.root] using hx
              rw [h1]; rfl
  | _ => cases hx
theorem own_root {x : S} (h : x.isOwn = true) : x.root = none := by cases x <;> first | rfl | cases h
theorem Fits.kill {P : Program} {n : Nat} {w0 w : World} {ow0 ow : Own} {s : St} {a : Act} (h : Fits P n w0 ow0 ow s a w) (t : Nat) : Fits P n w0 ow0 ow (s.kill t) a w := by
  refine ⟨h.nodef, h.size, h.small, h.laid, h.bel, h.own, h.new, ?_, h.keep, fun i => ?_⟩
  · rcases kill_at s t far0 with h1 | ⟨h1, _⟩
    · exact h1
    · rw [h1, h.far]
  rcases kill_at s t i with h1 | ⟨h1, _, h2⟩
  · rw [h1]; trivial
  · rw [h1]
    refine (h.slot i).cong fun j hj => ⟨?_, rfl⟩
    have ho := (h.slot i).root hj
    rcases kill_at s t j with h3 | ⟨h3, _⟩
    · exfalso
      have hjt : j ≠ t := by rintro rfl; exact h2 hj
      simp [St.kill, hjt, S.drop, own_root ho] at h3
      rw [h3] at ho; cases ho
    · exact h3
def St.free (s : St) (t : Nat) : St := if (s t).isOwn then s.kill t else s
theorem Fits.free {P : Program} {n : Nat} {w0 w : World} {ow0 ow : Own} {s : St} {a : Act} (h : Fits P n w0 ow0 ow s a w) (t : Nat) : Fits P n w0 ow0 ow (s.free t) a w ∧ ((s.free t) t).isOwn = false := by
  by_cases ho : (s t).isOwn = true
  · simp only [St.free, ho, if_true]
    exact ⟨h.kill t, by simp [St.kill, S.isOwn]⟩
  · have ho' : (s t).isOwn = false := by simpa using ho
    simp only [St.free, ho', Bool.false_eq_true, if_false]
    exact ⟨h, trivial⟩
theorem V.one {P : Program} {w : World} {ow : Own} {d : D} {l : List Nat} {v : Value} {i : Nat} {p : List Nat} {r : Nat × Nat} (h : V P w ow d l v) (hl : loc w (i :: p) d v = some r) : R P w ow d l [v] := by
  cases d with
  | agg xs => simp [loc, Dv.into] at hl
  | one _ => exact h
  | sl _ _ => exact h
  | bx _ _ => exact h
  | any _ => exact h
theorem SV.keep {P : Program} {w w' : World} {ow ow' : Own} {s s' : St} {a a' : Act} {i : Nat} {x : S} {v : Value} (h : SV P w ow s a i x v) (hq : Quiet w ow w' ow')
    (ho : x.isOwn = true ∨ (∃ l, x = .tup l) → ∀ b, b < w.heap.size → ∀ q, ow b = some (q ++ [i]) → w'.heap[b]? = w.heap[b]? ∧ ow' b = some (q ++ [i]))
    (hr : ∀ j, x.root = some j → ∀ d, s j = .own d → V P w ow d [j] (aval a j) → s' j = .own d ∧ aval a' j = aval a j ∧ (∀ b, b < w.heap.size → ∀ q, ow b = some (q ++ [j]) → w'.heap[b]? = w.heap[b]? ∧ ow' b = some (q ++ [j])))
    (hv : ∀ j d, s j = .own d → V P w ow d [j] (aval a j)) : SV P w' ow' s' a' i x v := by
  cases x with
  | un => trivial
  | val d => exact V.trf hq h
  | rp d =>
    obtain ⟨b, off, h1, h2, h3⟩ := h
    exact ⟨b, off, h1, (hq b h3.lt h2).2, h3.trf hq h2⟩
  | own d =>
    refine V.tr (fun b hb => ⟨hq b hb, fun q hq' => ?_⟩) h
    exact ho (.inl rfl) b hb q hq'
  | al j p =>
    obtain ⟨d, n, h1, h2, h3, h4⟩ := h
    obtain ⟨g1, g2, g3⟩ := hr j rfl d h1 (hv j d h1)
    refine ⟨d, n, g1, h2, h3, ?_⟩
    rw [g2]
    rcases h4 with h4 | ⟨b, off, h4, h5⟩
    · exact .inl h4
    · right
      cases p with
      | nil => simp [loc] at h4
      | cons k p =>
        have hR := (hv j d h1).one h4
        have hs : Same w ow [j] w' := fun b hb ho => by
          rcases ho with ho | ⟨q, hq'⟩
          · exact (hq b hb ho).1
          · exact (g3 b hb q hq').1
        obtain ⟨hL, hob, _⟩ := hR.at h4 h2
        refine ⟨b, off, by rw [loc_same hR hs]; exact h4, ?_⟩
        rw [cell_same (hs b hL.lt hob)]
        exact h5
  | rf j p =>
    obtain ⟨d, n, b, off, h1, h2, h4, h5⟩ := h
    obtain ⟨g1, g2, g3⟩ := hr j rfl d h1 (hv j d h1)
    refine ⟨d, n, b, off, g1, h2, ?_, h5⟩
    rw [g2]
    cases p with
    | nil => simp [loc] at h4
    | cons k p =>
      have hR := (hv j d h1).one h4
      have hs : Same w ow [j] w' := fun b hb ho => by
        rcases ho with ho | ⟨q, hq'⟩
        · exact (hq b hb ho).1
        · exact (g3 b hb q hq').1
      rw [loc_same hR hs]; exact h4
  | ag j p =>
    obtain ⟨d, n, h1, h2, h3, h4⟩ := h
    obtain ⟨g1, g2, g3⟩ := hr j rfl d h1 (hv j d h1)
    refine ⟨d, n, g1, h2, h3, V.tr (fun b hb => ⟨hq b hb, fun q hq' => ?_⟩) h4⟩
    have := g3 b hb (q ++ p.reverse) (by simpa using hq')
    simpa using this
  | tup l =>
    obtain ⟨vs, h1, h2, h3⟩ := h
    refine ⟨vs, h1, h2, fun k x hk => ?_⟩
    have := h3 k x hk
    cases x with
    | val d => exact V.trf hq this
    | own d =>
      refine V.tr (fun b hb => ⟨hq b hb, fun q hq' => ?_⟩) this
      have := ho (.inr ⟨l, rfl⟩) b hb (q ++ [k]) (by simpa using hq')
      simpa using this
    | _ => trivial
end Go.Dv

end
section
namespace Go.Dv
open Go.RowKit
variable [Glob]
theorem Fits.change {P : Program} {n : Nat} {w0 w w' : World} {ow0 ow ow' : Own} {s s' : St} {a a' : Act} (h : Fits P n w0 ow0 ow s a w) (nd : a'.defers = []) (sz : a'.tmps.size = n)
    (hos : w'.os = w.os) (htape : w'.tape = w.tape) (hout : w'.output = w.output) (hsz : w.heap.size ≤ w'.heap.size) (hq : Quiet w ow w' ow') (hnew : ∀ b, w'.heap.size ≤ b → ow' b = none) (T : Nat → Prop)
    (hT : ∀ j, ¬ T j → ∀ b, b < w.heap.size → ∀ q, ow b = some (q ++ [j]) → w'.heap[b]? = w.heap[b]? ∧ ow' b = some (q ++ [j]))
    (hs : ∀ i, ¬ T i → aval a' i = aval a i ∧ (s' i = .un ∨ (s' i = s i ∧ ∀ j, (s i).root = some j → ¬ T j ∧ s' j = s j)))
    (hx : ∀ i, T i → SV P w' ow' s' a' i (s' i) (aval a' i)) (hJ : ¬ T far0) : Fits P n w0 ow0 ow' s' a' w' := by
  refine ⟨nd, sz, h.small, h.laid, ⟨hos.trans h.bel.os, htape.trans h.bel.tape, hout.trans h.bel.output, Nat.le_trans h.bel.size hsz, fun b hb ho => ?_⟩, fun b hb ho => ?_, hnew, ?_, fun b hb q ho => ?_, fun i => ?_⟩
  · rw [(hq b (Nat.lt_of_lt_of_le hb h.bel.size) (h.own b hb ho)).1]
    exact h.bel.block b hb ho
  · exact (hq b (Nat.lt_of_lt_of_le hb h.bel.size) (h.own b hb ho)).2
  · rcases (hs _ hJ).2 with h1 | ⟨h1, _⟩
    · exact h1
    · rw [h1, h.far]
  · obtain ⟨h1, h2⟩ := h.keep b hb q ho
    obtain ⟨h3, h4⟩ := hT _ hJ b (Nat.lt_of_lt_of_le hb h.bel.size) q h2
    exact ⟨h3.trans h1, h4⟩
  · by_cases hi : T i
    · exact hx i hi
    · obtain ⟨h1, h2⟩ := hs i hi
      rw [h1]
      rcases h2 with h2 | ⟨h2, h3⟩
      · rw [h2]; trivial
      · rw [h2]
        refine (h.slot i).keep hq (fun _ b hb q hq' => hT i hi b hb q hq') (fun j hj d hd _ => ?_) (fun j d hd => by have := h.slot j; rw [hd] at this; exact this)
        obtain ⟨g1, g2⟩ := h3 j hj
        exact ⟨by rw [g2]; exact hd, (hs j g1).1, fun b hb q hq' => hT j g1 b hb q hq'⟩
theorem Fits.grown {P : Program} {n : Nat} {w0 w w' : World} {ow0 ow ow' : Own} {s : St} {a : Act} (h : Fits P n w0 ow0 ow s a w)
    (hos : w'.os = w.os) (htape : w'.tape = w.tape) (hout : w'.output = w.output) (hsz : w.heap.size ≤ w'.heap.size) (hb : ∀ b, b < w.heap.size → w'.heap[b]? = w.heap[b]? ∧ ow' b = ow b) (hnew : ∀ b, w'.heap.size ≤ b → ow' b = none) : Fits P n w0 ow0 ow' s a w' :=
  h.change h.nodef h.size hos htape hout hsz (fun b hlt ho => ⟨(hb b hlt).1, by rw [(hb b hlt).2]; exact ho⟩) hnew (fun _ => False) (fun j _ b hlt q hq => ⟨(hb b hlt).1, by rw [(hb b hlt).2]; exact hq⟩)
    (fun i _ => ⟨rfl, .inr ⟨rfl, fun j _ => ⟨id, rfl⟩⟩⟩) (fun i hi => hi.elim) id
theorem Fits.drew {P : Program} {n : Nat} {w0 w : World} {ow0 ow : Own} {s : St} {a : Act} (h : Fits P n w0 ow0 ow s a w) : Fits P n w0 ow0 ow s a { w with drawn := w.drawn + 1 } :=
  h.grown rfl rfl rfl (Nat.le_refl _) (fun _ _ => ⟨rfl, rfl⟩) h.new
def St.set (s : St) (t : Nat) (x : S) : St := (s.free t).put t x
def St.setd (s : St) (t : Option Nat) (x : S) : St := match t with
  | some t => s.set t x
  | none => s
theorem Fits.set {P : Program} {n : Nat} {w0 w : World} {ow0 ow : Own} {s : St} {a : Act} {t : Nat} {x : S} {v : Value} (h : Fits P n w0 ow0 ow s a w) (ht : t < n) (hx : SV P w ow (s.free t) a t x v) :
    Fits P n w0 ow0 ow (s.set t x) (a.put (some t) v) w := by
  obtain ⟨h1, h2⟩ := h.free t
  exact h1.put ht h2 hx
def evS (s : St) : Operand → S
  | .tmp t => if t < 1000000 then s t else .un
  | .const v => if v.oneCell' then .val (.one v) else .un
  | .global g => s (1000000 + 2 * g)
  | .func f => .val (.one (.func (.func f) #[] #[]))
def slotOf : Operand → Nat
  | .tmp t => t
  | .global g => 1000000 + 2 * g
  | _ => 2000001
theorem Fits.eval {P : Program} {n : Nat} {w0 w : World} {ow0 ow : Own} {s : St} {a : Act} (h : Fits P n w0 ow0 ow s a w) (x : Operand) : SV P w ow s a (slotOf x) (evS s x) (a.eval x) := by
  cases x with
  | tmp t =>
    simp only [evS, slotOf, Act.eval]
    by_cases ht : t < 1000000
    · rw [if_pos ht]
      have := h.slot t
      unfold aval at this
      rw [if_pos ht] at this
      exact this
    · rw [if_neg ht]; trivial
  | const v =>
    simp only [evS, Act.eval]
    split
    · rename_i hv
      simp only [SV, V, D.fz, R]
      exact ⟨trivial, hv⟩
    · trivial
  | global g =>
    simp only [evS, slotOf, Act.eval]
    have := h.slot (1000000 + 2 * g)
    unfold aval at this
    rw [if_neg (by omega)] at this
    simpa using this
  | func f =>
    simp only [evS, Act.eval, SV, V, D.fz, R]
    exact ⟨trivial, rfl⟩
theorem Fits.one {P : Program} {n : Nat} {w0 w : World} {ow0 ow : Own} {s : St} {a : Act} (h : Fits P n w0 ow0 ow s a w) {x : Operand} {u : Value} (hx : evS s x = .val (.one u)) : a.eval x = u ∧ u.oneCell' = true := by
  have := h.eval x
  rw [hx] at this
  simp only [SV, V, D.fz, R] at this
  exact ⟨by simpa using this.1, by have h2 := this.1; have h3 := this.2; simp at h2; exact h3⟩
def Ok (P : Program) (n : Nat) (w0 : World) (ow0 : Own) (o : Oper) (s : St) (K : St → Prop) : Prop :=
  ∀ a w, Rel P n w0 ow0 s a w → ∀ (next : Act → World → Prop) (Q : Exit → Act → World → Prop), (∀ s' a' w', K s' → Rel P n w0 ow0 s' a' w' → next a' w') → o.wp P a w next Q
theorem ok_value {P : Program} {n : Nat} {w0 : World} {ow0 : Own} {o : Oper} {s : St} {K : St → Prop}
    (h : ∀ a w ow, Fits P n w0 ow0 ow s a w → ∃ v w', (execOp a.eval o).run P w = .ok (.value v) w' ∧ ∃ s', K s' ∧ Rel P n w0 ow0 s' (a.put o.dst v) w') : Ok P n w0 ow0 o s K := by
  intro a w ⟨ow, hf⟩ next Q hn
  obtain ⟨v, w', hr, s', hK, hR⟩ := h a w ow hf
  unfold Oper.wp
  rw [hr]
  exact hn s' _ w' hK hR
theorem ok_skip {P : Program} {n : Nat} {w0 : World} {ow0 : Own} {o : Oper} {s : St} {K : St → Prop}
    (h : ∀ a w ow, Fits P n w0 ow0 ow s a w → ∃ w', (execOp a.eval o).run P w = .ok .skip w' ∧ ∃ s', K s' ∧ Rel P n w0 ow0 s' (a.put o.dst undef) w') : Ok P n w0 ow0 o s K := by
  intro a w ⟨ow, hf⟩ next Q hn
  obtain ⟨w', hr, s', hK, hR⟩ := h a w ow hf
  unfold Oper.wp
  rw [hr]
  exact hn s' _ w' hK hR
def dstOk (n : Nat) (o : Oper) : Bool := match o.dst with
  | some t => t < n
  | none => true
theorem SV.val_one {P : Program} {w : World} {ow : Own} {s : St} {a : Act} {i : Nat} {u : Value} (h : u.oneCell' = true) : SV P w ow s a i (.val (.one u)) u := by
  simp only [SV, V, D.fz, R]; exact ⟨trivial, h⟩
theorem ok_pure {P : Program} {n : Nat} {w0 : World} {ow0 : Own} {o : Oper} {s : St} {K : St → Prop} {u : Value} (hd : dstOk n o = true) (hu : u.oneCell' = true)
    (h : ∀ (a : Act) w, (∀ x u, evS s x = .val (.one u) → a.eval x = u) → (execOp a.eval o).run P w = .ok (.value u) w) (hK : K (s.setd o.dst (.val (.one u)))) : Ok P n w0 ow0 o s K := by
  refine ok_value fun a w ow hf => ⟨u, w, h a w fun x u hx => (hf.one hx).1, _, hK, ow, ?_⟩
  cases ho : o.dst with
  | none => exact hf
  | some t =>
    have ht : t < n := by simpa [dstOk, ho] using hd
    exact hf.set ht (SV.val_one hu)
end Go.Dv

end
section
namespace Go.Dv
open Go.RowKit
variable [Glob]
theorem free_at (s : St) (t i : Nat) : (s.free t) i = .un ∨ ((s.free t) i = s i ∧ ((s i).root ≠ some t ∨ (s t).isOwn = false)) := by
  by_cases ho : (s t).isOwn = true
  · simp only [St.free, ho, if_true]
    rcases kill_at s t i with h | ⟨h1, _, h2⟩
    · exact .inl h
    · exact .inr ⟨h1, .inl h2⟩
  · have ho' : (s t).isOwn = false := by simpa using ho
    simp only [St.free, ho', Bool.false_eq_true, if_false]
    exact .inr ⟨trivial, .inr trivial⟩
theorem kill_own {s : St} {t i : Nat} (h : (s i).isOwn = true) (hi : i ≠ t) : (s.kill t) i = s i := by simp [St.kill, hi, S.drop, own_root h]
theorem free_own {s : St} {t i : Nat} (h : (s i).isOwn = true) (hi : i ≠ t) : (s.free t) i = s i := by
  unfold St.free
  split
  · exact kill_own h hi
  · rfl
theorem mv_at {P : Program} {n : Nat} {w0 w : World} {ow0 ow : Own} {s : St} {a : Act} (h : Fits P n w0 ow0 ow s a w) (t u : Nat) (x : S) (i : Nat) (hi : i ≠ u) :
    ((s.kill t).set u x) i = .un ∨ (((s.kill t).set u x) i = s i ∧ i ≠ t ∧ (s i).root ≠ some t ∧ (s i).root ≠ some u) := by
  have h1 : ((s.kill t).set u x) i = ((s.kill t).free u) i := by simp [St.set, St.put, hi]
  rw [h1]
  rcases free_at (s.kill t) u i with h2 | ⟨h2, h3⟩
  · exact .inl h2
  · rw [h2]
    rcases kill_at s t i with h4 | ⟨h4, h5, h6⟩
    · exact .inl h4
    · right
      refine ⟨h4, h5, h6, fun hj => ?_⟩
      rw [h4] at h3
      rcases h3 with h7 | h7
      · exact h7 hj
      · have hr := ((h.kill t).slot i).root (j := u) (by rw [h4]; exact hj)
        rw [hr] at h7; cases h7
theorem mv_own {s : St} {t u j : Nat} {x : S} (h : (s j).isOwn = true) (ht : j ≠ t) (hu : j ≠ u) : ((s.kill t).set u x) j = s j := by
  have h1 : ((s.kill t).set u x) j = ((s.kill t).free u) j := by simp [St.set, St.put, hu]
  rw [h1, free_own (by rw [kill_own h ht]; exact h) hu, kill_own h ht]
theorem mv_src {s : St} {t u : Nat} {x : S} (hne : u ≠ t) : ((s.kill t).set u x) t = .un := by
  have h1 : ((s.kill t).set u x) t = ((s.kill t).free u) t := by simp [St.set, St.put, Ne.symm hne]
  rw [h1]
  rcases free_at (s.kill t) u t with h2 | ⟨h2, _⟩
  · exact h2
  · rw [h2]; simp [St.kill]
def relab (t u : Nat) (ow : Own) : Own := fun b => match ow b with
  | some l => if l.getLast? = some t then some (l.dropLast ++ [u]) else some l
  | none => none
theorem relab_none {t u : Nat} {ow : Own} {b : Nat} (h : ow b = none) : relab t u ow b = none := by simp [relab, h]
theorem relab_same {t u j : Nat} {ow : Own} {b : Nat} {q : List Nat} (h : ow b = some (q ++ [j])) (hj : j ≠ t) : relab t u ow b = some (q ++ [j]) := by
  simp [relab, h, hj]
theorem relab_mv {t u : Nat} {ow : Own} {b : Nat} {q : List Nat} (h : ow b = some (q ++ [t])) : relab t u ow b = some (q ++ [u]) := by
  simp [relab, h]
theorem Fits.mvG {P : Program} {n : Nat} {w0 w : World} {ow0 ow : Own} {s : St} {a : Act} (h : Fits P n w0 ow0 ow s a w) {t u : Nat} (hu : u < n) (hne : u ≠ t) (hfar : s t ≠ .un) (y : S) (hy : ∀ s'' a'', SV P w (relab t u ow) s'' a'' u y (aval a t)) :
    Fits P n w0 ow0 (relab t u ow) ((s.kill t).set u y) (a.put (some u) (aval a t)) w := by
  refine h.change (by exact h.nodef) (by simp [Act.put, h.size]) rfl rfl rfl (Nat.le_refl _) (fun b _ ho => ⟨rfl, relab_none ho⟩) (fun b hb => relab_none (h.new b hb)) (fun j => j = t ∨ j = u) ?_ ?_ ?_ (fun e => e.elim (fun e => hfar (e ▸ h.far)) (fun e => by have := h.small; unfold far0 at e; omega))
  · intro j hj b hb q hq
    exact ⟨rfl, relab_same hq (fun e => hj (.inl e))⟩
  · intro i hi
    have hiu : i ≠ u := fun e => hi (.inr e)
    refine ⟨by rw [aval_put h.size h.small hu, if_neg hiu], ?_⟩
    rcases mv_at h t u y i hiu with h1 | ⟨h1, h2, h3, h4⟩
    · exact .inl h1
    · right
      refine ⟨h1, fun j hj => ?_⟩
      have hjt : j ≠ t := fun e => h3 (e ▸ hj)
      have hju : j ≠ u := fun e => h4 (e ▸ hj)
      exact ⟨fun e => e.elim hjt hju, mv_own ((h.slot i).root hj) hjt hju⟩
  · rintro i (rfl | rfl)
    · rw [mv_src hne]; trivial
    · have : ((s.kill t).set i y) i = y := by simp [St.set, St.put]
      rw [this, aval_put h.size h.small hu, if_pos rfl]
      exact hy _ _
theorem keeps_relab {w : World} {ow : Own} {l : List Nat} {t u : Nat} : Keeps w ow (l ++ [t]) w (relab t u ow) (l ++ [u]) := fun b _ => ⟨fun ho => ⟨rfl, relab_none ho⟩, fun q hq => ⟨rfl, by
  have := relab_mv (u := u) (q := q ++ l) (t := t) (ow := ow) (b := b) (by simpa using hq)
  simpa using this⟩⟩
theorem Fits.mv {P : Program} {n : Nat} {w0 w : World} {ow0 ow : Own} {s : St} {a : Act} (h : Fits P n w0 ow0 ow s a w) {t u : Nat} {d : D} (ht : s t = .own d) (hu : u < n) (hne : u ≠ t) :
    Fits P n w0 ow0 (relab t u ow) ((s.kill t).set u (.own d)) (a.put (some u) (aval a t)) w := by
  refine h.mvG hu hne (by rw [ht]; exact S.noConfusion) _ fun s'' a'' => ?_
  have hV : V P w ow d [t] (aval a t) := by have := h.slot t; rw [ht] at this; exact this
  exact V.tr (keeps_relab (l := [])) hV
theorem Fits.mvTup {P : Program} {n : Nat} {w0 w : World} {ow0 ow : Own} {s : St} {a : Act} (h : Fits P n w0 ow0 ow s a w) {t u : Nat} {l : List S} (ht : s t = .tup l) (hu : u < n) (hne : u ≠ t) :
    Fits P n w0 ow0 (relab t u ow) ((s.kill t).set u (.tup l)) (a.put (some u) (aval a t)) w := by
  refine h.mvG hu hne (by rw [ht]; exact S.noConfusion) _ fun s'' a'' => ?_
  have hV := h.slot t
  rw [ht] at hV
  obtain ⟨vs, h1, h2, h3⟩ := hV
  refine ⟨vs, h1, h2, fun k x hk => ?_⟩
  have h4 := h3 k x hk
  cases x with
  | val d => exact V.trf (fun b _ ho => ⟨rfl, relab_none ho⟩) h4
  | own d => exact V.tr (keeps_relab (l := [k])) h4
  | _ => trivial
end Go.Dv

end
section
namespace Go.Dv
open Go.RowKit
variable [Glob]
theorem Fits.cong {P : Program} {n : Nat} {w0 w : World} {ow0 ow : Own} {s : St} {a a' : Act} (h : Fits P n w0 ow0 ow s a w) (nd : a'.defers = []) (sz : a'.tmps.size = n) (hv : ∀ i, aval a' i = aval a i) : Fits P n w0 ow0 ow s a' w :=
  h.change nd sz rfl rfl rfl (Nat.le_refl _) (fun _ _ ho => ⟨rfl, ho⟩) h.new (fun _ => False) (fun j _ b _ q hq => ⟨rfl, hq⟩) (fun i _ => ⟨hv i, .inr ⟨rfl, fun j _ => ⟨id, rfl⟩⟩⟩) (fun i hi => hi.elim) id
theorem D.w_one {P : Program} {w : World} {ow : Own} {d : D} {l : List Nat} {v : Value} (h : V P w ow d l v) (hd : d.isAgg = false) : d.w = 1 := by
  cases d with
  | agg xs => cases hd
  | any k => simp only [V, R] at h; simp only [D.w]; simpa using h.1.symm
  | _ => rfl
def dmove (u : Nat) (x : Operand) (s : St) (K : St → Prop) : Prop :=
  match evS s x with
  | .un => False
  | .val d => K (s.set u (.val d))
  | .rp d => K (s.set u (.rp d))
  | .al r p => u ≠ r ∧ K (s.set u (.al r p))
  | .rf r p => u ≠ r ∧ K (s.set u (.rf r p))
  | .ag r p => u ≠ r ∧ K (s.set u (.ag r p))
  | .own d => u ≠ slotOf x ∧ match d with
    | .agg xs => K ((s.kill (slotOf x)).set u (.own (.agg xs)))
    | _ => K (s.set u (.al (slotOf x) []))
  | .tup l => u ≠ slotOf x ∧ K ((s.kill (slotOf x)).set u (.tup l))
theorem slotOf_own {s : St} {x : Operand} {y : S} (h : evS s x = y) (hy : y.isOwn = true ∨ ∃ l, y = .tup l) : s (slotOf x) = y := by
  cases x with
  | tmp t =>
    simp only [evS] at h
    split at h
    · exact h
    · subst h; rcases hy with hy | ⟨l, hy⟩ <;> cases hy
  | const v =>
    simp only [evS] at h
    split at h <;> subst h <;> rcases hy with hy | ⟨l, hy⟩ <;> cases hy
  | global g => exact h
  | func f => simp only [evS] at h; subst h; rcases hy with hy | ⟨l, hy⟩ <;> cases hy
theorem slotOf_val {n : Nat} {a : Act} {s : St} {x : Operand} {y : S} (hsz : a.tmps.size = n) (hn : n ≤ 1000000) (h : evS s x = y) (hy : y.isOwn = true ∨ ∃ l, y = .tup l) : a.eval x = aval a (slotOf x) := by
  cases x with
  | tmp t =>
    simp only [evS] at h
    split at h
    · rename_i ht; simp [Act.eval, slotOf, aval, ht]
    · subst h; rcases hy with hy | ⟨l, hy⟩ <;> cases hy
  | const v =>
    simp only [evS] at h
    split at h <;> subst h <;> rcases hy with hy | ⟨l, hy⟩ <;> cases hy
  | global g => simp [Act.eval, slotOf, aval]; intro h; omega
  | func f => simp only [evS] at h; subst h; rcases hy with hy | ⟨l, hy⟩ <;> cases hy
theorem dmove_ok {P : Program} {n : Nat} {w0 w : World} {ow0 ow : Own} {s : St} {a : Act} {u : Nat} {x : Operand} {K : St → Prop} (h : Fits P n w0 ow0 ow s a w) (hu : u < n) (hd : dmove u x s K) :
    ∃ s', K s' ∧ Rel P n w0 ow0 s' (a.put (some u) (a.eval x)) w := by
  have hv := h.eval x
  unfold dmove at hd
  cases hx : evS s x with
  | un => rw [hx] at hd; exact hd.elim
  | val d =>
    rw [hx] at hd hv
    exact ⟨_, hd, ow, h.set hu hv⟩
  | rp d =>
    rw [hx] at hd hv
    exact ⟨_, hd, ow, h.set hu hv⟩
  | al r p =>
    rw [hx] at hd hv
    obtain ⟨hne, hK⟩ := hd
    refine ⟨_, hK, ow, h.set hu (hv.cong fun j hj => ⟨?_, rfl⟩)⟩
    obtain rfl : r = j := by simpa [S.root] using hj
    exact free_own (hv.root rfl) (Ne.symm hne)
  | rf r p =>
    rw [hx] at hd hv
    obtain ⟨hne, hK⟩ := hd
    refine ⟨_, hK, ow, h.set hu (hv.cong fun j hj => ⟨?_, rfl⟩)⟩
    obtain rfl : r = j := by simpa [S.root] using hj
    exact free_own (hv.root rfl) (Ne.symm hne)
  | ag r p =>
    rw [hx] at hd hv
    obtain ⟨hne, hK⟩ := hd
    refine ⟨_, hK, ow, h.set hu (hv.cong fun j hj => ⟨?_, rfl⟩)⟩
    obtain rfl : r = j := by simpa [S.root] using hj
    exact free_own (hv.root rfl) (Ne.symm hne)
  | own d =>
    rw [hx] at hd
    obtain ⟨hne, hK⟩ := hd
    have hs := slotOf_own hx (.inl rfl)
    have he := slotOf_val h.size h.small hx (.inl rfl)
    rw [he]
    have hV := h.slot (slotOf x)
    rw [hs] at hV
    by_cases hagg : d.isAgg = true
    · cases d with
      | agg xs => exact ⟨_, hK, _, h.mv hs hu hne⟩
      | _ => cases hagg
    · have hagg' : d.isAgg = false := by simpa using hagg
      have hK' : K (s.set u (.al (slotOf x) [])) := by
        cases d with
        | agg xs => cases hagg'
        | _ => exact hK
      refine ⟨_, hK', ow, h.set hu ?_⟩
      refine ⟨d, d, ?_, rfl, ⟨D.w_one hV hagg', hagg', .inl rfl⟩, .inl ⟨rfl, rfl⟩⟩
      rw [free_own (by rw [hs]; rfl) (Ne.symm hne)]; exact hs
  | tup l =>
    rw [hx] at hd
    obtain ⟨hne, hK⟩ := hd
    have hs := slotOf_own hx (.inr ⟨l, rfl⟩)
    have he := slotOf_val h.size h.small hx (.inr ⟨l, rfl⟩)
    rw [he]
    exact ⟨_, hK, _, h.mvTup hs hu hne⟩
theorem Fits.tell {P : Program} {n : Nat} {w0 w : World} {ow0 ow : Own} {s : St} {a : Act} {t : Nat} {x : S} (h : Fits P n w0 ow0 ow s a w) (ht : t ≠ far0) (ho : (s t).isOwn = false) (hx : SV P w ow s a t x (aval a t)) : Fits P n w0 ow0 ow (s.put t x) a w := by
  have keep : ∀ i y v, SV P w ow s a i y v → SV P w ow (s.put t x) a i y v := by
    intro i y v hy
    refine hy.cong fun j hj => ⟨?_, rfl⟩
    have hr := hy.root hj
    have : j ≠ t := by rintro rfl; rw [hr] at ho; cases ho
    simp [St.put, this]
  refine ⟨h.nodef, h.size, h.small, h.laid, h.bel, h.own, h.new, ?_, h.keep, fun i => ?_⟩
  · simp only [St.put, if_neg (Ne.symm ht), h.far]
  by_cases hi : i = t
  · subst hi; simp only [St.put, if_true]; exact keep _ _ _ hx
  · have : (s.put t x) i = s i := by simp [St.put, hi]
    rw [this]; exact keep _ _ _ (h.slot i)
def dassign (u : Nat) (x : Operand) (s : St) (K : St → Prop) : Prop :=
  match evS s x with
  | .own d => u ≠ slotOf x ∧ K ((s.kill (slotOf x)).set u (.own d))
  | .al r [] => if u = r then K s else match s r with
    | .own d => K (((s.kill r).set u (.own d)).put r (.al u []))
    | _ => False
  | _ => dmove u x s K
theorem dassign_ok {P : Program} {n : Nat} {w0 w : World} {ow0 ow : Own} {s : St} {a : Act} {u : Nat} {x : Operand} {K : St → Prop} (h : Fits P n w0 ow0 ow s a w) (hu : u < n) (hd : dassign u x s K) :
    ∃ s', K s' ∧ Rel P n w0 ow0 s' (a.put (some u) (a.eval x)) w := by
  unfold dassign at hd
  cases hx : evS s x with
  | own d =>
    rw [hx] at hd
    obtain ⟨hne, hK⟩ := hd
    have hs := slotOf_own hx (.inl rfl)
    rw [slotOf_val h.size h.small hx (.inl rfl)]
    exact ⟨_, hK, _, h.mv hs hu hne⟩
  | al r p =>
    cases p with
    | nil =>
      rw [hx] at hd
      simp only at hd
      have hv := h.eval x
      rw [hx] at hv
      obtain ⟨d, m, h1, h2, h3, h4⟩ := hv
      have hval : a.eval x = aval a r := by
        rcases h4 with ⟨_, h4⟩ | ⟨b, off, h4, _⟩
        · exact h4
        · simp [loc] at h4
      rw [hval]
      by_cases hur : u = r
      · rw [if_pos hur] at hd
        refine ⟨s, hd, ow, h.cong h.nodef (by simp [Act.put, h.size]) fun i => ?_⟩
        rw [aval_put h.size h.small hu]
        split
        · subst hur; rename_i hi; rw [hi]
        · rfl
      · rw [if_neg hur, h1] at hd
        have hf := h.mv h1 hu hur
        refine ⟨_, hd, _, hf.tell (fun e => by rw [e, h.far] at h1; cases h1) ?_ ?_⟩
        · rw [mv_src hur]; rfl
        · simp only [D.sub, Option.some.injEq] at h2
          subst h2
          refine ⟨d, d, by simp [St.set, St.put], rfl, h3, .inl ⟨rfl, ?_⟩⟩
          rw [aval_put h.size h.small hu, aval_put h.size h.small hu, if_pos rfl, if_neg (Ne.symm hur)]
    | cons i p => rw [hx] at hd; exact dmove_ok h hu hd
  | un => rw [hx] at hd; exact dmove_ok h hu hd
  | val d => rw [hx] at hd; exact dmove_ok h hu hd
  | rp d => rw [hx] at hd; exact dmove_ok h hu hd
  | rf r p => rw [hx] at hd; exact dmove_ok h hu hd
  | ag r p => rw [hx] at hd; exact dmove_ok h hu hd
  | tup l => rw [hx] at hd; exact dmove_ok h hu hd
theorem run_move' {P : Program} {o : Oper} {x : Operand} {w : World} {a : Act} (h : o.op = .move x) : (execOp a.eval o).run P w = .ok (.value (a.eval x)) w := by
  unfold execOp; rw [h]; rfl
theorem run_assign' {P : Program} {o : Oper} {x : Operand} {w : World} {a : Act} (h : o.op = .assign x) : (execOp a.eval o).run P w = .ok (.value (a.eval x)) w := by
  unfold execOp; rw [h]; rfl
theorem ok_move {P : Program} {n : Nat} {w0 : World} {ow0 : Own} {o : Oper} {s : St} {K : St → Prop} {x : Operand} {u : Nat} (ho : o.op = .move x) (hd : o.dst = some u) (hu : u < n) (h : dmove u x s K) : Ok P n w0 ow0 o s K := by
  refine ok_value fun a w ow hf => ⟨_, w, run_move' ho, ?_⟩
  rw [hd]; exact dmove_ok hf hu h
theorem ok_assign {P : Program} {n : Nat} {w0 : World} {ow0 : Own} {o : Oper} {s : St} {K : St → Prop} {x : Operand} {u : Nat} (ho : o.op = .assign x) (hd : o.dst = some u) (hu : u < n) (h : dassign u x s K) : Ok P n w0 ow0 o s K := by
  refine ok_value fun a w ow hf => ⟨_, w, run_assign' ho, ?_⟩
  rw [hd]; exact dassign_ok hf hu h
def oneK (x : S) (K : Value → Prop) : Prop := match x with
  | .val (.one v) => K v
  | _ => False
theorem oneK_of {x : S} {K : Value → Prop} (h : oneK x K) : ∃ v, x = .val (.one v) ∧ K v := by
  unfold oneK at h
  split at h
  · exact ⟨_, rfl, h⟩
  · exact h.elim
def dpick (u : Nat) (c x y : Operand) (s : St) (K : St → Prop) : Prop :=
  oneK (evS s c) fun v => match v with
    | .bool true => dmove u x s K
    | .bool false => dmove u y s K
    | _ => False
theorem ok_pick {P : Program} {n : Nat} {w0 : World} {ow0 : Own} {o : Oper} {s : St} {K : St → Prop} {c x y : Operand} {u : Nat} (ho : o.op = .pick c x y) (hd : o.dst = some u) (hu : u < n) (h : dpick u c x y s K) : Ok P n w0 ow0 o s K := by
  refine ok_value fun a w ow hf => ?_
  obtain ⟨v, hv, h2⟩ := oneK_of h
  have he := (hf.one hv).1
  cases v with
  | bool t =>
    cases t with
    | true =>
      refine ⟨a.eval x, w, ?_, by rw [hd]; exact dmove_ok hf hu h2⟩
      unfold execOp; rw [ho]; simp only [he]; rfl
    | false =>
      refine ⟨a.eval y, w, ?_, by rw [hd]; exact dmove_ok hf hu h2⟩
      unfold execOp; rw [ho]; simp only [he]; rfl
  | _ => exact h2.elim
end Go.Dv

end
section
namespace Go.Dv
open Go.RowKit
variable [Glob]
def inI : IntKind → Int → Prop
  | .i64, n => -9223372036854775808 ≤ n ∧ n ≤ 9223372036854775807
  | .u8, n => 0 ≤ n ∧ n ≤ 255
  | .i32, n => -2147483648 ≤ n ∧ n ≤ 2147483647
  | k, n => k.wrap n = n
theorem inI.wrap {k : IntKind} {n : Int} (h : inI k n) : k.wrap n = n := by
  cases k <;> simp only [inI] at h <;> first | exact h | (simp [IntKind.wrap, IntKind.bits, IntKind.signed]; omega)
def strLt (a b : ByteArray) : Bool := Op.bytesLess a.toList b.toList
def bitsI (op : BinOp) (k : IntKind) (x y : Int) : Int :=
  let a := BitVec.ofInt k.bits x
  let b := BitVec.ofInt k.bits y
  k.wrap (match op with
    | .and => (a &&& b).toNat
    | .or => (a ||| b).toNat
    | .xor => (a ^^^ b).toNat
    | _ => (a &&& ~~~b).toNat)
def arithK (op : BinOp) (k : IntKind) (x y : Int) (K : Value → Prop) : Prop :=
  match op with
  | .add => inI k (x + y) ∧ K (.int k (x + y))
  | .sub => inI k (x - y) ∧ K (.int k (x - y))
  | .mul => inI k (x * y) ∧ K (.int k (x * y))
  | .quo => y ≠ 0 ∧ inI k (x.tdiv y) ∧ K (.int k (x.tdiv y))
  | .rem => y ≠ 0 ∧ K (.int k (x.tmod y))
  | .and => K (.int k (bitsI .and k x y))
  | .or => K (.int k (bitsI .or k x y))
  | .xor => K (.int k (bitsI .xor k x y))
  | .andNot => K (.int k (bitsI .andNot k x y))
  | .eql => K (.bool (x == y))
  | .neq => K (.bool (x != y))
  | .lss => K (.bool (decide (x < y)))
  | .leq => K (.bool (decide (x ≤ y)))
  | .gtr => K (.bool (decide (x > y)))
  | .geq => K (.bool (decide (x ≥ y)))
  | _ => False
def strK (op : BinOp) (x y : ByteArray) (K : Value → Prop) : Prop :=
  match op with
  | .add => x.size + y.size ≤ 9223372036854775807 ∧ K (.string (x ++ y))
  | .eql => K (.bool (decide (x = y)))
  | .neq => K (.bool (!decide (x = y)))
  | .lss => K (.bool (strLt x y))
  | .leq => K (.bool (strLt x y || decide (x = y)))
  | .gtr => K (.bool (!(strLt x y || decide (x = y))))
  | .geq => K (.bool (!strLt x y))
  | _ => False
def binV (op : BinOp) (x y : Value) (K : Value → Prop) : Prop :=
  match x, y with
  | .int k a, .int k' b => match op with
    | .shl => 0 ≤ b ∧ K (.int k (k.wrap (a * 2 ^ (min b.toNat k.bits))))
    | .shr => 0 ≤ b ∧ K (.int k (a.fdiv (2 ^ (min b.toNat k.bits))))
    | op => k = k' ∧ arithK op k a b K
  | .string a, .string b => strK op a b K
  | _, _ => False
theorem toList_eq {x y : ByteArray} : (x.toList == y.toList) = decide (x = y) := by
  rw [Bool.eq_iff_iff]
  simp only [beq_iff_eq, decide_eq_true_eq]
  constructor
  · intro h
    have h2 : x.data.toList = y.data.toList := by simpa [ByteArray.toList_eq] using h
    ext1
    exact Array.toList_inj.1 h2
  · rintro rfl; rfl
theorem arithK_run {P : Program} {w : World} {op : BinOp} {k : IntKind} {x y : Int} {K : Value → Prop} {t : TypeId} (hs : op ≠ .shl) (hs2 : op ≠ .shr) (h : arithK op k x y K) : ∃ v, (binOp op t (.int k x) (.int k y)).run P w = .ok v w ∧ v.oneCell' = true ∧ K v := by
  cases op <;> simp only [arithK] at h <;> first | exact absurd rfl hs | exact absurd rfl hs2 | skip
  case add => exact ⟨_, by simp only [binOp, Op.intArith, ne_eq, not_true_eq_false, if_false, h.1.wrap]; rfl, rfl, h.2⟩
  case sub => exact ⟨_, by simp only [binOp, Op.intArith, ne_eq, not_true_eq_false, if_false, h.1.wrap]; rfl, rfl, h.2⟩
  case mul => exact ⟨_, by simp only [binOp, Op.intArith, ne_eq, not_true_eq_false, if_false, h.1.wrap]; rfl, rfl, h.2⟩
  case quo => exact ⟨_, by simp only [binOp, Op.intDiv, ne_eq, not_true_eq_false, if_false, h.1, h.2.1.wrap]; rfl, rfl, h.2.2⟩
  case rem => exact ⟨_, by simp only [binOp, Op.intDiv, ne_eq, not_true_eq_false, if_false, h.1]; rfl, rfl, h.2⟩
  case and => exact ⟨_, by simp only [binOp, Op.intBits, ne_eq, not_true_eq_false, if_false]; rfl, rfl, h⟩
  case or => exact ⟨_, by simp only [binOp, Op.intBits, ne_eq, not_true_eq_false, if_false]; rfl, rfl, h⟩
  case xor => exact ⟨_, by simp only [binOp, Op.intBits, ne_eq, not_true_eq_false, if_false]; rfl, rfl, h⟩
  case andNot => exact ⟨_, by simp only [binOp, Op.intBits, ne_eq, not_true_eq_false, if_false]; rfl, rfl, h⟩
  all_goals exact ⟨_, by simp only [binOp, Op.intCmp, ne_eq, not_true_eq_false, if_false]; rfl, rfl, h⟩
theorem strK_run {P : Program} {w : World} {op : BinOp} {x y : ByteArray} {K : Value → Prop} {t : TypeId} (h : strK op x y K) : ∃ v, (binOp op t (.string x) (.string y)).run P w = .ok v w ∧ v.oneCell' = true ∧ K v := by
  cases op <;> simp only [strK] at h
  case add =>
    refine ⟨.string (x ++ y), ?_, rfl, h.2⟩
    have : ¬ ((x.size + y.size : Nat) : Int) > IntKind.i64.max := by have := h.1; simp only [IntKind.max, IntKind.signed, IntKind.bits]; omega
    simp only [binOp, Op.stringOp]
    rw [if_neg this]; rfl
  case eql => exact ⟨_, by simp only [binOp, Op.stringOp, toList_eq]; rfl, rfl, h⟩
  case neq => exact ⟨_, by simp only [binOp, Op.stringOp, toList_eq]; rfl, rfl, h⟩
  case lss => exact ⟨_, by simp only [binOp, Op.stringOp]; rfl, rfl, h⟩
  case leq => exact ⟨_, by simp only [binOp, Op.stringOp, toList_eq]; rfl, rfl, h⟩
  case gtr => exact ⟨_, by simp only [binOp, Op.stringOp, toList_eq]; rfl, rfl, h⟩
  case geq => exact ⟨_, by simp only [binOp, Op.stringOp]; rfl, rfl, h⟩
  all_goals exact h.elim
theorem shift_run {P : Program} {w : World} {k k' : IntKind} {x y : Int} (hy : 0 ≤ y) : (Op.shift .shl k x k' y).run P w = .ok (.int k (k.wrap (x * 2 ^ (min y.toNat k.bits)))) w ∧ (Op.shift .shr k x k' y).run P w = .ok (.int k (x.fdiv (2 ^ (min y.toNat k.bits)))) w := by
  have : ¬ y < 0 := by omega
  constructor
  · simp only [Op.shift]; rw [if_neg this]; rfl
  · simp only [Op.shift]; rw [if_neg this]; rfl
theorem binV_run {P : Program} {w : World} {op : BinOp} {x y : Value} {K : Value → Prop} {t : TypeId} (h : binV op x y K) : ∃ v, (binOp op t x y).run P w = .ok v w ∧ v.oneCell' = true ∧ K v := by
  unfold binV at h
  split at h
  · rename_i k a k' b
    split at h
    · exact ⟨_, (shift_run (k' := k') h.1).1, rfl, h.2⟩
    · exact ⟨_, (shift_run (k' := k') h.1).2, rfl, h.2⟩
    · rename_i op' h1 h2
      obtain ⟨rfl, h⟩ := h
      exact arithK_run (fun e => h1 e) (fun e => h2 e) h
  · exact strK_run h
  · exact h.elim
theorem eqGuard_one {P : Program} {w : World} {op : BinOp} {t : TypeId} {x y : Operand} {u v : Value} {K : Value → Prop} (h : binV op u v K) : (eqGuard op t x y u v).run P w = .ok () w := by
  unfold eqGuard
  unfold binV at h
  split at h <;> cases op <;> first | rfl | exact h.elim
def dbin (op : BinOp) (x y : S) (K : Value → Prop) : Prop := oneK x fun u => oneK y fun v => binV op u v K
theorem ok_bin {P : Program} {n : Nat} {w0 : World} {ow0 : Own} {o : Oper} {s : St} {K : St → Prop} {op : BinOp} {t t' : TypeId} {x y : Operand} (ho : o.op = .binOp op t x y t') (hd : dstOk n o = true)
    (h : dbin op (evS s x) (evS s y) fun r => K (s.setd o.dst (.val (.one r)))) : Ok P n w0 ow0 o s K := by
  obtain ⟨u, hu, h⟩ := oneK_of h
  obtain ⟨v, hv, h⟩ := oneK_of h
  refine ok_value fun a w ow hf => ?_
  obtain ⟨r, h1, h2, h3⟩ := binV_run (P := P) (w := w) (t := t) h
  have hg := eqGuard_one (P := P) (w := w) (t := t) (x := x) (y := y) h
  refine ⟨r, w, ?_, _, h3, ow, ?_⟩
  · unfold execOp; rw [ho]; simp only [(hf.one hu).1, (hf.one hv).1]
    simp only [Sem.run_bind, hg, Result.andThen_ok, h1]
    rfl
  · cases hod : o.dst with
    | none => exact hf
    | some t =>
      have ht : t < n := by simpa [dstOk, hod] using hd
      exact hf.set ht (SV.val_one h2)
def unV (op : UnOp) (x : Value) (K : Value → Prop) : Prop :=
  match op, x with
  | .not, .bool b => K (.bool (!b))
  | .neg, .int k n => inI k (0 - n) ∧ K (.int k (0 - n))
  | _, _ => False
theorem ok_un {P : Program} {n : Nat} {w0 : World} {ow0 : Own} {o : Oper} {s : St} {K : St → Prop} {op : UnOp} {t : TypeId} {x : Operand} (ho : o.op = .unOp op t x) (hd : dstOk n o = true)
    (h : oneK (evS s x) fun u => unV op u fun r => K (s.setd o.dst (.val (.one r)))) : Ok P n w0 ow0 o s K := by
  obtain ⟨u, hu, h⟩ := oneK_of h
  unfold unV at h
  split at h
  · refine ok_pure hd (u := .bool (!_)) rfl (fun a w he => ?_) h
    unfold execOp; rw [ho]; simp only [he _ _ hu]; rfl
  · refine ok_pure hd (u := .int _ _) rfl (fun a w he => ?_) h.2
    unfold execOp; rw [ho]; simp only [he _ _ hu, Op.unary, Op.intArith, h.1.wrap]; rfl
  · exact h.elim
def dconvI (k : IntKind) (x : S) (K : Value → Prop) : Prop := oneK x fun u => match u with
  | .int _ n => K (.int k (k.wrap n))
  | _ => False
theorem ok_convI {P : Program} {n : Nat} {w0 : World} {ow0 : Own} {o : Oper} {s : St} {K : St → Prop} {src dst : TypeId} {k : IntKind} {d0 : TypeDesc} {x : Operand} (ho : o.op = .convert src dst x) (hsrc : P.underlying src = some d0) (hk : P.underlying dst = some (.int k)) (hd : dstOk n o = true)
    (h : dconvI k (evS s x) fun r => K (s.setd o.dst (.val (.one r)))) : Ok P n w0 ow0 o s K := by
  obtain ⟨u, hu, h⟩ := oneK_of h
  split at h
  · refine ok_pure hd (u := .int _ _) rfl (fun a w he => ?_) h
    unfold execOp; rw [ho]; simp only [he _ _ hu, convert, Sem.run_bind, run_underlying hsrc, run_underlying hk, Result.andThen_ok, Conv.intToInt]
    cases d0 <;> rfl
  · exact h.elim
end Go.Dv

end
section
namespace Go.Dv
open Go.RowKit
variable [Glob]
inductive Ty where
  | no
  | bool
  | int (k : IntKind)
  | str
  | ptr
  | ifc
  | fn
  | sl (e : TypeId)
  | agg (fs : List (Nat × TypeId))
  | arr (n : Nat) (e : TypeId)
structure TyE where
  ty : Ty
  w : Nat
  z : D
def Ty.isAgg : Ty → Bool
  | .agg _ => true
  | .arr _ _ => true
  | _ => false
mutual
def D.flat : D → Option (List Value)
  | .one v => if v.oneCell' then some [v] else none
  | .agg xs => D.flats xs
  | _ => none
def D.flats : List D → Option (List Value)
  | [] => some []
  | x :: xs => match x.flat, D.flats xs with
    | some a, some b => some (a ++ b)
    | _, _ => none
end
mutual
def D.zf : D → Option (List Value)
  | .one v => if v.oneCell' then some [v] else none
  | .agg xs => D.zfs xs
  | .sl (some _) [] => some [.slice none 0 0]
  | _ => none
def D.zfs : List D → Option (List Value)
  | [] => some []
  | x :: xs => match x.zf, D.zfs xs with
    | some a, some b => some (a ++ b)
    | _, _ => none
end
mutual
theorem R.zf {P : Program} {w : World} {ow : Own} : ∀ {d : D} {l : List Nat} {cs : List Value}, d.zf = some cs → R P w ow d l cs
  | .one v, l, cs, h => by
    simp only [D.zf] at h
    split at h
    · simp only [R]; rename_i hv; exact ⟨by simpa using h.symm, hv⟩
    · cases h
  | .sl none xs, l, cs, h => by simp only [D.zf] at h; cases h
  | .sl (some e) (x :: xs), l, cs, h => by simp only [D.zf] at h; cases h
  | .sl (some e) [], l, cs, h => by
    simp only [D.zf, Option.some.injEq] at h
    simp only [R]
    exact ⟨none, 0, h.symm, Nat.le_refl _, by unfold maxLen; omega, .inl (by simp)⟩
  | .bx o xs, l, cs, h => by simp only [D.zf] at h; cases h
  | .any n, l, cs, h => by simp only [D.zf] at h; cases h
  | .agg xs, l, cs, h => by simp only [D.zf] at h; simp only [R]; exact Ra.zf h
theorem Ra.zf {P : Program} {w : World} {ow : Own} : ∀ {xs : List D} {l : List Nat} {i : Nat} {cs : List Value}, D.zfs xs = some cs → Ra P w ow xs l i cs
  | [], l, i, cs, h => by simp only [D.zfs] at h; simp only [Ra]; simpa using h.symm
  | x :: xs, l, i, cs, h => by
    simp only [D.zfs] at h
    split at h
    · rename_i a b ha hb
      have hx := R.zf (P := P) (w := w) (ow := ow) (l := i :: l) ha
      simp only [Ra]
      exact ⟨a, b, by simpa using h.symm, hx.len, hx, Ra.zf hb⟩
    · cases h
end
mutual
theorem R.flat {P : Program} {w : World} {ow : Own} : ∀ {d : D} {l : List Nat} {cs : List Value}, d.flat = some cs → R P w ow d l cs
  | .one v, l, cs, h => by
    simp only [D.flat] at h
    split at h
    · simp only [R]; rename_i hv; exact ⟨by simpa using h.symm, hv⟩
    · cases h
  | .sl o xs, l, cs, h => by simp only [D.flat] at h; cases h
  | .bx o xs, l, cs, h => by simp only [D.flat] at h; cases h
  | .any n, l, cs, h => by simp only [D.flat] at h; cases h
  | .agg xs, l, cs, h => by simp only [D.flat] at h; simp only [R]; exact Ra.flat h
theorem Ra.flat {P : Program} {w : World} {ow : Own} : ∀ {xs : List D} {l : List Nat} {i : Nat} {cs : List Value}, D.flats xs = some cs → Ra P w ow xs l i cs
  | [], l, i, cs, h => by simp only [D.flats] at h; simp only [Ra]; simpa using h.symm
  | x :: xs, l, i, cs, h => by
    simp only [D.flats] at h
    split at h
    · rename_i a b ha hb
      have hx := R.flat (P := P) (w := w) (ow := ow) (l := i :: l) ha
      simp only [Ra]
      exact ⟨a, b, by simpa using h.symm, hx.len, hx, Ra.flat hb⟩
    · cases h
end
def Ty.desc (P : Program) (t : TypeId) : Ty → Prop
  | .no => False
  | .bool => P.underlying t = some .bool
  | .int k => P.underlying t = some (.int k)
  | .str => P.underlying t = some .string
  | .ptr => ∃ e, P.underlying t = some (.pointer e)
  | .ifc => ∃ ms, P.underlying t = some (.interface ms)
  | .fn => ∃ a b c, P.underlying t = some (.func a b c)
  | .sl e => P.underlying t = some (.slice e)
  | .agg fs => ∃ fields, P.underlying t = some (.struct fields) ∧ fields.toList.map (fun f => (f.offset, f.type)) = fs ∧ (∀ f ∈ fields.toList, f.name ≠ "_" ∧ ∃ i, P.info? f.type = some i ∧ 0 < i.size) ∧ P.stoodInHeld t = false
  | .arr n e => P.underlying t = some (.array n e)
def Good (P : Program) (T : TypeId → TyE) (t : TypeId) : Prop :=
  (match (T t).ty with | .no => True | _ => False) ∨
    ((T t).ty.desc P t ∧ ∃ i zv, P.info? t = some i ∧ i.size = (T t).w ∧ i.zero = some zv ∧ D.zf (T t).z = some zv.cells.toList ∧ (T t).z.isAgg = (T t).ty.isAgg ∧ (∃ cs, zv = .agg cs) = ((T t).ty.isAgg = true) ∧ i.bytes ≤ 4096 ∧ (T t).z.w = (T t).w)
theorem Good.of {P : Program} {T : TypeId → TyE} {t : TypeId} (h : Good P T t) (hn : ∀ x, (T t).ty = x → x ≠ .no) : (T t).ty.desc P t ∧ ∃ i zv, P.info? t = some i ∧ i.size = (T t).w ∧ i.zero = some zv ∧ D.zf (T t).z = some zv.cells.toList ∧ (T t).z.isAgg = (T t).ty.isAgg ∧ (∃ cs, zv = .agg cs) = ((T t).ty.isAgg = true) ∧ i.bytes ≤ 4096 ∧ (T t).z.w = (T t).w := by
  rcases h with h | h
  · split at h
    · rename_i h1; exact absurd rfl (hn _ h1)
    · exact h.elim
  · exact h
theorem run_isAgg {P : Program} {T : TypeId → TyE} {t : TypeId} {w : World} (h : (T t).ty.desc P t) : (isAgg t).run P w = .ok (T t).ty.isAgg w := by
  unfold isAgg
  cases hty : (T t).ty with
  | no => rw [hty] at h; exact h.elim
  | bool => rw [hty] at h; simp only [Ty.desc] at h; rw [Sem.run_bind, run_underlying h w]; rfl
  | int k => rw [hty] at h; simp only [Ty.desc] at h; rw [Sem.run_bind, run_underlying h w]; rfl
  | str => rw [hty] at h; simp only [Ty.desc] at h; rw [Sem.run_bind, run_underlying h w]; rfl
  | ptr => rw [hty] at h; simp only [Ty.desc] at h; obtain ⟨e, h⟩ := h; rw [Sem.run_bind, run_underlying h w]; rfl
  | ifc => rw [hty] at h; simp only [Ty.desc] at h; obtain ⟨e, h⟩ := h; rw [Sem.run_bind, run_underlying h w]; rfl
  | fn => rw [hty] at h; simp only [Ty.desc] at h; obtain ⟨_, _, _, h⟩ := h; rw [Sem.run_bind, run_underlying h w]; rfl
  | sl e => rw [hty] at h; simp only [Ty.desc] at h; rw [Sem.run_bind, run_underlying h w]; rfl
  | agg fs => rw [hty] at h; simp only [Ty.desc] at h; obtain ⟨f, h, _⟩ := h; rw [Sem.run_bind, run_underlying h w]; rfl
  | arr n e => rw [hty] at h; simp only [Ty.desc] at h; rw [Sem.run_bind, run_underlying h w]; rfl
theorem Lies.range {P : Program} {w : World} {ow : Own} {d : D} {l : List Nat} {b off : Nat} (h : Lies P w ow d l b off) : ∃ cs, cs.length = d.w ∧ w.rangeAt b off cs ∧ R P w ow d l cs := by
  obtain ⟨C, e, fz, cs, hb, hc, hr⟩ := h
  refine ⟨cs, hr.len, fun j v hj => ?_, hr⟩
  have hlt := (List.getElem?_eq_some_iff.1 hj).1
  rw [cell_of_row w b (off + j) C e fz hb, hc j (by rw [← hr.len]; exact hlt)]
  exact hj
theorem V.of {P : Program} {w : World} {ow : Own} {d : D} {l : List Nat} {cs : List Value} (h : R P w ow d l cs) : (d.isAgg = true → V P w ow d l (.agg cs.toArray)) ∧ (d.isAgg = false → cs.length = 1 → ∃ v, cs = [v] ∧ V P w ow d l v) := by
  constructor
  · intro hd
    cases d with
    | agg xs => exact ⟨cs.toArray, rfl, by simpa using h⟩
    | _ => cases hd
  · intro hd hl
    obtain ⟨v, rfl⟩ := List.length_eq_one_iff.1 hl
    refine ⟨v, rfl, ?_⟩
    cases d with
    | agg xs => cases hd
    | _ => exact h
mutual
def D.frz : D → Bool
  | .one _ => true
  | .sl o xs => o.isNone && D.frzs xs
  | .agg xs => D.frzs xs
  | .bx o x => !o && x.frz
  | .any _ => true
def D.frzs : List D → Bool
  | [] => true
  | x :: xs => x.frz && D.frzs xs
end
theorem D.frzs_map {α : Type} (f : α → D) : ∀ l : List α, D.frzs (l.map f) = l.all fun x => (f x).frz
  | [] => rfl
  | x :: l => by simp [D.frzs, D.frzs_map f l]
mutual
theorem D.fz_frz : ∀ {d : D}, d.frz = true → d.fz = d
  | .one v, _ => rfl
  | .sl o xs, h => by
    simp only [D.frz, Bool.and_eq_true] at h
    obtain ⟨h1, h2⟩ := h
    cases o with
    | some t => cases h1
    | none => simp only [D.fz, D.fzs_frzs h2]
  | .agg xs, h => by simp only [D.frz] at h; simp only [D.fz, D.fzs_frzs h]
  | .bx o x, h => by
    simp only [D.frz, Bool.and_eq_true] at h
    obtain ⟨h1, h2⟩ := h
    cases o with
    | true => cases h1
    | false => simp only [D.fz, D.fz_frz h2]
  | .any n, _ => rfl
theorem D.fzs_frzs : ∀ {xs : List D}, D.frzs xs = true → D.fzs xs = xs
  | [], _ => rfl
  | x :: xs, h => by
    simp only [D.frzs, Bool.and_eq_true] at h
    simp only [D.fzs, D.fz_frz h.1, D.fzs_frzs h.2]
end
theorem V.frz {P : Program} {w : World} {ow : Own} {d : D} {l l2 : List Nat} {v : Value} (h : V P w ow d l v) (hf : d.frz = true) : V P w ow d.fz l2 v := by
  rw [← D.fz_frz hf] at h
  exact V.trf (fun b _ hb => ⟨rfl, hb⟩) h
def D.isAny : D → Bool
  | .any _ => true
  | _ => false
def D.okTy (d : D) (e : TyE) : Bool := !d.isAny && (d.isAgg == e.ty.isAgg) && (d.w == e.w) && (match e.ty with | .no => false | _ => true)
theorem okTy_parts {d : D} {e : TyE} (h : d.okTy e = true) : (∀ k, d ≠ .any k) ∧ d.isAgg = e.ty.isAgg ∧ d.w = e.w ∧ ∀ x, e.ty = x → x ≠ .no := by
  simp only [D.okTy, Bool.and_eq_true, beq_iff_eq, Bool.not_eq_true'] at h
  obtain ⟨⟨⟨h1, h2⟩, h3⟩, h4⟩ := h
  refine ⟨?_, h2, h3, fun x hx e => ?_⟩
  · rintro k rfl; cases h1
  rw [hx, e] at h4
  cases h4
theorem run_load {P : Program} {T : TypeId → TyE} {t : TypeId} {w : World} {ow : Own} {d : D} {l : List Nat} {b off : Nat} (hg : Good P T t) (hk : d.okTy (T t) = true) (h : Lies P w ow d l b off) :
    ∃ v, (Instr.loadAt t (.pointer (some ⟨b, off, none⟩))).run P w = .ok v w ∧ V P w ow d l v ∧ (d.isAgg = false → w.cell? ⟨b, off, none⟩ = some v) := by
  obtain ⟨hany, ha, hw, hn⟩ := okTy_parts hk
  obtain ⟨hdesc, i, zv, hi, hsz, _⟩ := hg.of hn
  obtain ⟨cs, hl, hrange, hr⟩ := h.range
  by_cases hagg : d.isAgg = true
  · refine ⟨.agg cs.toArray, ?_, (V.of hr).1 hagg, fun h => by rw [hagg] at h; cases h⟩
    have hrow : ∃ ds, P.underlying t = some ds ∧ ds.isRow = true := by
      cases hty : (T t).ty with
      | agg fs => rw [hty] at hdesc; obtain ⟨f, hd, _⟩ := hdesc; exact ⟨_, hd, rfl⟩
      | arr n e => rw [hty] at hdesc; exact ⟨_, hdesc, rfl⟩
      | _ => rw [hty] at ha; rw [ha] at hagg; cases hagg
    obtain ⟨ds, hd1, hd2⟩ := hrow
    exact run_loadAt_mid w b off t cs ds hrange hd1 hd2 (by rw [hi]; simp [hsz, hl, hw])
  · have hagg' : d.isAgg = false := by simpa using hagg
    have h1 : cs.length = 1 := by
      rw [hl]
      cases d with
      | agg xs => cases hagg'
      | any k => exact absurd rfl (hany k)
      | _ => rfl
    obtain ⟨v, hv, hV⟩ := (V.of hr).2 hagg' h1
    subst hv
    have hc := hrange 0 v (by simp)
    refine ⟨v, ?_, hV, fun _ => by simpa using hc⟩
    simp only [Instr.loadAt, Instr.sureAddr, Sem.run_bind, Sem.run_pure, Result.andThen_ok, loadVar, run_isAgg hdesc]
    rw [← ha, hagg']
    simp only [Bool.false_eq_true, if_false]
    simp only [load, Sem.run]
    rw [show w.cell? ⟨b, off, none⟩ = some v by simpa using hc]
def dload (e : TyE) (u : Nat) (x : S) (s : St) (K : St → Prop) : Prop :=
  match x with
  | .rp d => d.okTy e = true ∧ K (s.set u (.val d))
  | .rf r p => match s r with
    | .own d => match D.sub p d with
      | some n => n.okTy e = true ∧ match n with
        | .one v => K (s.set u (.val (.one v)))
        | .agg xs => if D.frzs xs then K (s.set u (.val (.agg xs))) else u ≠ r ∧ K (s.set u (.ag r p))
        | .sl none xs => if D.frzs xs then K (s.set u (.val (.sl none xs))) else u ≠ r ∧ K (s.set u (.al r p))
        | .sl (some e) xs => u ≠ r ∧ K (s.set u (.al r p))
        | .bx o x => u ≠ r ∧ K (s.set u (.al r p))
        | .any _ => False
      | none => False
    | _ => False
  | _ => False
theorem okTy_fz {d : D} {e : TyE} (h : d.okTy e = true) : d.fz.okTy e = true := by
  have h1 : d.fz.isAny = d.isAny := by cases d <;> rfl
  have h2 : d.fz.isAgg = d.isAgg := by cases d <;> rfl
  simp only [D.okTy, h1, h2, D.fz_w] at h ⊢
  exact h
theorem ok_load {P : Program} {T : TypeId → TyE} {n : Nat} {w0 : World} {ow0 : Own} {o : Oper} {s : St} {K : St → Prop} {t : TypeId} {x : Operand} {u : Nat} (hg : Good P T t) (ho : o.op = .load t x) (hd : o.dst = some u) (hu : u < n) (y : S) (hy : ∀ {ow a w}, Fits P n w0 ow0 ow s a w → SV P w ow s a (slotOf x) y (a.eval x))
    (h : dload (T t) u y s K) : Ok P n w0 ow0 o s K := by
  refine ok_value fun a w ow hf => ?_
  have hv := hy hf
  unfold dload at h
  split at h
  · -- data of nobody
    rename_i d
    obtain ⟨b, off, hv, hb, hL⟩ := hv
    obtain ⟨v, h1, h2, _⟩ := run_load hg (okTy_fz h.1) hL
    refine ⟨v, w, ?_, _, h.2, ow, ?_⟩
    · unfold execOp; rw [ho]; simp only [hv, Sem.run_bind, h1, Result.andThen_ok]; rfl
    · rw [hd]; exact hf.set hu h2
  · rename_i r p
    obtain ⟨d, m, b, off, hs, hm, hl, hv⟩ := hv
    rw [hs] at h
    simp only [hm] at h
    have hV := hf.slot r
    rw [hs] at hV
    have hR : R P w ow d [r] [aval a r] := by
      cases p with
      | nil => simp [loc] at hl
      | cons k p => exact V.one hV hl
    obtain ⟨hL, hob, _⟩ := hR.at hl hm
    obtain ⟨v, h1, h2, h3⟩ := run_load hg h.1 hL
    refine ⟨v, w, ?_, ?_⟩
    · unfold execOp; rw [ho]; simp only [hv, Sem.run_bind, h1, Result.andThen_ok]; rfl
    · rw [hd]
      have hal : m.isAgg = false → m.w = 1 → m.isHd = true → u ≠ r → SV P w ow (s.free u) a u (.al r p) v := fun ha hw hh hne =>
        ⟨d, m, by rw [free_own (by rw [hs]; rfl) (Ne.symm hne)]; exact hs, hm, ⟨hw, ha, .inr hh⟩, .inr ⟨b, off, hl, h3 ha⟩⟩
      have h4 := h.2
      cases m with
      | one y =>
        simp only at h4
        refine ⟨_, h4, ow, hf.set hu ?_⟩
        exact V.frz (l2 := []) h2 rfl
      | any k => exact h4.elim
      | bx o y => exact ⟨_, h4.2, ow, hf.set hu (hal rfl rfl rfl h4.1)⟩
      | agg xs =>
        simp only at h4
        by_cases hfr : D.frzs xs = true
        · rw [if_pos hfr] at h4
          exact ⟨_, h4, ow, hf.set hu (V.frz h2 hfr)⟩
        · rw [if_neg hfr] at h4
          exact ⟨_, h4.2, ow, hf.set hu ⟨d, .agg xs, by rw [free_own (by rw [hs]; rfl) (Ne.symm h4.1)]; exact hs, hm, rfl, h2⟩⟩
      | sl o xs =>
        cases o with
        | some e => exact ⟨_, h4.2, ow, hf.set hu (hal rfl rfl rfl h4.1)⟩
        | none =>
          simp only at h4
          by_cases hfr : D.frzs xs = true
          · rw [if_pos hfr] at h4
            exact ⟨_, h4, ow, hf.set hu (V.frz h2 (by simpa [D.frz] using hfr))⟩
          · rw [if_neg hfr] at h4
            exact ⟨_, h4.2, ow, hf.set hu (hal rfl rfl rfl h4.1)⟩
  · exact h.elim
end Go.Dv

end
section
namespace Go.Dv
open Go.RowKit
variable [Glob]
def asPtr (s : St) (i : Nat) (x : S) : S :=
  match x with
  | .own (.bx _ _) => .rf i [0]
  | .al r p => match s r with
    | .own d => match D.sub p d with
      | some (.bx _ _) => .rf r (p ++ [0])
      | _ => .un
    | _ => .un
  | .val (.bx _ d) => .rp d
  | .rp d => .rp d
  | .rf r p => .rf r p
  | _ => .un
theorem into_kid {d x : D} {i b off : Nat} {v : Value} (hx : into d i v = some (x, b, off)) : d.kid i = some x := by
  cases d with
  | agg xs => simp [Dv.into] at hx
  | one _ => simp [Dv.into] at hx
  | any _ => simp [Dv.into] at hx
  | sl o xs =>
    cases v with
    | slice a n cap =>
      cases a with
      | none => simp [Dv.into] at hx
      | some a =>
        obtain ⟨ab, ao, as⟩ := a
        cases as with
        | some _ => simp [Dv.into] at hx
        | none =>
          simp only [Dv.into, Option.map_eq_some_iff, Prod.mk.injEq] at hx
          obtain ⟨_, h1, rfl, _⟩ := hx
          exact h1
    | _ => simp [Dv.into] at hx
  | bx o y =>
    cases v with
    | pointer a =>
      cases a with
      | none => simp [Dv.into] at hx
      | some a =>
        obtain ⟨ab, ao, as⟩ := a
        cases as with
        | some _ => simp [Dv.into] at hx
        | none =>
          simp only [Dv.into] at hx
          split at hx
          · rename_i h0; subst h0
            simp only [Option.some.injEq, Prod.mk.injEq] at hx
            obtain ⟨rfl, _⟩ := hx
            rfl
          · cases hx
    | _ => simp [Dv.into] at hx
theorem D.sub_append : ∀ (p q : List Nat) (d : D), D.sub (p ++ q) d = (D.sub p d).bind (D.sub q)
  | [], q, d => rfl
  | i :: p, q, d => by
    simp only [List.cons_append, D.sub]
    cases d.kid i with
    | none => rfl
    | some x => exact D.sub_append p q x
theorem locAt_append {w : World} : ∀ (p q : List Nat) (d n : D) (b off b1 o1 : Nat), locAt w p d b off = some (b1, o1) → D.sub p d = some n → locAt w (p ++ q) d b off = locAt w q n b1 o1
  | [], q, d, n, b, off, b1, o1, h, hs => by
    simp only [locAt, Option.some.injEq, Prod.mk.injEq] at h
    simp only [D.sub, Option.some.injEq] at hs
    obtain ⟨rfl, rfl⟩ := h
    subst hs; rfl
  | i :: p, q, d, n, b, off, b1, o1, h, hs => by
    by_cases hagg : ∃ xs, d = .agg xs
    · obtain ⟨xs, rfl⟩ := hagg
      simp only [List.cons_append, locAt_agg] at h ⊢
      simp only [D.sub, D.kid] at hs
      cases hx : xs[i]? with
      | none => rw [hx] at h; cases h
      | some x => rw [hx] at h hs; exact locAt_append p q x n _ _ b1 o1 h hs
    · have hd : ∀ xs, d ≠ .agg xs := fun xs e => hagg ⟨xs, e⟩
      obtain ⟨v, x, b', off', hv, hx, hl⟩ := locAt_ptr hd h
      rw [List.cons_append, locAt_ptr_mk hd hv hx]
      have hk := into_kid hx
      simp only [D.sub, hk] at hs
      exact locAt_append p q x n b' off' b1 o1 hl hs
theorem loc_append {w : World} {p q : List Nat} {d n : D} {v : Value} {b1 o1 : Nat} (h : loc w p d v = some (b1, o1)) (hs : D.sub p d = some n) : loc w (p ++ q) d v = locAt w q n b1 o1 := by
  cases p with
  | nil => simp [loc] at h
  | cons i p =>
    simp only [List.cons_append, loc] at h ⊢
    cases hx : Dv.into d i v with
    | none => rw [hx] at h; cases h
    | some r =>
      obtain ⟨x, b, off⟩ := r
      rw [hx] at h
      simp only at h ⊢
      have hk : d.kid i = some x := by
        cases d with
        | agg xs => simp [Dv.into] at hx
        | one _ => simp [Dv.into] at hx
        | any _ => simp [Dv.into] at hx
        | sl o xs =>
          cases v with
          | slice a n cap =>
            cases a with
            | none => simp [Dv.into] at hx
            | some a =>
              obtain ⟨ab, ao, as⟩ := a
              cases as with
              | some _ => simp [Dv.into] at hx
              | none =>
                simp only [Dv.into, Option.map_eq_some_iff, Prod.mk.injEq] at hx
                obtain ⟨_, h1, rfl, _⟩ := hx
                exact h1
          | _ => simp [Dv.into] at hx
        | bx o y =>
          cases v with
          | pointer a =>
            cases a with
            | none => simp [Dv.into] at hx
            | some a =>
              obtain ⟨ab, ao, as⟩ := a
              cases as with
              | some _ => simp [Dv.into] at hx
              | none =>
                simp only [Dv.into] at hx
                split at hx
                · rename_i h0; subst h0
                  simp only [Option.some.injEq, Prod.mk.injEq] at hx
                  obtain ⟨rfl, _⟩ := hx
                  rfl
                · cases hx
          | _ => simp [Dv.into] at hx
      simp only [D.sub, hk] at hs
      exact locAt_append p q x n b off b1 o1 h hs
theorem R.bx_into {P : Program} {w : World} {ow : Own} {o : Bool} {y : D} {l : List Nat} {v : Value} (h : R P w ow (.bx o y) l [v]) : ∃ b off, v = .pointer (some ⟨b, off, none⟩) ∧ Dv.into (.bx o y) 0 v = some (y, b, off) := by
  simp only [R] at h
  obtain ⟨b, off, C, e, fz, cs', hv, _⟩ := h
  obtain rfl : v = .pointer (some ⟨b, off, none⟩) := by simpa using hv
  exact ⟨b, off, rfl, by simp [Dv.into]⟩
theorem bx_into_ {P : Program} {w : World} {ow : Own} {o : Bool} {y : D} {l : List Nat} {v : Value} (h : R P w ow (.bx o y) l [v]) : ∃ b off, v = .pointer (some ⟨b, off, none⟩) ∧ into (.bx o y) 0 v = some (y, b, off) ∧ loc w [0] (.bx o y) v = some (b, off) := by
  obtain ⟨b, off, h1, h2⟩ := h.bx_into
  exact ⟨b, off, h1, h2, by simp only [loc, h2, locAt]⟩
theorem Fits.asPtr {P : Program} {n : Nat} {w0 w : World} {ow0 ow : Own} {s : St} {a : Act} (h : Fits P n w0 ow0 ow s a w) (x : Operand) : SV P w ow s a (slotOf x) (Dv.asPtr s (slotOf x) (evS s x)) (a.eval x) := by
  have hv := h.eval x
  cases hx : evS s x with
  | un => trivial
  | val d =>
    rw [hx] at hv
    cases d with
    | bx o y =>
      simp only [SV, V, D.fz] at hv
      obtain ⟨b, off, h1, h2⟩ := hv.bx_into
      obtain ⟨_, h3, h4, _⟩ := hv.into h2
      refine ⟨b, off, h1, ?_, ?_⟩
      · rcases h4 with h4 | h4
        · exact h4
        · exfalso
          simp only [R] at hv
          obtain ⟨b', off', C, e, fz, cs', hv', _, hn, _⟩ := hv
          rw [h1] at hv'
          obtain ⟨rfl, rfl⟩ : b = b' ∧ off = off' := by simpa using hv'
          rw [hn trivial] at h4; cases h4
      · obtain ⟨C, e, fz, cs, g1, g2, g3⟩ := h3
        exact ⟨C, e, fz, cs, g1, g2, R.trf (fun b _ hb => ⟨rfl, hb⟩) g3⟩
    | _ => trivial
  | rp d => rw [hx] at hv; exact hv
  | rf r p => rw [hx] at hv; exact hv
  | ag r p => trivial
  | tup l => trivial
  | own d =>
    cases d with
    | bx o y =>
      have hs := slotOf_own hx (.inl rfl)
      have he := slotOf_val h.size h.small hx (.inl rfl)
      have hV := h.slot (slotOf x)
      rw [hs] at hV
      simp only [SV, V] at hV
      obtain ⟨b, off, h1, h2, h3⟩ := bx_into_ hV
      exact ⟨.bx o y, y, b, off, hs, rfl, h3, by rw [he]; exact h1⟩
    | _ => trivial
  | al r p =>
    rw [hx] at hv
    obtain ⟨d, m, hs, hm, hw, h4⟩ := hv
    simp only [Dv.asPtr, hs, hm]
    cases m with
    | bx o y =>
      simp only
      have hV := h.slot r
      rw [hs] at hV
      rcases h4 with ⟨rfl, h4⟩ | ⟨b, off, hl, hc⟩
      · simp only [D.sub, Option.some.injEq] at hm
        subst hm
        simp only [SV, V] at hV
        obtain ⟨b, off, h1, h2, h3⟩ := bx_into_ hV
        exact ⟨.bx o y, y, b, off, hs, rfl, h3, by rw [h4]; exact h1⟩
      · have hR : R P w ow d [r] [aval a r] := by
          cases p with
          | nil => simp [loc] at hl
          | cons k p => exact V.one hV hl
        obtain ⟨hL, _, _⟩ := hR.at hl hm
        obtain ⟨v', hv', hr⟩ := hL.cell rfl
        rw [hc] at hv'
        obtain rfl : a.eval x = v' := by simpa using hv'
        obtain ⟨b2, o2, h1, h2⟩ := hr.bx_into
        refine ⟨d, y, b2, o2, hs, by rw [D.sub_append, hm]; rfl, ?_, h1⟩
        rw [loc_append hl hm, locAt_ptr_mk (d := .bx o y) (fun xs e => by cases e) hc h2]
        rfl
    | _ => trivial
end Go.Dv

end
section
namespace Go.Dv
open Go.RowKit
variable [Glob]
inductive SLv where
  | fr (xs : List D)
  | nd (r : Nat) (p : List Nat) (xs : List D)
  | no
def SLv.xs : SLv → List D
  | .fr xs => xs
  | .nd _ _ xs => xs
  | .no => []
def asSl (s : St) (i : Nat) (x : S) : SLv :=
  match x with
  | .val (.sl _ xs) => .fr xs
  | .val (.one (.slice none 0 0)) => .fr []
  | .own (.sl _ xs) => .nd i [] xs
  | .own (.one (.slice none 0 0)) => .fr []
  | .al r p => match s r with
    | .own d => match D.sub p d with
      | some (.sl _ xs) => .nd r p xs
      | some (.one (.slice none 0 0)) => .fr []
      | _ => .no
    | _ => .no
  | _ => .no
theorem R_nil {P : Program} {w : World} {ow : Own} {l : List Nat} : R P w ow (.sl none []) l [.slice none 0 0] := by
  simp only [R]
  exact ⟨none, 0, rfl, Nat.le_refl _, by simp [maxLen], .inr (.inl ⟨trivial, trivial⟩)⟩
def SlSays (P : Program) (w : World) (ow : Own) (s : St) (a : Act) (v : Value) : SLv → Prop
  | .fr xs => R P w ow (.sl none (D.fzs xs)) [] [v]
  | .nd r p xs => ∃ d o, s r = .own d ∧ D.sub p d = some (.sl o xs) ∧ R P w ow (.sl o xs) (p.reverse ++ [r]) [v] ∧ ((p = [] ∧ v = aval a r) ∨ ∃ b off, loc w p d (aval a r) = some (b, off) ∧ w.cell? ⟨b, off, none⟩ = some v)
  | .no => True
theorem Fits.asSl {P : Program} {n : Nat} {w0 w : World} {ow0 ow : Own} {s : St} {a : Act} (h : Fits P n w0 ow0 ow s a w) (x : Operand) : SlSays P w ow s a (a.eval x) (Dv.asSl s (slotOf x) (evS s x)) := by
  have hv := h.eval x
  unfold Dv.asSl
  split
  · rename_i o xs hx
    rw [hx] at hv
    simpa only [SlSays, SV, V, D.fz] using hv
  · rename_i hx
    rw [hx] at hv
    simp only [SV, V, D.fz, R] at hv
    have : a.eval x = .slice none 0 0 := by simpa using hv.1
    rw [this]; exact R_nil
  · rename_i o xs hx
    have hs := slotOf_own hx (.inl rfl)
    have he := slotOf_val h.size h.small hx (.inl rfl)
    have hV := h.slot (slotOf x)
    rw [hs] at hV
    simp only [SV, V] at hV
    exact ⟨_, o, hs, rfl, by rw [he]; simpa using hV, .inl ⟨rfl, he⟩⟩
  · rename_i hx
    rw [hx] at hv
    simp only [SV, V, R] at hv
    have : a.eval x = .slice none 0 0 := by simpa using hv.1
    rw [this]; exact R_nil
  · rename_i r p hx
    rw [hx] at hv
    obtain ⟨d, m, hs, hm, hw, h4⟩ := hv
    simp only [hs]
    have hV := h.slot r
    rw [hs] at hV
    have hcell : R P w ow m (p.reverse ++ [r]) [a.eval x] := by
      rcases h4 with ⟨rfl, h4⟩ | ⟨b, off, hl, hc⟩
      · simp only [D.sub, Option.some.injEq] at hm
        subst hm
        rw [h4]
        cases d with
        | agg xs => exact absurd hw.2.1 (by simp [D.isAgg])
        | one _ => exact hV
        | sl _ _ => exact hV
        | bx _ _ => exact hV
        | any _ => exact hV
      · have hR : R P w ow d [r] [aval a r] := by
          cases p with
          | nil => simp [loc] at hl
          | cons k p => exact V.one hV hl
        obtain ⟨hL, _, _⟩ := hR.at hl hm
        obtain ⟨v', hv', hr⟩ := hL.cell hw.1
        rw [hc] at hv'
        obtain rfl : a.eval x = v' := by simpa using hv'
        exact hr
    split
    · rename_i o xs heq
      rw [hm] at heq
      obtain rfl : m = .sl o xs := by simpa using heq
      exact ⟨d, o, hs, hm, hcell, h4⟩
    · rename_i heq
      rw [hm] at heq
      obtain rfl : m = .one (.slice none 0 0) := by simpa using heq
      simp only [R] at hcell
      have : a.eval x = .slice none 0 0 := by simpa using hcell.1
      rw [this]; exact R_nil
    · trivial
  · trivial
theorem R.elem {P : Program} {w : World} {ow : Own} {o : Option TypeId} {xs : List D} {l : List Nat} {v : Value} {i : Nat} {y : D} (h : R P w ow (.sl o xs) l [v]) (hi : xs[i]? = some y) :
    ∃ b off cap, v = .slice (some ⟨b, off, none⟩) xs.length cap ∧ Dv.into (.sl o xs) i v = some (y, b, off + i * y.w) := by
  simp only [R] at h
  obtain ⟨a, cap, hv, _, _, h4⟩ := h
  obtain rfl : v = .slice a xs.length cap := by simpa using hv
  rcases h4 with ⟨_, h4, _⟩ | ⟨_, h4⟩ | ⟨b, off, s, C, e, fz, rfl, _⟩
  · rw [h4] at hi; simp at hi
  · rw [h4] at hi; simp at hi
  · exact ⟨b, off, cap, rfl, by simp [Dv.into, hi]⟩
theorem R.hdr {P : Program} {w : World} {ow : Own} {o : Option TypeId} {xs : List D} {l : List Nat} {v : Value} (h : R P w ow (.sl o xs) l [v]) : ∃ a cap, v = .slice a xs.length cap ∧ xs.length ≤ cap ∧ cap ≤ maxLen := by
  simp only [R] at h
  obtain ⟨a, cap, hv, h1, h2, _⟩ := h
  exact ⟨a, cap, by simpa using hv, h1, h2⟩
theorem nd_loc {w : World} {a : Act} {r : Nat} {p : List Nat} {d : D} {o : Option TypeId} {xs : List D} {v : Value} {i : Nat} {y : D} {b off : Nat} (hm : D.sub p d = some (.sl o xs))
    (hx : into (.sl o xs) i v = some (y, b, off)) (h4 : (p = [] ∧ v = aval a r) ∨ ∃ b off, loc w p d (aval a r) = some (b, off) ∧ w.cell? ⟨b, off, none⟩ = some v) : loc w (p ++ [i]) d (aval a r) = some (b, off) ∧ D.sub (p ++ [i]) d = some y := by
  have hk := into_kid hx
  refine ⟨?_, by rw [D.sub_append, hm]; simp [D.sub, hk]⟩
  rcases h4 with ⟨rfl, rfl⟩ | ⟨b1, o1, hl, hc⟩
  · simp only [D.sub, Option.some.injEq] at hm
    subst hm
    simp only [List.nil_append, loc, hx, locAt]
  · rw [loc_append hl hm, locAt_ptr_mk (d := .sl o xs) (fun xs e => by cases e) hc hx]
    rfl
theorem R.into_fr {P : Program} {w : World} {ow : Own} {xs : List D} {l : List Nat} {v : Value} {i b off : Nat} {y : D} (h : R P w ow (.sl none xs) l [v]) (hi : Dv.into (.sl none xs) i v = some (y, b, off)) : ow b = none := by
  simp only [R] at h
  obtain ⟨a, cap, hv, _, _, h4⟩ := h
  obtain rfl : v = .slice a xs.length cap := by simpa using hv
  rcases h4 with ⟨rfl, _⟩ | ⟨_, rfl⟩ | ⟨b', off', s, C, e, fz, rfl, hh, hn, hs, hr⟩
  · simp [Dv.into] at hi
  · cases a with
    | none => simp [Dv.into] at hi
    | some a => obtain ⟨ab, ao, as⟩ := a; cases as <;> simp [Dv.into] at hi
  · simp only [Dv.into, Option.map_eq_some_iff, Prod.mk.injEq] at hi
    obtain ⟨_, _, _, rfl, _⟩ := hi
    exact hn trivial
theorem Lies.fz0 {P : Program} {w : World} {ow : Own} {d : D} {l l2 : List Nat} {b off : Nat} (h : Lies P w ow d.fz l b off) : Lies P w ow d.fz l2 b off := by
  obtain ⟨C, e, fz, cs, h1, h2, h3⟩ := h
  exact ⟨C, e, fz, cs, h1, h2, R.trf (fun b _ hb => ⟨rfl, hb⟩) h3⟩
theorem run_size {P : Program} {e : TypeId} {i : TypeInfo} (hi : P.info? e = some i) (w : World) : (sizeOf e).run P w = .ok i.size w := by simp [sizeOf, typeInfo, hi]
def dindex (ew : Nat) (u : Nat) (x : SLv) (i : Nat) (s : St) (K : St → Prop) : Prop :=
  match x with
  | .fr xs => match xs[i]? with
    | some y => y.w = ew ∧ K (s.set u (.rp y))
    | none => False
  | .nd r p xs => match xs[i]? with
    | some y => y.w = ew ∧ u ≠ r ∧ K (s.set u (.rf r (p ++ [i])))
    | none => False
  | .no => False
theorem fzs_get {xs : List D} {i : Nat} {y : D} (h : xs[i]? = some y) : (D.fzs xs)[i]? = some y.fz := by rw [D.fzs_map]; simp [h]
theorem ok_index {P : Program} {T : TypeId → TyE} {n : Nat} {w0 : World} {ow0 : Own} {o : Oper} {s : St} {K : St → Prop} {t e : TypeId} {x y : Operand} {u : Nat} {k : IntKind} {j : Int} (hg : Good P T e) (hge : ∀ x, (T e).ty = x → x ≠ .no) (ht : P.underlying t = some (.slice e)) (ho : o.op = .indexAddr t x y) (hd : o.dst = some u) (hu : u < n)
    (hy : evS s y = .val (.one (.int k j))) (hj : 0 ≤ j) (h : dindex (T e).w u (asSl s (slotOf x) (evS s x)) j.toNat s K) : Ok P n w0 ow0 o s K := by
  refine ok_value fun a w ow hf => ?_
  have hv := hf.asSl x
  have hyv := (hf.one hy).1
  obtain ⟨_, i, zv, hi, hsz, _⟩ := hg.of hge
  have run : ∀ b off cap len, j.toNat < len → a.eval x = .slice (some ⟨b, off, none⟩) len cap → (execOp a.eval o).run P w = .ok (.value (.pointer (some ⟨b, off + j.toNat * (T e).w, none⟩))) w := by
    intro b off cap len hlt hx
    unfold execOp; rw [ho]
    simp only [hyv, hx, Instr.indexAt, asIntOf, Sem.run_bind, Sem.run_pure, Result.andThen_ok, run_underlying ht]
    have h1 : 0 ≤ j ∧ j < (len : Int) := ⟨hj, by omega⟩
    simp only [Sem.run_bind, Sem.run_pure, Result.andThen_ok, if_pos h1, run_size hi, hsz, Addr.add_mid]
  generalize Dv.asSl s (slotOf x) (evS s x) = z at h hv
  cases z with
  | no => exact h.elim
  | fr xs =>
    simp only [dindex] at h
    simp only [SlSays] at hv
    cases hx : xs[j.toNat]? with
    | none => rw [hx] at h; exact h.elim
    | some z =>
      rw [hx] at h
      obtain ⟨hw, hK⟩ := h
      obtain ⟨b, off, cap, h1, h2⟩ := hv.elem (fzs_get hx)
      have hob := hv.into_fr h2
      obtain ⟨_, hL, _, _⟩ := hv.into h2
      have hlt : j.toNat < (D.fzs xs).length := (List.getElem?_eq_some_iff.1 (fzs_get hx)).1
      refine ⟨_, w, run b off cap _ hlt h1, _, hK, ow, ?_⟩
      rw [hd]
      rw [D.fz_w, hw] at hL
      exact hf.set hu ⟨b, _, rfl, hob, hL.fz0⟩
  | nd r p xs =>
    simp only [dindex] at h
    obtain ⟨d, o', hs, hm, hR, h4⟩ := hv
    cases hx : xs[j.toNat]? with
    | none => rw [hx] at h; exact h.elim
    | some z =>
      rw [hx] at h
      obtain ⟨hw, hne, hK⟩ := h
      obtain ⟨b, off, cap, h1, h2⟩ := hR.elem hx
      have hlt : j.toNat < xs.length := (List.getElem?_eq_some_iff.1 hx).1
      obtain ⟨h5, h6⟩ := nd_loc hm h2 h4
      refine ⟨_, w, run b off cap _ hlt h1, _, hK, ow, ?_⟩
      rw [hd]
      refine hf.set hu ⟨d, z, b, _, by rw [free_own (by rw [hs]; rfl) (Ne.symm hne)]; exact hs, h6, h5, by rw [hw]⟩
theorem ok_lenS {P : Program} {n : Nat} {w0 : World} {ow0 : Own} {o : Oper} {s : St} {K : St → Prop} {t e : TypeId} {x : Operand} (ht : P.underlying t = some (.slice e)) (ho : o.op = .call { callee := .builtin .len, args := #[x], argTypes := #[t] }) (hd : dstOk n o = true)
    (h : match asSl s (slotOf x) (evS s x) with | .no => False | z => K (s.setd o.dst (.val (.one (.int .i64 z.xs.length))))) : Ok P n w0 ow0 o s K := by
  refine ok_value fun a w ow hf => ?_
  have hv := hf.asSl x
  have key : ∀ len : Nat, (∃ b cap, a.eval x = .slice b len cap) → K (s.setd o.dst (.val (.one (.int .i64 len)))) → ∃ v w', (execOp a.eval o).run P w = .ok (.value v) w' ∧ ∃ s', K s' ∧ Rel P n w0 ow0 s' (a.put o.dst v) w' := by
    rintro len ⟨b, cap, hx⟩ hK
    refine ⟨.int .i64 len, w, ?_, _, hK, ow, ?_⟩
    · unfold execOp; rw [ho]
      simp [resolve, invoke, builtin, hx, Builtin.len_, run_underlying ht, goInt]
    · cases hod : o.dst with
      | none => exact hf
      | some u => exact hf.set (by simpa [dstOk, hod] using hd) (SV.val_one rfl)
  generalize Dv.asSl s (slotOf x) (evS s x) = z at h hv
  cases z with
  | no => exact h.elim
  | fr xs =>
    obtain ⟨b, cap, h1, _⟩ := hv.hdr
    exact key _ ⟨b, cap, h1⟩ (by rw [D.fzs_map, List.length_map]; exact h)
  | nd r p xs =>
    obtain ⟨d, o', _, _, hR, _⟩ := hv
    obtain ⟨b, cap, h1, _⟩ := hR.hdr
    exact key _ ⟨b, cap, h1⟩ h
theorem ok_lenT {P : Program} {n : Nat} {w0 : World} {ow0 : Own} {o : Oper} {s : St} {K : St → Prop} {t : TypeId} {x : Operand} (ht : P.underlying t = some .string) (ho : o.op = .call { callee := .builtin .len, args := #[x], argTypes := #[t] }) (hd : dstOk n o = true)
    (h : oneK (evS s x) fun v => match v with | .string z => K (s.setd o.dst (.val (.one (.int .i64 z.size)))) | _ => False) : Ok P n w0 ow0 o s K := by
  obtain ⟨v, hx, h⟩ := oneK_of h
  split at h
  · refine ok_pure hd (u := .int .i64 _) rfl (fun a w he => ?_) h
    unfold execOp; rw [ho]
    simp [resolve, invoke, builtin, he _ _ hx, Builtin.len_, run_underlying ht, goInt]
  · exact h.elim
theorem ok_byte {P : Program} {n : Nat} {w0 : World} {ow0 : Own} {o : Oper} {s : St} {K : St → Prop} {t : TypeId} {x y : Operand} {k : IntKind} {j : Int} {z : ByteArray} {c : UInt8} (ht : P.underlying t = some .string) (ho : o.op = .index t x y) (hd : dstOk n o = true)
    (hx : evS s x = .val (.one (.string z))) (hy : evS s y = .val (.one (.int k j))) (hj : 0 ≤ j) (hc : z[j.toNat]? = some c) (h : K (s.setd o.dst (.val (.one (.int .u8 c.toNat))))) : Ok P n w0 ow0 o s K := by
  refine ok_pure hd (u := .int .u8 _) rfl (fun a w he => ?_) h
  unfold execOp; rw [ho]
  simp [he _ _ hx, he _ _ hy, Instr.index, asIntOf, run_underlying ht, hj, hc]
end Go.Dv

end
section
namespace Go.Dv
open Go.RowKit
variable [Glob]
theorem R.into0 {P : Program} {w : World} {ow : Own} {d : D} {l : List Nat} {v : Value} {i b off : Nat} {x : D} (h : R P w ow d l [v]) (hi : Dv.into d i v = some (x, b, off)) (hf : D.free [i] d = true) : ∃ C e fz, w.heap[b]? = some (.cells C e fz) ∧ Unfz fz C.size := by
  cases d with
  | one u => simp [Dv.into] at hi
  | any k => simp [Dv.into] at hi
  | agg xs => simp [Dv.into] at hi
  | sl o xs =>
    simp only [R] at h
    obtain ⟨a, cap, hv, _, _, h4⟩ := h
    obtain rfl : v = .slice a xs.length cap := by simpa using hv
    rcases h4 with ⟨rfl, _⟩ | ⟨rfl, rfl⟩ | ⟨b', off', s, C, e, fz, rfl, hh, hn, hs, hr⟩
    · simp [Dv.into] at hi
    · simp [D.free] at hf
    · simp only [Dv.into, Option.map_eq_some_iff, Prod.mk.injEq] at hi
      obtain ⟨_, _, _, rfl, _⟩ := hi
      cases o with
      | none => simp [D.free] at hf
      | some t => obtain ⟨_, _, hfz, _⟩ := hs t rfl; exact ⟨C, e, fz, hh, hfz⟩
  | bx o y =>
    simp only [R] at h
    obtain ⟨b', off', C, e, fz, cs', hv, hh, hn, hs, hl, hc, hr⟩ := h
    obtain rfl : v = .pointer (some ⟨b', off', none⟩) := by simpa using hv
    simp only [Dv.into] at hi
    split at hi
    · obtain ⟨rfl, rfl, rfl⟩ : y = x ∧ b' = b ∧ off' = off := by simpa using hi
      cases o with
      | false => simp [D.free] at hf
      | true => obtain ⟨_, hfz, _⟩ := hs rfl; exact ⟨C, e, fz, hh, hfz⟩
    · cases hi
theorem Lies.at0 {P : Program} {w : World} {ow : Own} : ∀ (p : List Nat) {d n : D} {l : List Nat} {b off b1 o1 : Nat}, Lies P w ow d l b off → locAt w p d b off = some (b1, o1) → D.sub p d = some n → D.free p d = true →
    b1 = b ∨ ((∃ q, ow b1 = some (q ++ l) ∧ q.length < p.length) ∧ ∃ C e fz, w.heap[b1]? = some (.cells C e fz) ∧ Unfz fz C.size)
  | [], d, n, l, b, off, b1, o1, h, hl, hs, hf => by
    simp only [locAt, Option.some.injEq, Prod.mk.injEq] at hl
    exact .inl hl.1.symm
  | i :: p, d, n, l, b, off, b1, o1, h, hl, hs, hf => by
    by_cases hagg : ∃ xs, d = .agg xs
    · obtain ⟨xs, rfl⟩ := hagg
      simp only [locAt] at hl
      simp only [D.sub, D.kid] at hs
      simp only [D.free, D.kid, Bool.true_and] at hf
      cases hx : xs[i]? with
      | none => rw [hx] at hl; cases hl
      | some x =>
        rw [hx] at hl hs hf
        rcases Lies.at0 p (h.agg_kid hx) hl hs hf with h1 | ⟨⟨q, h1, h2⟩, h3⟩
        · exact .inl h1
        · exact .inr ⟨⟨q ++ [i], by simpa using h1, by simp; exact h2⟩, h3⟩
    · have hd : ∀ xs, d ≠ .agg xs := fun xs e => hagg ⟨xs, e⟩
      obtain ⟨v, x, b', off', hv, hx, hl'⟩ := locAt_ptr hd hl
      obtain ⟨v', hv', hr⟩ := h.cell (into_w hx).1
      rw [hv] at hv'
      obtain rfl : v = v' := by simpa using hv'
      obtain ⟨hkid, hL, _, hfr⟩ := hr.into hx
      simp only [D.sub, hkid] at hs
      obtain ⟨hf1, hf2⟩ := D.free_parts hkid hf
      have hob := hfr hf1
      rcases Lies.at0 p hL hl' hs hf2 with rfl | ⟨⟨q, h1, h2⟩, h3⟩
      · exact .inr ⟨⟨[], by simpa using hob, by simp⟩, hr.into0 hx hf1⟩
      · exact .inr ⟨⟨q ++ [i], by simpa using h1, by simp; exact h2⟩, h3⟩
theorem R.at0 {P : Program} {w : World} {ow : Own} {p : List Nat} {d n : D} {l : List Nat} {v : Value} {b1 o1 : Nat} (h : R P w ow d l [v]) (hl : loc w p d v = some (b1, o1)) (hs : D.sub p d = some n) (hf : D.free p d = true) :
    (∃ q, ow b1 = some (q ++ l) ∧ q.length < p.length) ∧ ∃ C e fz, w.heap[b1]? = some (.cells C e fz) ∧ Unfz fz C.size := by
  cases p with
  | nil => simp [loc] at hl
  | cons i p =>
    simp only [loc] at hl
    cases hx : Dv.into d i v with
    | none => rw [hx] at hl; cases hl
    | some r =>
      obtain ⟨x, b, off⟩ := r
      rw [hx] at hl
      obtain ⟨hk, hL, _, hfr⟩ := h.into hx
      simp only [D.sub, hk] at hs
      obtain ⟨hf1, hf2⟩ := D.free_parts hk hf
      have hob := hfr hf1
      rcases Lies.at0 p hL hl hs hf2 with rfl | ⟨⟨q, h1, h2⟩, h3⟩
      · exact ⟨⟨[], by simpa using hob, by simp⟩, h.into0 hx hf1⟩
      · exact ⟨⟨q ++ [i], by simpa using h1, by simp; exact h2⟩, h3⟩
theorem run_storeCells_u (P : Program) (g o : Nat) (t : TypeId) (fz : Nat × Nat) : ∀ (vs : List Value) (i : Nat) (cur : Array Value) (w : World), w.heap[g]? = some (.cells cur t fz) → Unfz fz cur.size → o + i + vs.length ≤ cur.size → (∀ v ∈ vs, v.oneCell' = true) →
    (storeCells ⟨g, o, none⟩ vs i).run P w = .ok () (w.setRow g (cur.toList.take (o + i) ++ vs ++ cur.toList.drop (o + i + vs.length)).toArray)
  | [], i, cur, w, hg, _, _, _ => by
    simp only [storeCells, List.append_nil, List.length_nil, Nat.add_zero, List.take_append_drop, Array.toArray_toList]
    rw [setRow_self w g cur t fz hg]
    rfl
  | v :: rest, i, cur, w, hg, hu, hl, h1 => by
    have hi : o + i < cur.size := by simp at hl; omega
    have hadd : (⟨g, o, none⟩ : Addr).add i = ⟨g, o + i, none⟩ := by unfold Addr.add; split <;> simp_all
    have hcell : w.cell? ⟨g, o + i, none⟩ = some cur[o + i] := by simp [World.cell?, hg, hi]
    have hfro : w.frozen? ⟨g, o + i, none⟩ = false := by
      have := hu (o + i) hi
      obtain ⟨lo, hi'⟩ := fz
      simp only [World.frozen?, hg]
      simp only [Bool.and_eq_false_iff, decide_eq_false_iff_not]
      simp only at this
      omega
    have hst : (store ((⟨g, o, none⟩ : Addr).add i) v).run P w = .ok () (w.setRow g (cur.setIfInBounds (o + i) v)) := by
      rw [hadd, run_store P w _ v _ (h1 v (by simp)), hcell]
      simp [hfro, setCell_eq_setRow w g (o + i) cur t fz v hg]
    have ih := run_storeCells_u P g o t fz rest (i + 1) (cur.setIfInBounds (o + i) v) (w.setRow g (cur.setIfInBounds (o + i) v)) (setRow_heap w g cur _ t _ hg) (by simpa using hu) (by simp at hl ⊢; omega) (fun x hx => h1 x (by simp [hx]))
    simp only [storeCells, Sem.run_bind, hst, Result.andThen_ok, ih, setRow_setRow]
    congr 3
    have e := list_seg_step cur.toList (o + i) v rest (by simp at hl ⊢; omega)
    simpa [Array.toList_setIfInBounds, Nat.add_assoc] using e
theorem Wr.setRow {w : World} {b o : Nat} {C : Array Value} {e : TypeId} {fz : Nat × Nat} {vs : List Value} (hb : w.heap[b]? = some (.cells C e fz)) (hfit : o + vs.length ≤ C.size) :
    Wr w (w.setRow b (C.toList.take o ++ vs ++ C.toList.drop (o + vs.length)).toArray) b o vs.length ∧
      (w.setRow b (C.toList.take o ++ vs ++ C.toList.drop (o + vs.length)).toArray).heap[b]? = some (.cells (C.toList.take o ++ vs ++ C.toList.drop (o + vs.length)).toArray e fz) ∧
      ∀ j, j < vs.length → (C.toList.take o ++ vs ++ C.toList.drop (o + vs.length)).toArray[o + j]? = vs[j]? := by
  have hnew := setRow_heap w b C (C.toList.take o ++ vs ++ C.toList.drop (o + vs.length)).toArray e fz hb
  refine ⟨⟨fun k hk => ?_, C, _, e, fz, hb, hnew, ?_, fun k hk => ?_⟩, hnew, fun j hj => ?_⟩
  · unfold World.setRow
    simp only [Array.getElem?_modify]
    rw [if_neg (by omega)]
  · simp; omega
  · simp only [List.getElem?_toArray, List.getElem?_append, List.length_append, List.length_take, Array.length_toList, List.getElem?_take, List.getElem?_drop]
    rcases hk with hk | hk
    · have h1 : k < min o C.size + vs.length := by omega
      have h2 : k < min o C.size := by omega
      simp [h1, h2, hk]
    · have h1 : ¬ k < min o C.size + vs.length := by omega
      simp only [if_neg h1]
      rw [show o + vs.length + (k - (min o C.size + vs.length)) = k from by omega]
      simp
  · simp only [List.getElem?_toArray, List.getElem?_append, List.length_append, List.length_take, Array.length_toList]
    have h1 : o + j < min o C.size + vs.length := by omega
    have h2 : ¬ o + j < min o C.size := by omega
    simp only [if_pos h1, if_neg h2]
    rw [show o + j - min o C.size = j from by omega]
theorem V.cells {P : Program} {w : World} {ow : Own} {d : D} {l : List Nat} {v : Value} (h : V P w ow d l v) : R P w ow d l v.cells.toList := by
  cases d with
  | agg xs => obtain ⟨cs, rfl, h2⟩ := h; exact h2
  | one u =>
    simp only [V, R] at h ⊢
    obtain ⟨h1, h2⟩ := h
    obtain rfl : v = u := by simpa using h1
    cases v <;> first | exact ⟨rfl, h2⟩ | cases h2
  | sl o xs =>
    simp only [V, R] at h ⊢
    obtain ⟨a, cap, h1, h2⟩ := h
    obtain rfl : v = .slice a xs.length cap := by simpa using h1
    exact ⟨a, cap, rfl, h2⟩
  | bx o x =>
    simp only [V, R] at h ⊢
    obtain ⟨b, off, C, e, fz, cs', h1, h2⟩ := h
    obtain rfl : v = .pointer (some ⟨b, off, none⟩) := by simpa using h1
    exact ⟨b, off, C, e, fz, cs', rfl, h2⟩
  | any k =>
    simp only [V, R] at h ⊢
    have h1 := h.2 v (by simp)
    cases v <;> first | exact h | cases h1
def St.dropAg (s : St) (r : Nat) : St := fun j => match s j with
  | .ag t p => if t = r then .un else .ag t p
  | x => x
theorem shape_os {w : World} {b : Nat} {C : Array Value} : (w.setRow b C).os = w.os ∧ (w.setRow b C).tape = w.tape ∧ (w.setRow b C).output = w.output ∧ (w.setRow b C).heap.size = w.heap.size := by simp [World.setRow]
theorem kid_bx {o : Bool} {z x : D} {i : Nat} (h : (D.bx o z).kid i = some x) : i = 0 := by
  simp only [D.kid] at h
  split at h
  · assumption
  · cases h
theorem Lies.upd_hdr {P : Program} {w w' : World} {ow : Own} {u u' : Value} : ∀ (p r : List Nat) {d m : D} {l : List Nat} {b off b1 o1 : Nat}, Lies P w ow d l b off → locAt w p d b off = some (b1, o1) → D.sub p d = some (.one u) →
    D.free p d = true → Wr w w' b1 o1 1 → (∀ q, ow b ≠ some (q ++ l)) → ow b ≠ none → D.sub r d = some m →
    (∃ m', D.sub r (D.upd p d (.one u')) = some m' ∧ m'.isHd = m.isHd ∧ m'.isAgg = m.isAgg ∧ m'.w = m.w) ∧ (m.isHd = true → ∀ b2 o2, locAt w r d b off = some (b2, o2) → w'.cell? ⟨b2, o2, none⟩ = w.cell? ⟨b2, o2, none⟩)
  | [], [], d, m, l, b, off, b1, o1, h, hl, hs, hf, hw, hb1, hb2, hr => by
    simp only [D.sub, Option.some.injEq] at hs hr
    subst hs; subst hr
    exact ⟨⟨.one u', rfl, rfl, rfl, rfl⟩, fun h => by cases h⟩
  | [], j :: r, d, m, l, b, off, b1, o1, h, hl, hs, hf, hw, hb1, hb2, hr => by
    simp only [D.sub, Option.some.injEq] at hs
    subst hs
    simp [D.sub, D.kid] at hr
  | i :: p, [], d, m, l, b, off, b1, o1, h, hl, hs, hf, hw, hb1, hb2, hr => by
    simp only [D.sub, Option.some.injEq] at hr
    subst hr
    have hk : ∃ x, d.kid i = some x := by
      simp only [D.sub] at hs
      cases hk : d.kid i with
      | none => rw [hk] at hs; cases hs
      | some x => exact ⟨x, rfl⟩
    obtain ⟨x, hk⟩ := hk
    have hup : D.upd (i :: p) d (.one u') = d.setKid i (D.upd p x (.one u')) := by simp only [D.upd, hk]
    refine ⟨⟨_, rfl, ?_, ?_, D.upd_w _ _ _ _ hs rfl⟩, ?_⟩
    · rw [hup]; cases d <;> rfl
    · rw [hup]; cases d <;> rfl
    · intro hh b2 o2 hl2
      simp only [locAt, Option.some.injEq, Prod.mk.injEq] at hl2
      obtain ⟨rfl, rfl⟩ := hl2
      have hd : ∀ xs, d ≠ .agg xs := by rintro xs rfl; cases hh
      obtain ⟨v, x', b', off', hv, hx, hl'⟩ := locAt_ptr hd hl
      obtain ⟨v', hv', hr⟩ := h.cell (into_w hx).1
      rw [hv] at hv'
      obtain rfl : v = v' := by simpa using hv'
      obtain ⟨hkid, hL, _, hfr⟩ := hr.into hx
      simp only [D.sub, hkid] at hs
      obtain ⟨hf1, hf2⟩ := D.free_parts hkid hf
      have hob := hfr hf1
      obtain ⟨_, _, hat⟩ := Lies.at p hL hl' hs
      refine hw.cell (.inl ?_)
      rintro rfl
      rcases hat hf2 with ⟨rfl, _, _⟩ | ⟨q, hq⟩
      · exact hb1 [] (by simpa using hob)
      · exact hb1 (q ++ [i]) (by simpa using hq)
  | i :: p, j :: r, d, m, l, b, off, b1, o1, h, hl, hs, hf, hw, hb1, hb2, hr => by
    have hki : ∃ x, d.kid i = some x := by
      simp only [D.sub] at hs
      cases hk : d.kid i with
      | none => rw [hk] at hs; cases hs
      | some x => exact ⟨x, rfl⟩
    have hkj : ∃ y, d.kid j = some y := by
      simp only [D.sub] at hr
      cases hk : d.kid j with
      | none => rw [hk] at hr; cases hr
      | some x => exact ⟨x, rfl⟩
    obtain ⟨x, hki⟩ := hki
    obtain ⟨y, hkj⟩ := hkj
    have hs' : D.sub p x = some (.one u) := by simpa only [D.sub, hki] using hs
    have hr' : D.sub r y = some m := by simpa only [D.sub, hkj] using hr
    have hup : D.upd (i :: p) d (.one u') = d.setKid i (D.upd p x (.one u')) := by simp only [D.upd, hki]
    obtain ⟨hf1, hf2⟩ := D.free_parts hki hf
    have hkid' : j ≠ i → (d.setKid i (D.upd p x (.one u'))).kid j = some y := by
      intro hij
      cases d with
      | sl o xs => simp only [D.kid] at hkj; simp only [D.setKid, D.kid]; rw [List.getElem?_set_ne (Ne.symm hij)]; exact hkj
      | agg xs => simp only [D.kid] at hkj; simp only [D.setKid, D.kid]; rw [List.getElem?_set_ne (Ne.symm hij)]; exact hkj
      | bx o z => have := kid_bx hki; have := kid_bx hkj; omega
      | one _ => cases hki
      | any _ => cases hki
    have hkidi : (d.setKid i (D.upd p x (.one u'))).kid i = some (D.upd p x (.one u')) := by
      cases d with
      | sl o xs => simp only [D.kid] at hki; simp only [D.setKid, D.kid]; exact List.getElem?_set_self (List.getElem?_eq_some_iff.1 hki).1
      | agg xs => simp only [D.kid] at hki; simp only [D.setKid, D.kid]; exact List.getElem?_set_self (List.getElem?_eq_some_iff.1 hki).1
      | bx o z => simp only [D.kid] at hki; split at hki
                  · rename_i h0; subst h0; rfl
                  · cases hki
      | one _ => cases hki
      | any _ => cases hki
    have main : ∀ (bx ox by_ oy : Nat), Lies P w ow x (i :: l) bx ox → locAt w p x bx ox = some (b1, o1) → (∀ q, ow bx ≠ some (q ++ (i :: l))) → ow bx ≠ none → Lies P w ow y (j :: l) by_ oy →
        (j = i → by_ = bx ∧ oy = ox) → (j ≠ i → Off ow (j :: l) b1 ∧ (by_ ≠ b1 ∨ o1 + 1 ≤ oy ∨ oy + y.w ≤ o1)) →
        (∃ m', D.sub (j :: r) (D.upd (i :: p) d (.one u')) = some m' ∧ m'.isHd = m.isHd ∧ m'.isAgg = m.isAgg ∧ m'.w = m.w) ∧ (m.isHd = true → ∀ b2 o2, locAt w r y by_ oy = some (b2, o2) → w'.cell? ⟨b2, o2, none⟩ = w.cell? ⟨b2, o2, none⟩) := by
      intro bx ox by_ oy hLx hlx hbx1 hbx2 hLy hsame hdiff
      by_cases hij : j = i
      · subst hij
        rw [hki] at hkj
        obtain rfl : x = y := by simpa using hkj
        obtain ⟨rfl, rfl⟩ := hsame rfl
        obtain ⟨h1, h2⟩ := Lies.upd_hdr (u' := u') p r hLx hlx hs' hf2 hw hbx1 hbx2 hr'
        refine ⟨?_, h2⟩
        rw [hup]
        simpa only [D.sub, hkidi] using h1
      · refine ⟨⟨m, ?_, rfl, rfl, rfl⟩, fun hh b2 o2 hl2 => ?_⟩
        · rw [hup]; simpa only [D.sub, hkid' hij] using hr'
        · obtain ⟨hoff, hdis⟩ := hdiff hij
          obtain ⟨hLm, hpl, _⟩ := Lies.at r hLy hl2 hr'
          refine hw.cell ?_
          rcases hpl with ⟨rfl, h5, h6⟩ | h5 | ⟨q, h5⟩
          · have : m.w = 1 := by cases m <;> first | rfl | cases hh
            omega
          · left; rintro rfl; exact hoff.1 h5
          · left; rintro rfl; exact hoff.2 q h5
    by_cases hagg : ∃ xs, d = .agg xs
    · obtain ⟨xs, rfl⟩ := hagg
      simp only [D.kid] at hki hkj
      simp only [locAt_agg, hki] at hl
      simp only [locAt_agg, hkj]
      have hLx := h.agg_kid hki
      obtain ⟨_, _, hat⟩ := Lies.at p hLx hl hs'
      refine main _ _ _ _ hLx hl (fun q hq => hb1 (q ++ [i]) (by simpa using hq)) hb2 (h.agg_kid hkj) (fun e => by subst e; exact ⟨rfl, rfl⟩) fun hij => ?_
      rcases hat hf2 with ⟨rfl, h5, h6⟩ | ⟨q, hq⟩
      · refine ⟨⟨hb2, fun q hq => hb1 (q ++ [j]) (by simpa using hq)⟩, .inr ?_⟩
        have := ws_apart xs i j x y hki hkj (fun e => hij e.symm)
        simp only [D.w] at h6
        omega
      · refine ⟨⟨by rw [hq]; simp, fun q' hq' => hij (suffix_inj (by rw [hq] at hq'; simpa using hq'.symm))⟩, .inl ?_⟩
        rintro rfl; exact hb1 (q ++ [i]) (by simpa using hq)
    · have hd : ∀ xs, d ≠ .agg xs := fun xs e => hagg ⟨xs, e⟩
      obtain ⟨v, x', b', off', hv, hx, hl'⟩ := locAt_ptr hd hl
      obtain ⟨v', hv', hR⟩ := h.cell (into_w hx).1
      rw [hv] at hv'
      obtain rfl : v = v' := by simpa using hv'
      obtain ⟨hkid, hLx, _, hfr⟩ := hR.into hx
      rw [hki] at hkid
      obtain rfl : x = x' := by simpa using hkid
      have hob := hfr hf1
      obtain ⟨_, _, hat⟩ := Lies.at p hLx hl' hs'
      by_cases hnil : ∃ b2 o2, into d j v = some (y, b2, o2)
      · obtain ⟨b2, o2, hy⟩ := hnil
        rw [locAt_ptr_mk hd hv hy]
        obtain ⟨_, hLy, _, _⟩ := hR.into hy
        refine main _ _ _ _ hLx hl' (fun q hq => by rw [hob] at hq; exact suffix_absurd (by simpa using hq)) (by rw [hob]; simp) hLy (fun e => ?_) fun hij => ?_
        · subst e; rw [hx] at hy; simp at hy; omega
        · -- two kids of one row
          have hsl : ∃ o xs, d = .sl o xs := by
            cases d with
            | agg xs => exact absurd rfl (hd xs)
            | one _ => cases hki
            | any _ => cases hki
            | sl o xs => exact ⟨o, xs, rfl⟩
            | bx o z => have := kid_bx hki; have := kid_bx hkj; omega
          obtain ⟨o, xs, rfl⟩ := hsl
          simp only [D.kid] at hki hkj
          simp only [R] at hR
          obtain ⟨a, cap, hva, _, _, h4⟩ := hR
          obtain rfl : v = .slice a xs.length cap := by simpa using hva
          rcases h4 with ⟨_, h4, _⟩ | ⟨_, h4⟩ | ⟨b3, off3, s, C, e, fz, rfl, hh, _, _, hr0⟩
          · rw [h4] at hki; simp at hki
          · rw [h4] at hki; simp at hki
          · have hall := (Rs.iff hh).1 hr0
            obtain ⟨gx, _⟩ := hall i x hki
            obtain ⟨gy, _⟩ := hall j y hkj
            simp only [Dv.into, hki, hkj, Option.map_some, Option.some.injEq, Prod.mk.injEq] at hx hy
            obtain ⟨_, rfl, rfl⟩ := hx
            obtain ⟨_, rfl, rfl⟩ := hy
            rcases hat hf2 with ⟨rfl, h5, h6⟩ | ⟨q, hq⟩
            · refine ⟨⟨by rw [hob]; simp, fun q' hq' => by rw [hob] at hq'; exact suffix_absurd (by simpa using hq')⟩, .inr ?_⟩
              simp only [D.w] at h6
              rw [gx] at h5 h6
              rw [gy]
              rcases Nat.lt_or_gt_of_ne hij with h7 | h7
              · right
                have : j * s + s ≤ i * s := by rw [← Nat.succ_mul]; exact Nat.mul_le_mul_right _ h7
                omega
              · left
                have : i * s + s ≤ j * s := by rw [← Nat.succ_mul]; exact Nat.mul_le_mul_right _ h7
                omega
            · refine ⟨⟨by rw [hq]; simp, fun q' hq' => hij (suffix_inj (by rw [hq] at hq'; simpa using hq'.symm))⟩, .inl ?_⟩
              intro e
              rw [← e, hob] at hq
              exact suffix_absurd (by simpa using hq)
      · -- no place: only the shape is asked
        refine ⟨?_, fun _ b2 o2 hl2 => ?_⟩
        · by_cases hij : j = i
          · subst hij
            rw [hki] at hkj
            obtain rfl : x = y := by simpa using hkj
            obtain ⟨h1, _⟩ := Lies.upd_hdr (u' := u') p r hLx hl' hs' hf2 hw (fun q hq => by rw [hob] at hq; exact suffix_absurd (by simpa using hq)) (by rw [hob]; simp) hr'
            rw [hup]
            simpa only [D.sub, hkidi] using h1
          · exact ⟨m, by rw [hup]; simpa only [D.sub, hkid' hij] using hr', rfl, rfl, rfl⟩
        · obtain ⟨v2, y2, b3, o3, h1, h2, _⟩ := locAt_ptr hd hl2
          rw [hv] at h1
          obtain rfl : v = v2 := by simpa using h1
          have := into_kid h2
          rw [hkj] at this
          obtain rfl : y = y2 := by simpa using this
          exact absurd ⟨b3, o3, h2⟩ hnil
theorem R.upd_hdr {P : Program} {w w' : World} {ow : Own} {u u' : Value} {p r l : List Nat} {d m : D} {v : Value} {b1 o1 : Nat} (h : R P w ow d l [v]) (hl : loc w p d v = some (b1, o1)) (hs : D.sub p d = some (.one u)) (hf : D.free p d = true) (hw : Wr w w' b1 o1 1)
    (hr : D.sub r d = some m) (hne : r ≠ []) :
    (∃ m', D.sub r (D.upd p d (.one u')) = some m' ∧ m'.isHd = m.isHd ∧ m'.isAgg = m.isAgg ∧ m'.w = m.w) ∧ (m.isHd = true → ∀ b2 o2, loc w r d v = some (b2, o2) → w'.cell? ⟨b2, o2, none⟩ = w.cell? ⟨b2, o2, none⟩) := by
  cases p with
  | nil => simp [loc] at hl
  | cons i p =>
    cases r with
    | nil => exact absurd rfl hne
    | cons j r =>
      simp only [loc] at hl
      cases hx : Dv.into d i v with
      | none => rw [hx] at hl; cases hl
      | some res =>
        obtain ⟨x, b', off'⟩ := res
        rw [hx] at hl
        obtain ⟨hk, hLx, _, hfr⟩ := h.into hx
        obtain ⟨hf1, hf2⟩ := D.free_parts hk hf
        have hob := hfr hf1
        have hs' : D.sub p x = some (.one u) := by simpa only [D.sub, hk] using hs
        have hup : D.upd (i :: p) d (.one u') = d.setKid i (D.upd p x (.one u')) := by simp only [D.upd, hk]
        have hkj : ∃ y, d.kid j = some y := by
          simp only [D.sub] at hr
          cases hk : d.kid j with
          | none => rw [hk] at hr; cases hr
          | some x => exact ⟨x, rfl⟩
        obtain ⟨y, hkj⟩ := hkj
        have hr' : D.sub r y = some m := by simpa only [D.sub, hkj] using hr
        obtain ⟨_, _, hat⟩ := Lies.at p hLx hl hs'
        by_cases hij : j = i
        · subst hij
          rw [hk] at hkj
          obtain rfl : x = y := by simpa using hkj
          obtain ⟨h1, h2⟩ := Lies.upd_hdr (u' := u') p r hLx hl hs' hf2 hw (fun q hq => by rw [hob] at hq; exact suffix_absurd (by simpa using hq)) (by rw [hob]; simp) hr'
          have hkidi : (d.setKid j (D.upd p x (.one u'))).kid j = some (D.upd p x (.one u')) := by
            cases d with
            | sl o xs => simp only [D.kid] at hk; simp only [D.setKid, D.kid]; exact List.getElem?_set_self (List.getElem?_eq_some_iff.1 hk).1
            | agg xs => simp only [D.kid] at hk; simp only [D.setKid, D.kid]; exact List.getElem?_set_self (List.getElem?_eq_some_iff.1 hk).1
            | bx o z => have := kid_bx hk; subst this; rfl
            | one _ => cases hk
            | any _ => cases hk
          refine ⟨by rw [hup]; simpa only [D.sub, hkidi] using h1, fun hh b2 o2 hl2 => ?_⟩
          simp only [loc, hx] at hl2
          exact h2 hh b2 o2 hl2
        · have hkid' : (d.setKid i (D.upd p x (.one u'))).kid j = some y := by
            cases d with
            | sl o xs => simp only [D.kid] at hkj; simp only [D.setKid, D.kid]; rw [List.getElem?_set_ne (Ne.symm hij)]; exact hkj
            | agg xs => simp only [D.kid] at hkj; simp only [D.setKid, D.kid]; rw [List.getElem?_set_ne (Ne.symm hij)]; exact hkj
            | bx o z => have := kid_bx hk; have := kid_bx hkj; omega
            | one _ => cases hk
            | any _ => cases hk
          refine ⟨⟨m, by rw [hup]; simpa only [D.sub, hkid'] using hr', rfl, rfl, rfl⟩, fun hh b2 o2 hl2 => ?_⟩
          simp only [loc] at hl2
          cases hy : Dv.into d j v with
          | none => rw [hy] at hl2; cases hl2
          | some res2 =>
            obtain ⟨y2, b3, o3⟩ := res2
            rw [hy] at hl2
            obtain ⟨hk2, hLy, hoy, _⟩ := h.into hy
            rw [hkj] at hk2
            obtain rfl : y = y2 := by simpa using hk2
            obtain ⟨hLm, hpl, _⟩ := Lies.at r hLy hl2 hr'
            have hmw : m.w = 1 := by cases m <;> first | rfl | cases hh
            refine hw.cell ?_
            have hsl : ∃ o xs, d = .sl o xs := by
              cases d with
              | agg xs => simp [Dv.into] at hx
              | one _ => cases hk
              | any _ => cases hk
              | sl o xs => exact ⟨o, xs, rfl⟩
              | bx o z => have := kid_bx hk; have := kid_bx hkj; omega
            obtain ⟨o, xs, rfl⟩ := hsl
            simp only [D.kid] at hk hkj
            simp only [R] at h
            obtain ⟨a, cap, hva, _, _, h4⟩ := h
            obtain rfl : v = .slice a xs.length cap := by simpa using hva
            rcases h4 with ⟨_, h4, _⟩ | ⟨_, h4⟩ | ⟨b4, off4, s, C, e, fz, rfl, hh2, _, _, hr0⟩
            · rw [h4] at hk; simp at hk
            · rw [h4] at hk; simp at hk
            · have hall := (Rs.iff hh2).1 hr0
              obtain ⟨gx, _⟩ := hall i x hk
              obtain ⟨gy, _⟩ := hall j y hkj
              simp only [Dv.into, hk, hkj, Option.map_some, Option.some.injEq, Prod.mk.injEq] at hx hy
              obtain ⟨_, rfl, rfl⟩ := hx
              obtain ⟨_, rfl, rfl⟩ := hy
              rcases hat hf2 with ⟨rfl, h5, h6⟩ | ⟨q, hq⟩
              · rcases hpl with ⟨_, h7, h8⟩ | h7 | ⟨q, h7⟩
                · right
                  simp only [D.w] at h6
                  rw [gx] at h5 h6
                  rw [gy] at h7 h8
                  rcases Nat.lt_or_gt_of_ne hij with h9 | h9
                  · left
                    have : j * s + s ≤ i * s := by rw [← Nat.succ_mul]; exact Nat.mul_le_mul_right _ h9
                    omega
                  · right
                    have : i * s + s ≤ j * s := by rw [← Nat.succ_mul]; exact Nat.mul_le_mul_right _ h9
                    omega
                · left; rintro rfl; rw [hob] at h7; cases h7
                · left; rintro rfl; rw [hob] at h7; exact suffix_absurd (by simpa using h7)
              · rcases hpl with ⟨rfl, h7, h8⟩ | h7 | ⟨q2, h7⟩
                · left; intro e; rw [← e, hob] at hq; exact suffix_absurd (by simpa using hq)
                · left; rintro rfl; rw [h7] at hq; cases hq
                · left; rintro rfl; rw [h7] at hq; exact hij (suffix_inj (by simpa using hq))
theorem Fits.store {P : Program} {n : Nat} {w0 w : World} {ow0 ow : Own} {s : St} {a : Act} {r : Nat} {p : List Nat} {d m n' : D} {v : Value} {b1 o1 : Nat} (h : Fits P n w0 ow0 ow s a w) (hs : s r = .own d) (hl : loc w p d (aval a r) = some (b1, o1)) (hm : D.sub p d = some m)
    (hf : D.free p d = true) (hn : V P w ow n' (p.reverse ++ [r]) v) (hw : n'.w = m.w) (hpos : 0 < m.w) :
    ∃ w', (storeCells ⟨b1, o1, none⟩ v.cells.toList).run P w = .ok () w' ∧ Fits P n w0 ow0 ow ((s.kill r).put r (.own (D.upd p d n'))) a w' ∧
      (∀ u u', m = .one u → n' = .one u' → Fits P n w0 ow0 ow ((s.dropAg r).put r (.own (D.upd p d n'))) a w') := by
  have hV := h.slot r
  rw [hs] at hV
  have hR : R P w ow d [r] [aval a r] := by
    cases p with
    | nil => simp [loc] at hl
    | cons k p => exact V.one hV hl
  obtain ⟨⟨q, hq, hql⟩, C, e, fz, hC, hfz⟩ := hR.at0 hl hm hf
  obtain ⟨hL, _, _⟩ := hR.at hl hm
  have hcs := hn.cells
  have hlen := hcs.len
  have hfit : o1 + v.cells.toList.length ≤ C.size ∨ m.w = 0 := by
    obtain ⟨C', e', fz', cs, g1, g2, g3⟩ := hL
    rw [hC] at g1
    obtain ⟨rfl, _⟩ : C = C' ∧ _ := by simpa using g1
    rcases cell_lt hC g2 g3.len with h0 | h0
    · exact .inr h0
    · left; rw [hlen, hw]; exact h0
  · have hfit' : o1 + v.cells.toList.length ≤ C.size := hfit.resolve_right (by omega)
    obtain ⟨hwr, hnew, hcells⟩ := Wr.setRow (w := w) hC hfit'
    have hrun := run_storeCells_u P b1 o1 e fz v.cells.toList 0 C w hC hfz (by simpa using hfit') (R.cells1 hcs)
    simp only [Nat.add_zero] at hrun
    generalize hw' : w.setRow b1 (C.toList.take o1 ++ v.cells.toList ++ C.toList.drop (o1 + v.cells.toList.length)).toArray = w' at hrun hwr hnew
    have hos : w'.os = w.os ∧ w'.tape = w.tape ∧ w'.output = w.output ∧ w'.heap.size = w.heap.size := by rw [← hw']; exact shape_os
    have hb1 : ow b1 ≠ none := by rw [hq]; simp
    have hquiet : Quiet w ow w' ow := fun b _ hb => ⟨hwr.other b (fun e => hb1 (e ▸ hb)), hb⟩
    have hother : ∀ j, j ≠ r → ∀ b, b < w.heap.size → ∀ q', ow b = some (q' ++ [j]) → w'.heap[b]? = w.heap[b]? ∧ ow b = some (q' ++ [j]) := by
      intro j hj b _ q' hq'
      refine ⟨hwr.other b ?_, hq'⟩
      rintro rfl
      rw [hq] at hq'
      have := congrArg List.getLast? (Option.some.inj hq')
      simp at this
      exact hj this.symm
    have hkeep : Keeps w ow (p.reverse ++ [r]) w' ow (p.reverse ++ [r]) := by
      intro b hb
      refine ⟨fun h0 => hquiet b hb h0, fun q' hq' => ⟨hwr.other b ?_, hq'⟩⟩
      rintro rfl
      rw [hq] at hq'
      have := congrArg List.length (Option.some.inj hq')
      simp at this
      omega
    have hn' : Lies P w' ow n' (p.reverse ++ [r]) b1 o1 := by
      refine ⟨_, e, fz, v.cells.toList, hnew, fun j hj => hcells j (by rw [hlen]; exact hj), hcs.tr hkeep⟩
    have hwr' : Wr w w' b1 o1 m.w := by rw [← hw, ← hlen]; exact hwr
    have hup := hR.upd hl hm hf hwr' hw hn'
    have hroot : ∀ (d' : D), D.upd p d n' = d' → V P w' ow d' [r] (aval a r) := by
      rintro d' rfl
      cases p with
      | nil => simp [loc] at hl
      | cons k p =>
        have hda : ∀ xs, d ≠ .agg xs := by rintro xs rfl; simp [loc, Dv.into] at hl
        have := upd_ne_agg (i := k) (p := p) (n := n') hda
        cases hd : D.upd (k :: p) d n' with
        | agg ys => exact absurd hd (this ys)
        | one _ => rw [hd] at hup; exact hup
        | sl _ _ => rw [hd] at hup; exact hup
        | bx _ _ => rw [hd] at hup; exact hup
        | any _ => rw [hd] at hup; exact hup
    refine ⟨w', hrun, ?_, ?_⟩
    · refine h.change h.nodef h.size hos.1 hos.2.1 hos.2.2.1 (by rw [hos.2.2.2]; exact Nat.le_refl _) hquiet (fun b hb => h.new b (by rw [hos.2.2.2] at hb; exact hb)) (fun j => j = r) hother ?_ ?_ (fun e => by have h9 := h.far; rw [show far0 = r from e, hs] at h9; cases h9)
      · intro i hi
        refine ⟨rfl, ?_⟩
        have hp : ((s.kill r).put r (.own (D.upd p d n'))) i = (s.kill r) i := by simp [St.put, show i ≠ r from hi]
        rw [hp]
        rcases kill_at s r i with h1 | ⟨h1, _, h2⟩
        · exact .inl h1
        · right
          refine ⟨h1, fun j hj => ?_⟩
          have hjr : j ≠ r := by rintro rfl; exact h2 hj
          exact ⟨hjr, by simp [St.put, hjr, kill_own ((h.slot i).root hj) hjr]⟩
      · rintro i rfl
        simp only [St.put, if_true, SV]
        exact hroot _ rfl
    · rintro u u' rfl rfl
      have hwr1 : Wr w w' b1 o1 1 := hwr'
      refine h.change h.nodef h.size hos.1 hos.2.1 hos.2.2.1 (by rw [hos.2.2.2]; exact Nat.le_refl _) hquiet (fun b hb => h.new b (by rw [hos.2.2.2] at hb; exact hb)) (fun j => j = r ∨ (s j).root = some r) (fun j hj => hother j (fun e => hj (.inl e))) ?_ ?_ (fun e => e.elim (fun e => by have h9 := h.far; rw [show far0 = r from e, hs] at h9; cases h9) (fun e => by rw [h.far] at e; cases e))
      · intro i hi
        have hir : i ≠ r := fun e => hi (.inl e)
        have hiroot : (s i).root ≠ some r := fun e => hi (.inr e)
        have hsame : ∀ j, j ≠ r → (s j).root ≠ some r → ((s.dropAg r).put r (.own (D.upd p d (.one u')))) j = s j := by
          intro j hj hjr
          simp only [St.put, if_neg hj, St.dropAg]
          cases hsj : s j with
          | ag t2 p2 =>
            rw [hsj] at hjr
            have : t2 ≠ r := fun e => hjr (by simp [S.root, e])
            simp [this]
          | _ => rfl
        refine ⟨rfl, .inr ⟨hsame i hir hiroot, fun j hj => ?_⟩⟩
        have hjr : j ≠ r := fun e => hiroot (e ▸ hj)
        have ho := (h.slot i).root hj
        exact ⟨fun e => e.elim hjr (fun e => by rw [own_root ho] at e; cases e), hsame j hjr (by rw [own_root ho]; simp)⟩
      · intro i hi
        by_cases hir : i = r
        · subst hir
          simp only [St.put, if_true, SV]
          exact hroot _ rfl
        · have hiroot : (s i).root = some r := hi.resolve_left hir
          have hsi := h.slot i
          simp only [St.put, if_neg hir, St.dropAg]
          have hd' : ((s.dropAg r).put r (.own (D.upd p d (.one u')))) r = .own (D.upd p d (.one u')) := by simp [St.put]
          cases hx : s i with
          | al r2 p2 =>
            rw [hx] at hsi hiroot
            obtain rfl : r2 = r := by simpa [S.root] using hiroot
            obtain ⟨d2, m2, g1, g2, ⟨g3, g4, g5⟩, g6⟩ := hsi
            rw [hs] at g1
            obtain rfl : d = d2 := by simpa using g1
            by_cases hp2 : p2 = []
            · subst hp2
              refine ⟨_, D.upd p d (.one u'), hd', rfl, ⟨?_, ?_, .inl rfl⟩, .inl ⟨rfl, ?_⟩⟩
              · rw [D.upd_w p d (.one u') (.one u) hm rfl]
                simp only [D.sub, Option.some.injEq] at g2; rw [g2]; exact g3
              · cases p with
                | nil => simp [loc] at hl
                | cons k p =>
                  have hda : ∀ xs, d ≠ .agg xs := by rintro xs rfl; simp [loc, Dv.into] at hl
                  have := upd_ne_agg (i := k) (p := p) (n := .one u') hda
                  cases hd : D.upd (k :: p) d (.one u') with
                  | agg ys => exact absurd hd (this ys)
                  | _ => rfl
              · rcases g6 with ⟨_, g6⟩ | ⟨b, off, g6, _⟩
                · exact g6
                · simp [loc] at g6
            · obtain ⟨⟨m3, k1, k2, k3, k4⟩, k5⟩ := hR.upd_hdr (u' := u') hl hm hf hwr1 g2 hp2
              have hhd : m2.isHd = true := g5.resolve_left hp2
              rcases g6 with ⟨g6, _⟩ | ⟨b, off, g6, g7⟩
              · exact absurd g6 hp2
              · refine ⟨_, m3, hd', k1, ⟨by rw [k4]; exact g3, by rw [k3]; exact g4, .inr (by rw [k2]; exact hhd)⟩, .inr ⟨b, off, ?_, ?_⟩⟩
                · rw [hR.upd_loc hl hm hf hwr1]; exact g6
                · rw [k5 hhd b off g6]; exact g7
          | rf r2 p2 =>
            rw [hx] at hsi hiroot
            obtain rfl : r2 = r := by simpa [S.root] using hiroot
            obtain ⟨d2, m2, b, off, g1, g2, g3, g4⟩ := hsi
            rw [hs] at g1
            obtain rfl : d = d2 := by simpa using g1
            have hp2 : p2 ≠ [] := by rintro rfl; simp [loc] at g3
            obtain ⟨⟨m3, k1, _⟩, _⟩ := hR.upd_hdr (u' := u') hl hm hf hwr1 g2 hp2
            exact ⟨_, m3, b, off, hd', k1, by rw [hR.upd_loc hl hm hf hwr1]; exact g3, g4⟩
          | ag r2 p2 =>
            rw [hx] at hiroot
            obtain rfl : r2 = r := by simpa [S.root] using hiroot
            simp [SV]
          | un => rw [hx] at hiroot; cases hiroot
          | val _ => rw [hx] at hiroot; cases hiroot
          | rp _ => rw [hx] at hiroot; cases hiroot
          | own _ => rw [hx] at hiroot; cases hiroot
          | tup _ => rw [hx] at hiroot; cases hiroot
end Go.Dv

end
