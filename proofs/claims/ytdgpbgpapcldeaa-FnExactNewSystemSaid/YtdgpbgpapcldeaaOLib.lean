/- Arguments with depth: what the form hands over of them. -/
import Derived.Test.YtdgpbgpapcldeaaDLib
import Derived.Lib.SmallJoins
set_option linter.unusedVariables false
set_option linter.unusedSimpArgs false
namespace Go.Er
open Go.RowKit Go.ChangeShapes Go.WideShapes Go.ChangeAt

theorem trod_field {H : Type} {enc : TypeId × Value → H} {P : Program} {W : World} {t : TypeId} {fs : Array Field} {fuel : Nat} {cs : List Value} {x : DataW H × List MemPlace}
    (ht : P.underlying t = some (.struct fs)) (h : DataW.trod enc P W 0 (fun _ => true) true fuel t cs = some x) (i : Nat) (f : Field) (hf : fs[i]? = some f) (o k : Nat) (ho : f.offset = o) (hk : P.cellsOf f.type = k) :
    ∃ n y, DataW.trod enc P W 0 (fun _ => true) true n f.type ((cs.drop o).take k) = some y := by
  obtain ⟨xs, n, _, _, _, hlen, hfs⟩ := DataW.trod_struct ht h
  have h1 := hfs i f hf
  have h2 : i < xs.length := by rw [hlen]; exact (Array.getElem?_eq_some_iff.1 hf).1
  rw [ho, hk] at h1
  exact ⟨n, xs[i], by rw [h1]; simp [h2]⟩
theorem trod_len {H : Type} {enc : TypeId × Value → H} {P : Program} {W : World} {t : TypeId} {fs : Array Field} {fuel : Nat} {cs : List Value} {x : DataW H × List MemPlace}
    (ht : P.underlying t = some (.struct fs)) (h : DataW.trod enc P W 0 (fun _ => true) true fuel t cs = some x) : cs.length = P.cellsOf t := by
  obtain ⟨xs, n, _, _, hl, _, _⟩ := DataW.trod_struct ht h
  exact hl

theorem open_row {H : Type} {enc : TypeId × Value → H} {P : Program} {W : World} {t e : TypeId} {α : Type} {k : Nat} {R : Rel α} (ht : P.underlying t = some (.slice e)) (hk : P.cellsOf e = k) (hk0 : 0 < k)
    (hR : ∀ fuel vs x, DataW.trod enc P W 0 (fun _ => true) true fuel e vs = some x → ∃ y, R 0 W vs y) {fuel : Nat} {cs : List Value} {x : DataW H × List MemPlace}
    (h : DataW.trod enc P W 0 (fun _ => true) true fuel t cs = some x) : ∃ a l cap, cs = [.slice a l.length cap] ∧ RowR k R 0 W a l := by
  rcases DataW.trod_slice ht h with ⟨h0, _⟩ | ⟨a, len, cap, elems, rest, n, _, rfl, _, _, hl, hm, hlen, hel, _, _⟩
  · exact ⟨none, [], 0, h0, by unfold maxLen; simp, fun i hi => by simp at hi⟩
  · have each : ∀ i : Fin len, ∃ y : α, ∃ vs : List Value, vs.length = k ∧ (∀ j, (hj : j < vs.length) → W.cell? ((a.add (i.1 * k)).add j) = some vs[j]) ∧ R 0 W vs y := by
      intro i
      have h1 := hel i.1 i.2
      have h2 : i.1 < elems.length := by rw [hlen]; exact i.2
      rw [hk, List.getElem?_eq_getElem h2] at h1
      obtain ⟨vs, hvs, htr⟩ := Option.bind_eq_some_iff.1 h1
      obtain ⟨y, hy⟩ := hR _ _ _ htr
      have hc : (List.range k).mapM (fun j => W.cell? ((a.add (i.1 * k)).add j)) = some vs := by
        unfold World.cells? at hvs
        rw [if_pos (Nat.zero_le _)] at hvs
        exact hvs
      have hvl : vs.length = k := by rw [mapM_some_length hc, List.length_range]
      refine ⟨y, vs, hvl, fun j hj => ?_, hy⟩
      have h3 := mapM_some_get hc j j (by rw [List.getElem?_range (by omega)])
      rw [h3]
      simp [hj]
    obtain ⟨f, hf⟩ := Classical.axiomOfChoice each
    refine ⟨some a, List.ofFn f, cap, by simp, by simp; omega, fun i hi => ?_⟩
    have hi2 : i < len := by simpa using hi
    obtain ⟨vs, h1, h2, h3⟩ := hf ⟨i, hi2⟩
    have hs : a.spot = none := by
      obtain ⟨vs0, g1, g2, _⟩ := hf ⟨0, by omega⟩
      have h5 := World.cell?_spot (g2 0 (by omega))
      simpa [Addr.add] using h5
    obtain ⟨b, o, sp⟩ := a
    simp only at hs
    subst hs
    refine ⟨b, o, vs, rfl, Nat.zero_le _, h1, fun j hj => ?_, by simpa using h3⟩
    have h6 := h2 j hj
    rw [Addr.add_lit, Addr.add_lit] at h6
    exact h6
theorem open_row_arg {H : Type} {enc : TypeId × Value → H} {P : Program} {W : World} {t e : TypeId} {base : Nat} {v : Value} {d : DataW H} {p : List MemPlace} {α : Type} {k : Nat} {R : Rel α} (ht : P.underlying t = some (.slice e)) (hk : P.cellsOf e = k) (hk0 : 0 < k)
    (hR : ∀ fuel vs x, DataW.trod enc P W 0 (fun _ => true) true fuel e vs = some x → ∃ y, R 0 W vs y) (hv : Value.okWide P W .any base t v)
    (h : DataW.Trod enc P W 0 (fun _ => true) true t v d p) : ∃ (a : Option Addr) (l : List α) (cap : Nat), v = .slice a l.length cap ∧ RowR k R 0 W a l := by
  obtain ⟨a, len, cap, rfl⟩ := okWide_slice ht hv
  obtain ⟨fuel, hf⟩ := h
  obtain ⟨a', l, cap', h1, h2⟩ := open_row ht hk hk0 hR hf
  simp [Value.cells] at h1
  obtain ⟨rfl, rfl, rfl⟩ := h1
  exact ⟨a, l, cap, rfl, h2⟩
theorem open_struct_arg {H : Type} {enc : TypeId × Value → H} {P : Program} {W : World} {t : TypeId} {base : Nat} {v : Value} {d : DataW H} {p : List MemPlace} {α : Type} {R : Rel α} {fs : Array Field} (ht : P.underlying t = some (.struct fs))
    (hR : ∀ fuel vs x, DataW.trod enc P W 0 (fun _ => true) true fuel t vs = some x → ∃ y, R 0 W vs y) (hv : Value.okWide P W .any base t v)
    (h : DataW.Trod enc P W 0 (fun _ => true) true t v d p) : ∃ (vs : List Value) (x : α), v = .agg vs.toArray ∧ R 0 W vs x := by
  obtain ⟨cs, rfl, hsz⟩ := okWide_struct ht hv
  obtain ⟨fuel, hf⟩ := h
  obtain ⟨y, hy⟩ := hR _ _ _ hf
  exact ⟨cs.toList, y, by simp, hy⟩
end Go.Er
