/- An argument that is a slice of bytes. -/
import Derived.Test.YtgehpbikkcnecaaMetrics
set_option linter.unusedVariables false
set_option linter.unusedSimpArgs false
namespace Go.Proofs.Ytgehpbikkcnecaa
open Go.ChangeShapes Go.WideShapes Go.ChangeAt Go.RowKit Go.Er
theorem open_bytes_arg {H : Type} {enc : TypeId × Value → H} {P : Program} {W : World} {t e : TypeId} {base : Nat} {v : Value} {d : DataW H} {p : List MemPlace}
    (ht : P.underlying t = some (.slice e)) (he : P.underlying e = some (.int .u8)) (hc : P.cellsOf e = 1) (hv : Value.okWide P W .any base t v)
    (h : DataW.Trod enc P W 0 (fun _ => true) true t v d p) : ∃ (a : Option Addr) (len : Nat) (cap : Nat), v = .slice a len cap ∧ BytesAt W a len := by
  obtain ⟨a, len, cap, rfl⟩ := okWide_slice ht hv
  obtain ⟨fuel, hf⟩ := h
  rcases open_ints ht he hc hf with ⟨hcs, _⟩ | ⟨x, l, c, zs, hcs, _, hl, hm, hz, _, hcell, hwz⟩
  · simp [Value.cells] at hcs
    obtain ⟨rfl, rfl, rfl⟩ := hcs
    exact ⟨none, 0, 0, rfl, fun i hi => by simp at hi⟩
  · simp [Value.cells] at hcs
    obtain ⟨rfl, rfl, rfl⟩ := hcs
    have hz' : zs.length = cap := by simpa using hz
    refine ⟨some x, len, cap, rfl, ?_⟩
    intro i hi
    have hi2 : i < zs.length := by omega
    have h1 := hcell i hi2
    have h0 := hcell 0 (by omega)
    have hs : x.spot = none := by simpa [Addr.add] using World.cell?_spot h0
    obtain ⟨b, o, sp⟩ := x
    simp only at hs
    subst hs
    have hw := bounds_u8 (hwz zs[i] (List.getElem_mem hi2))
    refine ⟨b, o, zs[i], rfl, ?_, hw.1, hw.2⟩
    rw [Addr.add_lit] at h1
    rw [h1]
    simp [List.getD, hi2]
end Go.Proofs.Ytgehpbikkcnecaa
