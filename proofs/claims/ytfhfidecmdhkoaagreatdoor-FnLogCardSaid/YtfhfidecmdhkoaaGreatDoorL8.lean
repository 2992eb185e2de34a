/- General lemmas (data by value) and the walks on which the law's proof leans, part 8. No condition. -/
import Derived.Test.YtfhfidecmdhkoaaGreatDoorCards
import Derived.Test.YtfhfidecmdhkoaaGreatDoorTie
import Derived.Test.YtfhfidecmdhkoaaGreatDoorL1
import Derived.Test.YtfhfidecmdhkoaaGreatDoorL7
import Derived.LaidLaws
import Derived.Lib.LaidTab
import Derived.Stop.LaidErr
import Derived.Handed
import Derived.Test.YtfhfidecmdhkoaaGreatDoorL4
import Derived.ChangeArms
import Derived.ChangeShapes
import Derived.Test.YtfhfidecmdhkoaaGreatDoorL5
set_option linter.unusedVariables false
set_option linter.unusedSimpArgs false
set_option linter.unusedSectionVars false
section
set_option maxRecDepth 10000
namespace Go.Er
open Go.ChangeShapes Go.WideShapes Go.ChangeAt Go.RowKit
section
variable {H : Type} {enc : TypeId × Value → H}
theorem law_lifted_open {C : Checked} {f : FuncId} {fn : Func} {s : ChangeSpec} {os : Os} {L : List (String × DataW Unit)} (started : os.Started)
  (own : ownKnob C.prog.godebug = none) (laidOut : laidOutB C.prog = true) (noInit : C.prog.inits.idxOf? f = none) (hfn : C.prog.funcs[f]? = some fn)
  (hvars : s.vars = []) (hspec : ∀ ds : List (DataW H), ds.length = fn.params.size → s.fn H ds = { results := [.lit (.bool true)], args := ds })
  {tb : TypeId} (hres : fn.resultTypes = #[tb]) (hb : C.prog.underlying tb = some .bool)
  (hread : ∀ t ∈ fn.params.toList, C.prog.readableRec t = true ∧ t < C.prog.types.size)
  (witness : ∃ (w : World) (tape : Tape) (i : Input), w.os = os ∧ (w.forCall tape i).Shaped C.prog ∧ i.vars = [] ∧ Input.okWide C.prog (w.forCall tape i) .any w.heap.size f i ∧
   ((s.pre enc C.prog fn [] false (w.forCall tape i).memory i.args ∧ laidMet C.prog L (w.forCall tape i).memory) ∧ sizedMet enc C.prog fn (OpenSpec.ofChange s) false (w.forCall tape i).memory i.args) ∧ ({} : Assume).holds C.prog (lone (Frame.enter C.prog f i.args .normal) [] (w.forCall tape i)))
  (walk : ∀ (W : World) (base : Nat) (args : Array Value) (ds : List (DataW H)) (p : List MemPlace), W.ShapedOpen C.prog →
   (∀ (j : Nat) t v, fn.params[j]? = some t → args[j]? = some v → Value.okWide C.prog W .any base t v) →
   DataW.TrodAll enc C.prog W 0 (fun _ => true) true fn.params.toList args.toList ds p → laidMet C.prog L W →
   Calls C.prog f args W fun e W' => e = .returned (.bool true) ∧ Below W.heap.size W W') :
  ReturnsInHanded {} C os f .any (fun w args => (s.pre enc C.prog fn [] false w args ∧ laidMet C.prog L w) ∧ sizedMet enc C.prog fn (OpenSpec.ofChange s) false w args) (s.post enc C.prog fn false true false false) := by
 refine returnsInHanded_of_calls own started noInit witness ?_
 intro w tape i _ hsh _ hok hpre hholds
 obtain ⟨_, _, _, fn', hfn', _, _, _, _, hval⟩ := hok
 obtain rfl : fn' = fn := Option.some.inj (hfn'.symm.trans hfn)
 obtain ⟨⟨⟨ds, gs, before, hw, hc⟩, hx⟩, hz⟩ := hpre
 have hW := DataW.Whole.of_heap (w' := w.forCall tape i) (by rfl) hw
 have hL : laidMet C.prog L (w.forCall tape i) := hx.of_heap (by rfl)
 have hW' := hW
 obtain ⟨p, q, hA, hV, rfl, _, _⟩ := hW
 rw [hvars] at hV
 obtain ⟨rfl, rfl⟩ := trodVars_none hV
 have hlen := (trodAll_length hA).2
 refine (walk (w.forCall tape i) w.heap.size i.args ds p hsh hval hA hL).mono fun e W' ⟨he, bel⟩ => ?_
 subst he
 refine ChangeSpec.post_blind (v := .bool true) ?_
 refine ⟨ds, [], p ++ [], [], p, [], hW', ?_, ?_, ?_, bel.frame _, fun h => by cases h⟩
 ·rw [hspec (ds ++ []) (by simpa using hlen), hres]
  exact trodAll_mk1 (shut_bool hb _)
 ·rw [hspec (ds ++ []) (by simpa using hlen)]
  simpa using trodAll_below laidOut bel hread hA
 ·rw [hspec (ds ++ []) (by simpa using hlen), hvars]
  rfl
end
end Go.Er
namespace Go.Proofs.YtfhfidecmdhkoaaGreatDoor
open Go.Dv Go.Pl
open Go.ChangeShapes Go.WideShapes Go.ChangeAt Go.RowKit Go.Er
abbrev tables : List (String × DataW Unit) := [("math/bits.deBruijn32tab", Rows.laid_math_bits_deBruijn32tab), ("math/bits.deBruijn64tab", Rows.laid_math_bits_deBruijn64tab), ("internal/strconv.uint64pow10", Rows.laid_internal_strconv_uint64pow10), ("unicode/utf8.acceptRanges", Rows.laid_unicode_utf8_acceptRanges), ("strconv.ErrRange", Rows.laid_strconv_ErrRange), ("strconv.ErrSyntax", Rows.laid_strconv_ErrSyntax), ("unicode/utf8.first", Rows.laid_unicode_utf8_first)]
theorem own : ownKnob Tryz.prog.godebug = none := by kernel_rfl
theorem laidOut : laidOutB Tryz.prog = true := by kernel_rfl
theorem starE : "*" ++ "errors.errorString" = "*errors.errorString" := by decide
theorem row195 (u : TypeId) (h : Tryz.prog.typeName? 3 u = some "*errors.errorString") : u = 195 :=
 typeName_ptr_named (nm := "errors.errorString") (by rw [starE]; kernel_rfl) (by kernel_rfl) (by decide) u (by rw [starE]; exact h)
theorem tabFact {W : World} (hL : laidMet Tryz.prog tables W) : Lib.TabIs Tryz.prog W "internal/strconv.uint64pow10" .u64 Lib.pow10Tab := by
 have h := hL.tail.tail
 rw [show (Rows.laid_internal_strconv_uint64pow10 : DataW Unit) = Lib.tabData .u64 Lib.pow10Tab by kernel_rfl] at h
 exact Lib.tabIs_of_head (g := 3) (by kernel_rfl) (by kernel_rfl) Tryz.underlying190 Tryz.underlying166 (by kernel_rfl) (by kernel_rfl) h
theorem cellOk_int {P : Program} {W : World} {base : Nat} {t : TypeId} {cs : Array Value} (ht : P.cellTypes P.depth t = some [t]) (hu : P.underlying t = some (.int .i64)) (hs : cs.size = 1) (h : Row.ok P W .any base t cs) : ∃ m, cs = #[.int .i64 m] := by
 obtain ⟨ts, h1, _, h3⟩ := h
 rw [ht] at h1
 obtain rfl := Option.some.inj h1
 obtain ⟨v, rfl⟩ := Array.size_eq_one_iff.1 hs
 obtain ⟨u, hu', hv⟩ := h3 0 v rfl
 obtain rfl : t = u := by simpa using hu'
 unfold Cell.ok at hv
 rw [hu] at hv
 cases v with
 | int k n => obtain ⟨rfl, _⟩ := hv; exact ⟨n, rfl⟩
 | _ => exact hv.elim
theorem globFacts {W : World} (hS : W.ShapedOpen Tryz.prog) (hL : laidMet Tryz.prog tables W) : GlobFacts W := by
 refine ⟨tabFact hL, ?_, ?_, ?_⟩
 ·obtain ⟨a, s, h, _⟩ := laid_sentinel hL.tail.tail.tail.tail.tail (g := 1) (by kernel_rfl) (by kernel_rfl) Tryz.underlying103 row195 Tryz.underlying195 Tryz.underlying197 rfl rfl Tryz.underlying9 (by kernel_rfl) (by kernel_rfl)
  exact ⟨_, _, h⟩
 ·obtain ⟨a, s, h, _⟩ := laid_sentinel hL.tail.tail.tail.tail (g := 2) (by kernel_rfl) (by kernel_rfl) Tryz.underlying103 row195 Tryz.underlying195 Tryz.underlying197 rfl rfl Tryz.underlying9 (by kernel_rfl) (by kernel_rfl)
  exact ⟨_, _, h⟩
 ·obtain ⟨cs, h1, h2, h3⟩ := hS.1 0 #[.int .i64 0] 3 (of_decide_eq_true (by kernel_rfl)) (by kernel_rfl)
  obtain ⟨m, rfl⟩ := cellOk_int (by kernel_rfl) Tryz.underlying3 h2 (h3 (by kernel_rfl))
  exact ⟨m, by simp [World.cell?, h1]⟩
theorem glob_heap {W W' : World} (h : ∀ b, b < 8 → W'.heap[b]? = W.heap[b]?) (hg : GlobFacts W) : GlobFacts W' := by
 have hv : ∀ (n : String) (g : Nat), Tryz.prog.globalNamed n = some g → g < 8 → W'.var? Tryz.prog n = W.var? Tryz.prog n := fun n g h1 h2 => by
  unfold World.var?
  rw [h1]
  simp only [Option.bind_some]
  rw [h g h2]
 obtain ⟨h1, h2, h3, m, h4⟩ := hg
 refine ⟨(hv _ 3 (by kernel_rfl) (by decide)).trans h1, ?_, ?_, m, ?_⟩
 ·rw [hv _ 1 (by kernel_rfl) (by decide)]; exact h2
 ·rw [hv _ 2 (by kernel_rfl) (by decide)]; exact h3
 ·exact (World.cell?_of_block (a := ⟨0, 0, none⟩) (h 0 (by decide))).trans h4
theorem laid_of {W : World} (hS : W.ShapedOpen Tryz.prog) (hL : laidMet Tryz.prog tables W) (hsz : 8 ≤ W.heap.size) : Laid W (fun _ => none) := by
 have hg := globFacts hS hL
 refine ⟨(List.range 8).filterMap fun b => (W.heap[b]?).map fun o => (b, o), fun W' h => glob_heap (fun b hb => ?_) hg, fun p hp => ?_⟩
 ·have hb2 : b < W.heap.size := by omega
  have h1 := h (b, W.heap[b]) (List.mem_filterMap.2 ⟨b, by simpa using hb, by simp [Array.getElem?_eq_getElem hb2]⟩)
  rw [h1, Array.getElem?_eq_getElem hb2]
 ·obtain ⟨b, _, hb⟩ := List.mem_filterMap.1 hp
  simp only [Option.map_eq_some_iff] at hb
  obtain ⟨o, ho, rfl⟩ := hb
  exact ⟨ho, rfl⟩
theorem law_calls {W : World} {f : FuncId} {ds : List D} {args : Array Value} (hf : FnOk Tryz.prog f ds (fun r => r = .val (dB true))) (hlaid : Laid W (fun _ => none)) (hn : args.size = ds.length) (ha : ∀ (i : Nat) (d : D), ds[i]? = some d → V Tryz.prog W (fun _ => none) d.fz [] (args.getD i undef)) :
  Calls Tryz.prog f args W fun e W' => e = .returned (.bool true) ∧ Below W.heap.size W W' := by
 refine (hf W (fun _ => none) args 0 (by decide) hlaid (fun _ _ => rfl) hn ha).mono ?_
 rintro e W' ⟨v, ow', r, rfl, rfl, haf, _, hsv⟩
 have hv := hsv (fun _ => .un) { tmps := #[], defers := [] }
 simp only [SV, V, D.fz, R] at hv
 obtain ⟨hv, _⟩ := hv
 obtain rfl : v = .bool true := by simpa using hv
 exact ⟨rfl, haf.os, haf.tape, haf.output, haf.size, fun b hb => (haf.old b hb).1⟩
def setBlock (h : Array Obj) (i : Nat) (cs : Array Value) : Array Obj := h.modify i fun
 | .cells _ t frozen => .cells cs t frozen
 | o => o
def datCells : DataW Unit → Array Value
 | .agg parts => (parts.flatMap fun | .lit (.int k n) => [Value.int k n] | .agg ps => (ps.map fun | .lit (.int k n) => Value.int k n | _ => undef) | _ => []).toArray
 | _ => #[]
def datText : DataW Unit → ByteArray
 | .iface _ (.ptr (.agg [.lit (.string l)])) => ⟨l.toArray⟩
 | _ => ⟨#[]⟩
noncomputable def low : Nat := (World.holding Tryz.prog default ⟨#[], #[], []⟩).heap.size
noncomputable def laidWorld (os : Os) : World :=
 let w0 := World.holding Tryz.prog os ⟨#[.cells #[.string (datText Rows.laid_strconv_ErrSyntax)] 197, .cells #[.string (datText Rows.laid_strconv_ErrRange)] 197], #[], []⟩
 { w0 with heap := setBlock (setBlock (setBlock (setBlock (setBlock (setBlock (setBlock w0.heap 3 (datCells Rows.laid_internal_strconv_uint64pow10)) 4 (datCells Rows.laid_unicode_utf8_first)) 5 (datCells Rows.laid_unicode_utf8_acceptRanges)) 6 (datCells Rows.laid_math_bits_deBruijn32tab)) 7 (datCells Rows.laid_math_bits_deBruijn64tab)) 1 #[.iface 195 (.pointer (some ⟨low, 0, none⟩))]) 2 #[.iface 195 (.pointer (some ⟨low + 1, 0, none⟩))] }
theorem laid_met (os : Os) (args : Array Value) : laidMet Tryz.prog tables ((laidWorld os).forCall (fun _ _ => 0) ⟨#[], args, []⟩).memory :=
 laidMet_of_run' 8 (by kernel_rfl) (by kernel_rfl)
theorem size8 {W : World} (hS : W.ShapedOpen Tryz.prog) : 8 ≤ W.heap.size := by
 obtain ⟨cs, h1, _⟩ := hS.1 7 (Array.replicate 64 (.int .u8 0)) 208 (of_decide_eq_true (by kernel_rfl)) (by kernel_rfl)
 exact (Array.getElem?_eq_some_iff.1 h1).1
end Go.Proofs.YtfhfidecmdhkoaaGreatDoor

end
section
namespace Go.Dv
open Go.RowKit Go.ChangeShapes
section
variable {H : Type} {enc : TypeId × Value → H} {P : Program} {W : World} {t e : TypeId} {cs : List Value} {k : Nat}
def Tr (enc : TypeId × Value → H) (P : Program) (W : World) (t : TypeId) (cs : List Value) : Prop := ∃ fuel x, DataW.trod enc P W 0 (fun _ => true) true fuel t cs = some x
def Rd (P : Program) (W : World) (d : D) (cs : List Value) : Prop := ∀ l, R P W (fun _ => none) d l cs
theorem rs_of {C : Array Value} : ∀ (xs : List D) (l : List Nat) (i0 off : Nat), (∀ i y, xs[i]? = some y → ∃ vs : List Value, vs.length = k ∧ (∀ j, j < k → C[off + i * k + j]? = vs[j]?) ∧ Rd P W y vs) → Rs P W (fun _ => none) xs l i0 C off k
  | [], _, _, _, _ => by simp only [Rs]
  | x :: xs, l, i0, off, h => by
    obtain ⟨vs, h1, h2, h3⟩ := h 0 x rfl
    simp only [Rs]
    refine ⟨vs, ?_, h1, fun j hj => by simpa using h2 j hj, h3 _, rs_of xs l (i0 + 1) (off + k) fun i y hy => ?_⟩
    · rw [← (h3 []).len]; exact h1
    · obtain ⟨vs, h1, h2, h3⟩ := h (i + 1) y (by simpa using hy)
      exact ⟨vs, h1, fun j hj => by have := h2 j hj; rwa [show off + k + i * k + j = off + (i + 1) * k + j by rw [Nat.succ_mul]; omega], h3⟩
theorem cell_heap {b o : Nat} {v : Value} {C : Array Value} {e : TypeId} {fz : Nat × Nat} (hh : W.heap[b]? = some (.cells C e fz)) (h : W.cell? ⟨b, o, none⟩ = some v) : C[o]? = some v := by
  unfold World.cell? at h
  simpa [hh] using h
theorem heap_cell {b o : Nat} {v : Value} (h : W.cell? ⟨b, o, none⟩ = some v) : ∃ C e fz, W.heap[b]? = some (.cells C e fz) := by
  unfold World.cell? at h
  split at h
  · rename_i C e fz hh; exact ⟨C, e, fz, hh⟩
  · simp at h
theorem open_sl {α : Type} {f : α → D} {Q : α → Prop} (ht : P.underlying t = some (.slice e)) (hk : P.cellsOf e = k) (hk0 : 0 < k)
    (hR : ∀ vs, Tr enc P W e vs → ∃ y, Q y ∧ Rd P W (f y) vs) (h : Tr enc P W t cs) :
    ∃ ys : List α, (ys.length ≤ 9223372036854775807 ∧ ∀ y ∈ ys, Q y) ∧ Rd P W (.sl none (ys.map f)) cs := by
  obtain ⟨fu, x, h⟩ := h
  have h9 : maxLen = 9223372036854775807 := rfl
  rcases DataW.trod_slice ht h with ⟨rfl, _⟩ | ⟨a, len, cap, elems, rest, n, _, rfl, _, _, hl, hm, hlen, hel, _, _⟩
  · exact ⟨[], ⟨by simp, by simp⟩, fun l => by simp only [R]; exact ⟨none, 0, rfl, by simp, by omega, .inl ⟨rfl, rfl, rfl⟩⟩⟩
  · have each : ∀ i : Fin len, ∃ y : α, ∃ vs : List Value, Q y ∧ vs.length = k ∧ (∀ j, (hj : j < vs.length) → W.cell? ((a.add (i.1 * k)).add j) = some vs[j]) ∧ Rd P W (f y) vs := by
      intro i
      have h1 := hel i.1 i.2
      have h2 : i.1 < elems.length := by rw [hlen]; exact i.2
      rw [hk, List.getElem?_eq_getElem h2] at h1
      obtain ⟨vs, hvs, htr⟩ := Option.bind_eq_some_iff.1 h1
      obtain ⟨y, hq, hy⟩ := hR _ ⟨_, _, htr⟩
      have hc : (List.range k).mapM (fun j => W.cell? ((a.add (i.1 * k)).add j)) = some vs := by
        unfold World.cells? at hvs
        rw [if_pos (Nat.zero_le _)] at hvs
        exact hvs
      have hvl : vs.length = k := by rw [mapM_some_length hc, List.length_range]
      refine ⟨y, vs, hq, hvl, fun j hj => ?_, hy⟩
      have h3 := mapM_some_get hc j j (by rw [List.getElem?_range (by omega)])
      rw [h3]
      simp [hj]
    obtain ⟨g, hg⟩ := Classical.axiomOfChoice each
    refine ⟨List.ofFn g, ⟨by simp; omega, fun y hy => ?_⟩, fun l => ?_⟩
    · obtain ⟨i, rfl⟩ := List.mem_ofFn.1 hy
      exact (hg i).choose_spec.1
    · simp only [R]
      refine ⟨some a, cap, by simp, by simp; omega, hm, ?_⟩
      by_cases h0 : len = 0
      · refine .inr (.inl ⟨by simp, ?_⟩)
        apply List.eq_nil_of_length_eq_zero
        simp [h0]
      · obtain ⟨vs0, _, g1, g2, _⟩ := hg ⟨0, by omega⟩
        have hs := World.cell?_spot (g2 0 (by omega))
        obtain ⟨b, o, sp⟩ := a
        obtain rfl : sp = none := by simpa [Addr.add] using hs
        obtain ⟨C, e', fz, hh⟩ := heap_cell (by simpa [Addr.add] using g2 0 (by omega))
        refine .inr (.inr ⟨b, o, k, C, e', fz, rfl, hh, by simp, by simp, rs_of _ _ _ _ fun i y hy => ?_⟩)
        rw [List.getElem?_map, Option.map_eq_some_iff] at hy
        obtain ⟨y', hy, rfl⟩ := hy
        obtain ⟨hi, rfl⟩ := List.getElem?_eq_some_iff.1 hy
        rw [List.getElem_ofFn]
        obtain ⟨vs, _, h1, h2, h3⟩ := hg ⟨i, by simpa using hi⟩
        refine ⟨vs, h1, fun j hj => ?_, h3⟩
        have h5 := h2 j (by omega)
        rw [Addr.add_lit, Addr.add_lit] at h5
        rw [cell_heap hh h5, List.getElem?_eq_getElem (by omega)]
theorem v_sl {o : Option TypeId} {xs : List D} {v : Value} (h : Rd P W (.sl o xs) [v]) : V P W (fun _ => none) (.sl o xs) [] v := by
  simp only [V]
  exact h []
end
end Go.Dv

end
section
namespace Go.Dv
open Go.RowKit
variable [Glob]
section
variable {P : Program} {T : TypeId → TyE} {n : Nat} {w0 : World} {ow0 : Own} {s : St} {K : St → Prop}
def wrapV (op : BinOp) (u v : Value) (K : Value → Prop) : Prop := match u, v with
  | .int k a, .int k' b => k = k' ∧ (match op with
    | .add => K (.int k (k.wrap (a + b)))
    | .sub => K (.int k (k.wrap (a - b)))
    | .mul => K (.int k (k.wrap (a * b)))
    | _ => False)
  | _, _ => False
def stepW (n : Nat) (op : Op) (dst : Option Nat) (s : St) (K : St → Prop) : Prop := match op with
  | .binOp op t x y _ => (∀ u, dst = some u → u < n) ∧ oneK (evS s x) fun u => oneK (evS s y) fun v => wrapV op u v fun r => K (s.setd dst (.val (.one r)))
  | _ => False
theorem wrapV_run {w : World} {op : BinOp} {t : TypeId} {x y : Operand} {u v : Value} {K : Value → Prop} (h : wrapV op u v K) : ∃ r, (binOp op t u v).run P w = .ok r w ∧ r.oneCell' = true ∧ K r ∧ (eqGuard op t x y u v).run P w = .ok () w := by
  unfold wrapV at h
  split at h
  · obtain ⟨rfl, h⟩ := h
    split at h
    · exact ⟨_, by simp only [binOp, Op.intArith, ne_eq, not_true_eq_false, if_false]; rfl, rfl, h, rfl⟩
    · exact ⟨_, by simp only [binOp, Op.intArith, ne_eq, not_true_eq_false, if_false]; rfl, rfl, h, rfl⟩
    · exact ⟨_, by simp only [binOp, Op.intArith, ne_eq, not_true_eq_false, if_false]; rfl, rfl, h, rfl⟩
    · exact h.elim
  · exact h.elim
theorem stepW_ok {o : Oper} (h : stepW n o.op o.dst s K) : Ok P n w0 ow0 o s K := by
  generalize ho : o.op = op at h
  unfold stepW at h
  split at h
  · rename_i op t x y t'
    obtain ⟨h1, h⟩ := h
    obtain ⟨u, hu, h⟩ := oneK_of h
    obtain ⟨v, hv, h⟩ := oneK_of h
    refine ok_value fun a w ow hf => ?_
    obtain ⟨r, g1, g2, g3, hg⟩ := wrapV_run (P := P) (w := w) (t := t) (x := x) (y := y) h
    refine ⟨r, w, ?_, _, g3, ow, ?_⟩
    · unfold execOp; rw [ho]; simp only [(hf.one hu).1, (hf.one hv).1]
      simp only [Sem.run_bind, hg, Result.andThen_ok, g1]
      rfl
    · cases hod : o.dst with
      | none => exact hf
      | some t => exact hf.set (h1 t hod) (SV.val_one g2)
  · exact h.elim
def vcW (P : Program) (T : TypeId → TyE) (n : Nat) (ws : List Nat) : List Oper → Nat → St → (St → Prop) → Prop
  | [], _, s, K => K s
  | o :: l, k, s, K => o.guard = none ∧ (match ws.contains k with
    | true => stepW n o.op o.dst s fun s' => vcW P T n ws l (k + 1) s' K
    | false => stepOp P T n o.op o.dst s fun s' => vcW P T n ws l (k + 1) s' K)
theorem vcW_ok (hG : ∀ t, Good P T t) {ops : Array Oper} {ws : List Nat} : ∀ (l : List Oper) (k : Nat) (s : St) (K : St → Prop), vcW P T n ws l k s K → OkL P n w0 ow0 ops l s K
  | [], _, s, K, h => h
  | o :: l, k, s, K, h => by
    obtain ⟨hgd, h⟩ := h
    have hm : ∀ (s' : St), vcW P T n ws l (k + 1) s' K → OkL P n w0 ow0 ops l s' K := fun s' hs' => vcW_ok hG l (k + 1) s' K hs'
    unfold OkL
    have e : ∀ A B, gK ops o s A B = A := fun A B => by unfold gK; rw [hgd]
    rw [e]
    intro a w hR next Q hn
    split at h
    · exact (stepW_ok h : Ok P n w0 ow0 o s _) a w hR next Q fun s' a' w' hK hR' => hn s' a' w' (hm s' hK) hR'
    · exact (step_ok hG h : Ok P n w0 ow0 o s _) a w hR next Q fun s' a' w' hK hR' => hn s' a' w' (hm s' hK) hR'
theorem okC_rw (hG : ∀ t, Good P T t) (ws : List Nat) {p : Pin} {id : Nat} {ops : Array Oper} {y : Code} {K : Exit → St → Prop} (h : vcW P T n ws ops.toList 0 s (fun s' => @blk St s' ⟨fun s' => OkC P n w0 ow0 p y s' K⟩)) (hd : noDst p ops.toList = true := by rfl) : OkC P n w0 ow0 p (.seq (.region id ops false) y) s K :=
  okC_seq (okC_region (vcW_ok hG _ _ _ _ h) hd)
theorem vcW_nil {ws : List Nat} {k : Nat} : vcW P T n ws [] k s K = K s := Eq.trans rfl rfl
theorem vcW_put {ws : List Nat} {o : Oper} {l : List Oper} {k t : Nat} {x : S} : vcW P T n ws (o :: l) k (s.put t x) K = (o.guard = none ∧ (match ws.contains k with
    | true => stepW n o.op o.dst (s.put t x) fun s' => vcW P T n ws l (k + 1) s' K
    | false => stepOp P T n o.op o.dst (s.put t x) fun s' => vcW P T n ws l (k + 1) s' K)) := Eq.trans rfl rfl
theorem vcW_lst {ws : List Nat} {o : Oper} {l : List Oper} {k : Nat} {L : List (Nat × S)} : vcW P T n ws (o :: l) k (lst L) K = (o.guard = none ∧ (match ws.contains k with
    | true => stepW n o.op o.dst (lst L) fun s' => vcW P T n ws l (k + 1) s' K
    | false => stepOp P T n o.op o.dst (lst L) fun s' => vcW P T n ws l (k + 1) s' K)) := Eq.trans rfl rfl
theorem vcW_kill {ws : List Nat} {o : Oper} {l : List Oper} {k t : Nat} : vcW P T n ws (o :: l) k (s.kill t) K = (o.guard = none ∧ (match ws.contains k with
    | true => stepW n o.op o.dst (s.kill t) fun s' => vcW P T n ws l (k + 1) s' K
    | false => stepOp P T n o.op o.dst (s.kill t) fun s' => vcW P T n ws l (k + 1) s' K)) := Eq.trans rfl rfl
end
attribute [go_sem] vcW_nil vcW_put vcW_lst vcW_kill stepW wrapV
end Go.Dv

end
section
namespace Go.Pl
open Go.Dv
abbrev Cur := Nat × Int
def nmA : List Str := [[97, 110, 110, 97], [65, 110, 110, 97], [97, 110, 110], [106, 111, 104, 110], [74, 111, 110], [109, 97, 114, 105, 97], [77, 97, 114, 121], [112, 101, 116, 101, 114], [79, 39, 78, 101, 105, 108], [108, 105]]
def nmB : List Str := [[115, 109, 105, 116, 104], [83, 109, 121, 116, 104], [115, 99, 104, 109, 105, 100, 116], [106, 111, 110, 101, 115], [74, 111, 110, 97, 115], [108, 101, 101], [100, 101, 32, 108, 97, 32, 67, 114, 117, 122], [109, 105, 108, 108, 101, 114], [77, 117, 108, 108, 101, 114]]
def nmC : List Str := [[97, 46], [66], [106]]
def nmPh : List Str := [[53, 53, 53, 32, 49, 50, 51, 52], [43, 49, 32, 53, 53, 53, 45, 49, 50, 51, 52], [49, 53, 53, 53, 49, 50, 51, 52], [53, 53, 53, 49, 50, 51, 52], [49, 50, 51, 52], [50, 51, 52], [], [53, 53, 53, 45, 57, 57, 57, 57], [48, 48, 52, 52, 32, 50, 48, 32, 55, 57, 52, 54, 32, 48, 48, 49, 56], [55, 57, 52, 54, 32, 48, 48, 49, 56], [120]]
def nmCity : List Str := [[80, 97, 114, 105, 115], [112, 97, 114, 105, 115], [76, 111, 110, 100, 111, 110], [78, 101, 119, 32, 89, 111, 114, 107], [110, 101, 119, 45, 121, 111, 114, 107], [], [82, 111, 109, 101]]
def nmYear : List Str := [[49, 57, 56, 48], [49, 57, 56, 49], [49, 57, 56, 53], [], [49, 57, 57, 48], [120]]
def nmOdd : List Str := [[97, 124, 98], [97, 59, 98], [10], []]
def nmWho : List Str := [[97, 110, 110, 97, 32, 115, 109, 105, 116, 104], [83, 109, 105, 116, 104, 44, 32, 65, 110, 110, 97], [97, 110, 110, 32, 115, 109, 121, 116, 104], [106, 111, 104, 110, 32, 108, 101, 101]]
def nmTel : List Str := [[53, 53, 53, 32, 49, 50, 51, 52], [53, 53, 53, 49, 50, 51, 52], [53, 53, 53, 45, 57, 57, 57, 57]]
def hNext (h : Int) : Int := IntKind.i64.wrap (IntKind.i64.wrap (h * 6364136223846793005) + 1442695040888963407)
def hX (h : Int) : Int := bitsI .and .i64 (bitsI .xor .i64 ((hNext h).fdiv (2 ^ 33)) ((hNext h).fdiv (2 ^ 45))) 255
def byteF (b : Str) (c : Cur) : Int × Cur := match b[c.1]? with
  | some z => (bitsI .and .i64 (hX c.2 + z.toNat) 255, (c.1 + 1, hNext c.2))
  | none => (hX c.2, (c.1, hNext c.2))
theorem and_range (x : Int) {m : Nat} (hm : m < 1152921504606846976) : 0 ≤ bitsI .and .i64 x m ∧ bitsI .and .i64 x m ≤ m := by
  have h1 : (BitVec.ofInt 64 (m : Int)).toNat = m := by
    rw [BitVec.toNat_ofInt]
    omega
  have h2 : (BitVec.ofInt 64 x &&& BitVec.ofInt 64 (m : Int)).toNat ≤ m := by
    rw [BitVec.toNat_and, h1]
    exact Nat.and_le_right
  obtain ⟨q, hq⟩ : ∃ q, (BitVec.ofInt 64 x &&& BitVec.ofInt 64 (m : Int)).toNat = q := ⟨_, rfl⟩
  have e : bitsI .and .i64 x m = IntKind.i64.wrap (q : Int) := by rw [← hq]; rfl
  have h3 : IntKind.i64.wrap (q : Int) = q := by simp [IntKind.wrap, IntKind.bits, IntKind.signed]; omega
  rw [e, h3]
  omega
theorem hX_range (h : Int) : 0 ≤ hX h ∧ hX h ≤ 255 := by
  have := and_range (bitsI .xor .i64 ((hNext h).fdiv (2 ^ 33)) ((hNext h).fdiv (2 ^ 45))) (m := 255) (by omega)
  unfold hX
  omega
theorem byteF_range (b : Str) (c : Cur) : 0 ≤ (byteF b c).1 ∧ (byteF b c).1 ≤ 255 := by
  unfold byteF
  split
  · rename_i z hz
    have := and_range (hX c.2 + z.toNat) (m := 255) (by omega)
    simp only
    omega
  · exact hX_range _
def belowF (b : Str) (n : Int) (c : Cur) : Int × Cur := if n ≤ 0 then (0, c) else if n ≤ 256 then ((byteF b c).1.tmod n, (byteF b c).2) else
  ((((byteF b c).1 * 16777216 + (byteF b (byteF b c).2).1 * 65536) + (byteF b (byteF b (byteF b c).2).2).1 * 256 + (byteF b (byteF b (byteF b (byteF b c).2).2).2).1).tmod n, (byteF b (byteF b (byteF b (byteF b c).2).2).2).2)
theorem tmod_range {x n : Int} (hx : 0 ≤ x) (hn : 0 < n) : 0 ≤ x.tmod n ∧ x.tmod n < n := ⟨Int.tmod_nonneg _ hx, Int.tmod_lt_of_pos _ hn⟩
theorem belowF_range (b : Str) {n : Int} (hn : 0 < n) (c : Cur) : 0 ≤ (belowF b n c).1 ∧ (belowF b n c).1 < n := by
  have r := byteF_range b
  unfold belowF
  rw [if_neg (by omega)]
  split
  · exact tmod_range (r _).1 hn
  · refine tmod_range ?_ hn
    have h1 := r c; have h2 := r (byteF b c).2; have h3 := r (byteF b (byteF b c).2).2; have h4 := r (byteF b (byteF b (byteF b c).2).2).2
    omega
def onceF (b : Str) (n : Int) (c : Cur) : Bool × Cur := ((belowF b n c).1 == 0, (belowF b n c).2)
def pickF {α : Type} (b : Str) (l : List α) (z : α) (c : Cur) : α × Cur := ((l[(belowF b l.length c).1.toNat]?).getD z, (belowF b l.length c).2)
theorem pickF_mem {α : Type} (b : Str) {l : List α} (z : α) (c : Cur) (h : l ≠ []) : (pickF b l z c).1 ∈ l := by
  have hl : 0 < l.length := List.length_pos_iff.2 h
  have := belowF_range b (n := (l.length : Int)) (by omega) c
  unfold pickF
  simp only
  rw [List.getElem?_eq_getElem (by omega)]
  exact List.getElem_mem _
def u8F (x : Int) : UInt8 := UInt8.ofNat (x % 256).toNat
theorem u8_wrap (x : Int) : IntKind.u8.wrap x = ((u8F x).toNat : Int) := by
  unfold u8F
  simp [IntKind.wrap, IntKind.bits, IntKind.signed]
  omega
def styF (st x : Int) : Int := if st = 2 then 97 + (if st = 1 then x.tmod 2 else x).tmod 4 else if st = 1 then x.tmod 2 else x
def textL (b : Str) (st : Int) : Nat → Cur → Str → Str × Cur
  | 0, c, o => (o, c)
  | k + 1, c, o => textL b st k (byteF b c).2 (o ++ [u8F (styF st (byteF b c).1)])
def textF (b : Str) (most : Int) (c : Cur) : Str × Cur :=
  textL b (belowF b 4 c).1 (belowF b (most + 1) (belowF b 4 c).2).1.toNat (belowF b (most + 1) (belowF b 4 c).2).2 []
theorem textL_len (b : Str) (st : Int) : ∀ (k : Nat) (c : Cur) (o : Str), (textL b st k c o).1.length = o.length + k
  | 0, c, o => rfl
  | k + 1, c, o => by unfold textL; rw [textL_len b st k]; simp; omega
theorem textF_len (b : Str) {most : Int} (h : 0 ≤ most) (c : Cur) : ((textF b most c).1.length : Int) ≤ most := by
  unfold textF
  rw [textL_len]
  have := belowF_range b (n := most + 1) (by omega) (belowF b 4 c).2
  simp
  omega
def spoilF (b s : Str) (c : Cur) : Str × Cur :=
  if s = [] then textF b 3 c else
  let k := belowF b s.length c
  let m := belowF b 4 k.2
  let i := k.1.toNat
  if m.1 = 0 then (s.take i ++ s.drop (i + 1), m.2) else
  if m.1 = 1 then (s.take i ++ [u8F (byteF b m.2).1] ++ s.drop i, (byteF b m.2).2) else
  if m.1 = 2 then (s.take i, m.2) else
  (s.take i ++ [u8F (bitsI .xor .i64 ((s.getD i 0).toNat) (1 + (belowF b 255 m.2).1))] ++ s.drop (i + 1), (belowF b 255 m.2).2)
theorem spoilF_len (b s : Str) (c : Cur) : (spoilF b s c).1.length ≤ s.length + 3 := by
  unfold spoilF
  split
  · have := textF_len b (most := 3) (by omega) c
    omega
  · simp only
    repeat' split
    all_goals simp
    all_goals omega
def memF (b : Str) (c : Cur) : Int × Cur := (100 * (belowF b 3 c).1 + 1 + (belowF b 2 (belowF b 3 c).2).1, (belowF b 2 (belowF b 3 c).2).2)
theorem memF_range (b : Str) (c : Cur) : 0 ≤ (memF b c).1 ∧ (memF b c).1 ≤ 1000 := by
  have h1 := belowF_range b (n := 3) (by omega) c
  have h2 := belowF_range b (n := 2) (by omega) (belowF b 3 c).2
  simp only [memF]
  omega
def verF (b : Str) (c : Cur) : Ver × Cur :=
  let x := memF b c
  let y := memF b x.2
  let z := if x.1 = y.1 then y.1 + 1 else y.1
  let o := onceF b 3 y.2
  let t := belowF b 6 o.2
  (⟨min x.1 z, max x.1 z, !o.1, 1 + t.1⟩, t.2)
def verAnyF (b : Str) (c : Cur) : Ver × Cur :=
  let v := verF b c
  let k := belowF b 14 v.2
  if k.1 = 0 then let p := pickF b [0, 399, v.1.b] 0 k.2; (⟨p.1, v.1.b, v.1.same, v.1.time⟩, p.2) else
  if k.1 = 1 then let p := pickF b [0, 999, 1000] 0 k.2; (⟨v.1.a, v.1.b, v.1.same, p.1⟩, p.2) else
  if k.1 = 2 then (⟨v.1.a, 400, v.1.same, v.1.time⟩, k.2) else (v.1, k.2)
def nameF (b : Str) (c : Cur) : Str × Cur :=
  let f := pickF b nmA [] c
  let l := pickF b nmB [] f.2
  let k := belowF b 6 l.2
  if k.1 = 0 then (l.1 ++ [44, 32] ++ f.1, k.2) else
  if k.1 = 1 then let m := pickF b nmC [] k.2; (f.1 ++ [32] ++ m.1 ++ [32] ++ l.1, m.2) else
  if k.1 = 2 then (f.1, k.2) else (f.1 ++ [32] ++ l.1, k.2)
def fieldsF (b : Str) (c : Cur) : List Str × Cur :=
  let n := nameF b c
  let y := pickF b nmCity [] n.2
  let z := pickF b nmYear [] y.2
  let p := pickF b nmPh [] z.2
  ([n.1, y.1, z.1, p.1], p.2)
def recF (b : Str) (c : Cur) : Rec × Cur :=
  let x := belowF b 4 c
  let y := belowF b 4 x.2
  let z := belowF b 3 y.2
  let f := fieldsF b z.2
  (⟨x.1, 1 + y.1, 1 + z.1, f.1⟩, f.2)
def recAnyF (b : Str) (c : Cur) : Rec × Cur :=
  let r := recF b c
  let k := belowF b 16 r.2
  if k.1 = 0 then let p := pickF b [-1, 4] 0 k.2; (⟨p.1, r.1.key, r.1.version, r.1.fields⟩, p.2) else
  if k.1 = 1 then let p := pickF b [0, 99, 100] 0 k.2; (⟨r.1.source, p.1, r.1.version, r.1.fields⟩, p.2) else
  if k.1 = 2 then let p := pickF b [0, 999, 1000] 0 k.2; (⟨r.1.source, r.1.key, p.1, r.1.fields⟩, p.2) else
  if k.1 = 3 then (⟨r.1.source, r.1.key, r.1.version, r.1.fields.drop 1⟩, k.2) else
  if k.1 = 4 then let p := pickF b nmOdd [] k.2; (⟨r.1.source, r.1.key, r.1.version, r.1.fields.set 0 p.1⟩, p.2) else (r.1, k.2)
def opF (b : Str) (c : Cur) : Opn × Cur :=
  let k := belowF b 6 c
  if k.1 = 0 then let r := recF b k.2; let x := belowF b 3 r.2; let y := belowF b 2 x.2; (⟨2, ⟨x.1, 1 + y.1, r.1.version, []⟩, ver0⟩, y.2) else
  if k.1 = 1 then let v := verF b k.2; (⟨3, rec0, v.1⟩, v.2) else
  if k.1 = 2 then let v := verF b k.2; (⟨4, rec0, v.1⟩, v.2) else
  let r := recF b k.2; let x := belowF b 3 r.2; let y := belowF b 2 x.2; (⟨1, ⟨x.1, 1 + y.1, r.1.version, r.1.fields⟩, ver0⟩, y.2)
def opAnyF (b : Str) (c : Cur) : Opn × Cur :=
  let o := opF b c
  let k := belowF b 14 o.2
  if k.1 = 0 then let x := belowF b 6 k.2; (⟨x.1, o.1.rc, o.1.ver⟩, x.2) else
  if k.1 = 1 then let r := recAnyF b k.2; (⟨o.1.kind, r.1, o.1.ver⟩, r.2) else
  if k.1 = 2 then let v := verAnyF b k.2; (⟨o.1.kind, o.1.rc, v.1⟩, v.2) else (o.1, k.2)
def batL (b : Str) : Nat → Cur → List Opn → List Opn × Cur
  | 0, c, l => (l, c)
  | k + 1, c, l => batL b k (opF b c).2 (l ++ [(opF b c).1])
def batF (b : Str) (c : Cur) : List Opn × Cur := batL b (belowF b 5 c).1.toNat (belowF b 5 c).2 []
def batsF (b : Str) (c : Cur) : List Opn × Cur :=
  let l := batF b c
  let k := belowF b 14 l.2
  if k.1 = 0 then (l.1 ++ [(opAnyF b k.2).1], (opAnyF b k.2).2) else
  if k.1 = 1 then batL b (7 - l.1.length) k.2 l.1 else (l.1, k.2)
def fixF (b : Str) (o : Opn) (c : Cur) : Opn × Cur :=
  if o.kind = 1 then
    let q := onceF b 2 c
    if q.1 = true then let p := pickF b nmWho [] q.2; let t := pickF b nmTel [] p.2; (⟨o.kind, ⟨o.rc.source, o.rc.key, o.rc.version, (o.rc.fields.set 0 p.1).set 3 t.1⟩, o.ver⟩, t.2) else (o, q.2)
  else (o, c)
def fixL (b : Str) : List Opn → Cur → List Opn × Cur
  | [], c => ([], c)
  | o :: l, c => ((fixF b o c).1 :: (fixL b l (fixF b o c).2).1, (fixL b l (fixF b o c).2).2)
def batchesL (b : Str) : Nat → Cur → List (List Opn) → List (List Opn) × Cur
  | 0, c, l => (l, c)
  | k + 1, c, l => batchesL b k (fixL b (batF b c).1 (batF b c).2).2 (l ++ [(fixL b (batF b c).1 (batF b c).2).1])
def batchesF (b : Str) (most : Int) (c : Cur) : List (List Opn) × Cur := batchesL b (belowF b (most + 1) c).1.toNat (belowF b (most + 1) c).2 []
def tinyR (r : Rec) : Prop := r.fields.length ≤ 4 ∧ ∀ f ∈ r.fields, f.length ≤ 100
def tinyB (l : List Opn) : Prop := l.length ≤ 7 ∧ ∀ o ∈ l, tinyR o.rc
theorem pick_len (b : Str) {l : List Str} (c : Cur) (h : l ≠ []) {n : Nat} (hn : ∀ x ∈ l, x.length ≤ n) : (pickF b l [] c).1.length ≤ n := hn _ (pickF_mem b [] c h)
theorem nameF_len (b : Str) (c : Cur) : (nameF b c).1.length ≤ 60 := by
  have hA : ∀ c, (pickF b nmA [] c).1.length ≤ 16 := fun c => pick_len b c (by simp [nmA]) (by decide)
  have hB : ∀ c, (pickF b nmB [] c).1.length ≤ 16 := fun c => pick_len b c (by simp [nmB]) (by decide)
  have hC : ∀ c, (pickF b nmC [] c).1.length ≤ 16 := fun c => pick_len b c (by simp [nmC]) (by decide)
  have h1 := hA c
  have h2 := hB (pickF b nmA [] c).2
  have h3 := hC (belowF b 6 (pickF b nmB [] (pickF b nmA [] c).2).2).2
  simp only [nameF]
  repeat' split
  all_goals simp
  all_goals omega
theorem fieldsF_len (b : Str) (c : Cur) : (fieldsF b c).1.length = 4 ∧ ∀ f ∈ (fieldsF b c).1, f.length ≤ 100 := by
  refine ⟨rfl, fun f hf => ?_⟩
  simp only [fieldsF, List.mem_cons, List.not_mem_nil, or_false] at hf
  rcases hf with rfl | rfl | rfl | rfl
  · exact Nat.le_trans (nameF_len b c) (by omega)
  · exact pick_len b _ (by simp [nmCity]) (by decide)
  · exact pick_len b _ (by simp [nmYear]) (by decide)
  · exact pick_len b _ (by simp [nmPh]) (by decide)
theorem tiny0 {a k v : Int} : tinyR ⟨a, k, v, []⟩ := ⟨by simp, by simp⟩
theorem recF_tiny (b : Str) (c : Cur) : (recF b c).1.fields.length = 4 ∧ tinyR (recF b c).1 := by
  simp only [recF, tinyR]
  have h := fieldsF_len b (belowF b 3 (belowF b 4 (belowF b 4 c).2).2).2
  exact ⟨h.1, by omega, h.2⟩
theorem recAnyF_tiny (b : Str) (c : Cur) : tinyR (recAnyF b c).1 := by
  have h := recF_tiny b c
  have h2 : ∀ c, (pickF b nmOdd [] c).1.length ≤ 100 := fun c => pick_len b c (by simp [nmOdd]) (by decide)
  simp only [recAnyF]
  repeat' split
  all_goals first
    | exact h.2
    | exact ⟨by simp; omega, fun f hf => h.2.2 f (List.mem_of_mem_drop hf)⟩
    | (refine ⟨by simp; omega, fun f hf => ?_⟩
       rcases List.mem_or_eq_of_mem_set hf with h3 | h3
       · exact h.2.2 f h3
       · rw [h3]; exact h2 _)
theorem opF_tiny (b : Str) (c : Cur) : tinyR (opF b c).1.rc ∧ ((opF b c).1.kind = 1 → (opF b c).1.rc.fields.length = 4) := by
  have h := recF_tiny b (belowF b 6 c).2
  obtain ⟨k, hk⟩ : ∃ k, belowF b 6 c = k := ⟨_, rfl⟩
  obtain ⟨r, hr⟩ : ∃ r, recF b k.2 = r := ⟨_, rfl⟩
  obtain ⟨v, hv⟩ : ∃ v, verF b k.2 = v := ⟨_, rfl⟩
  rw [hk, hr] at h
  simp only [opF, hk, hr, hv]
  by_cases h0 : k.1 = 0
  · simp only [h0, if_true]; exact ⟨tiny0, fun h => absurd h (by decide)⟩
  by_cases h1 : k.1 = 1
  · simp only [if_neg h0, if_pos h1]; exact ⟨tiny0, fun h => absurd h (by decide)⟩
  by_cases h2 : k.1 = 2
  · simp only [if_neg h0, if_neg h1, if_pos h2]; exact ⟨tiny0, fun h => absurd h (by decide)⟩
  simp only [if_neg h0, if_neg h1, if_neg h2]
  exact ⟨⟨h.2.1, h.2.2⟩, fun _ => h.1⟩
theorem opAnyF_tiny (b : Str) (c : Cur) : tinyR (opAnyF b c).1.rc := by
  have h := (opF_tiny b c).1
  simp only [opAnyF]
  repeat' split
  · exact h
  · exact recAnyF_tiny _ _
  · exact h
  · exact h
def goodB (l : List Opn) : Prop := ∀ o ∈ l, tinyR o.rc ∧ (o.kind = 1 → o.rc.fields.length = 4)
theorem goodB_snoc {l : List Opn} {o : Opn} (h : goodB l) (ho : tinyR o.rc ∧ (o.kind = 1 → o.rc.fields.length = 4)) : goodB (l ++ [o]) := fun x hx => by
  rcases List.mem_append.1 hx with h1 | h1
  · exact h x h1
  · rw [List.mem_singleton.1 h1]; exact ho
theorem batL_good (b : Str) : ∀ (k : Nat) (c : Cur) (l : List Opn), goodB l → goodB (batL b k c l).1 ∧ (batL b k c l).1.length = l.length + k
  | 0, c, l, h => ⟨h, rfl⟩
  | k + 1, c, l, h => by
    unfold batL
    obtain ⟨h1, h2⟩ := batL_good b k (opF b c).2 (l ++ [(opF b c).1]) (goodB_snoc h (opF_tiny b c))
    exact ⟨h1, by rw [h2]; simp; omega⟩
theorem batF_good (b : Str) (c : Cur) : goodB (batF b c).1 ∧ (batF b c).1.length ≤ 4 := by
  unfold batF
  have h := batL_good b (belowF b 5 c).1.toNat (belowF b 5 c).2 [] (fun o h => by simp at h)
  have := belowF_range b (n := 5) (by omega) c
  refine ⟨h.1, ?_⟩
  rw [h.2]; simp; omega
theorem batsF_tiny (b : Str) (c : Cur) : tinyB (batsF b c).1 := by
  have h := batF_good b c
  have h0 : tinyB (batF b c).1 := ⟨by omega, fun o ho => (h.1 o ho).1⟩
  simp only [batsF]
  repeat' split
  · refine ⟨by simp; omega, fun o ho => ?_⟩
    rcases List.mem_append.1 ho with h1 | h1
    · exact h0.2 o h1
    · rw [List.mem_singleton.1 h1]; exact opAnyF_tiny _ _
  · have h2 := batL_good b (7 - (batF b c).1.length) (belowF b 14 (batF b c).2).2 (batF b c).1 h.1
    exact ⟨by rw [h2.2]; omega, fun o ho => (h2.1 o ho).1⟩
  · exact h0
theorem fixF_good (b : Str) (o : Opn) (c : Cur) (h : tinyR o.rc ∧ (o.kind = 1 → o.rc.fields.length = 4)) : tinyR (fixF b o c).1.rc ∧ ((fixF b o c).1.kind = 1 → (fixF b o c).1.rc.fields.length = 4) := by
  have h2 : ∀ c, (pickF b nmWho [] c).1.length ≤ 100 := fun c => pick_len b c (by simp [nmWho]) (by decide)
  have h3 : ∀ c, (pickF b nmTel [] c).1.length ≤ 100 := fun c => pick_len b c (by simp [nmTel]) (by decide)
  unfold fixF
  split
  · rename_i hk
    simp only
    split
    · refine ⟨⟨by have := h.1.1; simpa using this, fun f hf => ?_⟩, fun _ => by simpa using h.2 hk⟩
      rcases List.mem_or_eq_of_mem_set hf with g | g
      · rcases List.mem_or_eq_of_mem_set g with g | g
        · exact h.1.2 f g
        · rw [g]; exact h2 _
      · rw [g]; exact h3 _
    · exact h
  · exact h
theorem fixL_good (b : Str) : ∀ (l : List Opn) (c : Cur), goodB l → goodB (fixL b l c).1 ∧ (fixL b l c).1.length = l.length
  | [], c, h => ⟨h, rfl⟩
  | o :: l, c, h => by
    obtain ⟨h1, h2⟩ := fixL_good b l (fixF b o c).2 fun x hx => h x (List.mem_cons_of_mem _ hx)
    refine ⟨fun x hx => ?_, by simp [fixL, h2]⟩
    rcases List.mem_cons.1 hx with rfl | hx
    · exact fixF_good b o c (h o (by simp))
    · exact h1 x hx
theorem batchesL_good (b : Str) : ∀ (k : Nat) (c : Cur) (l : List (List Opn)), (∀ x ∈ l, goodB x ∧ x.length ≤ 4) → (∀ x ∈ (batchesL b k c l).1, goodB x ∧ x.length ≤ 4) ∧ (batchesL b k c l).1.length = l.length + k
  | 0, c, l, h => ⟨h, rfl⟩
  | k + 1, c, l, h => by
    unfold batchesL
    have g := batF_good b c
    have g2 := fixL_good b (batF b c).1 (batF b c).2 g.1
    obtain ⟨h1, h2⟩ := batchesL_good b k _ (l ++ [(fixL b (batF b c).1 (batF b c).2).1]) fun x hx => by
      rcases List.mem_append.1 hx with h3 | h3
      · exact h x h3
      · rw [List.mem_singleton.1 h3]; exact ⟨g2.1, by omega⟩
    exact ⟨h1, by rw [h2]; simp; omega⟩
end Go.Pl

end
section
set_option maxRecDepth 10000
namespace Go.Proofs.YtfhfidecmdhkoaaGreatDoor
open Go.Dv Go.Pl
abbrev nByt (b : Str) : D := .sl none (b.map dU)
def dCur (b : Str) (c : Cur) : D := .agg [nByt b, dI c.1, dI c.2]
abbrev oCur (b : Str) (c : Cur) : D := .bx true (dCur b c)
theorem fn_spec_l1Byte (b : Str) (c : Cur) (hb : b.length ≤ 1048576) : FnMu Tryz.prog 86 [.one (.bool false)] 0 (oCur b c) (fun r d => r = .val (dI (byteF b c).1) ∧ d = oCur b (byteF b c).2) := by
 simp only [oCur, dCur]
 refine fn_mut good (rs := [.tmp 2]) Tryz.func86 rfl Tryz.ntmps86 (by decide) (by simp) rfl fun w0 ow0 v0 => ?_
 simp only [mutSt]
 obtain ⟨i, h⟩ := c
 have hr := hX_range h
 have hn : IntKind.i64.wrap (IntKind.i64.wrap (h * 6364136223846793005) + 1442695040888963407) = hNext h := rfl
 have hx : bitsI .and .i64 (bitsI .xor .i64 ((hNext h).fdiv 8589934592) ((hNext h).fdiv 35184372088832)) 255 = hX h := rfl
 refine okC_rg good ?_
 simp [go_sem, hn, hx]
 repeat (with_reducible refine And.intro ?_ ?_; first | omega | assumption | (simp only [inI]; omega))
 refine okC_rw good [5, 6] ?_
 simp [go_sem, hn, hx]
 repeat (with_reducible refine And.intro ?_ ?_; first | omega | assumption | (simp only [inI]; omega))
 refine okC_dt good 12 rfl (by decide) (by kernel_rfl) ?_
 simp [go_sem, hn, hx]
 repeat (with_reducible refine And.intro ?_ ?_; first | omega | assumption | (simp only [inI]; omega))
 refine okC_seq ?_
 refine okC_dr good rfl (by decide) (by kernel_rfl) ?_
 simp [go_sem, hn, hx]
 repeat (with_reducible refine And.intro ?_ ?_; first | omega | assumption | (simp only [inI]; omega))
 refine okC_if ?_
 simp [go_sem, hn, hx]
 first | refine gC_dec (fun a => ?_) (fun a => ?_) | refine gC_ndec (fun a => ?_) (fun a => ?_) | refine gC_of (fun a => ?_) (fun a => ?_)
 ·try simp at a
  obtain ⟨z, hz⟩ := at_of (l := b) (i := i) (by omega)
  have hzl := z.toNat_lt
  have hf : byteF b (i, h) = (bitsI .and .i64 (hX h + z.toNat) 255, (i + 1, hNext h)) := by simp [byteF, hz]
  refine okC_dt good 14 rfl (by decide) (by kernel_rfl) ?_
  simp [go_sem, hn, hx, hz, hf]
  repeat (with_reducible refine And.intro ?_ ?_; first | omega | assumption | (simp only [inI]; omega))
  refine okC_rg1 good ?_
  simp [go_sem, hn, hx, hz, hf]
  repeat (with_reducible refine And.intro ?_ ?_; first | omega | assumption | (simp only [inI]; omega))
  refine okC_rg good ?_
  simp [go_sem, hn, hx, hz, hf]
  repeat (with_reducible refine And.intro ?_ ?_; first | omega | assumption | (simp only [inI]; omega))
  refine okC_ret ?_
  simp [go_sem, hn, hx, hz, hf]
  all_goals first | rfl | (refine ⟨?_, ?_⟩ <;> rfl)
 ·try simp at a
  refine okC_skip ?_
  have hz : b[i]? = none := List.getElem?_eq_none (by omega)
  have hf : byteF b (i, h) = (hX h, (i, hNext h)) := by simp [byteF, hz]
  refine okC_rg good ?_
  simp [go_sem, hn, hx, hf]
  repeat (with_reducible refine And.intro ?_ ?_; first | omega | assumption | (simp only [inI]; omega))
  refine okC_ret ?_
  simp [go_sem, hn, hx, hf]
  all_goals first | rfl | (refine ⟨?_, ?_⟩ <;> rfl)
theorem fn_spec_l1Below (b : Str) (n : Int) (c : Cur) (hb : b.length ≤ 1048576) : FnMu Tryz.prog 65 [.one (.bool false), dI n] 0 (oCur b c) (fun r d => r = .val (dI (belowF b n c).1) ∧ d = oCur b (belowF b n c).2) := by
 refine fn_mut good (rs := [.tmp 4]) Tryz.func65 rfl Tryz.ntmps65 (by decide) (by simp) rfl fun w0 ow0 v0 => ?_
 simp only [mutSt]
 have hr := byteF_range b
 refine okC_rg good ?_
 simp [go_sem]
 repeat (with_reducible refine And.intro ?_ ?_; first | omega | assumption | (simp only [inI]; omega))
 refine okC_seq ?_
 refine okC_rg good ?_
 simp [go_sem]
 repeat (with_reducible refine And.intro ?_ ?_; first | omega | assumption | (simp only [inI]; omega))
 refine okC_if ?_
 simp [go_sem]
 first | refine gC_dec (fun e => ?_) (fun e => ?_) | refine gC_ndec (fun e => ?_) (fun e => ?_) | refine gC_of (fun e => ?_) (fun e => ?_)
 ·try simp at e
  have hf : belowF b n c = (0, c) := by unfold belowF; rw [if_pos e]
  refine okC_rg good ?_
  simp [go_sem, hf]
  repeat (with_reducible refine And.intro ?_ ?_; first | omega | assumption | (simp only [inI]; omega))
  refine okC_ret ?_
  simp [go_sem, hf]
  all_goals first | done | omega | grind | (simp; omega) | (simp_all; done) | (simp_all; omega)
 ·try simp at e
  refine okC_skip ?_
  refine okC_seq ?_
  refine okC_rg good ?_
  simp [go_sem]
  repeat (with_reducible refine And.intro ?_ ?_; first | omega | assumption | (simp only [inI]; omega))
  refine okC_if ?_
  simp [go_sem]
  first | refine gC_dec (fun g => ?_) (fun g => ?_) | refine gC_ndec (fun g => ?_) (fun g => ?_) | refine gC_of (fun g => ?_) (fun g => ?_)
  ·try simp at g
   have hf : belowF b n c = ((byteF b c).1.tmod n, (byteF b c).2) := by unfold belowF; rw [if_neg (by omega), if_pos g]
   refine okC_rg good ?_
   simp [go_sem, hf]
   repeat (with_reducible refine And.intro ?_ ?_; first | omega | assumption | (simp only [inI]; omega))
   refine callMK_of rfl (fn_spec_l1Byte _ _ (by first | assumption | omega | (simp; omega) | grind)) ?_
   rintro r d ⟨rfl, rfl⟩
   simp [go_sem, hf]
   repeat (with_reducible refine And.intro ?_ ?_; first | omega | assumption | (simp only [inI]; omega))
   refine okC_ret ?_
   simp [go_sem, hf]
   all_goals first | done | omega | grind | (simp; omega) | (simp_all; done) | (simp_all; omega)
  ·try simp at g
   refine okC_skip ?_
   have hf : belowF b n c = ((((byteF b c).1 * 16777216 + (byteF b (byteF b c).2).1 * 65536) + (byteF b (byteF b (byteF b c).2).2).1 * 256 + (byteF b (byteF b (byteF b (byteF b c).2).2).2).1).tmod n, (byteF b (byteF b (byteF b (byteF b c).2).2).2).2) := by unfold belowF; rw [if_neg (by omega), if_neg (by omega)]
   have h1 := hr c; have h2 := hr (byteF b c).2; have h3 := hr (byteF b (byteF b c).2).2; have h4 := hr (byteF b (byteF b (byteF b c).2).2).2
   refine okC_rg good ?_
   simp [go_sem, hf]
   repeat (with_reducible refine And.intro ?_ ?_; first | omega | assumption | (simp only [inI]; omega))
   refine callMK_of rfl (fn_spec_l1Byte _ _ (by first | assumption | omega | (simp; omega) | grind)) ?_
   rintro r d ⟨rfl, rfl⟩
   simp [go_sem, hf]
   repeat (with_reducible refine And.intro ?_ ?_; first | omega | assumption | (simp only [inI]; omega))
   refine okC_rg good ?_
   simp [go_sem, hf]
   repeat (with_reducible refine And.intro ?_ ?_; first | omega | assumption | (simp only [inI]; omega))
   refine callMK_of rfl (fn_spec_l1Byte _ _ (by first | assumption | omega | (simp; omega) | grind)) ?_
   rintro r d ⟨rfl, rfl⟩
   simp [go_sem, hf]
   repeat (with_reducible refine And.intro ?_ ?_; first | omega | assumption | (simp only [inI]; omega))
   refine okC_rg good ?_
   simp [go_sem, hf]
   repeat (with_reducible refine And.intro ?_ ?_; first | omega | assumption | (simp only [inI]; omega))
   refine callMK_of rfl (fn_spec_l1Byte _ _ (by first | assumption | omega | (simp; omega) | grind)) ?_
   rintro r d ⟨rfl, rfl⟩
   simp [go_sem, hf]
   repeat (with_reducible refine And.intro ?_ ?_; first | omega | assumption | (simp only [inI]; omega))
   refine okC_rg good ?_
   simp [go_sem, hf]
   repeat (with_reducible refine And.intro ?_ ?_; first | omega | assumption | (simp only [inI]; omega))
   refine callMK_of rfl (fn_spec_l1Byte _ _ (by first | assumption | omega | (simp; omega) | grind)) ?_
   rintro r d ⟨rfl, rfl⟩
   simp [go_sem, hf]
   repeat (with_reducible refine And.intro ?_ ?_; first | omega | assumption | (simp only [inI]; omega))
   refine okC_rg good ?_
   simp [go_sem, hf]
   repeat (with_reducible refine And.intro ?_ ?_; first | omega | assumption | (simp only [inI]; omega))
   refine okC_ret ?_
   simp [go_sem, hf]
   all_goals first | done | omega | grind | (simp; omega) | (simp_all; done) | (simp_all; omega)
theorem fn_spec_l1Once (b : Str) (n : Int) (c : Cur) (hb : b.length ≤ 1048576) : FnMu Tryz.prog 54 [.one (.bool false), dI n] 0 (oCur b c) (fun r d => r = .val (dB (onceF b n c).1) ∧ d = oCur b (onceF b n c).2) := by
 refine fn_mut good (rs := [.tmp 4]) Tryz.func54 rfl Tryz.ntmps54 (by decide) (by simp) rfl fun w0 ow0 v0 => ?_
 simp only [mutSt]
 refine okC_rg good ?_
 simp [go_sem]
 repeat (with_reducible refine And.intro ?_ ?_; first | omega | assumption | (simp only [inI]; omega))
 refine okC_rg good ?_
 simp [go_sem]
 repeat (with_reducible refine And.intro ?_ ?_; first | omega | assumption | (simp only [inI]; omega))
 refine callMK_of rfl (fn_spec_l1Below _ _ _ (by first | assumption | omega | (simp; omega) | grind)) ?_
 rintro r d ⟨rfl, rfl⟩
 simp [go_sem]
 repeat (with_reducible refine And.intro ?_ ?_; first | omega | assumption | (simp only [inI]; omega))
 refine okC_ret ?_
 simp [go_sem]
 exact ⟨rfl, rfl⟩
theorem fn_spec_l1PickInt (b : Str) (l : List Int) (c : Cur) (hb : b.length ≤ 1048576) (hl : 0 < l.length ∧ l.length ≤ 100) : FnMu Tryz.prog 36 [.one (.bool false), .sl none (l.map dI)] 0 (oCur b c) (fun r d => r = .val (dI (pickF b l 0 c).1) ∧ d = oCur b (pickF b l 0 c).2) := by
 refine fn_mut good (rs := [.tmp 4]) Tryz.func36 rfl Tryz.ntmps36 (by decide) (by simp) rfl fun w0 ow0 v0 => ?_
 simp only [mutSt]
 have hr := belowF_range b (n := (l.length : Int)) (by omega) c
 obtain ⟨x, hx⟩ := at_of (l := l) (i := (belowF b l.length c).1.toNat) (by omega)
 have hf : pickF b l 0 c = (x, (belowF b l.length c).2) := by simp [pickF, hx]
 refine okC_rg good ?_
 simp [go_sem, hx, hf]
 repeat (with_reducible refine And.intro ?_ ?_; first | omega | assumption | (simp only [inI]; omega))
 refine okC_rg good ?_
 simp [go_sem, hx, hf]
 repeat (with_reducible refine And.intro ?_ ?_; first | omega | assumption | (simp only [inI]; omega))
 refine callMK_of rfl (fn_spec_l1Below _ _ _ (by first | assumption | omega | (simp; omega) | grind)) ?_
 rintro r d ⟨rfl, rfl⟩
 simp [go_sem, hx, hf]
 repeat (with_reducible refine And.intro ?_ ?_; first | omega | assumption | (simp only [inI]; omega))
 refine okC_ret ?_
 simp [go_sem, hx, hf]
 all_goals first | done | omega | grind | (simp; omega) | (simp_all; done) | (simp_all; omega)
theorem fn_spec_l1Pick (b : Str) (l : List Str) (c : Cur) (hb : b.length ≤ 1048576) (hl : 0 < l.length ∧ l.length ≤ 100) : FnMu Tryz.prog 138 [.one (.bool false), nStrs l] 0 (oCur b c) (fun r d => r = .val (dS (pickF b l [] c).1) ∧ d = oCur b (pickF b l [] c).2) := by
 refine fn_mut good (rs := [.tmp 4]) Tryz.func138 rfl Tryz.ntmps138 (by decide) (by simp) rfl fun w0 ow0 v0 => ?_
 simp only [mutSt]
 have hr := belowF_range b (n := (l.length : Int)) (by omega) c
 obtain ⟨x, hx⟩ := at_of (l := l) (i := (belowF b l.length c).1.toNat) (by omega)
 have hf : pickF b l [] c = (x, (belowF b l.length c).2) := by simp [pickF, hx]
 refine okC_rg good ?_
 simp [go_sem, hx, hf]
 repeat (with_reducible refine And.intro ?_ ?_; first | omega | assumption | (simp only [inI]; omega))
 refine okC_rg good ?_
 simp [go_sem, hx, hf]
 repeat (with_reducible refine And.intro ?_ ?_; first | omega | assumption | (simp only [inI]; omega))
 refine callMK_of rfl (fn_spec_l1Below _ _ _ (by first | assumption | omega | (simp; omega) | grind)) ?_
 rintro r d ⟨rfl, rfl⟩
 simp [go_sem, hx, hf]
 repeat (with_reducible refine And.intro ?_ ?_; first | omega | assumption | (simp only [inI]; omega))
 refine okC_ret ?_
 simp [go_sem, hx, hf]
 all_goals first | done | omega | grind | (simp; omega) | (simp_all; done) | (simp_all; omega)
end Go.Proofs.YtfhfidecmdhkoaaGreatDoor

end
section
set_option maxRecDepth 10000
namespace Go.Proofs.YtfhfidecmdhkoaaGreatDoor
open Go.Dv Go.Pl
theorem fn_spec_l1Text (b : Str) (most : Int) (c : Cur) (hb : b.length ≤ 1048576) (hm : 0 ≤ most ∧ most ≤ 100) : FnMu Tryz.prog 85 [.one (.bool false), dI most] 0 (oCur b c) (fun r d => r = .val (dS (textF b most c).1) ∧ d = oCur b (textF b most c).2) := by
 refine fn_mut good (rs := [.tmp 4]) Tryz.func85 rfl Tryz.ntmps85 (by decide) (by simp) rfl fun w0 ow0 v0 => ?_
 simp only [mutSt]
 obtain ⟨T, hT⟩ : ∃ T, textF b most c = T := ⟨_, rfl⟩
 obtain ⟨p, hp⟩ : ∃ p, belowF b 4 c = p := ⟨_, rfl⟩
 obtain ⟨q, hq⟩ : ∃ q, belowF b (most + 1) p.2 = q := ⟨_, rfl⟩
 have hqr := belowF_range b (n := most + 1) (by omega) p.2
 rw [hq] at hqr
 obtain ⟨n, hn⟩ : ∃ n : Nat, q.1 = n := ⟨q.1.toNat, by omega⟩
 have hT2 : textL b p.1 n q.2 [] = T := by rw [← hT, textF, hp, hq, hn]; rfl
 have hr := byteF_range b
 refine okC_rg good ?_
 simp [go_sem, hT, hp, hq, hn]
 repeat (with_reducible refine And.intro ?_ ?_; first | omega | assumption | (simp only [inI]; omega))
 refine okC_rg good ?_
 simp [go_sem, hT, hp, hq, hn]
 repeat (with_reducible refine And.intro ?_ ?_; first | omega | assumption | (simp only [inI]; omega))
 refine okC_rg good ?_
 simp [go_sem, hT, hp, hq, hn]
 repeat (with_reducible refine And.intro ?_ ?_; first | omega | assumption | (simp only [inI]; omega))
 refine callMK_of rfl (fn_spec_l1Below _ _ _ (by first | assumption | omega | (simp; omega) | grind)) ?_
 rintro r d ⟨rfl, rfl⟩
 simp [go_sem, hT, hp, hq, hn]
 repeat (with_reducible refine And.intro ?_ ?_; first | omega | assumption | (simp only [inI]; omega))
 refine okC_seq ?_
 refine okC_rg good ?_
 simp [go_sem, hT, hp, hq, hn]
 repeat (with_reducible refine And.intro ?_ ?_; first | omega | assumption | (simp only [inI]; omega))
 refine callMK_of rfl (fn_spec_l1Below _ _ _ (by first | assumption | omega | (simp; omega) | grind)) ?_
 rintro r d ⟨rfl, rfl⟩
 simp [go_sem, hT, hp, hq, hn]
 repeat (with_reducible refine And.intro ?_ ?_; first | omega | assumption | (simp only [inI]; omega))
 refine okC_block ?_
 refine okC_rounds (fun (x' : (Nat) × (Cur) × (Str)) => match x' with | (k, d, o) => [(0, .own (oCur b d)), (5, .own (.sl (some 5) (o.map dU))), (6, .val (dI p.1)), (7, .val (dI k))]) (fun (x' : (Nat) × (Cur) × (Str)) => match x' with | (k, d, o) => k) (fun (x' : (Nat) × (Cur) × (Str)) => match x' with | (k, d, o) => (textL b p.1 k d o = T) ∧ (o.length + k ≤ 100)) ((n, q.2, [])) [] ⟨(hT2), (by simp; omega)⟩ (by simp [go_sem, hT, hp, hq, hn]) ?_
 rintro ⟨k, d, o⟩ ⟨h1, h2⟩ K1 hK1
 simp only at h1 h2 ⊢
 refine okC_seq ?_
 refine okC_rg good ?_
 simp [go_sem, hT, hp, hq, hn]
 repeat (with_reducible refine And.intro ?_ ?_; first | omega | assumption | (simp only [inI]; omega))
 refine okC_if ?_
 simp [go_sem, hT, hp, hq, hn]
 first | refine gC_dec (fun a => ?_) (fun a => ?_) | refine gC_ndec (fun a => ?_) (fun a => ?_) | refine gC_of (fun a => ?_) (fun a => ?_)
 ·try simp at a
  refine okC_skip ?_
  refine okC_seq ?_
  refine okC_block ?_
  obtain ⟨k, rfl⟩ : ∃ k', k = k' + 1 := ⟨k - 1, by omega⟩
  have hrd := hr d
  have hk1 : ((k + 1 : Nat) : Int) - 1 = (k : Int) := by omega
  unfold textL at h1
  have hm4 := tmod_range (x := (byteF b d).1) (n := 4) hrd.1 (by omega)
  refine okC_rg good ?_
  simp [go_sem, hT, hp, hq, hn, u8_wrap, hk1]
  repeat (with_reducible refine And.intro ?_ ?_; first | omega | assumption | (simp only [inI]; omega))
  refine callMK_of rfl (fn_spec_l1Byte _ _ (by first | assumption | omega | (simp; omega) | grind)) ?_
  rintro r d ⟨rfl, rfl⟩
  simp [go_sem, hT, hp, hq, hn, u8_wrap, hk1]
  repeat (with_reducible refine And.intro ?_ ?_; first | omega | assumption | (simp only [inI]; omega))
  refine okC_seq ?_
  refine okC_rg good ?_
  simp [go_sem, hT, hp, hq, hn, u8_wrap, hk1]
  repeat (with_reducible refine And.intro ?_ ?_; first | omega | assumption | (simp only [inI]; omega))
  refine okC_if ?_
  simp [go_sem, hT, hp, hq, hn, u8_wrap, hk1]
  first | refine gC_dec (fun s => ?_) (fun s => ?_) | refine gC_ndec (fun s => ?_) (fun s => ?_) | refine gC_of (fun s => ?_) (fun s => ?_)
  ·try simp at s
   have hs : styF p.1 (byteF b d).1 = (byteF b d).1.tmod 2 := by simp [styF, s]
   refine okC_rg1 good ?_
   simp [go_sem, hT, hp, hq, hn, u8_wrap, hk1]
   repeat (with_reducible refine And.intro ?_ ?_; first | omega | assumption | (simp only [inI]; omega))
   refine okC_seq ?_
   refine okC_rg good ?_
   simp [go_sem, hT, hp, hq, hn, u8_wrap, hk1]
   repeat (with_reducible refine And.intro ?_ ?_; first | omega | assumption | (simp only [inI]; omega))
   refine okC_if ?_
   simp [go_sem, hT, hp, hq, hn, u8_wrap, hk1]
   first | refine gC_dec (fun t => ?_) (fun t => ?_) | refine gC_ndec (fun t => ?_) (fun t => ?_) | refine gC_of (fun t => ?_) (fun t => ?_)
   ·try simp at t
    exfalso; omega
   ·try simp at t
    refine okC_skip ?_
    refine okC_rg1 good ?_
    simp [go_sem, hT, hp, hq, hn, u8_wrap, hk1]
    repeat (with_reducible refine And.intro ?_ ?_; first | omega | assumption | (simp only [inI]; omega))
    refine okC_rg1 good ?_
    simp [go_sem, hT, hp, hq, hn, u8_wrap, hk1]
    repeat (with_reducible refine And.intro ?_ ?_; first | omega | assumption | (simp only [inI]; omega))
    refine normalE hK1 ⟨(k, (byteF b d).2, o ++ [u8F ((byteF b d).1.tmod 2)]), [], ⟨(by rw [hs] at h1; exact h1), (by rw [List.length_append]; exact (by omega : o.length + 1 + k ≤ 100))⟩, (by show _ < _; first | omega | simp <;> omega), (by simp [go_sem, hT, hp, hq, hn, u8_wrap, hk1])⟩
  ·try simp at s
   refine okC_skip ?_
   refine okC_seq ?_
   refine okC_rg good ?_
   simp [go_sem, hT, hp, hq, hn, u8_wrap, hk1]
   repeat (with_reducible refine And.intro ?_ ?_; first | omega | assumption | (simp only [inI]; omega))
   refine okC_if ?_
   simp [go_sem, hT, hp, hq, hn, u8_wrap, hk1]
   first | refine gC_dec (fun t => ?_) (fun t => ?_) | refine gC_ndec (fun t => ?_) (fun t => ?_) | refine gC_of (fun t => ?_) (fun t => ?_)
   ·try simp at t
    have hs : styF p.1 (byteF b d).1 = 97 + (byteF b d).1.tmod 4 := by simp [styF, t]
    refine okC_rg1 good ?_
    simp [go_sem, hT, hp, hq, hn, u8_wrap, hk1]
    repeat (with_reducible refine And.intro ?_ ?_; first | omega | assumption | (simp only [inI]; omega))
    refine okC_rg1 good ?_
    simp [go_sem, hT, hp, hq, hn, u8_wrap, hk1]
    repeat (with_reducible refine And.intro ?_ ?_; first | omega | assumption | (simp only [inI]; omega))
    refine okC_rg1 good ?_
    simp [go_sem, hT, hp, hq, hn, u8_wrap, hk1]
    repeat (with_reducible refine And.intro ?_ ?_; first | omega | assumption | (simp only [inI]; omega))
    refine normalE hK1 ⟨(k, (byteF b d).2, o ++ [u8F (97 + (byteF b d).1.tmod 4)]), [], ⟨(by rw [hs] at h1; exact h1), (by rw [List.length_append]; exact (by omega : o.length + 1 + k ≤ 100))⟩, (by show _ < _; first | omega | simp <;> omega), (by simp [go_sem, hT, hp, hq, hn, u8_wrap, hk1])⟩
   ·try simp at t
    refine okC_skip ?_
    have hs : styF p.1 (byteF b d).1 = (byteF b d).1 := by simp [styF, s, t]
    refine okC_rg1 good ?_
    simp [go_sem, hT, hp, hq, hn, u8_wrap, hk1]
    repeat (with_reducible refine And.intro ?_ ?_; first | omega | assumption | (simp only [inI]; omega))
    refine okC_rg1 good ?_
    simp [go_sem, hT, hp, hq, hn, u8_wrap, hk1]
    repeat (with_reducible refine And.intro ?_ ?_; first | omega | assumption | (simp only [inI]; omega))
    refine normalE hK1 ⟨(k, (byteF b d).2, o ++ [u8F (byteF b d).1]), [], ⟨(by rw [hs] at h1; exact h1), (by rw [List.length_append]; exact (by omega : o.length + 1 + k ≤ 100))⟩, (by show _ < _; first | omega | simp <;> omega), (by simp [go_sem, hT, hp, hq, hn, u8_wrap, hk1])⟩
 ·try simp at a
  refine okC_exit (show K1 _ _ from exitE hK1 ?_)
  refine okC_rg good ?_
  simp [go_sem, hT, hp, hq, hn]
  repeat (with_reducible refine And.intro ?_ ?_; first | omega | assumption | (simp only [inI]; omega))
  refine okC_ret ?_
  simp [go_sem, hT, hp, hq, hn]
  all_goals (obtain rfl : k = 0 := by omega); simp only [textL] at h1; subst h1; exact ⟨rfl, rfl⟩
theorem fn_spec_l1Spoil (b s : Str) (c : Cur) (hb : b.length ≤ 1048576) (hs : s.length ≤ 100000) : FnMu Tryz.prog 55 [.one (.bool false), dS s] 0 (oCur b c) (fun r d => r = .val (dS (spoilF b s c).1) ∧ d = oCur b (spoilF b s c).2) := by
 refine fn_mut good (rs := [.tmp 4]) Tryz.func55 rfl Tryz.ntmps55 (by decide) (by simp) rfl fun w0 ow0 v0 => ?_
 simp only [mutSt]
 refine okC_rg good ?_
 simp [go_sem]
 repeat (with_reducible refine And.intro ?_ ?_; first | omega | assumption | (simp only [inI]; omega))
 refine okC_seq ?_
 refine okC_rg good ?_
 simp [go_sem]
 repeat (with_reducible refine And.intro ?_ ?_; first | omega | assumption | (simp only [inI]; omega))
 refine okC_if ?_
 simp [go_sem]
 first | refine gC_dec (fun e => ?_) (fun e => ?_) | refine gC_ndec (fun e => ?_) (fun e => ?_) | refine gC_of (fun e => ?_) (fun e => ?_)
 ·try simp at e
  have hf : spoilF b s c = textF b 3 c := by unfold spoilF; rw [if_pos e]
  refine okC_rg good ?_
  simp [go_sem, hf]
  repeat (with_reducible refine And.intro ?_ ?_; first | omega | assumption | (simp only [inI]; omega))
  refine callMK_of rfl (fn_spec_l1Text b 3 c (by first | assumption | omega | (simp; omega) | grind) (by first | assumption | omega | (simp; omega) | grind)) ?_
  rintro r d ⟨rfl, rfl⟩
  simp [go_sem, hf]
  repeat (with_reducible refine And.intro ?_ ?_; first | omega | assumption | (simp only [inI]; omega))
  refine okC_ret ?_
  simp [go_sem, hf]
  all_goals first | done | omega | grind | (simp; omega) | (simp_all; done) | (simp_all; omega)
 ·try simp at e
  refine okC_skip ?_
  have hl : 0 < s.length := List.length_pos_iff.2 e
  have hkr := belowF_range b (n := (s.length : Int)) (by omega) c
  obtain ⟨p, hp⟩ : ∃ p, belowF b s.length c = p := ⟨_, rfl⟩
  rw [hp] at hkr
  obtain ⟨k, hk⟩ : ∃ k : Nat, p.1 = k := ⟨p.1.toNat, by omega⟩
  obtain ⟨m, hm⟩ : ∃ m, belowF b 4 p.2 = m := ⟨_, rfl⟩
  have hf : spoilF b s c = if m.1 = 0 then (s.take k ++ s.drop (k + 1), m.2) else if m.1 = 1 then (s.take k ++ [u8F (byteF b m.2).1] ++ s.drop k, (byteF b m.2).2) else if m.1 = 2 then (s.take k, m.2) else (s.take k ++ [u8F (bitsI .xor .i64 ((s.getD k 0).toNat) (1 + (belowF b 255 m.2).1))] ++ s.drop (k + 1), (belowF b 255 m.2).2) := by unfold spoilF; rw [if_neg e]; simp only [hp, hk, hm]; rfl
  refine okC_rg good ?_
  simp [go_sem, hp, hk, hm]
  repeat (with_reducible refine And.intro ?_ ?_; first | omega | assumption | (simp only [inI]; omega))
  refine callMK_of rfl (fn_spec_l1Below _ _ _ (by first | assumption | omega | (simp; omega) | grind)) ?_
  rintro r d ⟨rfl, rfl⟩
  simp [go_sem, hp, hk, hm]
  repeat (with_reducible refine And.intro ?_ ?_; first | omega | assumption | (simp only [inI]; omega))
  refine okC_seq ?_
  refine okC_rg good ?_
  simp [go_sem, hp, hk, hm]
  repeat (with_reducible refine And.intro ?_ ?_; first | omega | assumption | (simp only [inI]; omega))
  refine callMK_of rfl (fn_spec_l1Below _ _ _ (by first | assumption | omega | (simp; omega) | grind)) ?_
  rintro r d ⟨rfl, rfl⟩
  simp [go_sem, hp, hk, hm]
  repeat (with_reducible refine And.intro ?_ ?_; first | omega | assumption | (simp only [inI]; omega))
  refine okC_block ?_
  refine okC_rg good ?_
  simp [go_sem, hp, hk, hm]
  repeat (with_reducible refine And.intro ?_ ?_; first | omega | assumption | (simp only [inI]; omega))
  refine okC_if ?_
  simp [go_sem, hp, hk, hm]
  first | refine gC_dec (fun a => ?_) (fun a => ?_) | refine gC_ndec (fun a => ?_) (fun a => ?_) | refine gC_of (fun a => ?_) (fun a => ?_)
  ·try simp at a
   rw [if_pos a] at hf
   refine okC_dt good 8 rfl (by decide) (by kernel_rfl) ?_
   simp [go_sem, hp, hk, hm, hf]
   repeat (with_reducible refine And.intro ?_ ?_; first | omega | assumption | (simp only [inI]; omega))
   refine okC_ret ?_
   simp [go_sem, hp, hk, hm, hf]
   all_goals first | done | omega | grind | (simp; omega) | (simp_all; done) | (simp_all; omega)
  ·try simp at a
   refine okC_rg good ?_
   simp [go_sem, hp, hk, hm]
   repeat (with_reducible refine And.intro ?_ ?_; first | omega | assumption | (simp only [inI]; omega))
   refine okC_if ?_
   simp [go_sem, hp, hk, hm]
   first | refine gC_dec (fun a2 => ?_) (fun a2 => ?_) | refine gC_ndec (fun a2 => ?_) (fun a2 => ?_) | refine gC_of (fun a2 => ?_) (fun a2 => ?_)
   ·try simp at a2
    rw [if_neg a, if_pos a2] at hf
    refine okC_df good [(4, [32, 33, 0]), (6, [34, 35]), (13, [41, 4])] [(0, .own (oCur b m.2)), (1, .val (dS s)), (4, .val (dS [])), (5, .val (dI k))] [] rfl (by decide) (by kernel_rfl) (by simp [go_sem, hp, hk, hm, hf, u8_wrap]) ?_
    simp [go_sem, hp, hk, hm, hf, u8_wrap]
    repeat (with_reducible refine And.intro ?_ ?_; first | omega | assumption | (simp only [inI]; omega))
    refine callMF_of rfl (fn_spec_l1Byte _ _ (by first | assumption | omega | (simp; omega) | grind)) ?_
    simp [go_sem, hp, hk, hm, hf, u8_wrap]
    repeat (with_reducible refine And.intro ?_ ?_; first | omega | assumption | (simp only [inI]; omega))
    refine okC_ret ?_
    simp [go_sem, hp, hk, hm, hf, u8_wrap]
    all_goals first | done | omega | grind | (simp; omega) | (simp_all; done) | (simp_all; omega)
   ·try simp at a2
    refine okC_rg good ?_
    simp [go_sem, hp, hk, hm]
    repeat (with_reducible refine And.intro ?_ ?_; first | omega | assumption | (simp only [inI]; omega))
    refine okC_if ?_
    simp [go_sem, hp, hk, hm]
    first | refine gC_dec (fun a3 => ?_) (fun a3 => ?_) | refine gC_ndec (fun a3 => ?_) (fun a3 => ?_) | refine gC_of (fun a3 => ?_) (fun a3 => ?_)
    ·try simp at a3
     rw [if_neg a, if_neg a2, if_pos a3] at hf
     refine okC_rg good ?_
     simp [go_sem, hp, hk, hm, hf]
     repeat (with_reducible refine And.intro ?_ ?_; first | omega | assumption | (simp only [inI]; omega))
     refine okC_ret ?_
     simp [go_sem, hp, hk, hm, hf]
     all_goals first | done | omega | grind | (simp; omega) | (simp_all; done) | (simp_all; omega)
    ·try simp at a3
     refine okC_skip ?_
     rw [if_neg a, if_neg a2, if_neg a3] at hf
     obtain ⟨z, hz⟩ := at_of (l := s) (i := k) (by omega)
     have hzl := z.toNat_lt
     have hgd : s.getD k 0 = z := by simp [List.getD_eq_getElem?_getD, hz]
     rw [hgd] at hf
     have h255 := belowF_range b (n := 255) (by omega) m.2
     refine okC_df good [(8, [54, 55, 0]), (12, [58, 59]), (20, [66, 4])] [(0, .own (oCur b m.2)), (1, .val (dS s)), (4, .val (dS [])), (5, .val (dI k))] [] rfl (by decide) (by kernel_rfl) (by simp [go_sem, hp, hk, hm, hf, u8_wrap, hz]) ?_
     simp [go_sem, hp, hk, hm, hf, u8_wrap, hz]
     repeat (with_reducible refine And.intro ?_ ?_; first | omega | assumption | (simp only [inI]; omega))
     refine callMF_of rfl (fn_spec_l1Below _ _ _ (by first | assumption | omega | (simp; omega) | grind)) ?_
     simp [go_sem, hp, hk, hm, hf, u8_wrap, hz]
     repeat (with_reducible refine And.intro ?_ ?_; first | omega | assumption | (simp only [inI]; omega))
     refine okC_ret ?_
     simp [go_sem, hp, hk, hm, hf, u8_wrap, hz]
     all_goals first | done | omega | grind | (simp; omega) | (simp_all; done) | (simp_all; omega)
end Go.Proofs.YtfhfidecmdhkoaaGreatDoor

end
section
set_option maxRecDepth 10000
namespace Go.Proofs.YtfhfidecmdhkoaaGreatDoor
open Go.Dv Go.Pl
theorem fn_spec_l28Member (b : Str) (c : Cur) (hb : b.length ≤ 1048576) : FnMu Tryz.prog 140 [.one (.bool false)] 0 (oCur b c) (fun r d => r = .val (dI (memF b c).1) ∧ d = oCur b (memF b c).2) := by
 refine fn_mut good (rs := [.tmp 2]) Tryz.func140 rfl Tryz.ntmps140 (by decide) (by simp) rfl fun w0 ow0 v0 => ?_
 simp only [mutSt]
 have h1 := belowF_range b (n := 3) (by omega) c
 have h2 := belowF_range b (n := 2) (by omega) (belowF b 3 c).2
 refine okC_rg good ?_
 simp [go_sem]
 repeat (with_reducible refine And.intro ?_ ?_; first | omega | assumption | (simp only [inI]; omega))
 refine okC_rg good ?_
 simp [go_sem]
 repeat (with_reducible refine And.intro ?_ ?_; first | omega | assumption | (simp only [inI]; omega))
 refine callMK_of rfl (fn_spec_l1Below _ _ _ (by first | assumption | omega | (simp; omega) | grind)) ?_
 rintro r d ⟨rfl, rfl⟩
 simp [go_sem]
 repeat (with_reducible refine And.intro ?_ ?_; first | omega | assumption | (simp only [inI]; omega))
 refine callMK_of rfl (fn_spec_l1Below _ _ _ (by first | assumption | omega | (simp; omega) | grind)) ?_
 rintro r d ⟨rfl, rfl⟩
 simp [go_sem]
 repeat (with_reducible refine And.intro ?_ ?_; first | omega | assumption | (simp only [inI]; omega))
 refine okC_ret ?_
 simp [go_sem]
 exact ⟨rfl, rfl⟩
theorem fn_spec_l28Verdict (b : Str) (c : Cur) (hb : b.length ≤ 1048576) : FnMu Tryz.prog 99 [.one (.bool false)] 0 (oCur b c) (fun r d => r = .val (dVer (verF b c).1) ∧ d = oCur b (verF b c).2) := by
 refine fn_mut good (rs := [.cell 2 79]) Tryz.func99 rfl Tryz.ntmps99 (by decide) (by simp) rfl fun w0 ow0 v0 => ?_
 simp only [mutSt]
 obtain ⟨x, hx⟩ : ∃ x, memF b c = x := ⟨_, rfl⟩
 obtain ⟨y, hy⟩ : ∃ y, memF b x.2 = y := ⟨_, rfl⟩
 obtain ⟨o, ho⟩ : ∃ o, onceF b 3 y.2 = o := ⟨_, rfl⟩
 obtain ⟨t, ht⟩ : ∃ t, belowF b 6 o.2 = t := ⟨_, rfl⟩
 have hyr := memF_range b x.2
 have htr := belowF_range b (n := 6) (by omega) o.2
 rw [hy] at hyr
 rw [ht] at htr
 refine okC_rg good ?_
 simp [go_sem, hx, hy, ho, ht]
 repeat (with_reducible refine And.intro ?_ ?_; first | omega | assumption | (simp only [inI]; omega))
 refine okC_rg good ?_
 simp [go_sem, hx, hy, ho, ht]
 repeat (with_reducible refine And.intro ?_ ?_; first | omega | assumption | (simp only [inI]; omega))
 refine callMK_of rfl (fn_spec_l28Member _ _ (by first | assumption | omega | (simp; omega) | grind)) ?_
 rintro r d ⟨rfl, rfl⟩
 simp [go_sem, hx, hy, ho, ht]
 repeat (with_reducible refine And.intro ?_ ?_; first | omega | assumption | (simp only [inI]; omega))
 refine okC_rg good ?_
 simp [go_sem, hx, hy, ho, ht]
 repeat (with_reducible refine And.intro ?_ ?_; first | omega | assumption | (simp only [inI]; omega))
 refine callMK_of rfl (fn_spec_l28Member _ _ (by first | assumption | omega | (simp; omega) | grind)) ?_
 rintro r d ⟨rfl, rfl⟩
 simp [go_sem, hx, hy, ho, ht]
 repeat (with_reducible refine And.intro ?_ ?_; first | omega | assumption | (simp only [inI]; omega))
 refine okC_seq ?_
 refine okC_rg good ?_
 simp [go_sem, hx, hy, ho, ht]
 repeat (with_reducible refine And.intro ?_ ?_; first | omega | assumption | (simp only [inI]; omega))
 refine okC_if ?_
 simp [go_sem, hx, hy, ho, ht]
 first | refine gC_dec (fun a => ?_) (fun a => ?_) | refine gC_ndec (fun a => ?_) (fun a => ?_) | refine gC_of (fun a => ?_) (fun a => ?_)
 ·try simp at a
  have hf : verF b c = (⟨min x.1 (y.1 + 1), max x.1 (y.1 + 1), !o.1, 1 + t.1⟩, t.2) := by simp only [verF, hx, hy, ho, ht, if_pos a]
  refine okC_rg1 good ?_
  simp [go_sem, hx, hy, ho, ht, hf]
  repeat (with_reducible refine And.intro ?_ ?_; first | omega | assumption | (simp only [inI]; omega))
  refine okC_rg good ?_
  simp [go_sem, hx, hy, ho, ht, hf]
  repeat (with_reducible refine And.intro ?_ ?_; first | omega | assumption | (simp only [inI]; omega))
  refine callMK_of rfl (fn_spec_l1Once _ _ _ (by first | assumption | omega | (simp; omega) | grind)) ?_
  rintro r d ⟨rfl, rfl⟩
  simp [go_sem, hx, hy, ho, ht, hf]
  repeat (with_reducible refine And.intro ?_ ?_; first | omega | assumption | (simp only [inI]; omega))
  refine callMK_of rfl (fn_spec_l1Below _ _ _ (by first | assumption | omega | (simp; omega) | grind)) ?_
  rintro r d ⟨rfl, rfl⟩
  simp [go_sem, hx, hy, ho, ht, hf]
  repeat (with_reducible refine And.intro ?_ ?_; first | omega | assumption | (simp only [inI]; omega))
  refine okC_ret ?_
  simp [go_sem, hx, hy, ho, ht, hf]
  all_goals first | done | omega | grind | (simp; omega) | (simp_all; done) | (simp_all; omega)
 ·try simp at a
  refine okC_skip ?_
  have hf : verF b c = (⟨min x.1 y.1, max x.1 y.1, !o.1, 1 + t.1⟩, t.2) := by simp only [verF, hx, hy, ho, ht, if_neg a]
  refine okC_rg good ?_
  simp [go_sem, hx, hy, ho, ht, hf]
  repeat (with_reducible refine And.intro ?_ ?_; first | omega | assumption | (simp only [inI]; omega))
  refine callMK_of rfl (fn_spec_l1Once _ _ _ (by first | assumption | omega | (simp; omega) | grind)) ?_
  rintro r d ⟨rfl, rfl⟩
  simp [go_sem, hx, hy, ho, ht, hf]
  repeat (with_reducible refine And.intro ?_ ?_; first | omega | assumption | (simp only [inI]; omega))
  refine callMK_of rfl (fn_spec_l1Below _ _ _ (by first | assumption | omega | (simp; omega) | grind)) ?_
  rintro r d ⟨rfl, rfl⟩
  simp [go_sem, hx, hy, ho, ht, hf]
  repeat (with_reducible refine And.intro ?_ ?_; first | omega | assumption | (simp only [inI]; omega))
  refine okC_ret ?_
  simp [go_sem, hx, hy, ho, ht, hf]
  all_goals first | done | omega | grind | (simp; omega) | (simp_all; done) | (simp_all; omega)
theorem fn_spec_l28Any (b : Str) (c : Cur) (hb : b.length ≤ 1048576) : FnMu Tryz.prog 97 [.one (.bool false)] 0 (oCur b c) (fun r d => r = .val (dVer (verAnyF b c).1) ∧ d = oCur b (verAnyF b c).2) := by
 refine fn_mut good (rs := [.cell 2 79]) Tryz.func97 rfl Tryz.ntmps97 (by decide) (by simp) rfl fun w0 ow0 v0 => ?_
 simp only [mutSt]
 obtain ⟨v, hv⟩ : ∃ v, verF b c = v := ⟨_, rfl⟩
 obtain ⟨k, hk⟩ : ∃ k, belowF b 14 v.2 = k := ⟨_, rfl⟩
 refine okC_rg good ?_
 simp [go_sem, hv, hk]
 repeat (with_reducible refine And.intro ?_ ?_; first | omega | assumption | (simp only [inI]; omega))
 refine okC_rg good ?_
 simp [go_sem, hv, hk]
 repeat (with_reducible refine And.intro ?_ ?_; first | omega | assumption | (simp only [inI]; omega))
 refine callMK_of rfl (fn_spec_l28Verdict _ _ (by first | assumption | omega | (simp; omega) | grind)) ?_
 rintro r d ⟨rfl, rfl⟩
 simp [go_sem, hv, hk]
 repeat (with_reducible refine And.intro ?_ ?_; first | omega | assumption | (simp only [inI]; omega))
 refine okC_seq ?_
 refine okC_rg good ?_
 simp [go_sem, hv, hk]
 repeat (with_reducible refine And.intro ?_ ?_; first | omega | assumption | (simp only [inI]; omega))
 refine callMK_of rfl (fn_spec_l1Below _ _ _ (by first | assumption | omega | (simp; omega) | grind)) ?_
 rintro r d ⟨rfl, rfl⟩
 simp [go_sem, hv, hk]
 repeat (with_reducible refine And.intro ?_ ?_; first | omega | assumption | (simp only [inI]; omega))
 refine okC_block ?_
 refine okC_rg good ?_
 simp [go_sem, hv, hk]
 repeat (with_reducible refine And.intro ?_ ?_; first | omega | assumption | (simp only [inI]; omega))
 refine okC_if ?_
 simp [go_sem, hv, hk]
 first | refine gC_dec (fun a0 => ?_) (fun a0 => ?_) | refine gC_ndec (fun a0 => ?_) (fun a0 => ?_) | refine gC_of (fun a0 => ?_) (fun a0 => ?_)
 ·try simp at a0
  have hf : verAnyF b c = (⟨(pickF b [0, 399, v.1.b] 0 k.2).1, v.1.b, v.1.same, v.1.time⟩, (pickF b [0, 399, v.1.b] 0 k.2).2) := by simp only [verAnyF, hv, hk, if_pos a0]
  refine okC_rg1 good ?_
  simp [go_sem, hv, hk, hf]
  repeat (with_reducible refine And.intro ?_ ?_; first | omega | assumption | (simp only [inI]; omega))
  refine callMK_of rfl (fn_spec_l1PickInt b [0, 399, v.1.b] k.2 hb (by simp)) ?_
  rintro r d ⟨rfl, rfl⟩
  simp [go_sem, hv, hk, hf]
  repeat (with_reducible refine And.intro ?_ ?_; first | omega | assumption | (simp only [inI]; omega))
  refine okC_rg good ?_
  simp [go_sem, hv, hk, hf]
  repeat (with_reducible refine And.intro ?_ ?_; first | omega | assumption | (simp only [inI]; omega))
  refine okC_ret ?_
  simp [go_sem, hv, hk, hf]
  all_goals first | done | omega | grind | (simp; omega) | (simp_all; done) | (simp_all; omega)
 ·try simp at a0
  refine okC_rg good ?_
  simp [go_sem, hv, hk]
  repeat (with_reducible refine And.intro ?_ ?_; first | omega | assumption | (simp only [inI]; omega))
  refine okC_if ?_
  simp [go_sem, hv, hk]
  first | refine gC_dec (fun a1 => ?_) (fun a1 => ?_) | refine gC_ndec (fun a1 => ?_) (fun a1 => ?_) | refine gC_of (fun a1 => ?_) (fun a1 => ?_)
  ·try simp at a1
   have hf : verAnyF b c = (⟨v.1.a, v.1.b, v.1.same, (pickF b [0, 999, 1000] 0 k.2).1⟩, (pickF b ([0, 999, 1000] : List Int) 0 k.2).2) := by simp only [verAnyF, hv, hk, if_neg a0, if_pos a1]
   refine okC_rg1 good ?_
   simp [go_sem, hv, hk, hf]
   repeat (with_reducible refine And.intro ?_ ?_; first | omega | assumption | (simp only [inI]; omega))
   refine callMK_of rfl (fn_spec_l1PickInt b [0, 999, 1000] k.2 hb (by simp)) ?_
   rintro r d ⟨rfl, rfl⟩
   simp [go_sem, hv, hk, hf]
   repeat (with_reducible refine And.intro ?_ ?_; first | omega | assumption | (simp only [inI]; omega))
   refine okC_rg good ?_
   simp [go_sem, hv, hk, hf]
   repeat (with_reducible refine And.intro ?_ ?_; first | omega | assumption | (simp only [inI]; omega))
   refine okC_ret ?_
   simp [go_sem, hv, hk, hf]
   all_goals first | done | omega | grind | (simp; omega) | (simp_all; done) | (simp_all; omega)
  ·try simp at a1
   refine okC_rg good ?_
   simp [go_sem, hv, hk]
   repeat (with_reducible refine And.intro ?_ ?_; first | omega | assumption | (simp only [inI]; omega))
   refine okC_if ?_
   simp [go_sem, hv, hk]
   first | refine gC_dec (fun a2 => ?_) (fun a2 => ?_) | refine gC_ndec (fun a2 => ?_) (fun a2 => ?_) | refine gC_of (fun a2 => ?_) (fun a2 => ?_)
   ·try simp at a2
    have hf : verAnyF b c = (⟨v.1.a, 400, v.1.same, v.1.time⟩, k.2) := by simp only [verAnyF, hv, hk, if_neg a0, if_neg a1, if_pos a2]
    refine okC_rg1 good ?_
    simp [go_sem, hv, hk, hf]
    repeat (with_reducible refine And.intro ?_ ?_; first | omega | assumption | (simp only [inI]; omega))
    refine okC_rg good ?_
    simp [go_sem, hv, hk, hf]
    repeat (with_reducible refine And.intro ?_ ?_; first | omega | assumption | (simp only [inI]; omega))
    refine okC_ret ?_
    simp [go_sem, hv, hk, hf]
    all_goals first | done | omega | grind | (simp; omega) | (simp_all; done) | (simp_all; omega)
   ·try simp at a2
    refine okC_skip ?_
    have hf : verAnyF b c = (v.1, k.2) := by simp only [verAnyF, hv, hk, if_neg a0, if_neg a1, if_neg a2]
    refine okC_rg good ?_
    simp [go_sem, hv, hk, hf]
    repeat (with_reducible refine And.intro ?_ ?_; first | omega | assumption | (simp only [inI]; omega))
    refine okC_ret ?_
    simp [go_sem, hv, hk, hf]
    all_goals first | done | omega | grind | (simp; omega) | (simp_all; done) | (simp_all; omega)
theorem fn_spec_l2Name (b : Str) (c : Cur) (hb : b.length ≤ 1048576) : FnMu Tryz.prog 166 [.one (.bool false)] 0 (oCur b c) (fun r d => r = .val (dS (nameF b c).1) ∧ d = oCur b (nameF b c).2) := by
 refine fn_mut good (rs := [.tmp 2]) Tryz.func166 rfl Tryz.ntmps166 (by decide) (by simp) rfl fun w0 ow0 v0 => ?_
 simp only [mutSt]
 obtain ⟨f, hf⟩ : ∃ f, pickF b nmA [] c = f := ⟨_, rfl⟩
 obtain ⟨l, hl⟩ : ∃ l, pickF b nmB [] f.2 = l := ⟨_, rfl⟩
 obtain ⟨k, hk⟩ : ∃ k, belowF b 6 l.2 = k := ⟨_, rfl⟩
 have hfl := pick_len b (l := nmA) c (by simp [nmA]) (n := 16) (by decide)
 have hll := pick_len b (l := nmB) f.2 (by simp [nmB]) (n := 16) (by decide)
 have hml := pick_len b (l := nmC) k.2 (by simp [nmC]) (n := 16) (by decide)
 rw [hf] at hfl
 rw [hl] at hll
 refine okC_rg good ?_
 simp [go_sem, hf, hl, hk]
 repeat (with_reducible refine And.intro ?_ ?_; first | omega | assumption | (simp only [inI]; omega))
 refine okC_rg good ?_
 simp [go_sem, hf, hl, hk]
 repeat (with_reducible refine And.intro ?_ ?_; first | omega | assumption | (simp only [inI]; omega))
 refine callMK_of rfl (fn_spec_l1Pick b nmA c hb (by decide)) ?_
 rintro r d ⟨rfl, rfl⟩
 simp [go_sem, hf, hl, hk]
 repeat (with_reducible refine And.intro ?_ ?_; first | omega | assumption | (simp only [inI]; omega))
 refine okC_rg good ?_
 simp [go_sem, hf, hl, hk]
 repeat (with_reducible refine And.intro ?_ ?_; first | omega | assumption | (simp only [inI]; omega))
 refine callMK_of rfl (fn_spec_l1Pick b nmB f.2 hb (by decide)) ?_
 rintro r d ⟨rfl, rfl⟩
 simp [go_sem, hf, hl, hk]
 repeat (with_reducible refine And.intro ?_ ?_; first | omega | assumption | (simp only [inI]; omega))
 refine okC_seq ?_
 refine okC_rg good ?_
 simp [go_sem, hf, hl, hk]
 repeat (with_reducible refine And.intro ?_ ?_; first | omega | assumption | (simp only [inI]; omega))
 refine callMK_of rfl (fn_spec_l1Below _ _ _ (by first | assumption | omega | (simp; omega) | grind)) ?_
 rintro r d ⟨rfl, rfl⟩
 simp [go_sem, hf, hl, hk]
 repeat (with_reducible refine And.intro ?_ ?_; first | omega | assumption | (simp only [inI]; omega))
 refine okC_block ?_
 refine okC_rg good ?_
 simp [go_sem, hf, hl, hk]
 repeat (with_reducible refine And.intro ?_ ?_; first | omega | assumption | (simp only [inI]; omega))
 refine okC_if ?_
 simp [go_sem, hf, hl, hk]
 first | refine gC_dec (fun a0 => ?_) (fun a0 => ?_) | refine gC_ndec (fun a0 => ?_) (fun a0 => ?_) | refine gC_of (fun a0 => ?_) (fun a0 => ?_)
 ·try simp at a0
  have hg : nameF b c = (l.1 ++ [44, 32] ++ f.1, k.2) := by simp only [nameF, hf, hl, hk, if_pos a0]
  refine okC_rg good ?_
  simp [go_sem, hf, hl, hk, hg]
  repeat (with_reducible refine And.intro ?_ ?_; first | omega | assumption | (simp only [inI]; omega))
  refine okC_ret ?_
  simp [go_sem, hf, hl, hk, hg]
  all_goals first | done | omega | grind | (simp; omega) | (simp_all; done) | (simp_all; omega)
 ·try simp at a0
  refine okC_rg good ?_
  simp [go_sem, hf, hl, hk]
  repeat (with_reducible refine And.intro ?_ ?_; first | omega | assumption | (simp only [inI]; omega))
  refine okC_if ?_
  simp [go_sem, hf, hl, hk]
  first | refine gC_dec (fun a1 => ?_) (fun a1 => ?_) | refine gC_ndec (fun a1 => ?_) (fun a1 => ?_) | refine gC_of (fun a1 => ?_) (fun a1 => ?_)
  ·try simp at a1
   obtain ⟨m, hm⟩ : ∃ m, pickF b nmC [] k.2 = m := ⟨_, rfl⟩
   have hg : nameF b c = (f.1 ++ [32] ++ m.1 ++ [32] ++ l.1, m.2) := by simp only [nameF, hf, hl, hk, hm, if_neg a0, if_pos a1]
   rw [hm] at hml
   refine okC_rg good ?_
   simp [go_sem, hf, hl, hk, hg, hm]
   repeat (with_reducible refine And.intro ?_ ?_; first | omega | assumption | (simp only [inI]; omega))
   refine callMK_of rfl (fn_spec_l1Pick b nmC k.2 hb (by decide)) ?_
   rintro r d ⟨rfl, rfl⟩
   simp [go_sem, hf, hl, hk, hg, hm]
   repeat (with_reducible refine And.intro ?_ ?_; first | omega | assumption | (simp only [inI]; omega))
   refine okC_ret ?_
   simp [go_sem, hf, hl, hk, hg, hm]
   all_goals first | done | omega | grind | (simp; omega) | (simp_all; done) | (simp_all; omega)
  ·try simp at a1
   refine okC_rg good ?_
   simp [go_sem, hf, hl, hk]
   repeat (with_reducible refine And.intro ?_ ?_; first | omega | assumption | (simp only [inI]; omega))
   refine okC_if ?_
   simp [go_sem, hf, hl, hk]
   first | refine gC_dec (fun a2 => ?_) (fun a2 => ?_) | refine gC_ndec (fun a2 => ?_) (fun a2 => ?_) | refine gC_of (fun a2 => ?_) (fun a2 => ?_)
   ·try simp at a2
    have hg : nameF b c = (f.1, k.2) := by simp only [nameF, hf, hl, hk, if_neg a0, if_neg a1, if_pos a2]
    refine okC_rg good ?_
    simp [go_sem, hf, hl, hk, hg]
    repeat (with_reducible refine And.intro ?_ ?_; first | omega | assumption | (simp only [inI]; omega))
    refine okC_ret ?_
    simp [go_sem, hf, hl, hk, hg]
    all_goals first | done | omega | grind | (simp; omega) | (simp_all; done) | (simp_all; omega)
   ·try simp at a2
    refine okC_skip ?_
    have hg : nameF b c = (f.1 ++ [32] ++ l.1, k.2) := by simp only [nameF, hf, hl, hk, if_neg a0, if_neg a1, if_neg a2]
    refine okC_rg good ?_
    simp [go_sem, hf, hl, hk, hg]
    repeat (with_reducible refine And.intro ?_ ?_; first | omega | assumption | (simp only [inI]; omega))
    refine okC_ret ?_
    simp [go_sem, hf, hl, hk, hg]
    all_goals first | done | omega | grind | (simp; omega) | (simp_all; done) | (simp_all; omega)
theorem fn_spec_l7Phone (b : Str) (c : Cur) (hb : b.length ≤ 1048576) : FnMu Tryz.prog 167 [.one (.bool false)] 0 (oCur b c) (fun r d => r = .val (dS (pickF b nmPh [] c).1) ∧ d = oCur b (pickF b nmPh [] c).2) := by
 refine fn_mut good (rs := [.tmp 2]) Tryz.func167 rfl Tryz.ntmps167 (by decide) (by simp) rfl fun w0 ow0 v0 => ?_
 simp only [mutSt]
 refine okC_rg good ?_
 simp [go_sem]
 repeat (with_reducible refine And.intro ?_ ?_; first | omega | assumption | (simp only [inI]; omega))
 refine okC_rg good ?_
 simp [go_sem]
 repeat (with_reducible refine And.intro ?_ ?_; first | omega | assumption | (simp only [inI]; omega))
 refine callMK_of rfl (fn_spec_l1Pick b nmPh c hb (by decide)) ?_
 rintro r d ⟨rfl, rfl⟩
 simp [go_sem]
 repeat (with_reducible refine And.intro ?_ ?_; first | omega | assumption | (simp only [inI]; omega))
 refine okC_ret ?_
 simp [go_sem]
 all_goals first | done | omega | grind | (simp; omega) | (simp_all; done) | (simp_all; omega)
theorem fn_spec_l8Fields (b : Str) (c : Cur) (hb : b.length ≤ 1048576) : FnMu Tryz.prog 139 [.one (.bool false)] 0 (oCur b c) (fun r d => r = .own (oStrs (fieldsF b c).1) ∧ d = oCur b (fieldsF b c).2) := by
 refine fn_mut good (rs := [.tmp 2]) Tryz.func139 rfl Tryz.ntmps139 (by decide) (by simp) rfl fun w0 ow0 v0 => ?_
 simp only [mutSt]
 obtain ⟨n, hn⟩ : ∃ n, nameF b c = n := ⟨_, rfl⟩
 obtain ⟨y, hy⟩ : ∃ y, pickF b nmCity [] n.2 = y := ⟨_, rfl⟩
 obtain ⟨z, hz⟩ : ∃ z, pickF b nmYear [] y.2 = z := ⟨_, rfl⟩
 obtain ⟨p, hp⟩ : ∃ p, pickF b nmPh [] z.2 = p := ⟨_, rfl⟩
 have hg : fieldsF b c = ([n.1, y.1, z.1, p.1], p.2) := by simp only [fieldsF, hn, hy, hz, hp]
 refine okC_rg good ?_
 simp [go_sem, hn, hy, hz, hp, hg]
 repeat (with_reducible refine And.intro ?_ ?_; first | omega | assumption | (simp only [inI]; omega))
 refine okC_rg good ?_
 simp [go_sem, hn, hy, hz, hp, hg]
 repeat (with_reducible refine And.intro ?_ ?_; first | omega | assumption | (simp only [inI]; omega))
 refine callMK_of rfl (fn_spec_l2Name b c hb) ?_
 rintro r d ⟨rfl, rfl⟩
 simp [go_sem, hn, hy, hz, hp, hg]
 repeat (with_reducible refine And.intro ?_ ?_; first | omega | assumption | (simp only [inI]; omega))
 refine callMK_of rfl (fn_spec_l1Pick b nmCity n.2 hb (by decide)) ?_
 rintro r d ⟨rfl, rfl⟩
 simp [go_sem, hn, hy, hz, hp, hg]
 repeat (with_reducible refine And.intro ?_ ?_; first | omega | assumption | (simp only [inI]; omega))
 refine callMK_of rfl (fn_spec_l1Pick b nmYear y.2 hb (by decide)) ?_
 rintro r d ⟨rfl, rfl⟩
 simp [go_sem, hn, hy, hz, hp, hg]
 repeat (with_reducible refine And.intro ?_ ?_; first | omega | assumption | (simp only [inI]; omega))
 refine callMK_of rfl (fn_spec_l7Phone b z.2 hb) ?_
 rintro r d ⟨rfl, rfl⟩
 simp [go_sem, hn, hy, hz, hp, hg]
 repeat (with_reducible refine And.intro ?_ ?_; first | omega | assumption | (simp only [inI]; omega))
 refine okC_ret ?_
 simp [go_sem, hn, hy, hz, hp, hg]
 all_goals first | done | omega | grind | (simp; omega) | (simp_all; done) | (simp_all; omega)
theorem fn_spec_l8Record (b : Str) (c : Cur) (hb : b.length ≤ 1048576) : FnMu Tryz.prog 98 [.one (.bool false)] 0 (oCur b c) (fun r d => r = .own (oRec (recF b c).1) ∧ d = oCur b (recF b c).2) := by
 refine fn_mut good (rs := [.cell 2 77]) Tryz.func98 rfl Tryz.ntmps98 (by decide) (by simp) rfl fun w0 ow0 v0 => ?_
 simp only [mutSt]
 obtain ⟨x, hx⟩ : ∃ x, belowF b 4 c = x := ⟨_, rfl⟩
 obtain ⟨y, hy⟩ : ∃ y, belowF b 4 x.2 = y := ⟨_, rfl⟩
 obtain ⟨z, hz⟩ : ∃ z, belowF b 3 y.2 = z := ⟨_, rfl⟩
 obtain ⟨f, hf⟩ : ∃ f, fieldsF b z.2 = f := ⟨_, rfl⟩
 have hg : recF b c = (⟨x.1, 1 + y.1, 1 + z.1, f.1⟩, f.2) := by simp only [recF, hx, hy, hz, hf]
 have h1 := belowF_range b (n := 4) (by omega) x.2
 have h2 := belowF_range b (n := 3) (by omega) y.2
 rw [hy] at h1
 rw [hz] at h2
 refine okC_rg good ?_
 simp [go_sem, hx, hy, hz, hf, hg]
 repeat (with_reducible refine And.intro ?_ ?_; first | omega | assumption | (simp only [inI]; omega))
 refine okC_rg good ?_
 simp [go_sem, hx, hy, hz, hf, hg]
 repeat (with_reducible refine And.intro ?_ ?_; first | omega | assumption | (simp only [inI]; omega))
 refine callMK_of rfl (fn_spec_l1Below _ _ _ (by first | assumption | omega | (simp; omega) | grind)) ?_
 rintro r d ⟨rfl, rfl⟩
 simp [go_sem, hx, hy, hz, hf, hg]
 repeat (with_reducible refine And.intro ?_ ?_; first | omega | assumption | (simp only [inI]; omega))
 refine callMK_of rfl (fn_spec_l1Below _ _ _ (by first | assumption | omega | (simp; omega) | grind)) ?_
 rintro r d ⟨rfl, rfl⟩
 simp [go_sem, hx, hy, hz, hf, hg]
 repeat (with_reducible refine And.intro ?_ ?_; first | omega | assumption | (simp only [inI]; omega))
 refine callMK_of rfl (fn_spec_l1Below _ _ _ (by first | assumption | omega | (simp; omega) | grind)) ?_
 rintro r d ⟨rfl, rfl⟩
 simp [go_sem, hx, hy, hz, hf, hg]
 repeat (with_reducible refine And.intro ?_ ?_; first | omega | assumption | (simp only [inI]; omega))
 refine callMK_of rfl (fn_spec_l8Fields _ _ (by first | assumption | omega | (simp; omega) | grind)) ?_
 rintro r d ⟨rfl, rfl⟩
 simp [go_sem, hx, hy, hz, hf, hg]
 repeat (with_reducible refine And.intro ?_ ?_; first | omega | assumption | (simp only [inI]; omega))
 refine okC_ret ?_
 simp [go_sem, hx, hy, hz, hf, hg]
 all_goals first | done | omega | grind | (simp; omega) | (simp_all; done) | (simp_all; omega)
end Go.Proofs.YtfhfidecmdhkoaaGreatDoor

end
section
namespace Go.Dv
open Go.RowKit
variable [Glob]
section
variable {P : Program} {w : World} {ow : Own}
theorem R.into_ex {d x : D} {i : Nat} {l : List Nat} {v : Value} (h : R P w ow d l [v]) (hd : ∀ xs, d ≠ .agg xs) (hk : d.kid i = some x) : ∃ b off, Dv.into d i v = some (x, b, off) := by
  cases d with
  | one u => simp [D.kid] at hk
  | any n => simp [D.kid] at hk
  | agg xs => exact absurd rfl (hd xs)
  | bx o y =>
    obtain ⟨b, off, _, h2⟩ := h.bx_into
    simp only [D.kid] at hk
    split at hk
    · rename_i h0; subst h0
      obtain rfl := Option.some.inj hk
      exact ⟨b, off, h2⟩
    · cases hk
  | sl o xs =>
    simp only [D.kid] at hk
    simp only [R] at h
    obtain ⟨a, cap, hv, _, _, h4⟩ := h
    obtain rfl : v = .slice a xs.length cap := by simpa using hv
    rcases h4 with ⟨_, h5, _⟩ | ⟨_, h5⟩ | ⟨b, off, s, C, e, fz, rfl, _⟩
    · rw [h5] at hk; simp at hk
    · rw [h5] at hk; simp at hk
    · exact ⟨b, off + i * x.w, by simp [Dv.into, hk]⟩
theorem Lies.loc_ex : ∀ (p : List Nat) {d n : D} {l : List Nat} {b off : Nat}, Lies P w ow d l b off → D.sub p d = some n → ∃ b1 o1, locAt w p d b off = some (b1, o1)
  | [], d, n, l, b, off, h, hs => ⟨b, off, rfl⟩
  | i :: p, d, n, l, b, off, h, hs => by
    simp only [D.sub] at hs
    cases hk : d.kid i with
    | none => rw [hk] at hs; cases hs
    | some x =>
      rw [hk] at hs
      simp only at hs
      by_cases hagg : ∃ xs, d = .agg xs
      · obtain ⟨xs, rfl⟩ := hagg
        simp only [D.kid] at hk
        obtain ⟨b1, o1, h1⟩ := Lies.loc_ex p (h.agg_kid hk) hs
        exact ⟨b1, o1, by simp only [locAt, hk, h1]⟩
      · have hd : ∀ xs, d ≠ .agg xs := fun xs e => hagg ⟨xs, e⟩
        have hw : d.w = 1 := by
          cases d with
          | agg xs => exact absurd rfl (hd xs)
          | any n => simp [D.kid] at hk
          | _ => rfl
        obtain ⟨v, hv, hr⟩ := h.cell hw
        obtain ⟨b', off', hx⟩ := hr.into_ex hd hk
        obtain ⟨_, hL, _⟩ := hr.into hx
        obtain ⟨b1, o1, h1⟩ := Lies.loc_ex p hL hs
        exact ⟨b1, o1, by rw [locAt_ptr_mk hd hv hx, h1]⟩
theorem R.loc_ex {p : List Nat} {d n : D} {l : List Nat} {v : Value} (h : R P w ow d l [v]) (hd : ∀ xs, d ≠ .agg xs) (hp : p ≠ []) (hs : D.sub p d = some n) : ∃ b1 o1, loc w p d v = some (b1, o1) := by
  cases p with
  | nil => exact absurd rfl hp
  | cons i p =>
    simp only [D.sub] at hs
    cases hk : d.kid i with
    | none => rw [hk] at hs; cases hs
    | some x =>
      rw [hk] at hs
      obtain ⟨b', off', hx⟩ := h.into_ex hd hk
      obtain ⟨_, hL, _⟩ := h.into hx
      obtain ⟨b1, o1, h1⟩ := Lies.loc_ex p hL hs
      exact ⟨b1, o1, by simp only [loc, hx, h1]⟩
end
def St.coolAt (s : St) (t : Nat) (p : List Nat) : St := match s t with
  | .own d => match D.sub p d with
    | some nd => if D.free p d = true ∧ d.isAgg = false ∧ nd.isAgg = false ∧ nd.w = 1 ∧ p ≠ [] then (s.kill t).put t (.own (D.upd p d nd.fz)) else s
    | none => s
  | _ => s
open Classical in
noncomputable def loose (l : List Nat) (ow : Own) : Own := fun b => if ∃ q, ow b = some (q ++ l) then none else ow b
theorem tells_coolAt {P : Program} {n : Nat} {s : St} (t : Nat) (p : List Nat) : Tells P n s (s.coolAt t p) := by
  intro w0 ow0 a w ⟨ow, hf⟩
  unfold St.coolAt
  split
  · rename_i d hs
    split
    · rename_i nd hnd
      split
      · rename_i hc
        obtain ⟨hfr, hda, hna, hw1, hp⟩ := hc
        have hd : ∀ xs, d ≠ .agg xs := fun xs e => by rw [e] at hda; cases hda
        have hrf : t ≠ far0 := fun e => by have := hf.far; rw [← e, hs] at this; cases this
        have hVr := hf.slot t
        rw [hs] at hVr
        have hR : R P w ow d [t] [aval a t] := by
          cases d with
          | agg xs => exact absurd rfl (hd xs)
          | _ => exact hVr
        obtain ⟨b, off, hloc⟩ := hR.loc_ex hd hp hnd
        obtain ⟨hL, _, _⟩ := hR.at hloc hnd
        have hturn : Turns w ow (p.reverse ++ [t]) w (loose (p.reverse ++ [t]) ow) := fun b hb hq => ⟨rfl, by simp only [loose]; rw [if_neg (fun ⟨q, e⟩ => hq q e)]⟩
        have hfz : Frees w ow (p.reverse ++ [t]) (loose (p.reverse ++ [t]) ow) := fun b _ => ⟨fun ho => by simp [loose, ho], fun q hq => by simp only [loose]; rw [if_pos ⟨q, hq⟩]⟩
        have hL2 : Lies P w (loose (p.reverse ++ [t]) ow) nd.fz (p.reverse ++ [t]) b off := by
          obtain ⟨C, e, fz, cs, k1, k2, k3⟩ := hL
          exact ⟨C, e, fz, cs, k1, by rw [D.fz_w]; exact k2, R.fz hfz k3⟩
        have hR2 := hR.turn hloc hnd hfr hturn (D.fz_w nd) hL2
        have hV2 : V P w (loose (p.reverse ++ [t]) ow) (D.upd p d nd.fz) [t] (aval a t) := by
          cases p with
          | nil => exact absurd rfl hp
          | cons i p =>
            have hne := upd_ne_agg (i := i) (p := p) (n := nd.fz) hd
            cases hu : D.upd (i :: p) d nd.fz with
            | agg xs => exact absurd hu (hne xs)
            | _ => rw [hu] at hR2; exact hR2
        have hnot : ∀ b j, j ≠ t → ∀ q, ow b = some (q ++ [j]) → ∀ q', ow b ≠ some (q' ++ (p.reverse ++ [t])) := fun b j hj q hq q' e => by
          rw [hq] at e
          have := congrArg List.getLast? (Option.some.inj e)
          simp at this
          exact hj this
        refine ⟨loose (p.reverse ++ [t]) ow, hf.change hf.nodef hf.size rfl rfl rfl (Nat.le_refl _) (fun b _ ho => ⟨rfl, by simp [loose, ho]⟩) (fun b hb => by simp [loose, hf.new b hb]) (fun j => j = t) ?_ ?_ ?_ (fun e => hrf e.symm)⟩
        · intro j hj b hb q hq
          exact ⟨rfl, ((hturn b hb (hnot b j hj q hq)).2).trans hq⟩
        · intro i hi
          refine ⟨rfl, ?_⟩
          have hp' : ((s.kill t).put t (.own (D.upd p d nd.fz))) i = (s.kill t) i := by simp [St.put, show i ≠ t from hi]
          rw [hp']
          rcases kill_at s t i with h1 | ⟨h1, _, h2⟩
          · exact .inl h1
          · right
            refine ⟨h1, fun j hj => ?_⟩
            have hjr : j ≠ t := by rintro rfl; exact h2 hj
            exact ⟨hjr, by simp [St.put, hjr, kill_own ((hf.slot i).root hj) hjr]⟩
        · rintro i rfl
          simp only [St.put, if_true, SV]
          exact hV2
      · exact ⟨ow, hf⟩
    · exact ⟨ow, hf⟩
  · exact ⟨ow, hf⟩
theorem fzs_tail (xs : List D) : D.fzs xs.tail = (D.fzs xs).tail := by cases xs <;> rfl
theorem fzs_set (xs : List D) (i : Nat) (d : D) : D.fzs (xs.set i d) = (D.fzs xs).set i d.fz := by simp [D.fzs_map, List.map_set]
theorem frzs_all : ∀ (xs : List D), D.frzs xs = true ↔ ∀ x ∈ xs, x.frz = true
  | [] => by simp [D.frzs]
  | x :: xs => by simp [D.frzs, frzs_all xs]
theorem frzs_tail {xs : List D} (h : D.frzs xs = true) : D.frzs xs.tail = true := (frzs_all _).2 fun x hx => (frzs_all _).1 h x (List.mem_of_mem_tail hx)
theorem frzs_set {xs : List D} {i : Nat} {d : D} (h : D.frzs xs = true) (hd : d.frz = true) : D.frzs (xs.set i d) = true := (frzs_all _).2 fun x hx => by
  rcases List.mem_or_eq_of_mem_set hx with h1 | h1
  · exact (frzs_all _).1 h x h1
  · rw [h1]; exact hd
theorem frzs_set1 {xs : List D} {i : Nat} {v : Value} (h : D.frzs xs = true) : D.frzs (xs.set i (.one v)) = true := frzs_set h (by simp [D.frz])
theorem frzs_append (xs ys : List D) : D.frzs (xs ++ ys) = (D.frzs xs && D.frzs ys) := by
  induction xs with
  | nil => simp [D.frzs]
  | cons x xs ih => simp [D.frzs, ih, Bool.and_assoc]
attribute [go_sem] St.coolAt fzs_tail fzs_set frzs_tail frzs_set1 frzs_append
end Go.Dv

end
section
set_option maxRecDepth 10000
namespace Go.Proofs.YtfhfidecmdhkoaaGreatDoor
open Go.Dv Go.Pl
theorem fn_spec_l29Op (b : Str) (c : Cur) (hb : b.length ≤ 1048576) : FnMu Tryz.prog 67 [.one (.bool false)] 0 (oCur b c) (fun r d => r = .own (oOp (opF b c).1) ∧ d = oCur b (opF b c).2) := by
 refine fn_mut good (rs := [.cell 2 81]) Tryz.func67 rfl Tryz.ntmps67 (by decide) (by simp) rfl fun w0 ow0 v0 => ?_
 simp only [mutSt]
 obtain ⟨k, hk⟩ : ∃ k, belowF b 6 c = k := ⟨_, rfl⟩
 obtain ⟨r, hr⟩ : ∃ r, recF b k.2 = r := ⟨_, rfl⟩
 obtain ⟨x, hx⟩ : ∃ x, belowF b 3 r.2 = x := ⟨_, rfl⟩
 obtain ⟨y, hy⟩ : ∃ y, belowF b 2 x.2 = y := ⟨_, rfl⟩
 obtain ⟨v, hv⟩ : ∃ v, verF b k.2 = v := ⟨_, rfl⟩
 have hyr := belowF_range b (n := 2) (by omega) x.2
 rw [hy] at hyr
 refine okC_rg good ?_
 simp [go_sem, hk, hr, hx, hy, hv, rec0, ver0]
 repeat (with_reducible refine And.intro ?_ ?_; first | omega | assumption | (simp only [inI]; omega))
 refine okC_seq ?_
 refine okC_rg good ?_
 simp [go_sem, hk, hr, hx, hy, hv, rec0, ver0]
 repeat (with_reducible refine And.intro ?_ ?_; first | omega | assumption | (simp only [inI]; omega))
 refine callMK_of rfl (fn_spec_l1Below _ _ _ (by first | assumption | omega | (simp; omega) | grind)) ?_
 rintro r d ⟨rfl, rfl⟩
 simp [go_sem, hk, hr, hx, hy, hv, rec0, ver0]
 repeat (with_reducible refine And.intro ?_ ?_; first | omega | assumption | (simp only [inI]; omega))
 refine okC_block ?_
 refine okC_rg good ?_
 simp [go_sem, hk, hr, hx, hy, hv, rec0, ver0]
 repeat (with_reducible refine And.intro ?_ ?_; first | omega | assumption | (simp only [inI]; omega))
 refine okC_if ?_
 simp [go_sem, hk, hr, hx, hy, hv, rec0, ver0]
 first | refine gC_dec (fun a0 => ?_) (fun a0 => ?_) | refine gC_ndec (fun a0 => ?_) (fun a0 => ?_) | refine gC_of (fun a0 => ?_) (fun a0 => ?_)
 ·try simp at a0
  have hf : opF b c = (⟨2, ⟨x.1, 1 + y.1, r.1.version, []⟩, ver0⟩, y.2) := by simp only [opF, hk, hr, hx, hy, if_pos a0]
  refine okC_rg good ?_
  simp [go_sem, hk, hr, hx, hy, hv, rec0, ver0, hf]
  repeat (with_reducible refine And.intro ?_ ?_; first | omega | assumption | (simp only [inI]; omega))
  refine callMK_of rfl (fn_spec_l8Record _ _ (by first | assumption | omega | (simp; omega) | grind)) ?_
  rintro r d ⟨rfl, rfl⟩
  simp [go_sem, hk, hr, hx, hy, hv, rec0, ver0, hf]
  repeat (with_reducible refine And.intro ?_ ?_; first | omega | assumption | (simp only [inI]; omega))
  refine okC_dh good [0, 2] [(1, [11, 12, 0, 13]), (3, [13, 14, 0, 11]), (7, [12, 15, 17, 18]), (8, [18, 19]), (9, [2, 19])] [(0, .own (oCur b r.2)), (2, .own (.bx true (oOp ⟨0, rec0, ver0⟩))), (3, .own (.bx true (oRec r.1))), (11, .al 0 []), (13, .al 0 [])] [] rfl (by decide) (by kernel_rfl) ?_
  simp [go_sem, hk, hr, hx, hy, hv, rec0, ver0, hf]
  repeat (with_reducible refine And.intro ?_ ?_; first | omega | assumption | (simp only [inI]; omega))
  refine callMF_of rfl (fn_spec_l1Below _ _ _ (by first | assumption | omega | (simp; omega) | grind)) ?_
  simp [go_sem, hk, hr, hx, hy, hv, rec0, ver0, hf]
  repeat (with_reducible refine And.intro ?_ ?_; first | omega | assumption | (simp only [inI]; omega))
  refine callMF_of rfl (fn_spec_l1Below _ _ _ (by first | assumption | omega | (simp; omega) | grind)) ?_
  simp [go_sem, hk, hr, hx, hy, hv, rec0, ver0, hf]
  repeat (with_reducible refine And.intro ?_ ?_; first | omega | assumption | (simp only [inI]; omega))
  refine okC_ret ?_
  simp [go_sem, hk, hr, hx, hy, hv, rec0, ver0, hf]
  all_goals first | done | omega | grind | (simp; omega) | (simp_all; done) | (simp_all; omega)
 ·try simp at a0
  refine okC_rg good ?_
  simp [go_sem, hk, hr, hx, hy, hv, rec0, ver0]
  repeat (with_reducible refine And.intro ?_ ?_; first | omega | assumption | (simp only [inI]; omega))
  refine okC_if ?_
  simp [go_sem, hk, hr, hx, hy, hv, rec0, ver0]
  first | refine gC_dec (fun a1 => ?_) (fun a1 => ?_) | refine gC_ndec (fun a1 => ?_) (fun a1 => ?_) | refine gC_of (fun a1 => ?_) (fun a1 => ?_)
  ·try simp at a1
   have hf : opF b c = (⟨3, rec0, v.1⟩, v.2) := by simp only [opF, hk, hv, if_neg a0, if_pos a1]
   refine okC_rg good ?_
   simp [go_sem, hk, hr, hx, hy, hv, rec0, ver0, hf]
   repeat (with_reducible refine And.intro ?_ ?_; first | omega | assumption | (simp only [inI]; omega))
   refine callMK_of rfl (fn_spec_l28Verdict _ _ (by first | assumption | omega | (simp; omega) | grind)) ?_
   rintro r d ⟨rfl, rfl⟩
   simp [go_sem, hk, hr, hx, hy, hv, rec0, ver0, hf]
   repeat (with_reducible refine And.intro ?_ ?_; first | omega | assumption | (simp only [inI]; omega))
   refine okC_ret ?_
   simp [go_sem, hk, hr, hx, hy, hv, rec0, ver0, hf]
   all_goals first | done | omega | grind | (simp; omega) | (simp_all; done) | (simp_all; omega)
  ·try simp at a1
   refine okC_rg good ?_
   simp [go_sem, hk, hr, hx, hy, hv, rec0, ver0]
   repeat (with_reducible refine And.intro ?_ ?_; first | omega | assumption | (simp only [inI]; omega))
   refine okC_if ?_
   simp [go_sem, hk, hr, hx, hy, hv, rec0, ver0]
   first | refine gC_dec (fun a2 => ?_) (fun a2 => ?_) | refine gC_ndec (fun a2 => ?_) (fun a2 => ?_) | refine gC_of (fun a2 => ?_) (fun a2 => ?_)
   ·try simp at a2
    have hf : opF b c = (⟨4, rec0, v.1⟩, v.2) := by simp only [opF, hk, hv, if_neg a0, if_neg a1, if_pos a2]
    refine okC_rg good ?_
    simp [go_sem, hk, hr, hx, hy, hv, rec0, ver0, hf]
    repeat (with_reducible refine And.intro ?_ ?_; first | omega | assumption | (simp only [inI]; omega))
    refine callMK_of rfl (fn_spec_l28Verdict _ _ (by first | assumption | omega | (simp; omega) | grind)) ?_
    rintro r d ⟨rfl, rfl⟩
    simp [go_sem, hk, hr, hx, hy, hv, rec0, ver0, hf]
    repeat (with_reducible refine And.intro ?_ ?_; first | omega | assumption | (simp only [inI]; omega))
    refine okC_ret ?_
    simp [go_sem, hk, hr, hx, hy, hv, rec0, ver0, hf]
    all_goals first | done | omega | grind | (simp; omega) | (simp_all; done) | (simp_all; omega)
   ·try simp at a2
    refine okC_skip ?_
    have hf : opF b c = (⟨1, ⟨x.1, 1 + y.1, r.1.version, r.1.fields⟩, ver0⟩, y.2) := by simp only [opF, hk, hr, hx, hy, if_neg a0, if_neg a1, if_neg a2]
    refine okC_rg good ?_
    simp [go_sem, hk, hr, hx, hy, hv, rec0, ver0, hf]
    repeat (with_reducible refine And.intro ?_ ?_; first | omega | assumption | (simp only [inI]; omega))
    refine callMK_of rfl (fn_spec_l8Record _ _ (by first | assumption | omega | (simp; omega) | grind)) ?_
    rintro r d ⟨rfl, rfl⟩
    simp [go_sem, hk, hr, hx, hy, hv, rec0, ver0, hf]
    repeat (with_reducible refine And.intro ?_ ?_; first | omega | assumption | (simp only [inI]; omega))
    refine okC_rg good ?_
    simp [go_sem, hk, hr, hx, hy, hv, rec0, ver0, hf]
    repeat (with_reducible refine And.intro ?_ ?_; first | omega | assumption | (simp only [inI]; omega))
    refine callMK_of rfl (fn_spec_l1Below _ _ _ (by first | assumption | omega | (simp; omega) | grind)) ?_
    rintro r d ⟨rfl, rfl⟩
    simp [go_sem, hk, hr, hx, hy, hv, rec0, ver0, hf]
    repeat (with_reducible refine And.intro ?_ ?_; first | omega | assumption | (simp only [inI]; omega))
    refine okC_rg good ?_
    simp [go_sem, hk, hr, hx, hy, hv, rec0, ver0, hf]
    repeat (with_reducible refine And.intro ?_ ?_; first | omega | assumption | (simp only [inI]; omega))
    refine callMK_of rfl (fn_spec_l1Below _ _ _ (by first | assumption | omega | (simp; omega) | grind)) ?_
    rintro r d ⟨rfl, rfl⟩
    simp [go_sem, hk, hr, hx, hy, hv, rec0, ver0, hf]
    repeat (with_reducible refine And.intro ?_ ?_; first | omega | assumption | (simp only [inI]; omega))
    refine okC_rg good ?_
    simp [go_sem, hk, hr, hx, hy, hv, rec0, ver0, hf]
    repeat (with_reducible refine And.intro ?_ ?_; first | omega | assumption | (simp only [inI]; omega))
    refine okC_ret ?_
    simp [go_sem, hk, hr, hx, hy, hv, rec0, ver0, hf]
    all_goals first | done | omega | grind | (simp; omega) | (simp_all; done) | (simp_all; omega)
theorem fn_spec_l8Any (b : Str) (c : Cur) (hb : b.length ≤ 1048576) : FnMu Tryz.prog 96 [.one (.bool false)] 0 (oCur b c) (fun r d => r = .val (nRec (recAnyF b c).1) ∧ d = oCur b (recAnyF b c).2) := by
 refine fn_mut good (rs := [.cell 2 77]) Tryz.func96 rfl Tryz.ntmps96 (by decide) (by simp) rfl fun w0 ow0 v0 => ?_
 simp only [mutSt]
 obtain ⟨r, hr⟩ : ∃ r, recF b c = r := ⟨_, rfl⟩
 obtain ⟨k, hk⟩ : ∃ k, belowF b 16 r.2 = k := ⟨_, rfl⟩
 have h4 := (recF_tiny b c).1
 rw [hr] at h4
 obtain ⟨f0, hf0⟩ := at_of (l := r.1.fields) (i := 0) (by omega)
 refine okC_rg good ?_
 simp [go_sem, hr, hk, rec0]
 repeat (with_reducible refine And.intro ?_ ?_; first | omega | assumption | (simp only [inI]; omega))
 refine okC_rg good ?_
 simp [go_sem, hr, hk, rec0]
 repeat (with_reducible refine And.intro ?_ ?_; first | omega | assumption | (simp only [inI]; omega))
 refine callMK_of rfl (fn_spec_l8Record _ _ (by first | assumption | omega | (simp; omega) | grind)) ?_
 rintro r d ⟨rfl, rfl⟩
 simp [go_sem, hr, hk, rec0]
 repeat (with_reducible refine And.intro ?_ ?_; first | omega | assumption | (simp only [inI]; omega))
 refine okC_seq ?_
 refine okC_rg good ?_
 simp [go_sem, hr, hk, rec0]
 repeat (with_reducible refine And.intro ?_ ?_; first | omega | assumption | (simp only [inI]; omega))
 refine callMK_of rfl (fn_spec_l1Below _ _ _ (by first | assumption | omega | (simp; omega) | grind)) ?_
 rintro r d ⟨rfl, rfl⟩
 simp [go_sem, hr, hk, rec0]
 repeat (with_reducible refine And.intro ?_ ?_; first | omega | assumption | (simp only [inI]; omega))
 refine okC_block ?_
 refine okC_rg good ?_
 simp [go_sem, hr, hk, rec0]
 repeat (with_reducible refine And.intro ?_ ?_; first | omega | assumption | (simp only [inI]; omega))
 refine okC_if ?_
 simp [go_sem, hr, hk, rec0]
 first | refine gC_dec (fun a0 => ?_) (fun a0 => ?_) | refine gC_ndec (fun a0 => ?_) (fun a0 => ?_) | refine gC_of (fun a0 => ?_) (fun a0 => ?_)
 ·try simp at a0
  have hf : recAnyF b c = (⟨(pickF b ([-1, 4] : List Int) 0 k.2).1, r.1.key, r.1.version, r.1.fields⟩, (pickF b ([-1, 4] : List Int) 0 k.2).2) := by simp only [recAnyF, hr, hk, if_pos a0]
  refine okC_rg1 good ?_
  simp [go_sem, hr, hk, rec0, hf]
  repeat (with_reducible refine And.intro ?_ ?_; first | omega | assumption | (simp only [inI]; omega))
  refine callMK_of rfl (fn_spec_l1PickInt b [-1, 4] k.2 hb (by simp)) ?_
  rintro r d ⟨rfl, rfl⟩
  simp [go_sem, hr, hk, rec0, hf]
  repeat (with_reducible refine And.intro ?_ ?_; first | omega | assumption | (simp only [inI]; omega))
  refine okC_tells ?_ (tells_coolAt 3 [0, 3])
  refine okC_rg good ?_
  simp [go_sem, hr, hk, rec0, hf]
  repeat (with_reducible refine And.intro ?_ ?_; first | omega | assumption | (simp only [inI]; omega))
  refine okC_ret ?_
  simp [go_sem, hr, hk, rec0, hf]
  all_goals first | done | omega | grind | (simp; omega) | (simp_all; done) | (simp_all; omega)
 ·try simp at a0
  refine okC_rg good ?_
  simp [go_sem, hr, hk, rec0]
  repeat (with_reducible refine And.intro ?_ ?_; first | omega | assumption | (simp only [inI]; omega))
  refine okC_if ?_
  simp [go_sem, hr, hk, rec0]
  first | refine gC_dec (fun a1 => ?_) (fun a1 => ?_) | refine gC_ndec (fun a1 => ?_) (fun a1 => ?_) | refine gC_of (fun a1 => ?_) (fun a1 => ?_)
  ·try simp at a1
   have hf : recAnyF b c = (⟨r.1.source, (pickF b ([0, 99, 100] : List Int) 0 k.2).1, r.1.version, r.1.fields⟩, (pickF b ([0, 99, 100] : List Int) 0 k.2).2) := by simp only [recAnyF, hr, hk, if_neg a0, if_pos a1]
   refine okC_rg1 good ?_
   simp [go_sem, hr, hk, rec0, hf]
   repeat (with_reducible refine And.intro ?_ ?_; first | omega | assumption | (simp only [inI]; omega))
   refine callMK_of rfl (fn_spec_l1PickInt b [0, 99, 100] k.2 hb (by simp)) ?_
   rintro r d ⟨rfl, rfl⟩
   simp [go_sem, hr, hk, rec0, hf]
   repeat (with_reducible refine And.intro ?_ ?_; first | omega | assumption | (simp only [inI]; omega))
   refine okC_tells ?_ (tells_coolAt 3 [0, 3])
   refine okC_rg good ?_
   simp [go_sem, hr, hk, rec0, hf]
   repeat (with_reducible refine And.intro ?_ ?_; first | omega | assumption | (simp only [inI]; omega))
   refine okC_ret ?_
   simp [go_sem, hr, hk, rec0, hf]
   all_goals first | done | omega | grind | (simp; omega) | (simp_all; done) | (simp_all; omega)
  ·try simp at a1
   refine okC_rg good ?_
   simp [go_sem, hr, hk, rec0]
   repeat (with_reducible refine And.intro ?_ ?_; first | omega | assumption | (simp only [inI]; omega))
   refine okC_if ?_
   simp [go_sem, hr, hk, rec0]
   first | refine gC_dec (fun a2 => ?_) (fun a2 => ?_) | refine gC_ndec (fun a2 => ?_) (fun a2 => ?_) | refine gC_of (fun a2 => ?_) (fun a2 => ?_)
   ·try simp at a2
    have hf : recAnyF b c = (⟨r.1.source, r.1.key, (pickF b ([0, 999, 1000] : List Int) 0 k.2).1, r.1.fields⟩, (pickF b ([0, 999, 1000] : List Int) 0 k.2).2) := by simp only [recAnyF, hr, hk, if_neg a0, if_neg a1, if_pos a2]
    refine okC_rg1 good ?_
    simp [go_sem, hr, hk, rec0, hf]
    repeat (with_reducible refine And.intro ?_ ?_; first | omega | assumption | (simp only [inI]; omega))
    refine callMK_of rfl (fn_spec_l1PickInt b [0, 999, 1000] k.2 hb (by simp)) ?_
    rintro r d ⟨rfl, rfl⟩
    simp [go_sem, hr, hk, rec0, hf]
    repeat (with_reducible refine And.intro ?_ ?_; first | omega | assumption | (simp only [inI]; omega))
    refine okC_tells ?_ (tells_coolAt 3 [0, 3])
    refine okC_rg good ?_
    simp [go_sem, hr, hk, rec0, hf]
    repeat (with_reducible refine And.intro ?_ ?_; first | omega | assumption | (simp only [inI]; omega))
    refine okC_ret ?_
    simp [go_sem, hr, hk, rec0, hf]
    all_goals first | done | omega | grind | (simp; omega) | (simp_all; done) | (simp_all; omega)
   ·try simp at a2
    refine okC_rg good ?_
    simp [go_sem, hr, hk, rec0]
    repeat (with_reducible refine And.intro ?_ ?_; first | omega | assumption | (simp only [inI]; omega))
    refine okC_if ?_
    simp [go_sem, hr, hk, rec0]
    first | refine gC_dec (fun a3 => ?_) (fun a3 => ?_) | refine gC_ndec (fun a3 => ?_) (fun a3 => ?_) | refine gC_of (fun a3 => ?_) (fun a3 => ?_)
    ·try simp at a3
     have hf : recAnyF b c = (⟨r.1.source, r.1.key, r.1.version, r.1.fields.drop 1⟩, k.2) := by simp only [recAnyF, hr, hk, if_neg a0, if_neg a1, if_neg a2, if_pos a3]
     have htl : ∀ f : Str → D, List.take 3 (List.map f r.1.fields).tail = (List.map f r.1.fields).tail := fun f => List.take_of_length_le (by simp; omega)
     refine okC_tells ?_ (tells_coolAt 3 [0, 3])
     refine okC_rg1 good ?_
     simp [go_sem, hr, hk, rec0, hf, h4, htl]
     repeat (with_reducible refine And.intro ?_ ?_; first | omega | assumption | (simp only [inI]; omega))
     refine okC_rg good ?_
     simp [go_sem, hr, hk, rec0, hf, h4, htl]
     repeat (with_reducible refine And.intro ?_ ?_; first | omega | assumption | (simp only [inI]; omega))
     refine okC_ret ?_
     simp [go_sem, hr, hk, rec0, hf, h4, htl]
     all_goals first | done | omega | grind | (simp; omega) | (simp_all; done) | (simp_all; omega)
    ·try simp at a3
     refine okC_rg good ?_
     simp [go_sem, hr, hk, rec0]
     repeat (with_reducible refine And.intro ?_ ?_; first | omega | assumption | (simp only [inI]; omega))
     refine okC_if ?_
     simp [go_sem, hr, hk, rec0]
     first | refine gC_dec (fun a4 => ?_) (fun a4 => ?_) | refine gC_ndec (fun a4 => ?_) (fun a4 => ?_) | refine gC_of (fun a4 => ?_) (fun a4 => ?_)
     ·try simp at a4
      have hf : recAnyF b c = (⟨r.1.source, r.1.key, r.1.version, r.1.fields.set 0 (pickF b nmOdd [] k.2).1⟩, (pickF b nmOdd [] k.2).2) := by simp only [recAnyF, hr, hk, if_neg a0, if_neg a1, if_neg a2, if_neg a3, if_pos a4]
      refine okC_df1 good [(3, [37]), (4, [36, 37, 38, 0]), (6, [39, 38, 3, 34, 35])] [(0, .own (oCur b k.2)), (2, .own (.bx true (oRec rec0))), (3, .own (.bx true (oRec r.1)))] [] rfl (by decide) (by kernel_rfl) (by simp [go_sem, hr, hk, rec0, hf, hf0]) ?_
      simp [go_sem, hr, hk, rec0, hf, hf0]
      repeat (with_reducible refine And.intro ?_ ?_; first | omega | assumption | (simp only [inI]; omega))
      refine callMF_of rfl (fn_spec_l1Pick b nmOdd k.2 hb (by decide)) ?_
      simp [go_sem, hr, hk, rec0, hf, hf0]
      repeat (with_reducible refine And.intro ?_ ?_; first | omega | assumption | (simp only [inI]; omega))
      refine okC_tells ?_ (tells_coolAt 3 [0, 3])
      refine okC_rg good ?_
      simp [go_sem, hr, hk, rec0, hf, hf0]
      repeat (with_reducible refine And.intro ?_ ?_; first | omega | assumption | (simp only [inI]; omega))
      refine okC_ret ?_
      simp [go_sem, hr, hk, rec0, hf, hf0]
      all_goals first | done | omega | grind | (simp; omega) | (simp_all; done) | (simp_all; omega)
     ·try simp at a4
      refine okC_skip ?_
      have hf : recAnyF b c = (r.1, k.2) := by simp only [recAnyF, hr, hk, if_neg a0, if_neg a1, if_neg a2, if_neg a3, if_neg a4]
      refine okC_tells ?_ (tells_coolAt 3 [0, 3])
      refine okC_rg good ?_
      simp [go_sem, hr, hk, rec0, hf]
      repeat (with_reducible refine And.intro ?_ ?_; first | omega | assumption | (simp only [inI]; omega))
      refine okC_ret ?_
      simp [go_sem, hr, hk, rec0, hf]
      all_goals first | done | omega | grind | (simp; omega) | (simp_all; done) | (simp_all; omega)
end Go.Proofs.YtfhfidecmdhkoaaGreatDoor

end
section
set_option maxRecDepth 10000
namespace Go.Proofs.YtfhfidecmdhkoaaGreatDoor
open Go.Dv Go.Pl
theorem fn_spec_l29Any (b : Str) (c : Cur) (hb : b.length ≤ 1048576) : FnMu Tryz.prog 66 [.one (.bool false)] 0 (oCur b c) (fun r d => r = .val (nOp (opAnyF b c).1) ∧ d = oCur b (opAnyF b c).2) := by
 refine fn_mut good (rs := [.cell 2 81]) Tryz.func66 rfl Tryz.ntmps66 (by decide) (by simp) rfl fun w0 ow0 v0 => ?_
 simp only [mutSt]
 obtain ⟨o, ho⟩ : ∃ o, opF b c = o := ⟨_, rfl⟩
 obtain ⟨k, hk⟩ : ∃ k, belowF b 14 o.2 = k := ⟨_, rfl⟩
 refine okC_rg good ?_
 simp [go_sem, ho, hk]
 repeat (with_reducible refine And.intro ?_ ?_; first | omega | assumption | (simp only [inI]; omega))
 refine okC_rg good ?_
 simp [go_sem, ho, hk]
 repeat (with_reducible refine And.intro ?_ ?_; first | omega | assumption | (simp only [inI]; omega))
 refine callMK_of rfl (fn_spec_l29Op _ _ (by first | assumption | omega | (simp; omega) | grind)) ?_
 rintro r d ⟨rfl, rfl⟩
 simp [go_sem, ho, hk]
 repeat (with_reducible refine And.intro ?_ ?_; first | omega | assumption | (simp only [inI]; omega))
 refine okC_seq ?_
 refine okC_rg good ?_
 simp [go_sem, ho, hk]
 repeat (with_reducible refine And.intro ?_ ?_; first | omega | assumption | (simp only [inI]; omega))
 refine callMK_of rfl (fn_spec_l1Below _ _ _ (by first | assumption | omega | (simp; omega) | grind)) ?_
 rintro r d ⟨rfl, rfl⟩
 simp [go_sem, ho, hk]
 repeat (with_reducible refine And.intro ?_ ?_; first | omega | assumption | (simp only [inI]; omega))
 refine okC_block ?_
 refine okC_rg good ?_
 simp [go_sem, ho, hk]
 repeat (with_reducible refine And.intro ?_ ?_; first | omega | assumption | (simp only [inI]; omega))
 refine okC_if ?_
 simp [go_sem, ho, hk]
 first | refine gC_dec (fun a0 => ?_) (fun a0 => ?_) | refine gC_ndec (fun a0 => ?_) (fun a0 => ?_) | refine gC_of (fun a0 => ?_) (fun a0 => ?_)
 ·try simp at a0
  have hf : opAnyF b c = (⟨(belowF b 6 k.2).1, o.1.rc, o.1.ver⟩, (belowF b 6 k.2).2) := by simp only [opAnyF, ho, hk, if_pos a0]
  refine okC_rg1 good ?_
  simp [go_sem, ho, hk, hf]
  repeat (with_reducible refine And.intro ?_ ?_; first | omega | assumption | (simp only [inI]; omega))
  refine callMK_of rfl (fn_spec_l1Below _ _ _ (by first | assumption | omega | (simp; omega) | grind)) ?_
  rintro r d ⟨rfl, rfl⟩
  simp [go_sem, ho, hk, hf]
  repeat (with_reducible refine And.intro ?_ ?_; first | omega | assumption | (simp only [inI]; omega))
  refine okC_tells ?_ (tells_coolAt 3 [0, 1, 3])
  refine okC_rg good ?_
  simp [go_sem, ho, hk, hf]
  repeat (with_reducible refine And.intro ?_ ?_; first | omega | assumption | (simp only [inI]; omega))
  refine okC_ret ?_
  simp [go_sem, ho, hk, hf]
  all_goals first | done | omega | grind | (simp; omega) | (simp_all; done) | (simp_all; omega)
 ·try simp at a0
  refine okC_rg good ?_
  simp [go_sem, ho, hk]
  repeat (with_reducible refine And.intro ?_ ?_; first | omega | assumption | (simp only [inI]; omega))
  refine okC_if ?_
  simp [go_sem, ho, hk]
  first | refine gC_dec (fun a1 => ?_) (fun a1 => ?_) | refine gC_ndec (fun a1 => ?_) (fun a1 => ?_) | refine gC_of (fun a1 => ?_) (fun a1 => ?_)
  ·try simp at a1
   have hf : opAnyF b c = (⟨o.1.kind, (recAnyF b k.2).1, o.1.ver⟩, (recAnyF b k.2).2) := by simp only [opAnyF, ho, hk, if_neg a0, if_pos a1]
   refine okC_rg1 good ?_
   simp [go_sem, ho, hk, hf]
   repeat (with_reducible refine And.intro ?_ ?_; first | omega | assumption | (simp only [inI]; omega))
   refine callMK_of rfl (fn_spec_l8Any _ _ (by first | assumption | omega | (simp; omega) | grind)) ?_
   rintro r d ⟨rfl, rfl⟩
   simp [go_sem, ho, hk, hf]
   repeat (with_reducible refine And.intro ?_ ?_; first | omega | assumption | (simp only [inI]; omega))
   refine okC_tells ?_ (tells_coolAt 3 [0, 1, 3])
   refine okC_rg good ?_
   simp [go_sem, ho, hk, hf]
   repeat (with_reducible refine And.intro ?_ ?_; first | omega | assumption | (simp only [inI]; omega))
   refine okC_ret ?_
   simp [go_sem, ho, hk, hf]
   all_goals first | done | omega | grind | (simp; omega) | (simp_all; done) | (simp_all; omega)
  ·try simp at a1
   refine okC_rg good ?_
   simp [go_sem, ho, hk]
   repeat (with_reducible refine And.intro ?_ ?_; first | omega | assumption | (simp only [inI]; omega))
   refine okC_if ?_
   simp [go_sem, ho, hk]
   first | refine gC_dec (fun a2 => ?_) (fun a2 => ?_) | refine gC_ndec (fun a2 => ?_) (fun a2 => ?_) | refine gC_of (fun a2 => ?_) (fun a2 => ?_)
   ·try simp at a2
    have hf : opAnyF b c = (⟨o.1.kind, o.1.rc, (verAnyF b k.2).1⟩, (verAnyF b k.2).2) := by simp only [opAnyF, ho, hk, if_neg a0, if_neg a1, if_pos a2]
    refine okC_rg1 good ?_
    simp [go_sem, ho, hk, hf]
    repeat (with_reducible refine And.intro ?_ ?_; first | omega | assumption | (simp only [inI]; omega))
    refine callMK_of rfl (fn_spec_l28Any _ _ (by first | assumption | omega | (simp; omega) | grind)) ?_
    rintro r d ⟨rfl, rfl⟩
    simp [go_sem, ho, hk, hf]
    repeat (with_reducible refine And.intro ?_ ?_; first | omega | assumption | (simp only [inI]; omega))
    refine okC_tells ?_ (tells_coolAt 3 [0, 1, 3])
    refine okC_rg good ?_
    simp [go_sem, ho, hk, hf]
    repeat (with_reducible refine And.intro ?_ ?_; first | omega | assumption | (simp only [inI]; omega))
    refine okC_ret ?_
    simp [go_sem, ho, hk, hf]
    all_goals first | done | omega | grind | (simp; omega) | (simp_all; done) | (simp_all; omega)
   ·try simp at a2
    refine okC_skip ?_
    have hf : opAnyF b c = (o.1, k.2) := by simp only [opAnyF, ho, hk, if_neg a0, if_neg a1, if_neg a2]
    refine okC_tells ?_ (tells_coolAt 3 [0, 1, 3])
    refine okC_rg good ?_
    simp [go_sem, ho, hk, hf]
    repeat (with_reducible refine And.intro ?_ ?_; first | omega | assumption | (simp only [inI]; omega))
    refine okC_ret ?_
    simp [go_sem, ho, hk, hf]
    all_goals first | done | omega | grind | (simp; omega) | (simp_all; done) | (simp_all; omega)
theorem fn_spec_l29Batch (b : Str) (c : Cur) (hb : b.length ≤ 1048576) : FnMu Tryz.prog 53 [.one (.bool false)] 0 (oCur b c) (fun r d => r = .own (oBat (batF b c).1) ∧ d = oCur b (batF b c).2) := by
 refine fn_mut good (rs := [.cell 2 30]) Tryz.func53 rfl Tryz.ntmps53 (by decide) (by simp) rfl fun w0 ow0 v0 => ?_
 simp only [mutSt]
 obtain ⟨T, hT⟩ : ∃ T, batF b c = T := ⟨_, rfl⟩
 obtain ⟨q, hq⟩ : ∃ q, belowF b 5 c = q := ⟨_, rfl⟩
 have hqr := belowF_range b (n := 5) (by omega) c
 rw [hq] at hqr
 obtain ⟨n, hn⟩ : ∃ n : Nat, q.1 = n := ⟨q.1.toNat, by omega⟩
 have hT2 : batL b n q.2 [] = T := by rw [← hT, batF, hq, hn]; rfl
 refine okC_rg good ?_
 simp [go_sem, hT, hq, hn]
 repeat (with_reducible refine And.intro ?_ ?_; first | omega | assumption | (simp only [inI]; omega))
 refine okC_rg good ?_
 simp [go_sem, hT, hq, hn]
 repeat (with_reducible refine And.intro ?_ ?_; first | omega | assumption | (simp only [inI]; omega))
 refine okC_seq ?_
 refine okC_rg good ?_
 simp [go_sem, hT, hq, hn]
 repeat (with_reducible refine And.intro ?_ ?_; first | omega | assumption | (simp only [inI]; omega))
 refine callMK_of rfl (fn_spec_l1Below _ _ _ (by first | assumption | omega | (simp; omega) | grind)) ?_
 rintro r d ⟨rfl, rfl⟩
 simp [go_sem, hT, hq, hn]
 repeat (with_reducible refine And.intro ?_ ?_; first | omega | assumption | (simp only [inI]; omega))
 refine okC_block ?_
 refine okC_rounds (fun (x' : (Nat) × (Cur) × (List Opn)) => match x' with | (k, d, l) => [(0, .own (oCur b d)), (2, .own (.bx true (oBat []))), (3, .own (.bx true (oBat l))), (4, .val (dI k))]) (fun (x' : (Nat) × (Cur) × (List Opn)) => match x' with | (k, d, l) => k) (fun (x' : (Nat) × (Cur) × (List Opn)) => match x' with | (k, d, l) => (batL b k d l = T) ∧ (l.length + k ≤ 4)) ((n, q.2, [])) [] ⟨(hT2), (by simp; omega)⟩ (by simp [go_sem, hT, hq, hn]) ?_
 rintro ⟨k, d, l⟩ ⟨h1, h2⟩ K1 hK1
 simp only at h1 h2 ⊢
 refine okC_seq ?_
 refine okC_rg good ?_
 simp [go_sem, hT, hq, hn]
 repeat (with_reducible refine And.intro ?_ ?_; first | omega | assumption | (simp only [inI]; omega))
 refine okC_if ?_
 simp [go_sem, hT, hq, hn]
 first | refine gC_dec (fun a => ?_) (fun a => ?_) | refine gC_ndec (fun a => ?_) (fun a => ?_) | refine gC_of (fun a => ?_) (fun a => ?_)
 ·try simp at a
  refine okC_skip ?_
  refine okC_seq ?_
  refine okC_block ?_
  obtain ⟨k, rfl⟩ : ∃ k', k = k' + 1 := ⟨k - 1, by omega⟩
  have hk1 : ((k + 1 : Nat) : Int) - 1 = (k : Int) := by omega
  unfold batL at h1
  refine okC_df1 good [(3, [14, 15, 0]), (4, [15, 16]), (5, [13, 16, 17, 3, 12]), (7, [18, 17, 3, 12, 13])] [(0, .own (oCur b d)), (2, .own (.bx true (oBat []))), (3, .own (.bx true (oBat l))), (4, .val (dI (k + 1)))] [] rfl (by decide) (by kernel_rfl) (by simp [go_sem, hT, hq, hn, hk1]) ?_
  simp [go_sem, hT, hq, hn, hk1]
  repeat (with_reducible refine And.intro ?_ ?_; first | omega | assumption | (simp only [inI]; omega))
  refine callMF_of rfl (fn_spec_l29Op _ _ (by first | assumption | omega | (simp; omega) | grind)) ?_
  simp [go_sem, hT, hq, hn, hk1]
  repeat (with_reducible refine And.intro ?_ ?_; first | omega | assumption | (simp only [inI]; omega))
  refine okC_rg1 good ?_
  simp [go_sem, hT, hq, hn, hk1]
  repeat (with_reducible refine And.intro ?_ ?_; first | omega | assumption | (simp only [inI]; omega))
  refine normalE hK1 ⟨(k, (opF b d).2, l ++ [(opF b d).1]), [], ⟨(h1), (by rw [List.length_append]; exact (by omega : l.length + 1 + k ≤ 4))⟩, (by show _ < _; first | omega | simp <;> omega), (by simp [go_sem, hT, hq, hn, hk1])⟩
 ·try simp at a
  refine okC_exit (show K1 _ _ from exitE hK1 ?_)
  obtain rfl : k = 0 := by omega
  simp only [batL] at h1
  subst h1
  refine okC_rg good ?_
  simp [go_sem, hT, hq, hn]
  repeat (with_reducible refine And.intro ?_ ?_; first | omega | assumption | (simp only [inI]; omega))
  refine okC_ret ?_
  simp [go_sem, hT, hq, hn]
  all_goals first | done | omega | grind | (simp; omega) | (simp_all; done) | (simp_all; omega)
end Go.Proofs.YtfhfidecmdhkoaaGreatDoor

end
section
set_option maxRecDepth 10000
namespace Go.Proofs.YtfhfidecmdhkoaaGreatDoor
open Go.Dv Go.Pl
theorem fn_spec_l29Batches (b : Str) (c : Cur) (hb : b.length ≤ 1048576) : FnMu Tryz.prog 37 [.one (.bool false)] 0 (oCur b c) (fun r d => r = .val (nBat (batsF b c).1) ∧ d = oCur b (batsF b c).2) := by
 refine fn_mut good (rs := [.cell 2 30]) Tryz.func37 rfl Tryz.ntmps37 (by decide) (by simp) rfl fun w0 ow0 v0 => ?_
 simp only [mutSt]
 obtain ⟨l, hl⟩ : ∃ l, batF b c = l := ⟨_, rfl⟩
 obtain ⟨k, hk⟩ : ∃ k, belowF b 14 l.2 = k := ⟨_, rfl⟩
 have hl4 := (batF_good b c).2
 rw [hl] at hl4
 refine okC_rg good ?_
 simp [go_sem, hl, hk]
 repeat (with_reducible refine And.intro ?_ ?_; first | omega | assumption | (simp only [inI]; omega))
 refine okC_rg good ?_
 simp [go_sem, hl, hk]
 repeat (with_reducible refine And.intro ?_ ?_; first | omega | assumption | (simp only [inI]; omega))
 refine callMK_of rfl (fn_spec_l29Batch _ _ (by first | assumption | omega | (simp; omega) | grind)) ?_
 rintro r d ⟨rfl, rfl⟩
 simp [go_sem, hl, hk]
 repeat (with_reducible refine And.intro ?_ ?_; first | omega | assumption | (simp only [inI]; omega))
 refine okC_seq ?_
 refine okC_rg good ?_
 simp [go_sem, hl, hk]
 repeat (with_reducible refine And.intro ?_ ?_; first | omega | assumption | (simp only [inI]; omega))
 refine callMK_of rfl (fn_spec_l1Below _ _ _ (by first | assumption | omega | (simp; omega) | grind)) ?_
 rintro r d ⟨rfl, rfl⟩
 simp [go_sem, hl, hk]
 repeat (with_reducible refine And.intro ?_ ?_; first | omega | assumption | (simp only [inI]; omega))
 refine okC_block ?_
 refine okC_rg good ?_
 simp [go_sem, hl, hk]
 repeat (with_reducible refine And.intro ?_ ?_; first | omega | assumption | (simp only [inI]; omega))
 refine okC_if ?_
 simp [go_sem, hl, hk]
 first | refine gC_dec (fun a0 => ?_) (fun a0 => ?_) | refine gC_ndec (fun a0 => ?_) (fun a0 => ?_) | refine gC_of (fun a0 => ?_) (fun a0 => ?_)
 ·try simp at a0
  have hf : batsF b c = (l.1 ++ [(opAnyF b k.2).1], (opAnyF b k.2).2) := by simp only [batsF, hl, hk, if_pos a0]
  refine okC_df1 good [(3, [12, 13, 0]), (4, [13, 14]), (5, [11, 14, 15, 3, 10]), (7, [16, 15, 3, 10, 11])] [(0, .own (oCur b k.2)), (2, .own (.bx true (oBat []))), (3, .own (.bx true (oBat l.1)))] [] rfl (by decide) (by kernel_rfl) (by simp [go_sem, hl, hk, hf]) ?_
  simp [go_sem, hl, hk, hf]
  repeat (with_reducible refine And.intro ?_ ?_; first | omega | assumption | (simp only [inI]; omega))
  refine callMF_of rfl (fn_spec_l29Any _ _ (by first | assumption | omega | (simp; omega) | grind)) ?_
  simp [go_sem, hl, hk, hf]
  repeat (with_reducible refine And.intro ?_ ?_; first | omega | assumption | (simp only [inI]; omega))
  refine okC_tells ?_ (tells_coolAt 3 [0, 0])
  refine okC_rg good ?_
  simp [go_sem, hl, hk, hf]
  repeat (with_reducible refine And.intro ?_ ?_; first | omega | assumption | (simp only [inI]; omega))
  refine okC_ret ?_
  simp [go_sem, hl, hk, hf]
  all_goals first | done | omega | grind | (simp; omega) | (simp_all; done) | (simp_all; omega)
 ·try simp at a0
  refine okC_rg good ?_
  simp [go_sem, hl, hk]
  repeat (with_reducible refine And.intro ?_ ?_; first | omega | assumption | (simp only [inI]; omega))
  refine okC_if ?_
  simp [go_sem, hl, hk]
  first | refine gC_dec (fun a1 => ?_) (fun a1 => ?_) | refine gC_ndec (fun a1 => ?_) (fun a1 => ?_) | refine gC_of (fun a1 => ?_) (fun a1 => ?_)
  ·try simp at a1
   refine okC_block ?_
   obtain ⟨T, hT⟩ : ∃ T, batsF b c = T := ⟨_, rfl⟩
   have hT2 : batL b (7 - l.1.length) k.2 l.1 = T := by rw [← hT]; simp only [batsF, hl, hk, if_neg a0, if_pos a1]
   refine okC_rounds (fun (x' : (Nat) × (Cur) × (List Opn)) => match x' with | (j, d, m) => [(0, .own (oCur b d)), (2, .own (.bx true (oBat []))), (3, .own (.bx true (oBat m)))]) (fun (x' : (Nat) × (Cur) × (List Opn)) => match x' with | (j, d, m) => j) (fun (x' : (Nat) × (Cur) × (List Opn)) => match x' with | (j, d, m) => (batL b j d m = T) ∧ (m.length + j = 7)) ((7 - l.1.length, k.2, l.1)) [] ⟨(hT2), (by omega)⟩ (by simp [go_sem, hl, hk, hT]) ?_
   rintro ⟨j, d, m⟩ ⟨h1, h2⟩ K1 hK1
   simp only at h1 h2 ⊢
   refine okC_seq ?_
   refine okC_rg good ?_
   simp [go_sem, hl, hk, hT]
   repeat (with_reducible refine And.intro ?_ ?_; first | omega | assumption | (simp only [inI]; omega))
   refine okC_if ?_
   simp [go_sem, hl, hk, hT]
   first | refine gC_dec (fun a => ?_) (fun a => ?_) | refine gC_ndec (fun a => ?_) (fun a => ?_) | refine gC_of (fun a => ?_) (fun a => ?_)
   ·try simp at a
    refine okC_skip ?_
    refine okC_block ?_
    obtain ⟨j, rfl⟩ : ∃ k', j = k' + 1 := ⟨j - 1, by omega⟩
    unfold batL at h1
    refine okC_df1 good [(3, [25, 26, 0]), (4, [26, 27]), (5, [24, 27, 28, 3, 23]), (7, [29, 28, 3, 23, 24])] [(0, .own (oCur b d)), (2, .own (.bx true (oBat []))), (3, .own (.bx true (oBat m)))] [] rfl (by decide) (by kernel_rfl) (by simp [go_sem, hl, hk, hT]) ?_
    simp [go_sem, hl, hk, hT]
    repeat (with_reducible refine And.intro ?_ ?_; first | omega | assumption | (simp only [inI]; omega))
    refine callMF_of rfl (fn_spec_l29Op _ _ (by first | assumption | omega | (simp; omega) | grind)) ?_
    simp [go_sem, hl, hk, hT]
    repeat (with_reducible refine And.intro ?_ ?_; first | omega | assumption | (simp only [inI]; omega))
    refine show K1 .normal _ from normalE hK1 ⟨(j, (opF b d).2, m ++ [(opF b d).1]), [], ⟨(h1), (by rw [List.length_append]; exact (by omega : m.length + 1 + j = 7))⟩, (by show _ < _; first | omega | simp <;> omega), (by simp [go_sem, hl, hk, hT])⟩
   ·try simp at a
    refine okC_exit (show K1 _ _ from exitE hK1 ?_)
    obtain rfl : j = 0 := by omega
    simp only [batL] at h1
    subst h1
    refine okC_tells ?_ (tells_coolAt 3 [0, 0])
    refine okC_rg good ?_
    simp [go_sem, hl, hk, hT]
    repeat (with_reducible refine And.intro ?_ ?_; first | omega | assumption | (simp only [inI]; omega))
    refine okC_ret ?_
    simp [go_sem, hl, hk, hT]
    all_goals first | done | omega | grind | (simp; omega) | (simp_all; done) | (simp_all; omega)
  ·try simp at a1
   refine okC_skip ?_
   have hf : batsF b c = (l.1, k.2) := by simp only [batsF, hl, hk, if_neg a0, if_neg a1]
   refine okC_tells ?_ (tells_coolAt 3 [0, 0])
   refine okC_rg good ?_
   simp [go_sem, hl, hk, hf]
   repeat (with_reducible refine And.intro ?_ ?_; first | omega | assumption | (simp only [inI]; omega))
   refine okC_ret ?_
   simp [go_sem, hl, hk, hf]
   all_goals first | done | omega | grind | (simp; omega) | (simp_all; done) | (simp_all; omega)
end Go.Proofs.YtfhfidecmdhkoaaGreatDoor

end
section
set_option maxRecDepth 10000
namespace Go.Proofs.YtfhfidecmdhkoaaGreatDoor
open Go.Dv Go.Pl
theorem fix_step {b : Str} {m : List Opn} {i : Nat} {o : Opn} {d : Cur} {F : List Opn × Cur} (ho : m[i]? = some o) (h : (m.take i ++ (fixL b (m.drop i) d).1, (fixL b (m.drop i) d).2) = F) :
  ((m.set i (fixF b o d).1).take (i + 1) ++ (fixL b ((m.set i (fixF b o d).1).drop (i + 1)) (fixF b o d).2).1, (fixL b ((m.set i (fixF b o d).1).drop (i + 1)) (fixF b o d).2).2) = F := by
 have hi := getElem?_lt ho
 have e1 : m.drop i = o :: m.drop (i + 1) := by rw [List.drop_eq_getElem_cons hi]; congr 1; rw [List.getElem?_eq_getElem hi] at ho; exact Option.some.inj ho
 rw [e1] at h
 simp only [fixL] at h
 have e2 : (m.set i (fixF b o d).1).drop (i + 1) = m.drop (i + 1) := by rw [List.drop_set]; simp
 have e3 : (m.set i (fixF b o d).1).take (i + 1) = m.take i ++ [(fixF b o d).1] := by
  rw [List.take_set, List.take_add_one, ho]
  simp
  rw [List.set_append]
  simp [Nat.min_eq_left (Nat.le_of_lt hi)]
 rw [e2, e3, ← h]
 simp
theorem goodB_set {m : List Opn} {i : Nat} {o : Opn} (h : goodB m) (ho : tinyR o.rc ∧ (o.kind = 1 → o.rc.fields.length = 4)) : goodB (m.set i o) := fun x hx => by
 rcases List.mem_or_eq_of_mem_set hx with h1 | h1
 ·exact h x h1
 ·rw [h1]; exact ho
theorem set_self {m : List Opn} {i : Nat} {o : Opn} (h : m[i]? = some o) : m.set i o = m := by
 apply List.ext_getElem?
 intro j
 by_cases hj : i = j
 ·subst hj
  rw [List.getElem?_set_self (getElem?_lt h), h]
 ·rw [List.getElem?_set_ne hj]
theorem fn_spec_l30Batches (b : Str) (most : Int) (c : Cur) (hb : b.length ≤ 1048576) (hm : 0 ≤ most ∧ most ≤ 100) : FnMu Tryz.prog 132 [.one (.bool false), dI most] 0 (oCur b c) (fun r d => r = .own (oBats (batchesF b most c).1) ∧ d = oCur b (batchesF b most c).2) := by
 refine fn_mut good (rs := [.tmp 4]) Tryz.func132 rfl Tryz.ntmps132 (by decide) (by simp) rfl fun w0 ow0 v0 => ?_
 simp only [mutSt]
 obtain ⟨T, hT⟩ : ∃ T, batchesF b most c = T := ⟨_, rfl⟩
 obtain ⟨q, hq⟩ : ∃ q, belowF b (most + 1) c = q := ⟨_, rfl⟩
 have hqr := belowF_range b (n := most + 1) (by omega) c
 rw [hq] at hqr
 obtain ⟨n, hn⟩ : ∃ n : Nat, q.1 = n := ⟨q.1.toNat, by omega⟩
 have hT2 : batchesL b n q.2 [] = T := by rw [← hT, batchesF, hq, hn]; rfl
 refine okC_rg good ?_
 simp [go_sem, hT, hq, hn]
 repeat (with_reducible refine And.intro ?_ ?_; first | omega | assumption | (simp only [inI]; omega))
 refine okC_rg good ?_
 simp [go_sem, hT, hq, hn]
 repeat (with_reducible refine And.intro ?_ ?_; first | omega | assumption | (simp only [inI]; omega))
 refine okC_seq ?_
 refine okC_rg good ?_
 simp [go_sem, hT, hq, hn]
 repeat (with_reducible refine And.intro ?_ ?_; first | omega | assumption | (simp only [inI]; omega))
 refine callMK_of rfl (fn_spec_l1Below _ _ _ (by first | assumption | omega | (simp; omega) | grind)) ?_
 rintro r d ⟨rfl, rfl⟩
 simp [go_sem, hT, hq, hn]
 repeat (with_reducible refine And.intro ?_ ?_; first | omega | assumption | (simp only [inI]; omega))
 refine okC_block ?_
 refine okC_rounds (fun (x' : (Nat) × (Cur) × (List (List Opn))) => match x' with | (k, d, l) => [(0, .own (oCur b d)), (5, .own (oBats l)), (6, .val (dI k))]) (fun (x' : (Nat) × (Cur) × (List (List Opn))) => match x' with | (k, d, l) => k) (fun (x' : (Nat) × (Cur) × (List (List Opn))) => match x' with | (k, d, l) => (batchesL b k d l = T) ∧ (l.length + k ≤ 100)) ((n, q.2, [])) [] ⟨(hT2), (by simp; omega)⟩ (by simp [go_sem, hT, hq, hn]) ?_
 rintro ⟨k, d, l⟩ ⟨h1, h2⟩ K1 hK1
 simp only at h1 h2 ⊢
 refine okC_seq ?_
 refine okC_rg good ?_
 simp [go_sem, hT, hq, hn]
 repeat (with_reducible refine And.intro ?_ ?_; first | omega | assumption | (simp only [inI]; omega))
 refine okC_if ?_
 simp [go_sem, hT, hq, hn]
 first | refine gC_dec (fun a => ?_) (fun a => ?_) | refine gC_ndec (fun a => ?_) (fun a => ?_) | refine gC_of (fun a => ?_) (fun a => ?_)
 ·try simp at a
  refine okC_skip ?_
  refine okC_seq ?_
  refine okC_block ?_
  obtain ⟨k, rfl⟩ : ∃ k', k = k' + 1 := ⟨k - 1, by omega⟩
  have hk1 : ((k + 1 : Nat) : Int) - 1 = (k : Int) := by omega
  unfold batchesL at h1
  obtain ⟨g, hg⟩ : ∃ g, batF b d = g := ⟨_, rfl⟩
  have hgg := batF_good b d
  rw [hg] at hgg h1
  obtain ⟨F, hF⟩ : ∃ F, fixL b g.1 g.2 = F := ⟨_, rfl⟩
  rw [hF] at h1
  refine okC_rg good ?_
  simp [go_sem, hT, hq, hn, hg, hk1]
  repeat (with_reducible refine And.intro ?_ ?_; first | omega | assumption | (simp only [inI]; omega))
  refine callMK_of rfl (fn_spec_l29Batch _ _ (by first | assumption | omega | (simp; omega) | grind)) ?_
  rintro r d ⟨rfl, rfl⟩
  simp [go_sem, hT, hq, hn, hg, hk1]
  repeat (with_reducible refine And.intro ?_ ?_; first | omega | assumption | (simp only [inI]; omega))
  refine okC_seq ?_
  refine okC_rg good ?_
  simp [go_sem, hT, hq, hn, hg, hk1]
  repeat (with_reducible refine And.intro ?_ ?_; first | omega | assumption | (simp only [inI]; omega))
  refine okC_block ?_
  refine okC_rounds (fun (x' : (Nat) × (Cur) × (List Opn)) => match x' with | (i, e, m) => [(0, .own (oCur b e)), (5, .own (oBats l)), (6, .val (dI (k + 1))), (7, .own (.bx true (oBat m))), (8, .val (dI i))]) (fun (x' : (Nat) × (Cur) × (List Opn)) => match x' with | (i, e, m) => m.length - i) (fun (x' : (Nat) × (Cur) × (List Opn)) => match x' with | (i, e, m) => (i ≤ m.length) ∧ (m.length ≤ 4) ∧ (goodB m) ∧ ((m.take i ++ (fixL b (m.drop i) e).1, (fixL b (m.drop i) e).2) = F)) ((0, g.2, g.1)) [] ⟨(by omega), (hgg.2), (hgg.1), (by simpa using hF)⟩ (by simp [go_sem, hT, hq, hn, hg, hk1]) ?_
  rintro ⟨i, e, m⟩ ⟨g1, g2, g3, g4⟩ K2 hK2
  simp only at g1 g2 g3 g4 ⊢
  refine okC_seq ?_
  refine okC_rg good ?_
  simp [go_sem, hT, hq, hn, hg, hk1]
  repeat (with_reducible refine And.intro ?_ ?_; first | omega | assumption | (simp only [inI]; omega))
  refine okC_if ?_
  simp [go_sem, hT, hq, hn, hg, hk1]
  first | refine gC_dec (fun s => ?_) (fun s => ?_) | refine gC_ndec (fun s => ?_) (fun s => ?_) | refine gC_of (fun s => ?_) (fun s => ?_)
  ·try simp at s
   refine okC_skip ?_
   refine okC_seq ?_
   refine okC_block ?_
   obtain ⟨o, ho⟩ := at_of (l := m) (i := i) (by omega)
   have hst := fix_step ho g4
   have hgo := g3 o (List.mem_of_getElem? ho)
   have hfg := fixF_good b o e hgo
   refine okC_rg good ?_
   simp [go_sem, hT, hq, hn, hg, hk1, ho]
   repeat (with_reducible refine And.intro ?_ ?_; first | omega | assumption | (simp only [inI]; omega))
   first | refine gI_dec (fun t => ?_) (fun t => ?_) | refine gI_ndec (fun t => ?_) (fun t => ?_) | refine gI_of (fun t => ?_) (fun t => ?_)
   ·have t' := t; try simp at t'
    have hk4 := hgo.2 t
    obtain ⟨p, hp⟩ : ∃ p, onceF b 2 e = p := ⟨_, rfl⟩
    simp [go_sem, hT, hq, hn, hg, hk1, ho, t]
    repeat (with_reducible refine And.intro ?_ ?_; first | omega | assumption | (simp only [inI]; omega))
    refine callMK_of rfl (fn_spec_l1Once _ _ _ (by first | assumption | omega | (simp; omega) | grind)) ?_
    rintro r d ⟨rfl, rfl⟩
    simp [go_sem, hT, hq, hn, hg, hk1, ho, t]
    repeat (with_reducible refine And.intro ?_ ?_; first | omega | assumption | (simp only [inI]; omega))
    refine okC_if ?_
    simp [go_sem, hT, hq, hn, hg, hk1, ho, t]
    first | refine gC_dec (fun u => ?_) (fun u => ?_) | refine gC_ndec (fun u => ?_) (fun u => ?_) | refine gC_of (fun u => ?_) (fun u => ?_)
    ·try simp at u
     obtain ⟨f0, hf0⟩ := at_of (l := o.rc.fields) (i := 0) (by omega)
     obtain ⟨f3, hf3⟩ := at_of (l := o.rc.fields) (i := 3) (by omega)
     replace u : p.1 = true := by rw [← hp]; simp [onceF, u]
     obtain ⟨w, hw⟩ : ∃ w, pickF b nmWho [] p.2 = w := ⟨_, rfl⟩
     obtain ⟨z, hz⟩ : ∃ z, pickF b nmTel [] w.2 = z := ⟨_, rfl⟩
     have hlt : i < m.length := getElem?_lt ho
     have hlf : 0 < o.rc.fields.length ∧ 3 < o.rc.fields.length := by omega
     have hl0 := hlf.1; have hl3 := hlf.2
     have hfx : fixF b o e = (⟨o.kind, ⟨o.rc.source, o.rc.key, o.rc.version, (o.rc.fields.set 0 w.1).set 3 z.1⟩, o.ver⟩, z.2) := by simp only [fixF, if_pos t, hp, u, hw, hz, if_true]
     rw [hfx] at hst hfg
     have e1 : oOp ⟨1, ⟨o.rc.source, o.rc.key, o.rc.version, o.rc.fields.set 0 w.1⟩, o.ver⟩ = D.agg [dI 1, .agg [dI o.rc.source, dI o.rc.key, dI o.rc.version, .sl (some 9) ((o.rc.fields.map dS).set 0 (dS w.1))], dVer o.ver] := by simp [oOp, oRec, oStrs, List.map_set]
     have e2 : oOp ⟨1, ⟨o.rc.source, o.rc.key, o.rc.version, (o.rc.fields.set 0 w.1).set 3 z.1⟩, o.ver⟩ = D.agg [dI 1, .agg [dI o.rc.source, dI o.rc.key, dI o.rc.version, .sl (some 9) (((o.rc.fields.map dS).set 0 (dS w.1)).set 3 (dS z.1))], dVer o.ver] := by simp [oOp, oRec, oStrs, List.map_set]
     refine okC_df good [(8, [46]), (9, [45, 46, 47, 0]), (11, [48, 47, 7, 38, 39, 41, 42, 43, 44])] [(0, .own (oCur b p.2)), (5, .own (oBats l)), (6, .val (dI (k + 1))), (7, .own (.bx true (oBat m))), (8, .val (dI i))] [] rfl (by decide) (by kernel_rfl) (by simp [go_sem, hT, hq, hn, hg, hk1, ho, t, hp, hf0, hf3, hw, hz, e1, e2]) ?_
     simp [go_sem, hT, hq, hn, hg, hk1, ho, t, hp, hf0, hf3, hw, hz, e1, e2]
     repeat (with_reducible refine And.intro ?_ ?_; first | omega | assumption | (simp only [inI]; omega))
     refine callMF_of rfl (fn_spec_l1Pick b nmWho p.2 hb (by decide)) ?_
     simp [go_sem, hT, hq, hn, hg, hk1, ho, t, hp, hf0, hf3, hw, hz, e1, e2]
     repeat (with_reducible refine And.intro ?_ ?_; first | omega | assumption | (simp only [inI]; omega))
     refine okC_df1 good [(8, [57]), (9, [56, 57, 58, 0]), (11, [59, 58, 7, 49, 50, 52, 53, 54, 55])] [(0, .own (oCur b w.2)), (5, .own (oBats l)), (6, .val (dI (k + 1))), (7, .own (.bx true (oBat (m.set i ⟨o.kind, ⟨o.rc.source, o.rc.key, o.rc.version, o.rc.fields.set 0 w.1⟩, o.ver⟩)))), (8, .val (dI i))] [] rfl (by decide) (by kernel_rfl) (by simp [go_sem, hT, hq, hn, hg, hk1, ho, t, hp, hf0, hf3, hw, hz, e1, e2, hlt, hl0, hl3]) ?_
     simp [go_sem, hT, hq, hn, hg, hk1, ho, t, hp, hf0, hf3, hw, hz, e1, e2, hlt, hl0, hl3]
     repeat (with_reducible refine And.intro ?_ ?_; first | omega | assumption | (simp only [inI]; omega))
     refine callMF_of rfl (fn_spec_l1Pick b nmTel w.2 hb (by decide)) ?_
     simp [go_sem, hT, hq, hn, hg, hk1, ho, t, hp, hf0, hf3, hw, hz, e1, e2, hlt, hl0, hl3]
     repeat (with_reducible refine And.intro ?_ ?_; first | omega | assumption | (simp only [inI]; omega))
     refine okC_rg1 good ?_
     simp [go_sem, hT, hq, hn, hg, hk1, ho, t, hp, hf0, hf3, hw, hz, e1, e2, hlt, hl0, hl3]
     repeat (with_reducible refine And.intro ?_ ?_; first | omega | assumption | (simp only [inI]; omega))
     refine normalE hK2 ⟨(i + 1, z.2, m.set i ⟨o.kind, ⟨o.rc.source, o.rc.key, o.rc.version, (o.rc.fields.set 0 w.1).set 3 z.1⟩, o.ver⟩), [], ⟨(by simp; omega), (by simpa using g2), (goodB_set g3 hfg), (hst)⟩, (by show _ < _; first | omega | simp <;> omega), (by simp [go_sem, hT, hq, hn, hg, hk1, ho, t, hp, hf0, hf3, hw, hz, e1, e2, hlt, hl0, hl3])⟩
    ·try simp at u
     refine okC_skip ?_
     replace u : p.1 = false := by rw [← hp]; simp [onceF, u]
     have hfx : fixF b o e = (o, p.2) := by simp only [fixF, if_pos t, hp, u]; simp
     rw [hfx, set_self ho] at hst
     refine okC_rg1 good ?_
     simp [go_sem, hT, hq, hn, hg, hk1, ho, t, hp]
     repeat (with_reducible refine And.intro ?_ ?_; first | omega | assumption | (simp only [inI]; omega))
     refine normalE hK2 ⟨(i + 1, p.2, m), [], ⟨(by omega), (g2), (g3), (hst)⟩, (by show _ < _; first | omega | simp <;> omega), (by simp [go_sem, hT, hq, hn, hg, hk1, ho, t, hp])⟩
   ·have t' := t; try simp at t'
    have hfx : fixF b o e = (o, e) := by simp only [fixF, if_neg t]
    rw [hfx, set_self ho] at hst
    simp [go_sem, hT, hq, hn, hg, hk1, ho, t]
    repeat (with_reducible refine And.intro ?_ ?_; first | omega | assumption | (simp only [inI]; omega))
    refine okC_if ?_
    simp [go_sem, hT, hq, hn, hg, hk1, ho, t]
    refine okC_skip ?_
    refine okC_rg1 good ?_
    simp [go_sem, hT, hq, hn, hg, hk1, ho, t]
    repeat (with_reducible refine And.intro ?_ ?_; first | omega | assumption | (simp only [inI]; omega))
    refine normalE hK2 ⟨(i + 1, e, m), [], ⟨(by omega), (g2), (g3), (hst)⟩, (by show _ < _; first | omega | simp <;> omega), (by simp [go_sem, hT, hq, hn, hg, hk1, ho, t])⟩
  ·try simp at s
   refine okC_exit (show K2 _ _ from exitE hK2 ?_)
   have hi : i = m.length := by omega
   subst hi
   rw [List.take_length, List.drop_length] at g4
   simp only [fixL, List.append_nil] at g4
   subst g4
   refine okC_rg1 good ?_
   simp [go_sem, hT, hq, hn, hg, hk1]
   repeat (with_reducible refine And.intro ?_ ?_; first | omega | assumption | (simp only [inI]; omega))
   refine okC_rg1 good ?_
   simp [go_sem, hT, hq, hn, hg, hk1]
   repeat (with_reducible refine And.intro ?_ ?_; first | omega | assumption | (simp only [inI]; omega))
   refine normalE hK1 ⟨(k, e, l ++ [m]), [], ⟨(h1), (by rw [List.length_append]; exact (by omega : l.length + 1 + k ≤ 100))⟩, (by show _ < _; first | omega | simp <;> omega), (by simp [go_sem, hT, hq, hn, hg, hk1])⟩
 ·try simp at a
  refine okC_exit (show K1 _ _ from exitE hK1 ?_)
  obtain rfl : k = 0 := by omega
  simp only [batchesL] at h1
  subst h1
  refine okC_rg good ?_
  simp [go_sem, hT, hq, hn]
  repeat (with_reducible refine And.intro ?_ ?_; first | omega | assumption | (simp only [inI]; omega))
  refine okC_ret ?_
  simp [go_sem, hT, hq, hn]
  all_goals first | done | omega | grind | (simp; omega) | (simp_all; done) | (simp_all; omega)
end Go.Proofs.YtfhfidecmdhkoaaGreatDoor

end
section
set_option maxRecDepth 10000
namespace Go.Proofs.YtfhfidecmdhkoaaGreatDoor
open Go.Dv Go.Pl
theorem small_tiny {l : List Opn} (h1 : l.length ≤ 7) (h : ∀ o ∈ l, tinyR o.rc) : smallB l := ⟨by omega, fun o ho => ⟨by have := (h o ho).1; omega, fun f hf => by have := (h o ho).2 f hf; show f.length ≤ 1048576; omega⟩⟩
theorem appLog_len (s : Str) (l : List Opn) : (appLog s l).1.length ≤ s.length + 1333 := by
 have := entStr_len ((scan s).1.length + 1) l
 rw [appLog]
 split
 ·show s.length ≤ _; omega
 ·simp only [List.length_append]
  omega
def LogQ (b : Str) (n : Nat) (r : S) (d : D) : Prop := ∃ s e, r = .val (dS s) ∧ d = oCur b e ∧ s.length ≤ n
def NewQ (b : Str) (r : S) : Prop := ∃ h : Int, r = .own (oCur b (0, h))
def EncQ (r : S) : Prop := ∃ v l, r = .tup [.val (dI v), .val (nBat l)] ∧ tinyB l
def DecQ (r : S) : Prop := ∃ s, r = .val (dS s) ∧ s.length ≤ 100003
def AppQ (r : S) : Prop := ∃ s l, r = .tup [.val (dS s), .val (nBat l)] ∧ tinyB l ∧ s.length ≤ 5335
theorem fn_spec_l31Log (b : Str) (c : Cur) (hb : b.length ≤ 1048576) : FnMu Tryz.prog 87 [.one (.bool false), dI 4] 0 (oCur b c) (fun r d => LogQ b 5332 r d) := by
 refine fn_mut good (rs := [.tmp 4]) Tryz.func87 rfl Tryz.ntmps87 (by decide) (by simp) rfl fun w0 ow0 v0 => ?_
 simp only [mutSt]
 obtain ⟨T, hT⟩ : ∃ T, batchesF b 4 c = T := ⟨_, rfl⟩
 have hg : (∀ x ∈ T.1, goodB x ∧ x.length ≤ 4) ∧ T.1.length ≤ 4 := by rw [← hT, batchesF]; have h1 := batchesL_good b (belowF b (4 + 1) c).1.toNat (belowF b (4 + 1) c).2 [] (by simp); have h2 := belowF_range b (n := 5) (by omega) c; exact ⟨h1.1, by rw [h1.2]; simp; omega⟩
 refine okC_rg good ?_
 simp [go_sem, hT]
 repeat (with_reducible refine And.intro ?_ ?_; first | omega | assumption | (simp only [inI]; omega))
 refine okC_rg good ?_
 simp [go_sem, hT]
 repeat (with_reducible refine And.intro ?_ ?_; first | omega | assumption | (simp only [inI]; omega))
 refine okC_rg good ?_
 simp [go_sem, hT]
 repeat (with_reducible refine And.intro ?_ ?_; first | omega | assumption | (simp only [inI]; omega))
 refine callMK_of rfl (fn_spec_l30Batches _ _ _ (by first | assumption | omega | (simp; omega) | grind) (by first | assumption | omega | (simp; omega) | grind)) ?_
 rintro r d ⟨rfl, rfl⟩
 simp [go_sem, hT]
 repeat (with_reducible refine And.intro ?_ ?_; first | omega | assumption | (simp only [inI]; omega))
 refine okC_seq ?_
 refine okC_rg good ?_
 simp [go_sem, hT]
 repeat (with_reducible refine And.intro ?_ ?_; first | omega | assumption | (simp only [inI]; omega))
 refine okC_block ?_
 refine okC_rounds (fun (x' : (Nat) × (Str)) => match x' with | (i, s) => [(0, .own (oCur b T.2)), (5, .val (dS s)), (6, .own (oBats T.1)), (7, .val (dI i))]) (fun (x' : (Nat) × (Str)) => match x' with | (i, s) => T.1.length - i) (fun (x' : (Nat) × (Str)) => match x' with | (i, s) => (i ≤ T.1.length) ∧ (s.length ≤ 1333 * i)) ((0, [])) [] ⟨(by first | omega | rfl | (simp; done) | (simp; omega) | simp), (by first | omega | rfl | (simp; done) | (simp; omega) | simp)⟩ (by simp [go_sem, hT]) ?_
 rintro ⟨i, s⟩ ⟨h1, h2⟩ K1 hK1
 simp only at h1 h2 ⊢
 refine okC_seq ?_
 refine okC_rg good ?_
 simp [go_sem, hT]
 repeat (with_reducible refine And.intro ?_ ?_; first | omega | assumption | (simp only [inI]; omega))
 refine okC_if ?_
 simp [go_sem, hT]
 first | refine gC_dec (fun a => ?_) (fun a => ?_) | refine gC_ndec (fun a => ?_) (fun a => ?_) | refine gC_of (fun a => ?_) (fun a => ?_)
 ·try simp at a
  refine okC_skip ?_
  refine okC_seq ?_
  refine okC_block ?_
  obtain ⟨x, hx⟩ := at_of (l := T.1) (i := i) (by omega)
  have hgx := hg.1 x (List.mem_of_getElem? hx)
  have hsx := small_tiny (by omega) fun o ho => (hgx.1 o ho).1
  have hal := appLog_len s x
  refine okC_rg1 good ?_
  simp [go_sem, hT, hx]
  repeat (with_reducible refine And.intro ?_ ?_; first | omega | assumption | (simp only [inI]; omega))
  first | refine callK_of (fn_spec_AppendEntry s x (by omega) hsx) (by simp [go_sem]) ?_ | refine callK_fz (fn_spec_AppendEntry s x (by omega) hsx) (by simp [go_sem]) (by simp [go_sem]) ?_
  simp [go_sem, hT, hx]
  repeat (with_reducible refine And.intro ?_ ?_; first | omega | assumption | (simp only [inI]; omega))
  refine okC_rg1 good ?_
  simp [go_sem, hT, hx]
  repeat (with_reducible refine And.intro ?_ ?_; first | omega | assumption | (simp only [inI]; omega))
  refine normalE hK1 ⟨(i + 1, (appLog s x).1), [], ⟨(by omega), (by omega)⟩, (by show _ < _; first | omega | simp <;> omega), (by simp [go_sem, hT, hx])⟩
 ·try simp at a
  refine okC_exit (show K1 _ _ from exitE hK1 ?_)
  refine okC_rg good ?_
  simp [go_sem, hT]
  repeat (with_reducible refine And.intro ?_ ?_; first | omega | assumption | (simp only [inI]; omega))
  refine okC_ret ?_
  simp [go_sem, hT]
  exact ⟨s, T.2, rfl, rfl, by omega⟩
theorem fn_spec_l31Any (b : Str) (c : Cur) (hb : b.length ≤ 1048576) : FnMu Tryz.prog 56 [.one (.bool false)] 0 (oCur b c) (fun r d => LogQ b 5335 r d) := by
 refine fn_mut good (rs := [.tmp 2]) Tryz.func56 rfl Tryz.ntmps56 (by decide) (by simp) rfl fun w0 ow0 v0 => ?_
 simp only [mutSt]
 refine okC_rg good ?_
 simp [go_sem]
 repeat (with_reducible refine And.intro ?_ ?_; first | omega | assumption | (simp only [inI]; omega))
 refine okC_rg good ?_
 simp [go_sem]
 repeat (with_reducible refine And.intro ?_ ?_; first | omega | assumption | (simp only [inI]; omega))
 refine callMK_of rfl (fn_spec_l31Log b c hb) ?_
 rintro r d ⟨s, e, rfl, rfl, hs⟩
 simp [go_sem]
 repeat (with_reducible refine And.intro ?_ ?_; first | omega | assumption | (simp only [inI]; omega))
 refine okC_seq ?_
 obtain ⟨k, hk⟩ : ∃ k, belowF b 6 e = k := ⟨_, rfl⟩
 refine okC_rg good ?_
 simp [go_sem, hk]
 repeat (with_reducible refine And.intro ?_ ?_; first | omega | assumption | (simp only [inI]; omega))
 refine callMK_of rfl (fn_spec_l1Below _ _ _ (by first | assumption | omega | (simp; omega) | grind)) ?_
 rintro r d ⟨rfl, rfl⟩
 simp [go_sem, hk]
 repeat (with_reducible refine And.intro ?_ ?_; first | omega | assumption | (simp only [inI]; omega))
 refine okC_block ?_
 refine okC_rg good ?_
 simp [go_sem, hk]
 repeat (with_reducible refine And.intro ?_ ?_; first | omega | assumption | (simp only [inI]; omega))
 refine okC_if ?_
 simp [go_sem, hk]
 first | refine gC_dec (fun a0 => ?_) (fun a0 => ?_) | refine gC_ndec (fun a0 => ?_) (fun a0 => ?_) | refine gC_of (fun a0 => ?_) (fun a0 => ?_)
 ·try simp at a0
  have hsl := spoilF_len b s k.2
  refine okC_rg good ?_
  simp [go_sem, hk]
  repeat (with_reducible refine And.intro ?_ ?_; first | omega | assumption | (simp only [inI]; omega))
  refine callMK_of rfl (fn_spec_l1Spoil _ _ _ (by first | assumption | omega | (simp; omega) | grind) (by first | assumption | omega | (simp; omega) | grind)) ?_
  rintro r d ⟨rfl, rfl⟩
  simp [go_sem, hk]
  repeat (with_reducible refine And.intro ?_ ?_; first | omega | assumption | (simp only [inI]; omega))
  refine okC_ret ?_
  simp [go_sem, hk]
  exact ⟨_, _, rfl, rfl, by omega⟩
 ·try simp at a0
  refine okC_rg good ?_
  simp [go_sem, hk]
  repeat (with_reducible refine And.intro ?_ ?_; first | omega | assumption | (simp only [inI]; omega))
  refine okC_if ?_
  simp [go_sem, hk]
  first | refine gC_dec (fun a1 => ?_) (fun a1 => ?_) | refine gC_ndec (fun a1 => ?_) (fun a1 => ?_) | refine gC_of (fun a1 => ?_) (fun a1 => ?_)
  ·try simp at a1
   have hr := belowF_range b (n := (s.length : Int) + 1) (by omega) k.2
   obtain ⟨q, hq⟩ : ∃ q, belowF b ((s.length : Int) + 1) k.2 = q := ⟨_, rfl⟩
   rw [hq] at hr
   obtain ⟨n, hn⟩ : ∃ n : Nat, q.1 = n := ⟨q.1.toNat, by omega⟩
   refine okC_rg good ?_
   simp [go_sem, hk, hq, hn]
   repeat (with_reducible refine And.intro ?_ ?_; first | omega | assumption | (simp only [inI]; omega))
   refine callMK_of rfl (fn_spec_l1Below _ _ _ (by first | assumption | omega | (simp; omega) | grind)) ?_
   rintro r d ⟨rfl, rfl⟩
   simp [go_sem, hk, hq, hn]
   repeat (with_reducible refine And.intro ?_ ?_; first | omega | assumption | (simp only [inI]; omega))
   refine okC_ret ?_
   simp [go_sem, hk, hq, hn]
   exact ⟨_, _, rfl, rfl, by simp; omega⟩
  ·try simp at a1
   refine okC_skip ?_
   refine okC_rg good ?_
   simp [go_sem, hk]
   repeat (with_reducible refine And.intro ?_ ?_; first | omega | assumption | (simp only [inI]; omega))
   refine okC_ret ?_
   simp [go_sem, hk]
   exact ⟨s, _, rfl, rfl, by omega⟩
theorem fn_spec_l1New (b : Str) (hb : b.length ≤ 1048576) : FnOk Tryz.prog 35 [nByt b] (fun r => NewQ b r) := by
 refine fn_of good (rs := [.tmp 2]) Tryz.func35 rfl Tryz.ntmps35 (by decide) (by simp) rfl fun w0 ow0 => ?_
 refine okC_rg good ?_
 simp [go_sem]
 repeat (with_reducible refine And.intro ?_ ?_; first | omega | assumption | (simp only [inI]; omega))
 refine okC_rg good ?_
 simp [go_sem]
 repeat (with_reducible refine And.intro ?_ ?_; first | omega | assumption | (simp only [inI]; omega))
 refine okC_seq ?_
 refine okC_rg good ?_
 simp [go_sem]
 repeat (with_reducible refine And.intro ?_ ?_; first | omega | assumption | (simp only [inI]; omega))
 refine okC_block ?_
 refine okC_rounds (fun (x' : (Nat) × (Int)) => match x' with | (i, h) => [(0, .val (nByt b)), (3, .val (dI h)), (4, .val (dI i))]) (fun (x' : (Nat) × (Int)) => match x' with | (i, h) => b.length - i) (fun (x' : (Nat) × (Int)) => match x' with | (i, h) => (i ≤ b.length) ∧ (0 ≤ h ∧ h ≤ 1073741823)) ((0, 10101 + b.length)) [] ⟨(by omega), (by omega)⟩ (by simp [go_sem]) ?_
 rintro ⟨i, h⟩ ⟨h1, h2⟩ K1 hK1
 simp only at h1 h2 ⊢
 refine okC_seq ?_
 refine okC_rg good ?_
 simp [go_sem]
 repeat (with_reducible refine And.intro ?_ ?_; first | omega | assumption | (simp only [inI]; omega))
 first | refine gI_dec (fun a => ?_) (fun a => ?_) | refine gI_ndec (fun a => ?_) (fun a => ?_) | refine gI_of (fun a => ?_) (fun a => ?_)
 ·have a' := a; try simp at a'
  simp [go_sem, a]
  repeat (with_reducible refine And.intro ?_ ?_; first | omega | assumption | (simp only [inI]; omega))
  refine okC_if ?_
  simp [go_sem, a]
  first | refine gC_dec (fun s => ?_) (fun s => ?_) | refine gC_ndec (fun s => ?_) (fun s => ?_) | refine gC_of (fun s => ?_) (fun s => ?_)
  ·try simp at s
   refine okC_skip ?_
   refine okC_seq ?_
   refine okC_block ?_
   obtain ⟨z, hz⟩ := at_of (l := b) (i := i) (by omega)
   have hzl := z.toNat_lt
   have har := and_range (h * 131 + z.toNat + 7) (m := 1073741823) (by omega)
   refine okC_rg1 good ?_
   simp [go_sem, hz]
   repeat (with_reducible refine And.intro ?_ ?_; first | omega | assumption | (simp only [inI]; omega))
   refine okC_rg1 good ?_
   simp [go_sem, hz]
   repeat (with_reducible refine And.intro ?_ ?_; first | omega | assumption | (simp only [inI]; omega))
   refine normalE hK1 ⟨(i + 1, bitsI .and .i64 (h * 131 + z.toNat + 7) 1073741823), [], ⟨(by omega), (har)⟩, (by show _ < _; first | omega | simp <;> omega), (by simp [go_sem, hz])⟩
  ·try simp at s
   refine okC_exit (show K1 _ _ from exitE hK1 ?_)
   refine okC_rg good ?_
   simp [go_sem, a]
   repeat (with_reducible refine And.intro ?_ ?_; first | omega | assumption | (simp only [inI]; omega))
   refine okC_ret ?_
   simp [go_sem, a]
   exact ⟨h, rfl⟩
 ·have a' := a; try simp at a'
  simp [go_sem, a]
  repeat (with_reducible refine And.intro ?_ ?_; first | omega | assumption | (simp only [inI]; omega))
  refine okC_if ?_
  simp [go_sem, a]
  refine okC_exit (show K1 _ _ from exitE hK1 ?_)
  refine okC_rg good ?_
  simp [go_sem, a]
  repeat (with_reducible refine And.intro ?_ ?_; first | omega | assumption | (simp only [inI]; omega))
  refine okC_ret ?_
  simp [go_sem, a]
  exact ⟨h, rfl⟩
theorem fn_spec_DrawEncodeEntry (b : Str) (hb : b.length ≤ 1048576) : FnOk Tryz.prog 17 [nByt b] (fun r => EncQ r) := by
 refine fn_of good (rs := [.tmp 2, .cell 3 30]) Tryz.func17 rfl Tryz.ntmps17 (by decide) (by simp) rfl fun w0 ow0 => ?_
 refine okC_rg good ?_
 simp [go_sem]
 repeat (with_reducible refine And.intro ?_ ?_; first | omega | assumption | (simp only [inI]; omega))
 refine okC_rg good ?_
 simp [go_sem]
 repeat (with_reducible refine And.intro ?_ ?_; first | omega | assumption | (simp only [inI]; omega))
 refine callK_fx (fn_spec_l1New b hb) (by simp [go_sem]) ?_
 rintro r ⟨h, rfl⟩
 refine ⟨by simp [go_sem], ?_⟩
 simp [go_sem]
 repeat (with_reducible refine And.intro ?_ ?_; first | omega | assumption | (simp only [inI]; omega))
 refine okC_rg good ?_
 simp [go_sem]
 repeat (with_reducible refine And.intro ?_ ?_; first | omega | assumption | (simp only [inI]; omega))
 refine callMK_of rfl (fn_spec_l1PickInt b [1, 2, 10, 999, 0, 1000] (0, h) hb (by simp)) ?_
 rintro r d ⟨rfl, rfl⟩
 simp [go_sem]
 repeat (with_reducible refine And.intro ?_ ?_; first | omega | assumption | (simp only [inI]; omega))
 refine callMK_of rfl (fn_spec_l29Batches _ _ (by first | assumption | omega | (simp; omega) | grind)) ?_
 rintro r d ⟨rfl, rfl⟩
 simp [go_sem]
 repeat (with_reducible refine And.intro ?_ ?_; first | omega | assumption | (simp only [inI]; omega))
 refine okC_ret ?_
 simp [go_sem]
 exact ⟨_, _, rfl, batsF_tiny b _⟩
theorem fn_spec_DrawDecodeEntry (b : Str) (hb : b.length ≤ 1048576) : FnOk Tryz.prog 22 [nByt b] (fun r => DecQ r) := by
 refine fn_of good (rs := [.tmp 2]) Tryz.func22 rfl Tryz.ntmps22 (by decide) (by simp) rfl fun w0 ow0 => ?_
 refine okC_rg good ?_
 simp [go_sem]
 repeat (with_reducible refine And.intro ?_ ?_; first | omega | assumption | (simp only [inI]; omega))
 refine okC_rg good ?_
 simp [go_sem]
 repeat (with_reducible refine And.intro ?_ ?_; first | omega | assumption | (simp only [inI]; omega))
 refine callK_fx (fn_spec_l1New b hb) (by simp [go_sem]) ?_
 rintro r ⟨h, rfl⟩
 refine ⟨by simp [go_sem], ?_⟩
 simp [go_sem]
 repeat (with_reducible refine And.intro ?_ ?_; first | omega | assumption | (simp only [inI]; omega))
 obtain ⟨p, hp⟩ : ∃ p, pickF b ([1, 2, 10, 999] : List Int) 0 (0, h) = p := ⟨_, rfl⟩
 obtain ⟨l, hl⟩ : ∃ l, batF b p.2 = l := ⟨_, rfl⟩
 have hg := batF_good b p.2
 rw [hl] at hg
 have hsm := small_tiny (by omega) fun o ho => (hg.1 o ho).1
 have hel := entStr_len p.1 l.1
 refine okC_rg good ?_
 simp [go_sem, hp, hl]
 repeat (with_reducible refine And.intro ?_ ?_; first | omega | assumption | (simp only [inI]; omega))
 refine callMK_of rfl (fn_spec_l1PickInt b [1, 2, 10, 999] (0, h) hb (by simp)) ?_
 rintro r d ⟨rfl, rfl⟩
 simp [go_sem, hp, hl]
 repeat (with_reducible refine And.intro ?_ ?_; first | omega | assumption | (simp only [inI]; omega))
 refine callMK_of rfl (fn_spec_l29Batch b p.2 hb) ?_
 rintro r d ⟨rfl, rfl⟩
 simp [go_sem, hp, hl]
 repeat (with_reducible refine And.intro ?_ ?_; first | omega | assumption | (simp only [inI]; omega))
 first | refine callK_of (fn_spec_EncodeEntry p.1 l.1 hsm) (by simp [go_sem]) ?_ | refine callK_fz (fn_spec_EncodeEntry p.1 l.1 hsm) (by simp [go_sem]) (by simp [go_sem]) ?_
 simp [go_sem, hp, hl]
 repeat (with_reducible refine And.intro ?_ ?_; first | omega | assumption | (simp only [inI]; omega))
 refine okC_seq ?_
 obtain ⟨q, hq⟩ : ∃ q, onceF b 3 l.2 = q := ⟨_, rfl⟩
 refine okC_rg good ?_
 simp [go_sem, hp, hl, hq]
 repeat (with_reducible refine And.intro ?_ ?_; first | omega | assumption | (simp only [inI]; omega))
 refine callMK_of rfl (fn_spec_l1Once _ _ _ (by first | assumption | omega | (simp; omega) | grind)) ?_
 rintro r d ⟨rfl, rfl⟩
 simp [go_sem, hp, hl, hq]
 repeat (with_reducible refine And.intro ?_ ?_; first | omega | assumption | (simp only [inI]; omega))
 refine okC_if ?_
 simp [go_sem, hp, hl, hq]
 first | refine gC_dec (fun a => ?_) (fun a => ?_) | refine gC_ndec (fun a => ?_) (fun a => ?_) | refine gC_of (fun a => ?_) (fun a => ?_)
 ·try simp at a
  have hsp := spoilF_len b (entStr p.1 l.1) q.2
  refine okC_rg good ?_
  simp [go_sem, hp, hl, hq]
  repeat (with_reducible refine And.intro ?_ ?_; first | omega | assumption | (simp only [inI]; omega))
  refine callMK_of rfl (fn_spec_l1Spoil b (entStr p.1 l.1) q.2 hb (by omega)) ?_
  rintro r d ⟨rfl, rfl⟩
  simp [go_sem, hp, hl, hq]
  repeat (with_reducible refine And.intro ?_ ?_; first | omega | assumption | (simp only [inI]; omega))
  refine okC_ret ?_
  simp [go_sem, hp, hl, hq]
  exact ⟨_, rfl, by omega⟩
 ·try simp at a
  refine okC_skip ?_
  refine okC_rg good ?_
  simp [go_sem, hp, hl, hq]
  repeat (with_reducible refine And.intro ?_ ?_; first | omega | assumption | (simp only [inI]; omega))
  refine okC_ret ?_
  simp [go_sem, hp, hl, hq]
  exact ⟨_, rfl, by omega⟩
theorem fn_spec_DrawAppendEntry (b : Str) (hb : b.length ≤ 1048576) : FnOk Tryz.prog 23 [nByt b] (fun r => AppQ r) := by
 refine fn_of good (rs := [.tmp 2, .cell 3 30]) Tryz.func23 rfl Tryz.ntmps23 (by decide) (by simp) rfl fun w0 ow0 => ?_
 refine okC_rg good ?_
 simp [go_sem]
 repeat (with_reducible refine And.intro ?_ ?_; first | omega | assumption | (simp only [inI]; omega))
 refine okC_rg good ?_
 simp [go_sem]
 repeat (with_reducible refine And.intro ?_ ?_; first | omega | assumption | (simp only [inI]; omega))
 refine callK_fx (fn_spec_l1New b hb) (by simp [go_sem]) ?_
 rintro r ⟨h, rfl⟩
 refine ⟨by simp [go_sem], ?_⟩
 simp [go_sem]
 repeat (with_reducible refine And.intro ?_ ?_; first | omega | assumption | (simp only [inI]; omega))
 refine okC_rg good ?_
 simp [go_sem]
 repeat (with_reducible refine And.intro ?_ ?_; first | omega | assumption | (simp only [inI]; omega))
 refine callMK_of rfl (fn_spec_l31Any b (0, h) hb) ?_
 rintro r d ⟨s, e, rfl, rfl, hs⟩
 simp [go_sem]
 repeat (with_reducible refine And.intro ?_ ?_; first | omega | assumption | (simp only [inI]; omega))
 refine callMK_of rfl (fn_spec_l29Batches _ _ (by first | assumption | omega | (simp; omega) | grind)) ?_
 rintro r d ⟨rfl, rfl⟩
 simp [go_sem]
 repeat (with_reducible refine And.intro ?_ ?_; first | omega | assumption | (simp only [inI]; omega))
 refine okC_ret ?_
 simp [go_sem]
 exact ⟨_, _, rfl, batsF_tiny b _, hs⟩
end Go.Proofs.YtfhfidecmdhkoaaGreatDoor

end
section
set_option maxRecDepth 10000
namespace Go.Proofs.YtfhfidecmdhkoaaGreatDoor
open Go.Dv Go.Pl
theorem bytesLess_self : ∀ l : List UInt8, Op.bytesLess l l = false
 | [] => rfl
 | a :: l => by
  unfold Op.bytesLess
  simp [bytesLess_self l]
theorem strLt_self (z : ByteArray) : strLt z z = false := bytesLess_self _
theorem fn_cmp_isNaN_int (x : Int) : FnOk Tryz.prog 164 [dI x] (fun res' => res' = .val (dB false)) := by
 refine fn_of good (rs := [.tmp 2]) Tryz.func164 rfl Tryz.ntmps164 (by decide) (by simp) rfl fun w0 ow0 => ?_
 refine okC_rg good ?_
 simp [go_sem]
 repeat (with_reducible refine And.intro ?_ ?_; first | omega | assumption | (simp only [inI]; omega))
 refine okC_rg good ?_
 simp [go_sem]
 repeat (with_reducible refine And.intro ?_ ?_; first | omega | assumption | (simp only [inI]; omega))
 refine okC_ret ?_
 simp [go_sem]
 all_goals first | done | omega | grind | (simp; omega) | (simp_all; done) | (simp_all; omega)
theorem fn_cmp_isNaN_string (s : Str) : FnOk Tryz.prog 189 [dS s] (fun res' => res' = .val (dB false)) := by
 refine fn_of good (rs := [.tmp 2]) Tryz.func189 rfl Tryz.ntmps189 (by decide) (by simp) rfl fun w0 ow0 => ?_
 refine okC_rg good ?_
 simp [go_sem]
 repeat (with_reducible refine And.intro ?_ ?_; first | omega | assumption | (simp only [inI]; omega))
 refine okC_rg good ?_
 simp [go_sem]
 repeat (with_reducible refine And.intro ?_ ?_; first | omega | assumption | (simp only [inI]; omega))
 refine okC_ret ?_
 simp [go_sem]
 all_goals first | done | omega | grind | (simp; omega) | (simp_all; done) | (simp_all; omega)
theorem fn_cmp_Compare_int (x : Int) : FnOk Tryz.prog 130 [dI x, dI x] (fun res' => res' = .val (dI 0)) := by
 refine fn_of good (rs := [.tmp 4]) Tryz.func130 rfl Tryz.ntmps130 (by decide) (by simp) rfl fun w0 ow0 => ?_
 refine okC_rg good ?_
 simp [go_sem]
 repeat (with_reducible refine And.intro ?_ ?_; first | omega | assumption | (simp only [inI]; omega))
 refine okC_rg good ?_
 simp [go_sem]
 repeat (with_reducible refine And.intro ?_ ?_; first | omega | assumption | (simp only [inI]; omega))
 first | refine callK_of (fn_cmp_isNaN_int _) (by simp [go_sem]) ?_ | refine callK_fz (fn_cmp_isNaN_int _) (by simp [go_sem]) (by simp [go_sem]) ?_
 simp [go_sem]
 repeat (with_reducible refine And.intro ?_ ?_; first | omega | assumption | (simp only [inI]; omega))
 refine okC_rg good ?_
 simp [go_sem]
 repeat (with_reducible refine And.intro ?_ ?_; first | omega | assumption | (simp only [inI]; omega))
 first | refine callK_of (fn_cmp_isNaN_int _) (by simp [go_sem]) ?_ | refine callK_fz (fn_cmp_isNaN_int _) (by simp [go_sem]) (by simp [go_sem]) ?_
 simp [go_sem]
 repeat (with_reducible refine And.intro ?_ ?_; first | omega | assumption | (simp only [inI]; omega))
 refine okC_seq ?_
 refine okC_rg good ?_
 simp [go_sem]
 repeat (with_reducible refine And.intro ?_ ?_; first | omega | assumption | (simp only [inI]; omega))
 refine okC_if ?_
 simp [go_sem]
 refine okC_skip ?_
 refine okC_seq ?_
 refine okC_rg good ?_
 simp [go_sem]
 repeat (with_reducible refine And.intro ?_ ?_; first | omega | assumption | (simp only [inI]; omega))
 refine okC_if ?_
 simp [go_sem]
 refine okC_skip ?_
 refine okC_seq ?_
 refine okC_rg good ?_
 simp [go_sem]
 repeat (with_reducible refine And.intro ?_ ?_; first | omega | assumption | (simp only [inI]; omega))
 refine okC_if ?_
 simp [go_sem]
 refine okC_skip ?_
 refine okC_seq ?_
 refine okC_rg good ?_
 simp [go_sem]
 repeat (with_reducible refine And.intro ?_ ?_; first | omega | assumption | (simp only [inI]; omega))
 refine okC_if ?_
 simp [go_sem]
 refine okC_skip ?_
 refine okC_rg good ?_
 simp [go_sem]
 repeat (with_reducible refine And.intro ?_ ?_; first | omega | assumption | (simp only [inI]; omega))
 refine okC_ret ?_
 simp [go_sem]
 all_goals first | done | omega | grind | (simp; omega) | (simp_all; done) | (simp_all; omega)
theorem fn_cmp_Compare_string (s : Str) : FnOk Tryz.prog 165 [dS s, dS s] (fun res' => res' = .val (dI 0)) := by
 refine fn_of good (rs := [.tmp 4]) Tryz.func165 rfl Tryz.ntmps165 (by decide) (by simp) rfl fun w0 ow0 => ?_
 have hs := strLt_self ⟨s.toArray⟩
 refine okC_rg good ?_
 simp [go_sem, hs]
 repeat (with_reducible refine And.intro ?_ ?_; first | omega | assumption | (simp only [inI]; omega))
 refine okC_rg good ?_
 simp [go_sem, hs]
 repeat (with_reducible refine And.intro ?_ ?_; first | omega | assumption | (simp only [inI]; omega))
 first | refine callK_of (fn_cmp_isNaN_string _) (by simp [go_sem]) ?_ | refine callK_fz (fn_cmp_isNaN_string _) (by simp [go_sem]) (by simp [go_sem]) ?_
 simp [go_sem, hs]
 repeat (with_reducible refine And.intro ?_ ?_; first | omega | assumption | (simp only [inI]; omega))
 refine okC_rg good ?_
 simp [go_sem, hs]
 repeat (with_reducible refine And.intro ?_ ?_; first | omega | assumption | (simp only [inI]; omega))
 first | refine callK_of (fn_cmp_isNaN_string _) (by simp [go_sem]) ?_ | refine callK_fz (fn_cmp_isNaN_string _) (by simp [go_sem]) (by simp [go_sem]) ?_
 simp [go_sem, hs]
 repeat (with_reducible refine And.intro ?_ ?_; first | omega | assumption | (simp only [inI]; omega))
 refine okC_seq ?_
 refine okC_rg good ?_
 simp [go_sem, hs]
 repeat (with_reducible refine And.intro ?_ ?_; first | omega | assumption | (simp only [inI]; omega))
 refine okC_if ?_
 simp [go_sem, hs]
 refine okC_skip ?_
 refine okC_seq ?_
 refine okC_rg good ?_
 simp [go_sem, hs]
 repeat (with_reducible refine And.intro ?_ ?_; first | omega | assumption | (simp only [inI]; omega))
 refine okC_if ?_
 simp [go_sem, hs]
 refine okC_skip ?_
 refine okC_seq ?_
 refine okC_rg good ?_
 simp [go_sem, hs]
 repeat (with_reducible refine And.intro ?_ ?_; first | omega | assumption | (simp only [inI]; omega))
 refine okC_if ?_
 simp [go_sem, hs]
 refine okC_skip ?_
 refine okC_seq ?_
 refine okC_rg good ?_
 simp [go_sem, hs]
 repeat (with_reducible refine And.intro ?_ ?_; first | omega | assumption | (simp only [inI]; omega))
 refine okC_if ?_
 simp [go_sem, hs]
 refine okC_skip ?_
 refine okC_rg good ?_
 simp [go_sem, hs]
 repeat (with_reducible refine And.intro ?_ ?_; first | omega | assumption | (simp only [inI]; omega))
 refine okC_ret ?_
 simp [go_sem, hs]
 all_goals first | done | omega | grind | (simp; omega) | (simp_all; done) | (simp_all; omega)
theorem fn_cmp_Or_int (l : List Int) (hl : l.length ≤ 100 ∧ ∀ x ∈ l, x = 0) : FnOk Tryz.prog 128 [.sl none (l.map dI)] (fun res' => res' = .val (dI 0)) := by
 refine fn_of good (rs := [.tmp 2]) Tryz.func128 rfl Tryz.ntmps128 (by decide) (by simp) rfl fun w0 ow0 => ?_
 refine okC_rg good ?_
 simp [go_sem]
 repeat (with_reducible refine And.intro ?_ ?_; first | omega | assumption | (simp only [inI]; omega))
 refine okC_rg good ?_
 simp [go_sem]
 repeat (with_reducible refine And.intro ?_ ?_; first | omega | assumption | (simp only [inI]; omega))
 refine okC_seq ?_
 refine okC_rg good ?_
 simp [go_sem]
 repeat (with_reducible refine And.intro ?_ ?_; first | omega | assumption | (simp only [inI]; omega))
 refine okC_block ?_
 refine okC_rounds (fun (i : Nat) => [(2, .val (dI 0)), (3, .val (dI 0)), (6, .val (.sl none (l.map dI))), (7, .val (dI l.length)), (8, .val (dI i))]) (fun (i : Nat) => l.length - i) (fun (i : Nat) => (i ≤ l.length)) (0) [] (by first | omega | rfl | (simp; done) | (simp; omega) | simp) (by simp [go_sem]) ?_
 rintro i h1 K1 hK1
 refine okC_rg good ?_
 simp [go_sem]
 repeat (with_reducible refine And.intro ?_ ?_; first | omega | assumption | (simp only [inI]; omega))
 refine okC_seq ?_
 refine okC_if ?_
 simp [go_sem]
 first | refine gC_dec (fun a => ?_) (fun a => ?_) | refine gC_ndec (fun a => ?_) (fun a => ?_) | refine gC_of (fun a => ?_) (fun a => ?_)
 ·try simp at a
  refine okC_skip ?_
  refine okC_seq ?_
  refine okC_block ?_
  obtain ⟨c, hc⟩ := at_of (l := l) (i := i) (by omega)
  obtain rfl : c = 0 := hl.2 c (List.mem_of_getElem? hc)
  refine okC_rg good ?_
  simp [go_sem, hc]
  repeat (with_reducible refine And.intro ?_ ?_; first | omega | assumption | (simp only [inI]; omega))
  refine okC_rg good ?_
  simp [go_sem, hc]
  repeat (with_reducible refine And.intro ?_ ?_; first | omega | assumption | (simp only [inI]; omega))
  refine okC_if ?_
  simp [go_sem, hc]
  refine okC_skip ?_
  refine okC_rg1 good ?_
  simp [go_sem, hc]
  repeat (with_reducible refine And.intro ?_ ?_; first | omega | assumption | (simp only [inI]; omega))
  refine normalE hK1 ⟨i + 1, [], (by first | omega | (simp; omega) | grind), (by show _ < _; first | omega | simp <;> omega), (by simp [go_sem, hc])⟩
 ·try simp at a
  refine okC_exit (show K1 _ _ from exitE hK1 ?_)
  refine okC_rg good ?_
  simp [go_sem]
  repeat (with_reducible refine And.intro ?_ ?_; first | omega | assumption | (simp only [inI]; omega))
  refine okC_ret ?_
  simp [go_sem]
  all_goals first | done | omega | grind | (simp; omega) | (simp_all; done) | (simp_all; omega)
theorem fn_impl_compareOrigins (r : Rec) : FnOk Tryz.prog 129 [nRec r, nRec r] (fun res' => res' = .val (dI 0)) := by
 refine fn_of good (rs := [.tmp 4]) Tryz.func129 rfl Tryz.ntmps129 (by decide) (by simp) rfl fun w0 ow0 => ?_
 refine okC_rg good ?_
 simp [go_sem]
 repeat (with_reducible refine And.intro ?_ ?_; first | omega | assumption | (simp only [inI]; omega))
 refine okC_df good [(10, [9, 14, 15]), (12, [16, 4])] [(2, .own (.bx true (nRec r))), (3, .own (.bx true (nRec r))), (4, .val (dI 0))] [] rfl (by decide) (by kernel_rfl) (by simp [go_sem]) ?_
 simp [go_sem]
 repeat (with_reducible refine And.intro ?_ ?_; first | omega | assumption | (simp only [inI]; omega))
 first | refine callD_of (fn_cmp_Compare_int r.source) (by simp [go_sem]) rfl ?_ | refine callD_fz (fn_cmp_Compare_int r.source) (by simp [go_sem]) (by simp [go_sem]) rfl ?_
 simp [go_sem]
 repeat (with_reducible refine And.intro ?_ ?_; first | omega | assumption | (simp only [inI]; omega))
 first | refine callD_of (fn_cmp_Compare_int r.key) (by simp [go_sem]) rfl ?_ | refine callD_fz (fn_cmp_Compare_int r.key) (by simp [go_sem]) (by simp [go_sem]) rfl ?_
 simp [go_sem]
 repeat (with_reducible refine And.intro ?_ ?_; first | omega | assumption | (simp only [inI]; omega))
 first | refine callD_of (fn_cmp_Or_int [0, 0] (by simp)) (by simp [go_sem]) rfl ?_ | refine callD_fz (fn_cmp_Or_int [0, 0] (by simp)) (by simp [go_sem]) (by simp [go_sem]) rfl ?_
 simp [go_sem]
 repeat (with_reducible refine And.intro ?_ ?_; first | omega | assumption | (simp only [inI]; omega))
 refine okC_ret ?_
 simp [go_sem]
 all_goals first | done | omega | grind | (simp; omega) | (simp_all; done) | (simp_all; omega)
theorem fn_slices_Compare_string_string (l : List Str) (hl : l.length ≤ 1048576) : FnOk Tryz.prog 131 [nStrs l, nStrs l] (fun res' => res' = .val (dI 0)) := by
 refine fn_of good (rs := [.tmp 4]) Tryz.func131 rfl Tryz.ntmps131 (by decide) (by simp) rfl fun w0 ow0 => ?_
 refine okC_rg good ?_
 simp [go_sem]
 repeat (with_reducible refine And.intro ?_ ?_; first | omega | assumption | (simp only [inI]; omega))
 refine okC_seq ?_
 refine okC_rg good ?_
 simp [go_sem]
 repeat (with_reducible refine And.intro ?_ ?_; first | omega | assumption | (simp only [inI]; omega))
 refine okC_block ?_
 refine okC_rounds (fun (i : Nat) => [(0, .val (nStrs l)), (1, .val (nStrs l)), (9, .val (nStrs l)), (10, .val (dI l.length)), (11, .val (dI i))]) (fun (i : Nat) => l.length - i) (fun (i : Nat) => (i ≤ l.length)) (0) [] (by first | omega | rfl | (simp; done) | (simp; omega) | simp) (by simp [go_sem]) ?_
 rintro i h1 K1 hK1
 refine okC_rg good ?_
 simp [go_sem]
 repeat (with_reducible refine And.intro ?_ ?_; first | omega | assumption | (simp only [inI]; omega))
 refine okC_seq ?_
 refine okC_if ?_
 simp [go_sem]
 first | refine gC_dec (fun a => ?_) (fun a => ?_) | refine gC_ndec (fun a => ?_) (fun a => ?_) | refine gC_of (fun a => ?_) (fun a => ?_)
 ·try simp at a
  refine okC_skip ?_
  refine okC_seq ?_
  refine okC_block ?_
  obtain ⟨c, hc⟩ := at_of (l := l) (i := i) (by omega)
  have hn : ¬ l.length ≤ i := by omega
  refine okC_rg good ?_
  simp [go_sem, hc, hn]
  repeat (with_reducible refine And.intro ?_ ?_; first | omega | assumption | (simp only [inI]; omega))
  refine okC_seq ?_
  refine okC_rg good ?_
  simp [go_sem, hc, hn]
  repeat (with_reducible refine And.intro ?_ ?_; first | omega | assumption | (simp only [inI]; omega))
  refine okC_if ?_
  simp [go_sem, hc, hn]
  refine okC_skip ?_
  refine okC_rg good ?_
  simp [go_sem, hc, hn]
  repeat (with_reducible refine And.intro ?_ ?_; first | omega | assumption | (simp only [inI]; omega))
  refine okC_rg good ?_
  simp [go_sem, hc, hn]
  repeat (with_reducible refine And.intro ?_ ?_; first | omega | assumption | (simp only [inI]; omega))
  first | refine callK_of (fn_cmp_Compare_string _) (by simp [go_sem]) ?_ | refine callK_fz (fn_cmp_Compare_string _) (by simp [go_sem]) (by simp [go_sem]) ?_
  simp [go_sem, hc, hn]
  repeat (with_reducible refine And.intro ?_ ?_; first | omega | assumption | (simp only [inI]; omega))
  refine okC_rg good ?_
  simp [go_sem, hc, hn]
  repeat (with_reducible refine And.intro ?_ ?_; first | omega | assumption | (simp only [inI]; omega))
  refine okC_if ?_
  simp [go_sem, hc, hn]
  refine okC_skip ?_
  refine okC_rg1 good ?_
  simp [go_sem, hc, hn]
  repeat (with_reducible refine And.intro ?_ ?_; first | omega | assumption | (simp only [inI]; omega))
  refine normalE hK1 ⟨i + 1, [], (by first | omega | (simp; omega) | grind), (by show _ < _; first | omega | simp <;> omega), (by simp [go_sem, hc, hn])⟩
 ·try simp at a
  refine okC_exit (show K1 _ _ from exitE hK1 ?_)
  refine okC_seq ?_
  refine okC_rg good ?_
  simp [go_sem]
  repeat (with_reducible refine And.intro ?_ ?_; first | omega | assumption | (simp only [inI]; omega))
  refine okC_if ?_
  simp [go_sem]
  refine okC_skip ?_
  refine okC_rg good ?_
  simp [go_sem]
  repeat (with_reducible refine And.intro ?_ ?_; first | omega | assumption | (simp only [inI]; omega))
  refine okC_ret ?_
  simp [go_sem]
  all_goals first | done | omega | grind | (simp; omega) | (simp_all; done) | (simp_all; omega)
theorem fn_impl_CompareRecords (r : Rec) (hr : smallR r) : FnOk Tryz.prog 84 [nRec r, nRec r] (fun res' => res' = .val (dI 0)) := by
 refine fn_of good (rs := [.tmp 4]) Tryz.func84 rfl Tryz.ntmps84 (by decide) (by simp) rfl fun w0 ow0 => ?_
 have hr1 := hr.1
 refine okC_rg good ?_
 simp [go_sem]
 repeat (with_reducible refine And.intro ?_ ?_; first | omega | assumption | (simp only [inI]; omega))
 refine okC_df good [(13, [7, 12, 17, 18]), (15, [19, 4])] [(2, .own (.bx true (nRec r))), (3, .own (.bx true (nRec r))), (4, .val (dI 0))] [] rfl (by decide) (by kernel_rfl) (by simp [go_sem]) ?_
 simp [go_sem]
 repeat (with_reducible refine And.intro ?_ ?_; first | omega | assumption | (simp only [inI]; omega))
 first | refine callD_of (fn_impl_compareOrigins r) (by simp [go_sem]) rfl ?_ | refine callD_fz (fn_impl_compareOrigins r) (by simp [go_sem]) (by simp [go_sem]) rfl ?_
 simp [go_sem]
 repeat (with_reducible refine And.intro ?_ ?_; first | omega | assumption | (simp only [inI]; omega))
 first | refine callD_of (fn_cmp_Compare_int r.version) (by simp [go_sem]) rfl ?_ | refine callD_fz (fn_cmp_Compare_int r.version) (by simp [go_sem]) (by simp [go_sem]) rfl ?_
 simp [go_sem]
 repeat (with_reducible refine And.intro ?_ ?_; first | omega | assumption | (simp only [inI]; omega))
 first | refine callD_of (fn_slices_Compare_string_string r.fields hr1) (by simp [go_sem]) rfl ?_ | refine callD_fz (fn_slices_Compare_string_string r.fields hr1) (by simp [go_sem]) (by simp [go_sem]) rfl ?_
 simp [go_sem]
 repeat (with_reducible refine And.intro ?_ ?_; first | omega | assumption | (simp only [inI]; omega))
 first | refine callD_of (fn_cmp_Or_int [0, 0, 0] (by simp)) (by simp [go_sem]) rfl ?_ | refine callD_fz (fn_cmp_Or_int [0, 0, 0] (by simp)) (by simp [go_sem]) (by simp [go_sem]) rfl ?_
 simp [go_sem]
 repeat (with_reducible refine And.intro ?_ ?_; first | omega | assumption | (simp only [inI]; omega))
 refine okC_ret ?_
 simp [go_sem]
 all_goals first | done | omega | grind | (simp; omega) | (simp_all; done) | (simp_all; omega)
theorem fn_impl_equalRecords (r : Rec) (hr : smallR r) : FnOk Tryz.prog 52 [nRec r, nRec r] (fun res' => res' = .val (dB true)) := by
 refine fn_of good (rs := [.tmp 4]) Tryz.func52 rfl Tryz.ntmps52 (by decide) (by simp) rfl fun w0 ow0 => ?_
 refine okC_rg good ?_
 simp [go_sem]
 repeat (with_reducible refine And.intro ?_ ?_; first | omega | assumption | (simp only [inI]; omega))
 refine okC_rg good ?_
 simp [go_sem]
 repeat (with_reducible refine And.intro ?_ ?_; first | omega | assumption | (simp only [inI]; omega))
 first | refine callK_of (fn_impl_CompareRecords _ (by first | assumption | omega | (simp; omega) | grind)) (by simp [go_sem]) ?_ | refine callK_fz (fn_impl_CompareRecords _ (by first | assumption | omega | (simp; omega) | grind)) (by simp [go_sem]) (by simp [go_sem]) ?_
 simp [go_sem]
 repeat (with_reducible refine And.intro ?_ ?_; first | omega | assumption | (simp only [inI]; omega))
 refine okC_ret ?_
 simp [go_sem]
 all_goals first | done | omega | grind | (simp; omega) | (simp_all; done) | (simp_all; omega)
theorem fn_impl_EqualBatches_1 (o : Opn) (ho : smallO o) : FnOk Tryz.prog 51 [nOp o, nOp o] (fun res' => res' = .val (dB true)) := by
 refine fn_of good (rs := [.tmp 4]) Tryz.func51 rfl Tryz.ntmps51 (by decide) (by simp) rfl fun w0 ow0 => ?_
 refine okC_rg good ?_
 simp [go_sem]
 repeat (with_reducible refine And.intro ?_ ?_; first | omega | assumption | (simp only [inI]; omega))
 refine okC_rg good ?_
 simp [go_sem]
 repeat (with_reducible refine And.intro ?_ ?_; first | omega | assumption | (simp only [inI]; omega))
 first | refine callK_of (fn_impl_equalRecords _ (by first | assumption | omega | (simp; omega) | grind)) (by simp [go_sem]) ?_ | refine callK_fz (fn_impl_equalRecords _ (by first | assumption | omega | (simp; omega) | grind)) (by simp [go_sem]) (by simp [go_sem]) ?_
 simp [go_sem]
 repeat (with_reducible refine And.intro ?_ ?_; first | omega | assumption | (simp only [inI]; omega))
 refine okC_ret ?_
 simp [go_sem]
 all_goals first | done | omega | grind | (simp; omega) | (simp_all; done) | (simp_all; omega)
theorem fn_slices_EqualFunc_impl_Op_impl_Op_impl_Op_impl_Op (l : List Opn) (hl : smallB l) : FnOk Tryz.prog 50 [nOps l, nOps l, .one (.func (.func 51) #[] #[])] (fun res' => res' = .val (dB true)) := by
 refine fn_of good (rs := [.tmp 6]) Tryz.func50 rfl Tryz.ntmps50 (by decide) (by simp) rfl fun w0 ow0 => ?_
 have hl1 := hl.1
 refine okC_rg good ?_
 simp [go_sem]
 repeat (with_reducible refine And.intro ?_ ?_; first | omega | assumption | (simp only [inI]; omega))
 refine okC_seq ?_
 refine okC_rg good ?_
 simp [go_sem]
 repeat (with_reducible refine And.intro ?_ ?_; first | omega | assumption | (simp only [inI]; omega))
 refine okC_if ?_
 simp [go_sem]
 refine okC_skip ?_
 refine okC_seq ?_
 refine okC_rg good ?_
 simp [go_sem]
 repeat (with_reducible refine And.intro ?_ ?_; first | omega | assumption | (simp only [inI]; omega))
 refine okC_block ?_
 refine okC_rounds (fun (i : Nat) => [(0, .val (nOps l)), (1, .val (nOps l)), (2, .val (.one (.func (.func 51) #[] #[]))), (15, .val (nOps l)), (16, .val (dI l.length)), (17, .val (dI i))]) (fun (i : Nat) => l.length - i) (fun (i : Nat) => (i ≤ l.length)) (0) [] (by first | omega | rfl | (simp; done) | (simp; omega) | simp) (by simp [go_sem]) ?_
 rintro i h1 K1 hK1
 refine okC_rg good ?_
 simp [go_sem]
 repeat (with_reducible refine And.intro ?_ ?_; first | omega | assumption | (simp only [inI]; omega))
 refine okC_seq ?_
 refine okC_if ?_
 simp [go_sem]
 first | refine gC_dec (fun a => ?_) (fun a => ?_) | refine gC_ndec (fun a => ?_) (fun a => ?_) | refine gC_of (fun a => ?_) (fun a => ?_)
 ·try simp at a
  refine okC_skip ?_
  refine okC_seq ?_
  refine okC_block ?_
  obtain ⟨c, hc⟩ := at_of (l := l) (i := i) (by omega)
  have hsc := hl.2 c (List.mem_of_getElem? hc)
  refine okC_rg good ?_
  simp [go_sem, hc]
  repeat (with_reducible refine And.intro ?_ ?_; first | omega | assumption | (simp only [inI]; omega))
  refine okC_rg good ?_
  simp [go_sem, hc]
  repeat (with_reducible refine And.intro ?_ ?_; first | omega | assumption | (simp only [inI]; omega))
  refine okC_rg good ?_
  simp [go_sem, hc]
  repeat (with_reducible refine And.intro ?_ ?_; first | omega | assumption | (simp only [inI]; omega))
  first | refine callK_of (fn_impl_EqualBatches_1 c hsc) (by simp [go_sem]) ?_ | refine callK_fz (fn_impl_EqualBatches_1 c hsc) (by simp [go_sem]) (by simp [go_sem]) ?_
  simp [go_sem, hc]
  repeat (with_reducible refine And.intro ?_ ?_; first | omega | assumption | (simp only [inI]; omega))
  refine okC_if ?_
  simp [go_sem, hc]
  refine okC_skip ?_
  refine okC_rg1 good ?_
  simp [go_sem, hc]
  repeat (with_reducible refine And.intro ?_ ?_; first | omega | assumption | (simp only [inI]; omega))
  refine normalE hK1 ⟨i + 1, [], (by first | omega | (simp; omega) | grind), (by show _ < _; first | omega | simp <;> omega), (by simp [go_sem, hc])⟩
 ·try simp at a
  refine okC_exit (show K1 _ _ from exitE hK1 ?_)
  refine okC_rg good ?_
  simp [go_sem]
  repeat (with_reducible refine And.intro ?_ ?_; first | omega | assumption | (simp only [inI]; omega))
  refine okC_ret ?_
  simp [go_sem]
  all_goals first | done | omega | grind | (simp; omega) | (simp_all; done) | (simp_all; omega)
theorem fn_impl_EqualBatches (l : List Opn) (hl : smallB l) : FnOk Tryz.prog 21 [nBat l, nBat l] (fun res' => res' = .val (dB true)) := by
 refine fn_of good (rs := [.tmp 4]) Tryz.func21 rfl Tryz.ntmps21 (by decide) (by simp) rfl fun w0 ow0 => ?_
 refine okC_rg good ?_
 simp [go_sem]
 repeat (with_reducible refine And.intro ?_ ?_; first | omega | assumption | (simp only [inI]; omega))
 refine okC_rg good ?_
 simp [go_sem]
 repeat (with_reducible refine And.intro ?_ ?_; first | omega | assumption | (simp only [inI]; omega))
 first | refine callK_of (fn_slices_EqualFunc_impl_Op_impl_Op_impl_Op_impl_Op _ (by first | assumption | omega | (simp; omega) | grind)) (by simp [go_sem]) ?_ | refine callK_fz (fn_slices_EqualFunc_impl_Op_impl_Op_impl_Op_impl_Op _ (by first | assumption | omega | (simp; omega) | grind)) (by simp [go_sem]) (by simp [go_sem]) ?_
 simp [go_sem]
 repeat (with_reducible refine And.intro ?_ ?_; first | omega | assumption | (simp only [inI]; omega))
 refine okC_ret ?_
 simp [go_sem]
 all_goals first | done | omega | grind | (simp; omega) | (simp_all; done) | (simp_all; omega)
theorem fn_laws_big (b : Str) (hb : b.length ≤ 9223372036854775807) : FnOk Tryz.prog 16 [nByt b] (fun res' => res' = .val (dB (decide (1048576 < b.length)))) := by
 refine fn_of good (rs := [.tmp 2]) Tryz.func16 rfl Tryz.ntmps16 (by decide) (by simp) rfl fun w0 ow0 => ?_
 refine okC_rg good ?_
 simp [go_sem]
 repeat (with_reducible refine And.intro ?_ ?_; first | omega | assumption | (simp only [inI]; omega))
 refine okC_rg good ?_
 simp [go_sem]
 repeat (with_reducible refine And.intro ?_ ?_; first | omega | assumption | (simp only [inI]; omega))
 refine okC_ret ?_
 simp [go_sem]
 all_goals first | done | omega | grind | (simp; omega) | (simp_all; done) | (simp_all; omega)
def AtQ (r : S) : Prop := ∃ x : Int, r = .val (dI x) ∧ 0 ≤ x ∧ x ≤ 255
theorem fn_laws_at (b : Str) (hb : b.length ≤ 1048576) : FnOk Tryz.prog 26 [nByt b, dI 1] (fun r => AtQ r) := by
 refine fn_of good (rs := [.tmp 4]) Tryz.func26 rfl Tryz.ntmps26 (by decide) (by simp) rfl fun w0 ow0 => ?_
 refine okC_rg good ?_
 simp [go_sem]
 repeat (with_reducible refine And.intro ?_ ?_; first | omega | assumption | (simp only [inI]; omega))
 refine okC_seq ?_
 refine okC_rg good ?_
 simp [go_sem]
 repeat (with_reducible refine And.intro ?_ ?_; first | omega | assumption | (simp only [inI]; omega))
 refine okC_if ?_
 simp [go_sem]
 first | refine gC_dec (fun a => ?_) (fun a => ?_) | refine gC_ndec (fun a => ?_) (fun a => ?_) | refine gC_of (fun a => ?_) (fun a => ?_)
 ·try simp at a
  obtain ⟨z, hz⟩ := at_of (l := b) (i := 1) (by omega)
  have hzl := z.toNat_lt
  refine okC_rg good ?_
  simp [go_sem, hz]
  repeat (with_reducible refine And.intro ?_ ?_; first | omega | assumption | (simp only [inI]; omega))
  refine okC_ret ?_
  simp [go_sem, hz]
  exact ⟨_, rfl, by omega, by omega⟩
 ·try simp at a
  refine okC_skip ?_
  have htm := tmod_range (x := 37 + (b.length : Int) * 11) (n := 256) (by omega) (by omega)
  refine okC_rg good ?_
  simp [go_sem]
  repeat (with_reducible refine And.intro ?_ ?_; first | omega | assumption | (simp only [inI]; omega))
  refine okC_ret ?_
  simp [go_sem]
  exact ⟨_, rfl, by omega, by omega⟩
theorem fn_laws_begins (s t : Str) (hs : s.length ≤ 1048576 ∧ t.length ≤ 1048576) : FnOk Tryz.prog 27 [dS s, dS t] (fun res' => res' = .val (dB (decide (s <+: t)))) := by
 refine fn_of good (rs := [.tmp 4]) Tryz.func27 rfl Tryz.ntmps27 (by decide) (by simp) rfl fun w0 ow0 => ?_
 refine okC_rg good ?_
 simp [go_sem]
 repeat (with_reducible refine And.intro ?_ ?_; first | omega | assumption | (simp only [inI]; omega))
 refine okC_rg good ?_
 simp [go_sem]
 repeat (with_reducible refine And.intro ?_ ?_; first | omega | assumption | (simp only [inI]; omega))
 first | refine gI_dec (fun a => ?_) (fun a => ?_) | refine gI_ndec (fun a => ?_) (fun a => ?_) | refine gI_of (fun a => ?_) (fun a => ?_)
 ·have a' := a; try simp at a'
  have hp : (t.take s.length = s) ↔ s <+: t := by rw [List.prefix_iff_eq_take]; exact eq_comm
  simp [go_sem, a, hp]
  repeat (with_reducible refine And.intro ?_ ?_; first | omega | assumption | (simp only [inI]; omega))
  refine okC_ret ?_
  simp [go_sem, a, hp]
  all_goals first | done | omega | grind | (simp; omega) | (simp_all; done) | (simp_all; omega)
 ·have a' := a; try simp at a'
  have hn : ¬ s <+: t := fun h => by have := h.length_le; omega
  simp [go_sem, a, hn]
  repeat (with_reducible refine And.intro ?_ ?_; first | omega | assumption | (simp only [inI]; omega))
  refine okC_ret ?_
  simp [go_sem, a, hn]
  all_goals first | done | omega | grind | (simp; omega) | (simp_all; done) | (simp_all; omega)
end Go.Proofs.YtfhfidecmdhkoaaGreatDoor

end
section
namespace Go.Pl
open Go.Dv
theorem scanL_take : ∀ (s p : Str) (c k : Nat), (10 : UInt8) ∉ p → (scanL k (lineGo p (s.take c))).1 <+: (scanL k (lineGo p s)).1
  | [], p, c, k, hp => by simp
  | d :: s, p, 0, k, hp => by
    rw [List.take_zero, scanL_open hp]
    exact List.nil_prefix
  | d :: s, p, c + 1, k, hp => by
    rw [List.take_succ_cons]
    by_cases hd : d = 10
    · subst hd
      simp only [lineGo, if_true, scanL]
      cases hr : readEnt (p ++ [10]) with
      | none => exact List.prefix_refl _
      | some e =>
        obtain ⟨v, b⟩ := e
        simp only
        split
        · exact (List.prefix_cons_inj b).2 (scanL_take s [] c (k + 1) (by simp))
        · exact List.prefix_refl _
    · simp only [lineGo, if_neg hd]
      exact scanL_take s (p ++ [d]) c k (by simp [hp, Ne.symm hd])
theorem scan_take (s : Str) (c : Nat) (h : s.length ≤ 6000) : (scan (s.take c)).1 <+: (scan s).1 := by
  unfold scan
  rw [if_pos h, if_pos (by simp; omega)]
  exact scanL_take s [] c 0 (by simp)
theorem lineGo_line {q : Str} (h : (10 : UInt8) ∉ q) : ∀ p : Str, lineGo p (q ++ [10]) = [p ++ q ++ [10]] := by
  induction q with
  | nil => intro p; simp [lineGo]
  | cons d q ih =>
    intro p
    simp only [List.mem_cons, not_or] at h
    simp only [List.cons_append, lineGo, if_neg (Ne.symm h.1)]
    rw [ih h.2]
    simp
theorem scanL_app {v : Int} {l : List Opn} (hb : entB (v, l) = true) : ∀ (s p : Str) (k : Nat), (10 : UInt8) ∉ p → (scanL k (lineGo p s)).2 = p.length + s.length → v = (k : Int) + (scanL k (lineGo p s)).1.length + 1 →
    (scanL k (lineGo p (s ++ entTxt v l))).1 = (scanL k (lineGo p s)).1 ++ [l]
  | [], p, k, hp, hu, hv => by
    rw [scanL_open hp] at hu hv ⊢
    have h0 : p = [] := List.eq_nil_of_length_eq_zero (by simp at hu; omega)
    subst h0
    obtain ⟨q, hq, hn⟩ := entTxt_line hb
    rw [List.nil_append, hq, lineGo_line hn, List.nil_append, ← hq, scanL_some (readEnt_ok hb) (by simpa using hv)]
    rfl
  | d :: s, p, k, hp, hu, hv => by
    rw [List.cons_append]
    by_cases hd : d = 10
    · subst hd
      simp only [lineGo, if_true, scanL] at hu hv ⊢
      cases hr : readEnt (p ++ [10]) with
      | none => rw [hr] at hu; simp only [List.length_cons] at hu; omega
      | some e =>
        obtain ⟨w, b⟩ := e
        rw [hr] at hu hv
        simp only at hu hv ⊢
        by_cases hw : w = (k : Int) + 1
        · rw [if_pos hw] at hu hv ⊢
          rw [if_pos hw]
          simp only [List.length_append, List.length_cons, List.length_nil] at hu hv ⊢
          rw [scanL_app hb s [] (k + 1) (by simp) (by simp; omega) (by omega)]
          rfl
        · rw [if_neg hw] at hu
          simp only [List.length_cons] at hu
          omega
    · simp only [lineGo, if_neg hd] at hu hv ⊢
      exact scanL_app hb s (p ++ [d]) k (by simp [hp, Ne.symm hd]) (by simp at hu ⊢; omega) hv
theorem appLog_no {s : Str} {l : List Opn} (h : (appLog s l).2 = false) : (appLog s l).1 = s := by
  rw [appLog] at h ⊢
  split
  · rfl
  · rename_i h1; rw [if_neg h1] at h; cases h
theorem appLog_yes {s : Str} {l : List Opn} (h : (appLog s l).2 = true) (hs : s.length ≤ 6000) : s <+: (appLog s l).1 ∧ (appLog s l).1.length ≤ 6000 ∧ (scan (appLog s l).1).1 = (scan s).1 ++ [l] := by
  rw [appLog] at h ⊢
  by_cases hc : (scan s).2 ≠ s.length ∨ entStr ((scan s).1.length + 1) l = [] ∨ s.length + (entStr ((scan s).1.length + 1) l).length > 6000
  · rw [if_pos hc] at h; cases h
  · rw [if_neg hc]
    have h1 : (scan s).2 = s.length := Classical.byContradiction fun h => hc (.inl h)
    have h2 : entStr ((scan s).1.length + 1) l ≠ [] := fun h => hc (.inr (.inl h))
    have h3 : s.length + (entStr ((scan s).1.length + 1) l).length ≤ 6000 := Nat.le_of_not_lt fun h => hc (.inr (.inr h))
    obtain ⟨hb, ht⟩ := (entStr_eq (v := ((scan s).1.length : Int) + 1) (l := l) h2).2 rfl
    refine ⟨List.prefix_append _ _, by simpa using h3, ?_⟩
    rw [← ht]
    have e1 : scan s = scanL 0 (lines s) := by unfold scan; rw [if_pos hs]
    have e2 : scan (s ++ entTxt ((scan s).1.length + 1) l) = scanL 0 (lines (s ++ entTxt ((scan s).1.length + 1) l)) := by
      unfold scan
      rw [if_pos]
      · rw [← ht] at h3; simpa [scan] using h3
    simp only
    rw [e2]
    have := scanL_app hb s [] 0 (by simp) (by rw [e1] at h1; simpa [lines] using h1) (by rw [e1]; simp [lines])
    rw [e1] at this ⊢
    exact this
theorem entOr_enc {v : Int} {l : List Opn} (h : (readEnt (entStr v l)).isSome = true) : readEnt (entStr v l) = some (v, l) := by
  unfold entStr at h ⊢
  split
  · rename_i hb; exact readEnt_ok hb
  · rename_i hb
    rw [if_neg hb] at h
    cases hr : readEnt ([] : Str) with
    | none => rw [hr] at h; cases h
    | some e => exact absurd (readEnt_some hr).2 (entTxt_ne _ _)
theorem entStr_is (v : Int) (l : List Opn) : (readEnt (entStr v l)).isSome = !decide (entStr v l = []) := by
  unfold entStr
  split
  · rename_i hb; rw [readEnt_ok hb]; simp [entTxt_ne]
  · cases hr : readEnt ([] : Str) with
    | none => simp
    | some e => exact absurd (readEnt_some hr).2 (entTxt_ne _ _)
theorem readEnt_enc {s : Str} {v : Int} {l : List Opn} (h : readEnt s = some (v, l)) : entStr v l = s ∧ validBat l = true := by
  obtain ⟨h1, h2⟩ := readEnt_some h
  unfold entStr
  rw [if_pos h1]
  simp only [entB, Bool.and_eq_true] at h1
  exact ⟨h2, h1.2⟩
end Go.Pl

end
section
set_option maxRecDepth 10000
namespace Go.Proofs.YtfhfidecmdhkoaaGreatDoor
open Go.Dv Go.Pl
theorem fn_laws_FnLog (b : Str) (hb0 : b.length ≤ 9223372036854775807) : FnOk Tryz.prog 5 [nByt b] (fun res' => res' = .val (dB true)) := by
 refine fn_of good (rs := [.tmp 2]) Tryz.func5 rfl Tryz.ntmps5 (by decide) (by simp) rfl fun w0 ow0 => ?_
 refine okC_rg good ?_
 simp [go_sem]
 repeat (with_reducible refine And.intro ?_ ?_; first | omega | assumption | (simp only [inI]; omega))
 refine okC_seq ?_
 refine okC_rg good ?_
 simp [go_sem]
 repeat (with_reducible refine And.intro ?_ ?_; first | omega | assumption | (simp only [inI]; omega))
 first | refine callK_of (fn_laws_big _ (by first | assumption | omega | (simp; omega) | grind)) (by simp [go_sem]) ?_ | refine callK_fz (fn_laws_big _ (by first | assumption | omega | (simp; omega) | grind)) (by simp [go_sem]) (by simp [go_sem]) ?_
 simp [go_sem]
 repeat (with_reducible refine And.intro ?_ ?_; first | omega | assumption | (simp only [inI]; omega))
 refine okC_if ?_
 simp [go_sem]
 first | refine gC_dec (fun z => ?_) (fun z => ?_) | refine gC_ndec (fun z => ?_) (fun z => ?_) | refine gC_of (fun z => ?_) (fun z => ?_)
 ·try simp at z
  refine okC_rg good ?_
  simp [go_sem]
  repeat (with_reducible refine And.intro ?_ ?_; first | omega | assumption | (simp only [inI]; omega))
  refine okC_ret ?_
  simp [go_sem]
  all_goals first | done | omega | grind | (simp; omega) | (simp_all; done) | (simp_all; omega)
 ·try simp at z
  refine okC_skip ?_
  have hb : b.length ≤ 1048576 := by omega
  refine okC_rg good ?_
  simp [go_sem]
  repeat (with_reducible refine And.intro ?_ ?_; first | omega | assumption | (simp only [inI]; omega))
  refine callK_fx (fn_spec_DrawEncodeEntry b hb) (by simp [go_sem]) ?_
  rintro r ⟨v, l, rfl, hl⟩
  refine ⟨by simp [go_sem], ?_⟩
  simp [go_sem]
  repeat (with_reducible refine And.intro ?_ ?_; first | omega | assumption | (simp only [inI]; omega))
  have hsm := small_tiny hl.1 hl.2
  have hEl := entStr_len v l
  obtain ⟨E, hE⟩ : ∃ E, entStr v l = E := ⟨_, rfl⟩
  have hor : (readEnt E).isSome = true → readEnt E = some (v, l) := fun h => by rw [← hE] at h ⊢; exact entOr_enc h
  rw [hE] at hEl
  have cI : FnOk Tryz.prog 18 [dI v, nBat l] (fun res' => res' = .val (dS E)) := hE ▸ fn_impl_EncodeEntry v l hsm
  have cS : FnOk Tryz.prog 20 [dI v, nBat l] (fun res' => res' = .val (dS E)) := hE ▸ fn_spec_EncodeEntry v l hsm
  obtain ⟨e0, he0⟩ : ∃ e0, (readEnt E).isSome = e0 := ⟨_, rfl⟩
  obtain ⟨n0, hn0⟩ : ∃ n0, (entOr E).1 = n0 := ⟨_, rfl⟩
  obtain ⟨c0, hc0⟩ : ∃ c0, (entOr E).2 = c0 := ⟨_, rfl⟩
  have hEe : ∀ [Decidable (E = [])], decide (E = []) = !e0 := fun {_} => by have h := entStr_is v l; rw [hE, he0] at h; rw [h, Bool.not_not]; exact decide_eq_decide.2 Iff.rfl
  have cD : FnOk Tryz.prog 19 [dS E] (fun res' => res' = .tup [.val (dI n0), .own (oBat c0), .val (dB e0)]) := by rw [← hn0, ← hc0, ← he0]; exact fn_impl_DecodeEntry E (by omega)
  have hor1 : e0 = true → n0 = v ∧ c0 = l := fun h => by rw [← hn0, ← hc0, entOr, hor (he0.trans h)]; exact ⟨rfl, rfl⟩
  clear hor hc0 hn0 he0 hE
  refine okC_rg good ?_
  simp [go_sem, hEe]
  repeat (with_reducible refine And.intro ?_ ?_; first | omega | assumption | (simp only [inI]; omega))
  first | refine callK_of (cI) (by simp [go_sem]) ?_ | refine callK_fz (cI) (by simp [go_sem]) (by simp [go_sem]) ?_
  simp [go_sem, hEe]
  repeat (with_reducible refine And.intro ?_ ?_; first | omega | assumption | (simp only [inI]; omega))
  refine okC_cut (fun (_ : Unit) => [(0, .val (nByt b)), (3, .val (dI v)), (4, .own (.bx true (nBat l))), (5, .val (dS E)), (6, .val (dI n0)), (7, .own (.bx true (oBat c0))), (8, .val (dB e0))]) (fun (_ : Unit) => True) ?_ ?_
  rotate_left
  ·rintro K1 hK1
   refine okC_rg1 good ?_
   simp [go_sem, hEe]
   repeat (with_reducible refine And.intro ?_ ?_; first | omega | assumption | (simp only [inI]; omega))
   first | refine callK_of (cD) (by simp [go_sem]) ?_ | refine callK_fz (cD) (by simp [go_sem]) (by simp [go_sem]) ?_
   simp [go_sem, hEe]
   repeat (with_reducible refine And.intro ?_ ?_; first | omega | assumption | (simp only [inI]; omega))
   refine normalE hK1 ⟨(), [], trivial, (by simp [go_sem, hEe])⟩
  rintro ⟨⟩ -
  try simp only
  refine okC_cut (fun (_ : Unit) => [(0, .val (nByt b))]) (fun (_ : Unit) => True) ?_ ?_
  rotate_left
  ·rintro K2 hK2
   refine okC_rg good ?_
   simp [go_sem, hEe]
   repeat (with_reducible refine And.intro ?_ ?_; first | omega | assumption | (simp only [inI]; omega))
   first | refine callK_of (cS) (by simp [go_sem]) ?_ | refine callK_fz (cS) (by simp [go_sem]) (by simp [go_sem]) ?_
   simp [go_sem, hEe]
   repeat (with_reducible refine And.intro ?_ ?_; first | omega | assumption | (simp only [inI]; omega))
   first | refine gI_dec (fun g => ?_) (fun g => ?_) | refine gI_ndec (fun g => ?_) (fun g => ?_) | refine gI_of (fun g => ?_) (fun g => ?_)
   ·have g' := g; try simp at g'
    obtain ⟨rfl, rfl⟩ := hor1 g
    simp [go_sem, hEe, g]
    repeat (with_reducible refine And.intro ?_ ?_; first | omega | assumption | (simp only [inI]; omega))
    first | refine callK_of (fn_impl_EqualBatches c0 hsm) (by simp [go_sem]) ?_ | refine callK_fz (fn_impl_EqualBatches c0 hsm) (by simp [go_sem]) (by simp [go_sem]) ?_
    simp [go_sem, hEe, g]
    repeat (with_reducible refine And.intro ?_ ?_; first | omega | assumption | (simp only [inI]; omega))
    refine okC_if ?_
    simp [go_sem, hEe, g]
    refine okC_skip ?_
    refine normalE hK2 ⟨(), [], trivial, (by simp [go_sem, hEe, g])⟩
   ·have g' := g; try simp at g'
    simp [go_sem, hEe, g]
    repeat (with_reducible refine And.intro ?_ ?_; first | omega | assumption | (simp only [inI]; omega))
    refine okC_if ?_
    simp [go_sem, hEe, g]
    refine okC_skip ?_
    refine normalE hK2 ⟨(), [], trivial, (by simp [go_sem, hEe, g])⟩
  rintro ⟨⟩ -
  try simp only
  refine okC_rg good ?_
  simp [go_sem, hEe]
  repeat (with_reducible refine And.intro ?_ ?_; first | omega | assumption | (simp only [inI]; omega))
  refine callK_fx (fn_spec_DrawDecodeEntry b hb) (by simp [go_sem]) ?_
  rintro r ⟨t, rfl, ht⟩
  refine ⟨by simp [go_sem], ?_⟩
  simp [go_sem, hEe]
  repeat (with_reducible refine And.intro ?_ ?_; first | omega | assumption | (simp only [inI]; omega))
  obtain ⟨e1, he1⟩ : ∃ e1, (readEnt t).isSome = e1 := ⟨_, rfl⟩
  obtain ⟨n1, hn1⟩ : ∃ n1, (entOr t).1 = n1 := ⟨_, rfl⟩
  obtain ⟨c1, hc1⟩ : ∃ c1, (entOr t).2 = c1 := ⟨_, rfl⟩
  have cE : FnOk Tryz.prog 19 [dS t] (fun res' => res' = .tup [.val (dI n1), .own (oBat c1), .val (dB e1)]) := by rw [← hn1, ← hc1, ← he1]; exact fn_impl_DecodeEntry t (by omega)
  have cF : e1 = true → FnOk Tryz.prog 20 [dI n1, nBat c1] (fun res' => res' = .val (dS t)) := fun h => by obtain ⟨⟨m, d⟩, hrd⟩ := Option.isSome_iff_exists.1 (he1.trans h); have hen := readEnt_enc hrd; have h3 := fn_spec_EncodeEntry m d (smallB_of (by have := (validBat_iff.1 hen.2).2; omega) (validBat_iff.1 hen.2).1); rw [hen.1] at h3; rw [← hn1, ← hc1, entOr, hrd]; exact h3
  clear hc1 hn1 he1
  refine okC_cut (fun (_ : Unit) => [(0, .val (nByt b)), (9, .val (dS t)), (10, .val (dI n1)), (11, .own (.bx true (oBat c1))), (12, .val (dB e1))]) (fun (_ : Unit) => True) ?_ ?_
  rotate_left
  ·rintro K3 hK3
   refine okC_rg1 good ?_
   simp [go_sem, hEe]
   repeat (with_reducible refine And.intro ?_ ?_; first | omega | assumption | (simp only [inI]; omega))
   first | refine callK_of (cE) (by simp [go_sem]) ?_ | refine callK_fz (cE) (by simp [go_sem]) (by simp [go_sem]) ?_
   simp [go_sem, hEe]
   repeat (with_reducible refine And.intro ?_ ?_; first | omega | assumption | (simp only [inI]; omega))
   refine normalE hK3 ⟨(), [], trivial, (by simp [go_sem, hEe])⟩
  rintro ⟨⟩ -
  try simp only
  refine okC_cut (fun (_ : Unit) => [(0, .val (nByt b))]) (fun (_ : Unit) => True) ?_ ?_
  rotate_left
  ·rintro K4 hK4
   refine okC_rg good ?_
   simp [go_sem, hEe]
   repeat (with_reducible refine And.intro ?_ ?_; first | omega | assumption | (simp only [inI]; omega))
   first | refine gI_dec (fun g => ?_) (fun g => ?_) | refine gI_ndec (fun g => ?_) (fun g => ?_) | refine gI_of (fun g => ?_) (fun g => ?_)
   ·have g' := g; try simp at g'
    have cG := cF g
    simp [go_sem, hEe, g]
    repeat (with_reducible refine And.intro ?_ ?_; first | omega | assumption | (simp only [inI]; omega))
    first | refine callK_of (cG) (by simp [go_sem]) ?_ | refine callK_fz (cG) (by simp [go_sem]) (by simp [go_sem]) ?_
    simp [go_sem, hEe, g]
    repeat (with_reducible refine And.intro ?_ ?_; first | omega | assumption | (simp only [inI]; omega))
    refine okC_if ?_
    simp [go_sem, hEe, g]
    refine okC_skip ?_
    refine normalE hK4 ⟨(), [], trivial, (by simp [go_sem, hEe, g])⟩
   ·have g' := g; try simp at g'
    simp [go_sem, hEe, g]
    repeat (with_reducible refine And.intro ?_ ?_; first | omega | assumption | (simp only [inI]; omega))
    refine okC_if ?_
    simp [go_sem, hEe, g]
    refine okC_skip ?_
    refine normalE hK4 ⟨(), [], trivial, (by simp [go_sem, hEe, g])⟩
  rintro ⟨⟩ -
  try simp only
  refine okC_rg good ?_
  simp [go_sem, hEe]
  repeat (with_reducible refine And.intro ?_ ?_; first | omega | assumption | (simp only [inI]; omega))
  refine callK_fx (fn_spec_DrawAppendEntry b hb) (by simp [go_sem]) ?_
  rintro r ⟨s, e, rfl, he, hs⟩
  refine ⟨by simp [go_sem], ?_⟩
  simp [go_sem, hEe]
  repeat (with_reducible refine And.intro ?_ ?_; first | omega | assumption | (simp only [inI]; omega))
  have hse := small_tiny he.1 he.2
  have hs6 : s.length ≤ 6000 := by omega
  have hsl := scan_len s
  have hsv := scan_valid s
  obtain ⟨L, hL⟩ : ∃ L, (scan s).1 = L := ⟨_, rfl⟩
  obtain ⟨U, hU⟩ : ∃ U, (scan s).2 = U := ⟨_, rfl⟩
  rw [hL] at hsv hsl
  have cA : FnOk Tryz.prog 12 [dS s] (fun res' => res' = .tup [.own (oBats L), .val (dI U)]) := by rw [← hL, ← hU]; exact fn_impl_ScanLog s (by omega)
  have cB : FnOk Tryz.prog 11 [dS s] (fun res' => res' = .tup [.own (oBats L), .val (dI U)]) := by rw [← hL, ← hU]; exact fn_spec_ScanLog s (by omega)
  refine okC_rg good ?_
  simp [go_sem, hEe]
  repeat (with_reducible refine And.intro ?_ ?_; first | omega | assumption | (simp only [inI]; omega))
  first | refine callK_of (cA) (by simp [go_sem]) ?_ | refine callK_fz (cA) (by simp [go_sem]) (by simp [go_sem]) ?_
  simp [go_sem, hEe]
  repeat (with_reducible refine And.intro ?_ ?_; first | omega | assumption | (simp only [inI]; omega))
  refine okC_cut (fun (_ : Unit) => [(0, .val (nByt b)), (13, .val (dS s)), (14, .own (.bx true (nBat e))), (15, .own (oBats L)), (16, .val (dI U)), (17, .own (oBats L)), (18, .val (dI U))]) (fun (_ : Unit) => True) ?_ ?_
  rotate_left
  ·rintro K5 hK5
   refine okC_rg1 good ?_
   simp [go_sem, hEe]
   repeat (with_reducible refine And.intro ?_ ?_; first | omega | assumption | (simp only [inI]; omega))
   first | refine callK_of (cB) (by simp [go_sem]) ?_ | refine callK_fz (cB) (by simp [go_sem]) (by simp [go_sem]) ?_
   simp [go_sem, hEe]
   repeat (with_reducible refine And.intro ?_ ?_; first | omega | assumption | (simp only [inI]; omega))
   refine normalE hK5 ⟨(), [], trivial, (by simp [go_sem, hEe])⟩
  rintro ⟨⟩ -
  try simp only
  refine okC_cut (fun (_ : Unit) => [(0, .val (nByt b)), (13, .val (dS s)), (14, .own (.bx true (nBat e))), (15, .own (oBats L))]) (fun (_ : Unit) => True) ?_ ?_
  rotate_left
  ·rintro K6 hK6
   refine okC_rg good ?_
   simp [go_sem, hEe]
   repeat (with_reducible refine And.intro ?_ ?_; first | omega | assumption | (simp only [inI]; omega))
   first | refine callK_of (fn_impl_Checksum _ (by first | assumption | omega | (simp; omega) | grind)) (by simp [go_sem]) ?_ | refine callK_fz (fn_impl_Checksum _ (by first | assumption | omega | (simp; omega) | grind)) (by simp [go_sem]) (by simp [go_sem]) ?_
   simp [go_sem, hEe]
   repeat (with_reducible refine And.intro ?_ ?_; first | omega | assumption | (simp only [inI]; omega))
   first | refine callK_of (fn_spec_Checksum _ (by first | assumption | omega | (simp; omega) | grind)) (by simp [go_sem]) ?_ | refine callK_fz (fn_spec_Checksum _ (by first | assumption | omega | (simp; omega) | grind)) (by simp [go_sem]) (by simp [go_sem]) ?_
   simp [go_sem, hEe]
   repeat (with_reducible refine And.intro ?_ ?_; first | omega | assumption | (simp only [inI]; omega))
   refine okC_if ?_
   simp [go_sem, hEe]
   refine okC_skip ?_
   refine normalE hK6 ⟨(), [], trivial, (by simp [go_sem, hEe])⟩
  rintro ⟨⟩ -
  try simp only
  refine okC_rg good ?_
  simp [go_sem, hEe]
  repeat (with_reducible refine And.intro ?_ ?_; first | omega | assumption | (simp only [inI]; omega))
  refine callK_fx (fn_laws_at b hb) (by simp [go_sem]) ?_
  rintro r ⟨x, rfl, hx0, hx1⟩
  refine ⟨by simp [go_sem], ?_⟩
  simp [go_sem, hEe]
  repeat (with_reducible refine And.intro ?_ ?_; first | omega | assumption | (simp only [inI]; omega))
  have hmb : 0 ≤ x * ((s.length : Int) + 1) ∧ x * ((s.length : Int) + 1) ≤ 255 * ((s.length : Int) + 1) := ⟨Int.mul_nonneg hx0 (by omega), Int.mul_le_mul_of_nonneg_right hx1 (by omega)⟩
  obtain ⟨c, hc, hcl⟩ : ∃ c : Nat, (x * ((s.length : Int) + 1)).tdiv 256 = c ∧ c ≤ s.length := ⟨((x * ((s.length : Int) + 1)).tdiv 256).toNat, by rw [Int.tdiv_eq_ediv_of_nonneg hmb.1]; omega, by rw [Int.tdiv_eq_ediv_of_nonneg hmb.1]; omega⟩
  have hmi : inI .i64 (x * ((s.length : Int) + 1)) := by have h1 := hmb.1; have h2 := hmb.2; generalize x * ((s.length : Int) + 1) = z9 at h1 h2 ⊢; simp only [inI]; omega
  have hci : inI .i64 (c : Int) := by simp only [inI]; omega
  simp only [hc]
  refine ⟨hmi, hci, ?_⟩
  have hpf := scan_take s c hs6
  obtain ⟨Pq, hP⟩ : ∃ Pq, (scan (s.take c)).1 = Pq := ⟨_, rfl⟩
  obtain ⟨V2, hV2⟩ : ∃ V2, (scan (s.take c)).2 = V2 := ⟨_, rfl⟩
  have cP : FnOk Tryz.prog 12 [dS (s.take c)] (fun res' => res' = .tup [.own (oBats Pq), .val (dI V2)]) := by rw [← hP, ← hV2]; exact fn_impl_ScanLog (s.take c) (by simp; omega)
  rw [hP, hL] at hpf
  refine okC_rg good ?_
  simp [go_sem, hEe, hc]
  repeat (with_reducible refine And.intro ?_ ?_; first | omega | assumption | (simp only [inI]; omega))
  first | refine callK_of (cP) (by simp [go_sem]) ?_ | refine callK_fz (cP) (by simp [go_sem]) (by simp [go_sem]) ?_
  simp [go_sem, hEe, hc]
  repeat (with_reducible refine And.intro ?_ ?_; first | omega | assumption | (simp only [inI]; omega))
  refine okC_seq ?_
  refine okC_rg good ?_
  simp [go_sem, hEe, hc]
  repeat (with_reducible refine And.intro ?_ ?_; first | omega | assumption | (simp only [inI]; omega))
  refine okC_block ?_
  refine okC_rounds (fun (i : Nat) => [(0, .val (nByt b)), (13, .val (dS s)), (14, .own (.bx true (nBat e))), (15, .own (oBats L)), (20, .own (oBats Pq)), (22, .val (dI i))]) (fun (i : Nat) => Pq.length - i) (fun (i : Nat) => (i ≤ Pq.length)) (0) [] (by first | omega | rfl | (simp; done) | (simp; omega) | simp) (by simp [go_sem, hEe, hc]) ?_
  rintro i g1 K7 hK7
  refine okC_seq ?_
  refine okC_rg good ?_
  simp [go_sem, hEe, hc]
  repeat (with_reducible refine And.intro ?_ ?_; first | omega | assumption | (simp only [inI]; omega))
  refine okC_if ?_
  simp [go_sem, hEe, hc]
  first | refine gC_dec (fun a => ?_) (fun a => ?_) | refine gC_ndec (fun a => ?_) (fun a => ?_) | refine gC_of (fun a => ?_) (fun a => ?_)
  ·try simp at a
   refine okC_skip ?_
   refine okC_seq ?_
   refine okC_block ?_
   obtain ⟨y, hy⟩ := at_of (l := Pq) (i := i) (by omega)
   have hyL : L[i]? = some y := by obtain ⟨r, hr⟩ := hpf; rw [← hr, List.getElem?_append_left (getElem?_lt hy)]; exact hy
   have hiL : ¬ L.length ≤ i := by have := getElem?_lt hyL; omega
   have hvy := validBat_iff.1 (hsv y (List.mem_of_getElem? hyL))
   have hsy : smallB y := smallB_of (by have := hvy.2; omega) hvy.1
   refine okC_dr good rfl (by decide) (by kernel_rfl) ?_
   simp [go_sem, hEe, hc, hy, hyL, hiL]
   repeat (with_reducible refine And.intro ?_ ?_; first | omega | assumption | (simp only [inI]; omega))
   first | refine callD_of (fn_impl_EqualBatches y hsy) (by simp [go_sem]) rfl ?_ | refine callD_fz (fn_impl_EqualBatches y hsy) (by simp [go_sem]) (by simp [go_sem]) rfl ?_
   simp [go_sem, hEe, hc, hy, hyL, hiL]
   repeat (with_reducible refine And.intro ?_ ?_; first | omega | assumption | (simp only [inI]; omega))
   refine okC_if ?_
   simp [go_sem, hEe, hc, hy, hyL, hiL]
   refine okC_skip ?_
   refine okC_rg1 good ?_
   simp [go_sem, hEe, hc, hy, hyL, hiL]
   repeat (with_reducible refine And.intro ?_ ?_; first | omega | assumption | (simp only [inI]; omega))
   refine normalE hK7 ⟨i + 1, [], (by first | omega | (simp; omega) | grind), (by show _ < _; first | omega | simp <;> omega), (by simp [go_sem, hEe, hc, hy, hyL, hiL])⟩
  ·try simp at a
   refine okC_exit (show K7 _ _ from exitE hK7 ?_)
   obtain ⟨X, hX⟩ : ∃ X, (appLog s e).1 = X := ⟨_, rfl⟩
   obtain ⟨Y, hY⟩ : ∃ Y, (appLog s e).2 = Y := ⟨_, rfl⟩
   have cI2 : FnOk Tryz.prog 9 [dS s, nBat e] (fun res' => res' = .tup [.val (dS X), .val (dB Y)]) := by rw [← hX, ← hY]; exact fn_impl_AppendEntry s e (by omega) hse
   have cS2 : FnOk Tryz.prog 7 [dS s, nBat e] (fun res' => res' = .tup [.val (dS X), .val (dB Y)]) := by rw [← hX, ← hY]; exact fn_spec_AppendEntry s e (by omega) hse
   refine okC_rg good ?_
   simp [go_sem, hEe, hc]
   repeat (with_reducible refine And.intro ?_ ?_; first | omega | assumption | (simp only [inI]; omega))
   first | refine callK_of (cI2) (by simp [go_sem]) ?_ | refine callK_fz (cI2) (by simp [go_sem]) (by simp [go_sem]) ?_
   simp [go_sem, hEe, hc]
   repeat (with_reducible refine And.intro ?_ ?_; first | omega | assumption | (simp only [inI]; omega))
   refine okC_rg good ?_
   simp [go_sem, hEe, hc]
   repeat (with_reducible refine And.intro ?_ ?_; first | omega | assumption | (simp only [inI]; omega))
   first | refine callK_of (cS2) (by simp [go_sem]) ?_ | refine callK_fz (cS2) (by simp [go_sem]) (by simp [go_sem]) ?_
   simp [go_sem, hEe, hc]
   repeat (with_reducible refine And.intro ?_ ?_; first | omega | assumption | (simp only [inI]; omega))
   refine okC_seq ?_
   refine okC_rg good ?_
   simp [go_sem, hEe, hc]
   repeat (with_reducible refine And.intro ?_ ?_; first | omega | assumption | (simp only [inI]; omega))
   refine okC_if ?_
   simp [go_sem, hEe, hc]
   refine okC_skip ?_
   refine okC_seq ?_
   refine okC_rg good ?_
   simp [go_sem, hEe, hc]
   repeat (with_reducible refine And.intro ?_ ?_; first | omega | assumption | (simp only [inI]; omega))
   refine okC_if ?_
   simp [go_sem, hEe, hc]
   first | refine gC_dec (fun w => ?_) (fun w => ?_) | refine gC_ndec (fun w => ?_) (fun w => ?_) | refine gC_of (fun w => ?_) (fun w => ?_)
   ·try simp at w
    have hXs : X = s := by rw [← hX]; exact appLog_no (hY.trans w)
    refine okC_rg good ?_
    simp [go_sem, hEe, hc, hXs]
    repeat (with_reducible refine And.intro ?_ ?_; first | omega | assumption | (simp only [inI]; omega))
    refine okC_ret ?_
    simp [go_sem, hEe, hc, hXs]
    all_goals first | done | omega | grind | (simp; omega) | (simp_all; done) | (simp_all; omega)
   ·try simp at w
    refine okC_skip ?_
    have hyes := appLog_yes (s := s) (l := e) (hY.trans (by simpa using w)) hs6
    rw [hX, hL] at hyes
    obtain ⟨hpre, hXl, hXq⟩ := hyes
    obtain ⟨Q, hQ⟩ : ∃ Q, L ++ [e] = Q := ⟨_, rfl⟩
    have hQl : Q.length = L.length + 1 := by rw [← hQ]; simp
    have hQe : Q[L.length]? = some e := by rw [← hQ]; simp
    have hQg : ∀ h, Q[L.length]'h = e := fun h => by have h1 := hQe; rw [List.getElem?_eq_getElem h] at h1; exact Option.some.inj h1
    rw [hQ] at hXq
    obtain ⟨W, hW⟩ : ∃ W, (scan X).2 = W := ⟨_, rfl⟩
    have cQ : FnOk Tryz.prog 12 [dS X] (fun res' => res' = .tup [.own (oBats Q), .val (dI W)]) := by rw [← hXq, ← hW]; exact fn_impl_ScanLog X (by omega)
    refine okC_rg good ?_
    simp [go_sem, hEe, hc]
    repeat (with_reducible refine And.intro ?_ ?_; first | omega | assumption | (simp only [inI]; omega))
    first | refine callK_of (cQ) (by simp [go_sem]) ?_ | refine callK_fz (cQ) (by simp [go_sem]) (by simp [go_sem]) ?_
    simp [go_sem, hEe, hc]
    repeat (with_reducible refine And.intro ?_ ?_; first | omega | assumption | (simp only [inI]; omega))
    refine okC_dt good 20 rfl (by decide) (by kernel_rfl) ?_
    simp [go_sem, hEe, hc, hQl, hQe, hQg]
    repeat (with_reducible refine And.intro ?_ ?_; first | omega | assumption | (simp only [inI]; omega))
    first | refine callD_of (fn_impl_EqualBatches e hse) (by simp [go_sem]) rfl ?_ | refine callD_fz (fn_impl_EqualBatches e hse) (by simp [go_sem]) (by simp [go_sem]) rfl ?_
    simp [go_sem, hEe, hc, hQl, hQe, hQg]
    repeat (with_reducible refine And.intro ?_ ?_; first | omega | assumption | (simp only [inI]; omega))
    first | refine callD_of (fn_laws_begins s X (by omega)) (by simp [go_sem]) rfl ?_ | refine callD_fz (fn_laws_begins s X (by omega)) (by simp [go_sem]) (by simp [go_sem]) rfl ?_
    simp [go_sem, hEe, hc, hQl, hQe, hQg, hpre]
    repeat (with_reducible refine And.intro ?_ ?_; first | omega | assumption | (simp only [inI]; omega))
    refine okC_ret ?_
    simp [go_sem, hEe, hc, hQl, hQe, hQg, hpre]
    all_goals first | done | omega | grind | (simp; omega) | (simp_all; done) | (simp_all; omega)
end Go.Proofs.YtfhfidecmdhkoaaGreatDoor

end
