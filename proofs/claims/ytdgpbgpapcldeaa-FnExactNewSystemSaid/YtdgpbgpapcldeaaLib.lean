/- Library: the shell of a law's proof (every argument is only read, the answer is true), for any program; and small words on worlds. -/
import Derived.WalkKit
import Derived.ProofKit
import Derived.OpenShut
import Derived.ShutString
import Derived.ChangeOld
import Derived.Below
import Derived.Carry
import Derived.SizedLaws
import Derived.Lib.Hide
import Derived.BigQuiet
import Derived.Deep.QuietTactic
import Derived.StillTailTactics
import Derived.Deep.RegionLaw
import Derived.JoinedTies
import Derived.KernelRfl
namespace Go.Er
open Go.ChangeShapes Go.WideShapes Go.ChangeAt Go.RowKit

section
variable {H : Type} {enc : TypeId × Value → H}

/-- All arguments of a list read behind the call as before it. -/
theorem trodAll_below {P : Program} (hl : laidOutB P = true) {W W' : World} (hb : Below W.heap.size W W') :
    ∀ {ts : List TypeId} {vs : List Value} {ds : List (DataW H)} {ps : List MemPlace}, (∀ t ∈ ts, P.readableRec t = true ∧ t < P.types.size) →
      DataW.TrodAll enc P W 0 (fun _ => true) true ts vs ds ps → DataW.TrodAll enc P W' 0 (fun b => decide (b < W.heap.size)) true ts vs ds ps := by
  intro ts
  induction ts with
  | nil =>
    intro vs ds ps _ h
    cases vs <;> cases ds <;> simp_all [DataW.TrodAll]
  | cons t ts ih =>
    intro vs ds ps hr h
    obtain ⟨v, vs', d, ds', p, q, rfl, rfl, rfl, h0, h1⟩ := trodAll_cons h
    have lt0 : ∀ x ∈ p, x.block < W.heap.size := by obtain ⟨m, hm⟩ := h0; exact DataW.trod_lt m _ _ _ hm
    exact trodAll_cons_mk (Below.trod hl (hr t (by simp)).1 (hr t (by simp)).2 h0 hb lt0) (ih (fun t' h' => hr t' (by simp [h'])) h1)

theorem trodAll_length {P : Program} {W : World} {base : Nat} {sp : Nat → Bool} {hd : Bool} :
    ∀ {ts : List TypeId} {vs : List Value} {ds : List (DataW H)} {ps : List MemPlace}, DataW.TrodAll enc P W base sp hd ts vs ds ps → vs.length = ts.length ∧ ds.length = ts.length := by
  intro ts
  induction ts with
  | nil => intro vs ds ps h; cases vs <;> cases ds <;> simp_all [DataW.TrodAll]
  | cons t ts ih =>
    intro vs ds ps h
    obtain ⟨v, vs', d, ds', p, q, rfl, rfl, rfl, h0, h1⟩ := trodAll_cons h
    have := ih h1
    simp [this]

/-- THE SHELL: a law that only reads its arguments and answers true. -/
theorem law_lifted {C : Checked} {f : FuncId} {fn : Func} {s : ChangeSpec} {os : Os} (started : os.Started)
    (own : ownKnob C.prog.godebug = none) (laidOut : laidOutB C.prog = true) (noInit : C.prog.inits.idxOf? f = none) (hfn : C.prog.funcs[f]? = some fn)
    (hvars : s.vars = []) (hspec : ∀ ds : List (DataW H), ds.length = fn.params.size → s.fn H ds = { results := [.lit (.bool true)], args := ds })
    {tb : TypeId} (hres : fn.resultTypes = #[tb]) (hb : C.prog.underlying tb = some .bool)
    (hread : ∀ t ∈ fn.params.toList, C.prog.readableRec t = true ∧ t < C.prog.types.size)
    (witness : ∃ (w : World) (tape : Tape) (i : Input), w.os = os ∧ (w.forCall tape i).Shaped C.prog ∧ i.vars = [] ∧ Input.okWide C.prog (w.forCall tape i) .any w.heap.size f i ∧
      s.pre6 enc C.prog fn [] false (w.forCall tape i).memory i.args ∧ ({} : Assume).holds C.prog (lone (Frame.enter C.prog f i.args .normal) [] (w.forCall tape i)))
    (walk : ∀ (W : World) (base : Nat) (args : Array Value) (ds : List (DataW H)) (p : List MemPlace),
      (∀ (j : Nat) t v, fn.params[j]? = some t → args[j]? = some v → Value.okWide C.prog W .any base t v) →
      DataW.TrodAll enc C.prog W 0 (fun _ => true) true fn.params.toList args.toList ds p →
      (DataW.weightsEach C.prog fn.params.toList ds).all (· ≤ reachBytes) = true →
      Calls C.prog f args W fun e W' => e = .returned (.bool true) ∧ Below W.heap.size W W') :
    ReturnsInHanded {} C os f .any (s.pre6 enc C.prog fn [] false) (s.post enc C.prog fn false true false false) := by
  refine returnsInHanded_of_change_sized own started noInit hfn witness ?_
  intro W base args ds gs before hval hW _ hsz _
  have hW' := hW
  obtain ⟨p, q, hA, hV, rfl, _, _⟩ := hW
  rw [hvars] at hV
  obtain ⟨rfl, rfl⟩ := trodVars_none hV
  have hlen := (trodAll_length hA).2
  have hvt : s.plain.varTypes C.prog = [] := by simp [DataSpec.varTypes, ChangeSpec.plain, hvars]
  refine (walk W base args ds p hval hA (by simpa [hvt] using hsz)).mono fun e W' ⟨he, bel⟩ => ?_
  subst he
  refine ⟨_, rfl, ds, [], p ++ [], [], p, [], hW', ?_, ?_, ?_, bel.frame _, fun h => by cases h⟩
  · rw [hspec (ds ++ []) (by simpa using hlen), hres]
    exact trodAll_mk1 (shut_bool hb _)
  · rw [hspec (ds ++ []) (by simpa using hlen)]
    simpa using trodAll_below laidOut bel hread hA
  · rw [hspec (ds ++ []) (by simpa using hlen), hvars]
    rfl
end

/-! ### Worlds that keep what was there -/

/-- Nothing that was there has turned. -/
abbrev Ext (w w' : World) : Prop := Below w.heap.size w w'

theorem Ext.refl (w : World) : Ext w w := Below.refl _ _
theorem Ext.trans {a b c : World} (h : Ext a b) (k : Ext b c) : Ext a c := Below.trans h (k.mono h.size)
theorem Ext.alloc (w : World) (o : Obj) : Ext w (w.alloc o) := (Below.refl _ _).alloc (Nat.le_refl _) o

theorem Ext.alloc' {a w : World} (h : Ext a w) (o : Obj) : Ext a (w.alloc o) := Below.alloc h h.size o
theorem Ext.drew' {a w : World} (h : Ext a w) : Ext a w.drew := Below.drew h
theorem Ext.setCell' {a w : World} (h : Ext a w) {p : Addr} (hp : a.heap.size ≤ p.block) (u : Value) : Ext a (w.setCell p u) := Below.setCell h hp u
theorem Ext.cells {W w1 : World} (hb : Ext W w1) : ∀ b o, b < W.heap.size → w1.cell? ⟨b, o, none⟩ = W.cell? ⟨b, o, none⟩ :=
  fun b o h => Below.cell hb (p := ⟨b, o, none⟩) h
theorem Ext.frozens {W w1 : World} (hb : Ext W w1) : ∀ b o, b < W.heap.size → w1.frozen? ⟨b, o, none⟩ = W.frozen? ⟨b, o, none⟩ :=
  fun b o h => Below.frozen hb (p := ⟨b, o, none⟩) h


/-! ### Cells that can be read from an address that may be nil -/

/-- From the address a on the cells cs can be read (nothing is said where cs is empty). -/
def Cells (w : World) (a : Option Addr) (cs : List Value) : Prop :=
  ∀ i, (h : i < cs.length) → ∃ b o, a = some ⟨b, o, none⟩ ∧ w.cell? ⟨b, o + i, none⟩ = some cs[i]

/-- A slice's address and its numbers. -/
def Ints (w : World) (a : Option Addr) (l : List Int) : Prop :=
  ∀ i, (h : i < l.length) → ∃ b o, a = some ⟨b, o, none⟩ ∧ w.cell? ⟨b, o + i, none⟩ = some (.int .i64 l[i])

theorem Ints.cells {w : World} {a : Option Addr} {l : List Int} (h : Ints w a l) : Cells w a (l.map (.int .i64)) := by
  intro i hi
  obtain ⟨b, o, h1, h2⟩ := h i (by simpa using hi)
  exact ⟨b, o, h1, by simpa using h2⟩
theorem Cells.ints {w : World} {a : Option Addr} {l : List Int} (h : Cells w a (l.map (.int .i64))) : Ints w a l := by
  intro i hi
  obtain ⟨b, o, h1, h2⟩ := h i (by simpa using hi)
  exact ⟨b, o, h1, by simpa using h2⟩
theorem lt_of_cell {w : World} {b o : Nat} {v : Value} (h : w.cell? ⟨b, o, none⟩ = some v) : b < w.heap.size :=
  World.block_lt_of_cell? w ⟨b, o, none⟩ h
theorem Cells.ext {w w' : World} {a : Option Addr} {cs : List Value} (h : Cells w a cs) (e : Ext w w') : Cells w' a cs := by
  intro i hi
  obtain ⟨b, o, h1, h2⟩ := h i hi
  exact ⟨b, o, h1, by rw [e.cells b _ (lt_of_cell h2)]; exact h2⟩
theorem Ints.ext {w w' : World} {a : Option Addr} {l : List Int} (h : Ints w a l) (e : Ext w w') : Ints w' a l := (h.cells.ext e).ints


/-! ### Rows that the call itself made, elements of one cell -/

/-- The slice v owns the cells cs, one an element; its row lies from block B on. -/
def Own1 (w : World) (B : Nat) (e : TypeId) (v : Value) (cs : List Value) : Prop := w.ownsRow B e 1 v cs.length cs

theorem Own1.nil (w : World) (B : Nat) (e : TypeId) : Own1 w B e (.slice none 0 0) [] := World.ownsRow_nil w B e 1
theorem Own1.lit0 {w : World} {B b : Nat} {e : TypeId} (hb : B ≤ b) (hh : w.heap[b]? = some (.cells #[] e (0, 0))) : Own1 w B e (.slice (some ⟨b, 0, none⟩) 0 0) [] :=
  ⟨by simp, Or.inr ⟨b, 0, #[], rfl, hb, hh, Nat.le_refl _, Nat.zero_le _, by simp, by simp⟩⟩
theorem Own1.ext {w w' : World} {B : Nat} {e : TypeId} {v : Value} {cs : List Value} (h : Own1 w B e v cs) (hE : Ext w w') : Own1 w' B e v cs := by
  refine ⟨h.1, ?_⟩
  rcases h.2 with h2 | ⟨g, cap, cur, hv, hg, hh, r⟩
  · exact Or.inl h2
  · exact Or.inr ⟨g, cap, cur, hv, hg, by rw [hE.block g (Array.getElem?_eq_some_iff.1 hh).1]; exact hh, r⟩
theorem Own1.mono {w : World} {B B' : Nat} {e : TypeId} {v : Value} {cs : List Value} (h : Own1 w B e v cs) (hB : B' ≤ B) : Own1 w B' e v cs := by
  refine ⟨h.1, ?_⟩
  rcases h.2 with h2 | ⟨g, cap, cur, hv, hg, r⟩
  · exact Or.inl h2
  · exact Or.inr ⟨g, cap, cur, hv, Nat.le_trans hB hg, r⟩
theorem Own1.alloc {w : World} {B : Nat} {e : TypeId} {v : Value} {cs : List Value} (h : Own1 w B e v cs) (o : Obj) : Own1 (w.alloc o) B e v cs := h.ext (Ext.alloc w o)
theorem Own1.drewN {w : World} {B : Nat} {e : TypeId} {v : Value} {cs : List Value} (h : Own1 w B e v cs) (n : Nat) : Own1 (w.drewN n) B e v cs := h
theorem Own1.slice {w : World} {B : Nat} {e : TypeId} {v : Value} {cs : List Value} (h : Own1 w B e v cs) : ∃ a cap, v = .slice a cs.length cap ∧ Cells w a cs ∧ (a = none → cs = []) := by
  rcases h.2 with ⟨rfl, hn⟩ | ⟨g, cap, cur, rfl, hg, hh, hn, hm, hs, ht⟩
  · have : cs = [] := List.eq_nil_of_length_eq_zero hn
    subst this
    exact ⟨none, 0, rfl, fun i hi => by simp at hi, fun _ => rfl⟩
  · refine ⟨some ⟨g, 0, none⟩, cap, rfl, fun i hi => ⟨g, 0, rfl, ?_⟩, fun h => by cases h⟩
    have := World.ownsRow.cellAt (w := w) h i (by omega)
    rw [Nat.zero_add, this]
    simp [hi]
theorem Own1.ints {w : World} {B : Nat} {e : TypeId} {v : Value} {l : List Int} (h : Own1 w B e v (l.map (.int .i64))) : ∃ a cap, v = .slice a l.length cap ∧ Ints w a l := by
  obtain ⟨a, cap, h1, h2, _⟩ := h.slice
  exact ⟨a, cap, by simpa using h1, h2.ints⟩

/-- Where the value that append hands back lies: in the row that was, or in a new block. -/
theorem append_block {P : Program} {w : World} (base : Nat) (t ty e : TypeId) (i : TypeInfo) (z : Value) (size bytes : Nat) (ht : P.underlying t = some (.slice e)) (hi : P.info? e = some i) (hz : i.zero = some z)
    (hsize : i.size = size) (hby : i.bytes = bytes) (v : Value) (n : Nat) (xs : List Value) (hown : w.ownsRow base e size v n xs)
    (a : Addr) (m c : Nat) (news : List Value) (hl : news.length = m * size) (hnews : ∀ j u, news[j]? = some u → w.cell? (a.add j) = some u) (h1 : ∀ u ∈ news, u.oneCell' = true)
    (h0 : 0 < m) (h63 : n + m ≤ maxLen) (hbytes : (n + m) * bytes ≤ 140737488355328) {v' : Value} {w' : World}
    (hrun : (Builtin.append_ #[t, t] ty #[v, .slice (some a) m c]).run P w = .ok v' w') : (v'.ownBlock = v.ownBlock ∧ v.ownBlock ≠ none) ∨ v'.ownBlock = some w.heap.size := by
  subst hsize
  subst hby
  have hsmall : n + m ≤ 9223372036854775807 := by simp only [maxLen] at h63; omega
  rcases hown.2 with ⟨rfl, rfl⟩ | ⟨g, cap, cur, rfl, hbg, hg, hnc, hcm, hcs, htake⟩
  · have hr := run_append_nil (P := P) w t ty e i z ht hi hz a m c news hl hnews h0 (by omega) (by simp only [Nat.zero_add] at hbytes; omega)
    rw [hrun] at hr
    injection hr with hv
    subst hv
    exact Or.inr rfl
  · by_cases hroom : n + m ≤ cap
    · have hfit : n * i.size + news.length ≤ cur.size := by rw [hl, hcs, ← Nat.add_mul]; exact Nat.mul_le_mul_right _ hroom
      have hr := run_append_room (P := P) w t ty e i ht hi g n cap cur hg a m c news hl hnews h1 hroom hfit
      rw [hrun] at hr
      injection hr with hv
      subst hv
      exact Or.inl ⟨rfl, by simp [Value.ownBlock]⟩
    · have holds : ∀ j u, xs[j]? = some u → w.cell? ((⟨g, 0, none⟩ : Addr).add j) = some u := World.ownsRow.cells hown (g := g) rfl
      have hr := run_append_grow (P := P) w t ty e i z ht hi hz ⟨g, 0, none⟩ n cap xs hown.1 holds a m c news hl hnews (by omega) (by omega) (growslice_fits (by omega) hbytes)
      rw [hrun] at hr
      injection hr with hv
      subst hv
      exact Or.inr rfl

/-- append(out, news...), out nil or the call's own: out may grow. m > 0 elements of 'size' cells. -/
theorem wpList_append_many {P : Program} {w0 w : World} {ops : Array Oper} {rest : List Oper} {o : Oper} {a : Act} {Q : Exit → Act → World → Prop} (hgd : o.guard = none) (s x : Operand) (t : TypeId)
    (ho : o.op = .call { callee := .builtin .append, args := #[s, x], argTypes := #[t, t] })
    {e : TypeId} {z : Value} {size bytes : Nat} (ht : P.underlying t = some (.slice e)) (hinfo : (P.info? e).map (fun i => (i.zero, i.size, i.bytes)) = some (some z, size, bytes))
    (hzs : z.cells.size = size) (hs0 : 0 < size) (hby : bytes ≤ 1024)
    (v : Value) (n : Nat) (xs : List Value) (hs : a.eval s = v) (hE : Ext w0 w) (hown : w.ownsRow w0.heap.size e size v n xs) (hlen : n ≤ 1073741824)
    (ad : Addr) (m c : Nat) (hm0 : 0 < m) (hm : m ≤ 1073741824) (news : List Value) (hx : a.eval x = .slice (some ad) m c) (hl : news.length = m * size)
    (hu : ∀ j, (h : j < news.length) → w.cell? (ad.add j) = some news[j]) (h1 : ∀ u ∈ news, u.oneCell' = true)
    (h : ∀ v' w', w'.ownsRow w0.heap.size e size v' (n + m) (xs ++ news) → Ext w0 w' → w.grownBy w' v.ownBlock →
      ((v'.ownBlock = v.ownBlock ∧ v.ownBlock ≠ none) ∨ v'.ownBlock = some w.heap.size) → wpList P ops Q rest (a.put o.dst v') w') : wpList P ops Q (o :: rest) a w := by
  obtain ⟨i, hi, hz, hsz, hb⟩ := info_parts hinfo
  have hnews : ∀ j u, news[j]? = some u → w.cell? (ad.add j) = some u := by
    intro j u hj
    obtain ⟨hj1, hj2⟩ := List.getElem?_eq_some_iff.1 hj
    rw [← hj2]; exact hu j hj1
  have h63 : n + m ≤ maxLen := by unfold maxLen; omega
  have hbytes : (n + m) * bytes ≤ 140737488355328 := by
    have : (n + m) * bytes ≤ 2147483648 * 1024 := Nat.mul_le_mul (by omega) hby
    omega
  refine wpList_plain hgd fun K hK' => ?_
  obtain ⟨v', w', hrun, h2, h3, _⟩ := run_append_own (P := P) w w0.heap.size t o.type e i z size bytes ht hi hz hsz hb hzs hs0 v n xs hown ad m c news hl hnews h1 h63 hbytes hE.size
  have hblk := append_block (P := P) (w := w) w0.heap.size t o.type e i z size bytes ht hi hz hsz hb v n xs hown ad m c news hl hnews h1 hm0 h63 hbytes hrun
  unfold Oper.wp execOp
  simp only [ho, resolve, invoke, builtin, Sem.run_bind, Sem.run_pure, Result.andThen_ok, List.map_toArray, List.map_cons, List.map_nil, hs, hx, hrun]
  exact hK' _ _ (h v' w' h2 (Below.grown hE h3 hE.size (fun k hk => (World.ownsRow.lt hown k hk).1)) h3 hblk)

/-- append(out, x), out nil or the call's own, x of one cell: out may grow. -/
theorem wpList_append_one {P : Program} {w0 w : World} {ops : Array Oper} {rest : List Oper} {o : Oper} {a : Act} {Q : Exit → Act → World → Prop} (hgd : o.guard = none) (s x : Operand) (t : TypeId)
    (ho : o.op = .call { callee := .builtin .append, args := #[s, x], argTypes := #[t, t] })
    {e : TypeId} {z : Value} {bytes : Nat} (ht : P.underlying t = some (.slice e)) (hinfo : (P.info? e).map (fun i => (i.zero, i.size, i.bytes)) = some (some z, 1, bytes))
    (hzs : z.cells.size = 1) (hby : bytes ≤ 1024)
    (v : Value) (cs : List Value) (hs : a.eval s = v) (hE : Ext w0 w) (hown : Own1 w w0.heap.size e v cs) (hlen : cs.length ≤ 1073741824)
    (ad : Addr) (c : Nat) (u : Value) (hx : a.eval x = .slice (some ad) 1 c) (hu : w.cell? ad = some u) (h1 : u.oneCell' = true)
    (h : ∀ v' w', Own1 w' w0.heap.size e v' (cs ++ [u]) → Ext w0 w' → w.grownBy w' v.ownBlock → ((v'.ownBlock = v.ownBlock ∧ v.ownBlock ≠ none) ∨ v'.ownBlock = some w.heap.size) →
      wpList P ops Q rest (a.put o.dst v') w') : wpList P ops Q (o :: rest) a w := by
  refine wpList_append_many hgd s x t ho ht hinfo hzs (by decide) hby v cs.length cs hs hE hown hlen ad 1 c (by decide) (by decide) [u] hx rfl ?_ (by simpa using h1) ?_
  · intro j hj
    obtain rfl : j = 0 := by simp at hj; exact hj
    simpa [Addr.add] using hu
  · intro v' w' h2 h3 h4 h5
    exact h v' w' (by simpa [Own1] using h2) h3 h4 h5

/-- The same as one step of a region that draws its order. -/
theorem step_append_one {P : Program} {w0 w : World} {o : Oper} {ops : Array Oper} {a : Act} {K : Act → World → Prop} {Q : Exit → Act → World → Prop} {E : Prop} (hgd : o.guard = none) (s x : Operand) (t : TypeId)
    (ho : o.op = .call { callee := .builtin .append, args := #[s, x], argTypes := #[t, t] })
    {e : TypeId} {z : Value} {bytes : Nat} (ht : P.underlying t = some (.slice e)) (hinfo : (P.info? e).map (fun i => (i.zero, i.size, i.bytes)) = some (some z, 1, bytes))
    (hzs : z.cells.size = 1) (hby : bytes ≤ 1024)
    (v : Value) (cs : List Value) (hs : a.eval s = v) (hE : Ext w0 w) (hown : Own1 w w0.heap.size e v cs) (hlen : cs.length ≤ 1073741824)
    (ad : Addr) (c : Nat) (u : Value) (hx : a.eval x = .slice (some ad) 1 c) (hu : w.cell? ad = some u) (h1 : u.oneCell' = true)
    (h : ∀ v' w', Own1 w' w0.heap.size e v' (cs ++ [u]) → Ext w0 w' → w.grownBy w' v.ownBlock → ((v'.ownBlock = v.ownBlock ∧ v.ownBlock ≠ none) ∨ v'.ownBlock = some w.heap.size) →
      K (a.put o.dst v') w') : if Region.wanted o (yielded ops a.tmps) = true then Oper.wp P o a w K Q else E := by
  have hw : Region.wanted o (yielded ops a.tmps) = true := by simp [Region.wanted, hgd]
  rw [if_pos hw]
  obtain ⟨i, hi, hz, hsz, hb⟩ := info_parts hinfo
  have hnews : ∀ j u', [u][j]? = some u' → w.cell? (ad.add j) = some u' := by
    intro j u' hj
    match j, hj with
    | 0, hj => simp at hj; subst hj; simpa [Addr.add] using hu
  have hbytes : (cs.length + 1) * bytes ≤ 140737488355328 := by
    have : (cs.length + 1) * bytes ≤ 1073741825 * 1024 := Nat.mul_le_mul (by omega) hby
    omega
  have h63 : cs.length + 1 ≤ maxLen := by unfold maxLen; omega
  obtain ⟨v', w', hrun, h2, h3, _⟩ := run_append_own (P := P) w w0.heap.size t o.type e i z 1 bytes ht hi hz hsz hb hzs (by decide) v cs.length cs hown ad 1 c [u] (by simp) hnews (by simpa using h1) h63 hbytes hE.size
  have hblk := append_block (P := P) (w := w) w0.heap.size t o.type e i z 1 bytes ht hi hz hsz hb v cs.length cs hown ad 1 c [u] (by simp) hnews (by simpa using h1) (by decide) h63 hbytes hrun
  unfold Oper.wp execOp
  simp only [ho, resolve, invoke, builtin, Sem.run_bind, Sem.run_pure, Result.andThen_ok, List.map_toArray, List.map_cons, List.map_nil, hs, hx, hrun]
  exact h v' w' (by simpa [Own1] using h2) (Below.grown hE h3 hE.size (fun k hk => (World.ownsRow.lt hown k hk).1)) h3 hblk

/-- make([]T, n), T of one cell. -/
theorem wpList_make_one {P : Program} {w0 w : World} {ops : Array Oper} {rest : List Oper} {o : Oper} {a : Act} {Q : Exit → Act → World → Prop} (hgd : o.guard = none) (l c : Operand) (t : TypeId)
    (ho : o.op = .makeSlice t l c)
    {e : TypeId} {z : Value} {bytes : Nat} (ht : P.underlying t = some (.slice e)) (hinfo : (P.info? e).map (fun i => (i.zero, i.size, i.bytes)) = some (some z, 1, bytes))
    (hzs : z.cells = #[z]) (hby : bytes ≤ 1024)
    (kl kc : IntKind) (n : Nat) (hl : a.eval l = .int kl (n : Int)) (hc : a.eval c = .int kc (n : Int)) (hn : n ≤ 1073741824) (hE : Ext w0 w)
    (h : ∀ w', Own1 w' w0.heap.size e (.slice (some ⟨w.heap.size, 0, none⟩) n n) (List.replicate n z) → Ext w0 w' → w.grownBy w' none → w.heap.size < w'.heap.size → wpList P ops Q rest (a.put o.dst (.slice (some ⟨w.heap.size, 0, none⟩) n n)) w') : wpList P ops Q (o :: rest) a w := by
  obtain ⟨i, hi, hz, hsz, hb⟩ := info_parts hinfo
  refine wpList_make_full w hgd l c t ho w0.heap.size e i z 1 ht hi hz hsz kl kc n n n hl hc rfl rfl ?_ ?_ hE.size ?_
  · have : bytes * n ≤ 1024 * 1073741824 := Nat.mul_le_mul hby hn
    rw [hb]; omega
  · unfold maxLen; omega
  · intro w' hown hgrow
    have h2 : Own1 w' w0.heap.size e (.slice (some ⟨w.heap.size, 0, none⟩) n n) (List.replicate n z) := by
      unfold Own1
      rw [List.length_replicate]
      simpa [hzs, toList_madeCells_one] using hown
    exact h w' h2 (Below.grown hE hgrow hE.size (fun k hk => by cases hk)) hgrow (World.ownsRow.lt h2 _ rfl).2

/-- out[j] = u, out owned. -/
theorem Own1.set {w w0 : World} {e : TypeId} {b n cap : Nat} {cs : List Value} (h : Own1 w w0.heap.size e (.slice (some ⟨b, 0, none⟩) n cap) cs) (hE : Ext w0 w) (j : Nat) (u : Value) :
    Own1 (w.setCell ⟨b, j, none⟩ u) w0.heap.size e (.slice (some ⟨b, 0, none⟩) n cap) (cs.set j u) ∧ Ext w0 (w.setCell ⟨b, j, none⟩ u) := by
  have hn : cs.length = n := by
    rcases h.2 with ⟨h', _⟩ | ⟨g', cap', cur, h', _⟩ <;> simp at h'
    omega
  subst hn
  have hs := World.ownsRow.stored (w := w) h j u
  refine ⟨?_, hE.setCell' (p := ⟨b, j, none⟩) (World.ownsRow.lt h b rfl).1 u⟩
  unfold Own1
  rw [List.length_set]
  exact hs.1
theorem Own1.cellAt {w : World} {B : Nat} {e : TypeId} {b n cap : Nat} {cs : List Value} (h : Own1 w B e (.slice (some ⟨b, 0, none⟩) n cap) cs) (j : Nat) (hj : j < cs.length) : w.cell? ⟨b, j, none⟩ = some cs[j] := by
  have hn : cs.length = n := by
    rcases h.2 with ⟨h', _⟩ | ⟨g', cap', cur, h', _⟩ <;> simp at h'
    omega
  subst hn
  have := World.ownsRow.cellAt (w := w) h j (by omega)
  rw [this]; simp [hj]
theorem Own1.frozenAt {w : World} {B : Nat} {e : TypeId} {b n cap : Nat} {cs : List Value} (h : Own1 w B e (.slice (some ⟨b, 0, none⟩) n cap) cs) (j : Nat) : w.frozen? ⟨b, j, none⟩ = false := by
  have hn : cs.length = n := by
    rcases h.2 with ⟨h', _⟩ | ⟨g', cap', cur, h', _⟩ <;> simp at h'
    omega
  subst hn
  exact World.ownsRow.frozenAt (w := w) h j

/-- What is owned by another slice stays owned when v's row has grown. -/
theorem Own1.kept {w w' : World} {B : Nat} {e : TypeId} {v v2 : Value} {cs : List Value} (h : Own1 w B e v2 cs) (hg : w.grownBy w' v.ownBlock) (hne : v2.ownBlock = none ∨ v2.ownBlock ≠ v.ownBlock) : Own1 w' B e v2 cs :=
  World.ownsRow.kept h hg hne

/-- Two slices do not lie in one block. -/
def Apart (v v2 : Value) : Prop := ∀ b, v.ownBlock = some b → v2.ownBlock ≠ some b
theorem Apart.symm {v v2 : Value} (h : Apart v v2) : Apart v2 v := fun b h1 h2 => h b h2 h1
theorem Own1.lt {w : World} {B : Nat} {e : TypeId} {v : Value} {cs : List Value} (h : Own1 w B e v cs) {b : Nat} (hb : v.ownBlock = some b) : b < w.heap.size := (World.ownsRow.lt h b hb).2

/-- Behind an append to v what v2 owns is as it was, and the two still lie apart. -/
theorem Own1.beside {w w' : World} {B : Nat} {e : TypeId} {v v' v2 : Value} {cs2 : List Value} (h2 : Own1 w B e v2 cs2) (hap : Apart v v2) (hg : w.grownBy w' v.ownBlock)
    (hb : (v'.ownBlock = v.ownBlock ∧ v.ownBlock ≠ none) ∨ v'.ownBlock = some w.heap.size) : Own1 w' B e v2 cs2 ∧ Apart v' v2 := by
  refine ⟨h2.kept hg ?_, ?_⟩
  · cases h : v2.ownBlock with
    | none => exact Or.inl rfl
    | some b =>
      right
      intro h3
      exact hap b h3.symm h
  · intro b h3 h4
    rcases hb with ⟨h5, _⟩ | h5
    · exact hap b (h5 ▸ h3) h4
    · rw [h5] at h3
      simp at h3
      have := h2.lt h4
      omega

/-- A region that draws its order, whose first n operations only read (or call quietly): they may be walked in the text's order, in a world of which only the draw's count has turned. -/
theorem region_tail {P : Program} {id : Nat} {Q : Exit → Act → World → Prop} {a : Act} {w : World} {l : List Oper} (n : Nat) (hm : P.follows .mixedOrders = true) (hB : Region.lexTailB .any l.toArray n = true)
    (h : ∀ w2 : World, Ext w w2 → w2.heap = w.heap → wpStill P l.toArray w2 (fun a' => wpList P l.toArray Q (l.drop n) a' w2) (l.take n) a) : (Code.region id l.toArray true).wp P Q a w :=
  wp_region_still_tail n hm hB (h _ ⟨rfl, rfl, rfl, Nat.le_refl _, fun _ _ => rfl⟩ rfl)
theorem Ext.at {w w' : World} (h : Ext w w') {b o : Nat} {v : Value} (hc : w.cell? ⟨b, o, none⟩ = some v) : w'.cell? ⟨b, o, none⟩ = some v :=
  (h.cells b o (lt_of_cell hc)).trans hc

/-! ### A block that is known whole: a local struct whose fields are written -/
/-- Block b holds just the cells vs, of type t, none of them frozen. -/
def Box (w : World) (b : Nat) (t : TypeId) (vs : Array Value) : Prop := w.heap[b]? = some (.cells vs t (0, 0))
theorem Box.new (w : World) (t : TypeId) (vs : Array Value) : Box (w.alloc (.cells vs t)) w.heap.size t vs := heap_alloc_new w _
theorem Box.cast {w : World} {b : Nat} {t : TypeId} {vs vs' : Array Value} (h : Box w b t vs) (e : vs = vs') : Box w b t vs' := e ▸ h
theorem Box.ext {w w' : World} {b : Nat} {t : TypeId} {vs : Array Value} (h : Box w b t vs) (e : Ext w w') : Box w' b t vs := by
  unfold Box at *
  rw [e.block b (Array.getElem?_eq_some_iff.1 h).1]; exact h
theorem Box.alloc {w : World} {b : Nat} {t : TypeId} {vs : Array Value} (h : Box w b t vs) (o : Obj) : Box (w.alloc o) b t vs := h.ext (Ext.alloc w o)
theorem Box.lt {w : World} {b : Nat} {t : TypeId} {vs : Array Value} (h : Box w b t vs) : b < w.heap.size := (Array.getElem?_eq_some_iff.1 h).1
theorem Box.cell {w : World} {b : Nat} {t : TypeId} {vs : Array Value} (h : Box w b t vs) (i : Nat) : w.cell? ⟨b, i, none⟩ = vs[i]? := cell_of_row w b i vs t (0, 0) h
theorem Box.free {w : World} {b : Nat} {t : TypeId} {vs : Array Value} (h : Box w b t vs) (i : Nat) : w.frozen? ⟨b, i, none⟩ = false := by
  unfold Box at h
  simp [World.frozen?, h]
theorem Box.set {w : World} {b : Nat} {t : TypeId} {vs : Array Value} (h : Box w b t vs) (i : Nat) (u : Value) : Box (w.setCell ⟨b, i, none⟩ u) b t (vs.setIfInBounds i u) := by
  unfold Box at *
  exact heap_setCell_same w b i vs t u h
theorem Box.setOther {w : World} {b c i : Nat} {t : TypeId} {vs : Array Value} (h : Box w b t vs) (hne : b ≠ c) (u : Value) : Box (w.setCell ⟨c, i, none⟩ u) b t vs := by
  unfold Box at *
  rw [heap_setCell_other w ⟨c, i, none⟩ b u hne]; exact h
theorem Box.drewN {w : World} {b : Nat} {t : TypeId} {vs : Array Value} (h : Box w b t vs) (n : Nat) : Box (w.drewN n) b t vs := h

/-! ### An argument that is a slice of integers -/
theorem open_ints_arg {H : Type} {enc : TypeId × Value → H} {P : Program} {W : World} {t e : TypeId} {base : Nat} {v : Value} {d : DataW H} {p : List MemPlace}
    (ht : P.underlying t = some (.slice e)) (he : P.underlying e = some (.int .i64)) (hc : P.cellsOf e = 1) (hv : Value.okWide P W .any base t v)
    (h : DataW.Trod enc P W 0 (fun _ => true) true t v d p) : ∃ (a : Option Addr) (l : List Int) (cap : Nat), v = .slice a l.length cap ∧ Ints W a l := by
  obtain ⟨a, len, cap, rfl⟩ := okWide_slice ht hv
  obtain ⟨fuel, hf⟩ := h
  rcases open_ints ht he hc hf with ⟨hcs, _⟩ | ⟨x, l, c, zs, hcs, _, hl, hm, hz, _, hcell, hwz⟩
  · simp [Value.cells] at hcs
    obtain ⟨rfl, rfl, rfl⟩ := hcs
    exact ⟨none, [], 0, rfl, fun i hi => by simp at hi⟩
  · simp [Value.cells] at hcs
    obtain ⟨rfl, rfl, rfl⟩ := hcs
    have hz' : zs.length = cap := by simpa using hz
    refine ⟨some x, zs.take len, cap, by simp [hz', Nat.min_eq_left hl], ?_⟩
    intro i hi
    have hi2 : i < zs.length := by simp at hi; omega
    have h1 := hcell i hi2
    have h0 := hcell 0 (by omega)
    have hs : x.spot = none := by
      simp only [Addr.add, if_true] at h0
      by_cases hx : x.spot = none
      · exact hx
      · exfalso
        unfold World.cell? at h0
        have hsome : x.spot.isSome = true := by
          cases hxs : x.spot with
          | none => exact absurd hxs hx
          | some _ => rfl
        split at h0
        · rw [if_pos hsome] at h0; cases h0
        · cases h0
    obtain ⟨b, o, sp⟩ := x
    simp only at hs
    subst hs
    refine ⟨b, o, rfl, ?_⟩
    rw [Addr.add_lit] at h1
    rw [h1]
    simp [List.getD, hi2]

theorem ret_bool {a b : Bool} (h : a = b) : Ending.returned (.bool a) = .returned (.bool b) := by rw [h]
theorem ret_int {k : IntKind} {a b : Int} (h : a = b) : Ending.returned (.int k a) = .returned (.int k b) := by rw [h]
theorem Ext.drewN' {a w : World} (h : Ext a w) (n : Nat) : Ext a (w.drewN n) := ⟨h.os, h.tape, h.output, h.size, h.block⟩

end Go.Er
