/- General lemmas (data by value) and the walks on which the law's proof leans, part 3. No condition. -/
import Derived.Test.YtfhfidecmdhkoaaGreatDoorM2
import Derived.Lib.SlBytesRow
import Derived.Lib.ConvBytes
import Derived.Laws.StructEq
set_option linter.unusedVariables false
set_option linter.unusedSimpArgs false
section
set_option linter.unusedVariables false
namespace Go.Dv
open Go.RowKit
set_option linter.unusedSectionVars false
variable [Glob]
def lst : List (Nat × S) → St
  | [] => fun _ => .un
  | (i, x) :: L => (lst L).put i x
inductive Less (x' : S) : S → Prop where
  | un : Less x' .un
  | same : Less x' x'
theorem nil_own {P : Program} {w : World} {ow : Own} {e : TypeId} {l : List Nat} : V P w ow (.sl (some e) []) l (.slice none 0 0) := by
  simp only [V, R]
  exact ⟨none, 0, rfl, Nat.le_refl _, by simp [maxLen], .inl ⟨rfl, trivial, rfl⟩⟩
def lessK (s' : St) (L : St) (i : Nat) (x : S) : Prop :=
  (x = .un) ∨ (s' i = x ∧ match x.root with | some j => L j = s' j | none => True) ∨ (s' i = .val (.one (.slice none 0 0)) ∧ ∃ e, x = .own (.sl (some e) []))
theorem tells_of {P : Program} {n : Nat} {s' s : St} (h : ∀ i, lessK s' s i (s i)) : Tells P n s' s := by
  intro w0 ow0 a w ⟨ow, hf⟩
  refine ⟨ow, hf.nodef, hf.size, hf.small, hf.laid, hf.bel, hf.own, hf.new, ?_, hf.keep, fun i => ?_⟩
  · rcases h far0 with h | ⟨h, _⟩ | ⟨h, _⟩
    · exact h
    · rw [← h, hf.far]
    · rw [hf.far] at h; cases h
  · have hi := hf.slot i
    rcases h i with h1 | ⟨h1, h2⟩ | ⟨h1, e, h2⟩
    · rw [h1]; trivial
    · rw [h1] at hi
      refine hi.cong fun j hj => ⟨?_, rfl⟩
      rw [hj] at h2
      exact h2
    · rw [h1] at hi
      rw [h2]
      simp only [SV, V, D.fz, R] at hi
      have : aval a i = .slice none 0 0 := by simpa using hi.1
      rw [this]
      exact nil_own
theorem lst_un {L : List (Nat × S)} {i : Nat} (h : i ∉ L.map Prod.fst) : lst L i = .un := by
  induction L with
  | nil => rfl
  | cons p L ih =>
    obtain ⟨j, x⟩ := p
    simp only [List.map_cons, List.mem_cons, not_or] at h
    simp only [lst, St.put, if_neg h.1]
    exact ih h.2
def lessL (s' : St) (L : List (Nat × S)) : List (Nat × S) → Prop
  | [] => True
  | (i, x) :: r => lessK s' (lst L) i x ∧ lessL s' L r
theorem tells_lst {P : Program} {n : Nat} {s' : St} {L : List (Nat × S)} (h : lessL s' L L) : Tells P n s' (lst L) := by
  refine tells_of fun i => ?_
  have key : ∀ (M : List (Nat × S)), lessL s' L M → lst M i = .un ∨ lessK s' (lst L) i (lst M i) := by
    intro M
    induction M with
    | nil => intro _; exact .inl rfl
    | cons p M ih =>
      obtain ⟨j, x⟩ := p
      rintro ⟨h1, h2⟩
      simp only [lst, St.put]
      split
      · rename_i hij; subst hij; exact .inr h1
      · exact ih h2
  rcases key L h with h | h
  · exact .inl h
  · exact h
def St.cool (s : St) (t : Nat) : St := match s t with
  | .own d => (s.kill t).put t (.val d.fz)
  | _ => s
theorem Fits.cool {P : Program} {n : Nat} {w0 w : World} {ow0 ow : Own} {s : St} {a : Act} (h : Fits P n w0 ow0 ow s a w) (t : Nat) : ∃ ow', Fits P n w0 ow0 ow' (s.cool t) a w := by
  unfold St.cool
  split
  · rename_i d hd
    refine ⟨lend [t] ow, ?_⟩
    have hV := h.slot t
    rw [hd] at hV
    refine h.change h.nodef h.size rfl rfl rfl (Nat.le_refl _) (fun b _ ho => ⟨rfl, lend_none ho⟩) (fun b hb => lend_none (h.new b hb)) (fun j => j = t) ?_ ?_ ?_ (fun e => by have h9 := h.far; rw [show far0 = t from e, hd] at h9; cases h9)
    · intro j hj b _ q hq
      refine ⟨rfl, ?_⟩
      simp only [lend, hq]
      rw [if_neg]
      have : ¬ j = t := hj
      simp [this]
    · intro i hi
      refine ⟨rfl, ?_⟩
      have hp : ((s.kill t).put t (.val d.fz)) i = (s.kill t) i := by simp [St.put, show i ≠ t from hi]
      rw [hp]
      rcases kill_at s t i with h1 | ⟨h1, _, h2⟩
      · exact .inl h1
      · right
        refine ⟨h1, fun j hj => ?_⟩
        have hjt : j ≠ t := by rintro rfl; exact h2 hj
        exact ⟨hjt, by simp [St.put, hjt, kill_own ((h.slot i).root hj) hjt]⟩
    · rintro i rfl
      simp only [St.put, if_true, SV, D.fz_fz]
      exact V.fz (frees_lend (p := []) (by simp)) hV
  · exact ⟨ow, h⟩
theorem tells_cool {P : Program} {n : Nat} {s : St} (t : Nat) : Tells P n s (s.cool t) := fun w0 ow0 a w ⟨ow, hf⟩ => hf.cool t
def St.cools (s : St) : List Nat → St
  | [] => s
  | t :: ts => (s.cool t).cools ts
theorem tells_cools {P : Program} {n : Nat} : ∀ (ts : List Nat) {s : St}, Tells P n s (s.cools ts)
  | [], s => Tells.refl s
  | t :: ts, s => (tells_cool t).trans (tells_cools ts)
theorem tells_list {P : Program} {n : Nat} {s' : St} {L : List (Nat × S)} (ts : List Nat) (h : lessL (s'.cools ts) L L) : Tells P n s' (lst L) := (tells_cools ts).trans (tells_lst h)
def dextract (u r k : Nat) (s : St) (K : St → Prop) : Prop := u ≠ r ∧ match s r with
  | .tup l => match l[k]? with
    | some (.val d) => K (s.set u (.val d))
    | some (.own d) => K ((s.put r (.tup (l.set k .un))).set u (.own d))
    | _ => False
  | _ => False
theorem ok_extract {P : Program} {n : Nat} {w0 : World} {ow0 : Own} {o : Oper} {s : St} {K : St → Prop} {r k u : Nat} (ho : o.op = .extract (.tmp r) k) (hd : o.dst = some u) (hu : u < n) (hr6 : r < 1000000) (h : dextract u r k s K) : Ok P n w0 ow0 o s K := by
  refine ok_value fun a w ow hf => ?_
  obtain ⟨hur, h⟩ := h
  have hr := hf.slot r
  split at h
  · rename_i l hl
    rw [hl] at hr
    obtain ⟨vs, h1, h2, h3⟩ := hr
    have he : a.eval (.tmp r) = .tuple vs := by
      rw [← h1]; unfold aval Act.eval; rw [if_pos hr6]
    have run : ∀ (_ : k < vs.size), (execOp a.eval o).run P w = .ok (.value (vs.getD k undef)) w := by
      intro hk
      unfold execOp
      simp only [ho, he, Instr.extract, Sem.run_bind]
      have : vs[k]? = some (vs.getD k undef) := by simp [Array.getD_eq_getD_getElem?, hk]
      rw [this]
      rfl
    have hlt : ∀ x, l[k]? = some x → k < vs.size := fun x hx => by rw [h2]; exact (List.getElem?_eq_some_iff.1 hx).1
    split at h
    · rename_i d hk
      refine ⟨_, w, run (hlt _ hk), _, h, ow, ?_⟩
      rw [hd]
      exact hf.set hu (h3 k _ hk)
    · rename_i d hk
      have hV := h3 k _ hk
      simp only at hV
      have hfar : r ≠ far0 := fun e => by have := hf.far; rw [← e, hl] at this; cases this
      have hf2 : Fits P n w0 ow0 (relabS [k, r] [u] ow) (s.put r (.tup (l.set k .un))) a w := by
        refine hf.change hf.nodef hf.size rfl rfl rfl (Nat.le_refl _) (fun b _ ho => ⟨rfl, relabS_none ho⟩) (fun b hb => relabS_none (hf.new b hb)) (fun j => j = r) ?_ ?_ ?_ (fun e => hfar e.symm)
        · intro j hj b _ q hq
          refine ⟨rfl, relabS_miss hq fun q' hq' => hj ?_⟩
          have := congrArg List.getLast? hq'
          simpa using this
        · intro i hi
          refine ⟨rfl, .inr ⟨by simp [St.put, show i ≠ r from hi], fun j hj => ?_⟩⟩
          have hjr : j ≠ r := by
            rintro rfl
            have := (hf.slot i).root hj
            rw [hl] at this; cases this
          exact ⟨hjr, by simp [St.put, hjr]⟩
        · rintro i rfl
          simp only [St.put, if_true]
          refine ⟨vs, h1, by simp [h2], fun k' x hx => ?_⟩
          by_cases hkk : k' = k
          · subst hkk
            have : x = .un := by
              rw [List.getElem?_set] at hx
              simp only [if_true] at hx
              split at hx
              · exact (Option.some.inj hx).symm
              · cases hx
            subst this
            trivial
          · rw [List.getElem?_set_ne (Ne.symm hkk)] at hx
            have h4 := h3 k' x hx
            cases x with
            | val d' => exact V.trf (fun b _ ho => ⟨rfl, relabS_none ho⟩) h4
            | own d' =>
              refine V.tr (Keeps.relabS_off fun q q' e => hkk ?_) h4
              have e2 : (q ++ [k']) ++ [i] = (q' ++ [k]) ++ [i] := by simpa using e
              have e3 := List.append_cancel_right e2
              have := congrArg List.getLast? e3
              simpa using this
            | _ => trivial
      refine ⟨_, w, run (hlt _ hk), _, h, relabS [k, r] [u] ow, ?_⟩
      rw [hd]
      exact hf2.set hu (V.tr Keeps.relabS hV)
    · exact h.elim
  · exact h.elim
theorem ok_nilCheck {P : Program} {n : Nat} {w0 : World} {ow0 : Own} {o : Oper} {s : St} {K : St → Prop} {x : Operand} {u : Nat} (ho : o.op = .nilCheck x) (hd : o.dst = some u) (hu : u < n)
    (hp : ∃ y, asPtr s (slotOf x) (evS s x) = y ∧ y ≠ .un) (h : dmove u x s K) : Ok P n w0 ow0 o s K := by
  refine ok_value fun a w ow hf => ?_
  obtain ⟨y, hy, hne⟩ := hp
  have hv := hf.asPtr x
  rw [hy] at hv
  have hptr : ∃ b off, a.eval x = .pointer (some ⟨b, off, none⟩) := by
    have hy' : (∃ d, y = .rp d) ∨ ∃ t p, y = .rf t p := by
      unfold asPtr at hy
      split at hy <;> first | (exact .inl ⟨_, hy.symm⟩) | (exact .inr ⟨_, _, hy.symm⟩) | skip
      all_goals first | exact absurd hy.symm hne | (split at hy <;> first | (exact .inl ⟨_, hy.symm⟩) | (exact .inr ⟨_, _, hy.symm⟩) | exact absurd hy.symm hne | skip)
      all_goals first | (split at hy <;> first | (exact .inl ⟨_, hy.symm⟩) | (exact .inr ⟨_, _, hy.symm⟩) | exact absurd hy.symm hne)
    rcases hy' with ⟨d, rfl⟩ | ⟨t, p, rfl⟩
    · obtain ⟨b, off, h1, _⟩ := hv; exact ⟨b, off, h1⟩
    · obtain ⟨_, _, b, off, _, _, _, h1⟩ := hv; exact ⟨b, off, h1⟩
  obtain ⟨b, off, he⟩ := hptr
  refine ⟨a.eval x, w, ?_, ?_⟩
  · unfold execOp
    simp only [ho, he]
    rfl
  · rw [hd]; exact dmove_ok hf hu h
end Go.Dv
end
section
set_option linter.unusedVariables false
namespace Go.Dv
open Go.RowKit
set_option linter.unusedSectionVars false
variable [Glob]
def eqB (op : BinOp) (x y : Value) (K : Value → Prop) : Prop := match op, x, y with
  | .eql, .bool a, .bool b => K (.bool (a == b))
  | .neq, .bool a, .bool b => K (.bool (a != b))
  | _, _, _ => False
theorem ok_eqB {P : Program} {n : Nat} {w0 : World} {ow0 : Own} {o : Oper} {s : St} {K : St → Prop} {op : BinOp} {t t' : TypeId} {x y : Operand} (ht : P.underlying t = some .bool) (ho : o.op = .binOp op t x y t') (hd : dstOk n o = true)
    (h : oneK (evS s x) fun u => oneK (evS s y) fun v => eqB op u v fun r => K (s.setd o.dst (.val (.one r)))) : Ok P n w0 ow0 o s K := by
  obtain ⟨u, hu, h1⟩ := oneK_of h
  clear h
  obtain ⟨v, hv, h⟩ := oneK_of h1
  clear h1
  have heq : ∀ (w : World) (a b : Bool), (Op.equal t (.bool a) (.bool b)).run P w = .ok (a == b) w := by
    intro w a b
    unfold Op.equal Op.maxDepth Op.equalIn
    rw [Sem.run_bind, run_underlying ht w]
    rfl
  unfold eqB at h
  split at h
  · rename_i a b
    refine ok_pure hd (u := .bool (a == b)) rfl (fun ac w he => ?_) h
    unfold execOp; rw [ho]
    simp only [he _ _ hu, he _ _ hv]
    have : (eqGuard .eql t x y (.bool a) (.bool b)).run P w = .ok () w := rfl
    simp only [Sem.run_bind, this, Result.andThen_ok, binOp, heq, Sem.run_pure]
  · rename_i a b
    refine ok_pure hd (u := .bool (a != b)) rfl (fun ac w he => ?_) h
    unfold execOp; rw [ho]
    simp only [he _ _ hu, he _ _ hv]
    have : (eqGuard .neq t x y (.bool a) (.bool b)).run P w = .ok () w := rfl
    simp only [Sem.run_bind, this, Result.andThen_ok, binOp, heq, Sem.run_pure]
    rfl
  · exact h.elim
def bndK (s : St) (x : Option Operand) (z : Nat) (K : Nat → Prop) : Prop := match x with
  | none => K z
  | some x => oneK (evS s x) fun v => match v with
    | .int _ j => 0 ≤ j ∧ K j.toNat
    | _ => False
def dsliceT (s : St) (z : ByteArray) (lo hi : Option Operand) (K : Value → Prop) : Prop :=
  bndK s hi z.size fun h => bndK s lo 0 fun l => l ≤ h ∧ h ≤ z.size ∧ K (.string (z.extract l h))
theorem bnd_run {P : Program} {s : St} {a : Act} {x : Option Operand} {z : Nat} {K : Nat → Prop} (he : ∀ x u, evS s x = .val (.one u) → a.eval x = u) (h : bndK s x z K) :
    ∃ j, K j ∧ ((x = none ∧ j = z) ∨ ∃ x' k i, x = some x' ∧ a.eval x' = .int k i ∧ 0 ≤ i ∧ i.toNat = j) := by
  cases x with
  | none => exact ⟨z, h, .inl ⟨rfl, rfl⟩⟩
  | some x =>
    obtain ⟨v, hv, h1⟩ := oneK_of h
    split at h1
    · exact ⟨_, h1.2, .inr ⟨x, _, _, rfl, he _ _ hv, h1.1, rfl⟩⟩
    · exact h1.elim
theorem bound_run {P : Program} {w : World} {k : IntKind} {i : Int} {m : Nat} {c : BoundsCode} (h0 : 0 ≤ i) (hm : i.toNat ≤ m) : (Instr.sliceBound (.int k i) m c).run P w = .ok i.toNat w := by
  unfold Instr.sliceBound
  simp only [asIntOf, Sem.run_bind, Sem.run_pure, Result.andThen_ok]
  rw [if_pos ⟨h0, by omega⟩]
  rfl
theorem bounds_run {P : Program} {w : World} {a : Act} {lo hi : Option Operand} {isS : Bool} {len cap l h : Nat} (hl : (lo = none ∧ l = 0) ∨ ∃ x' k i, lo = some x' ∧ a.eval x' = .int k i ∧ 0 ≤ i ∧ i.toNat = l)
    (hh : (hi = none ∧ h = len) ∨ ∃ x' k i, hi = some x' ∧ a.eval x' = .int k i ∧ 0 ≤ i ∧ i.toNat = h) (h1 : l ≤ h) (h2 : h ≤ cap) : (Instr.sliceBounds isS len cap (lo.map a.eval) (hi.map a.eval) none).run P w = .ok (l, h, cap) w := by
  unfold Instr.sliceBounds
  rcases hh with ⟨rfl, rfl⟩ | ⟨x', k, i, rfl, he, h0, rfl⟩ <;> rcases hl with ⟨rfl, rfl⟩ | ⟨x2, k2, i2, rfl, he2, h02, rfl⟩
  · simp only [Option.map_none, Sem.run_bind, Sem.run_pure, Result.andThen_ok]
  · simp only [Option.map_none, Option.map_some, he2, Sem.run_bind, Sem.run_pure, Result.andThen_ok, bound_run h02 h1]
  · simp only [Option.map_none, Option.map_some, he, Sem.run_bind, Sem.run_pure, Result.andThen_ok, bound_run h0 h2]
  · simp only [Option.map_none, Option.map_some, he, he2, Sem.run_bind, Sem.run_pure, Result.andThen_ok, bound_run h0 h2, bound_run h02 h1]
theorem ok_sliceT {P : Program} {n : Nat} {w0 : World} {ow0 : Own} {o : Oper} {s : St} {K : St → Prop} {t : TypeId} {x : Operand} {lo hi : Option Operand} (ht : P.underlying t = some .string) (ho : o.op = .slice t x lo hi none) (hd : dstOk n o = true)
    (h : oneK (evS s x) fun v => match v with | .string z => dsliceT s z lo hi fun r => K (s.setd o.dst (.val (.one r))) | _ => False) : Ok P n w0 ow0 o s K := by
  obtain ⟨v, hx, h1⟩ := oneK_of h
  clear h
  split at h1
  · rename_i z
    refine ok_value fun a w ow hf => ?_
    have he : ∀ x u, evS s x = .val (.one u) → a.eval x = u := fun x u hx => (hf.one hx).1
    obtain ⟨hh, h2, e1⟩ := bnd_run (P := P) he h1
    obtain ⟨ll, ⟨h3, h4, hK⟩, e2⟩ := bnd_run (P := P) he h2
    refine ⟨.string (z.extract ll hh), w, ?_, _, hK, ow, ?_⟩
    · unfold execOp
      rw [ho]
      simp only [he _ _ hx, Instr.sliceAt, Instr.slice, Sem.run_bind, run_underlying ht w, Result.andThen_ok, Option.isSome_none, Bool.false_eq_true, if_false, Option.map_none]
      rw [bounds_run e2 e1 h3 h4]
      rfl
    · cases hod : o.dst with
      | none => exact hf
      | some t =>
        have ht : t < n := by simpa [dstOk, hod] using hd
        exact hf.set ht (SV.val_one rfl)
  · exact h1.elim
theorem R.trf2 {P : Program} {w : World} {ow : Own} {xs : List D} {l l2 : List Nat} {cs : List Value} (h : R P w ow (.sl none (D.fzs xs)) l cs) : R P w ow (.sl none (D.fzs xs)) l2 cs := by
  have := R.trf (d := .sl none xs) (l2 := l2) (w' := w) (ow' := ow) (fun b _ hb => ⟨rfl, hb⟩) (by simpa only [D.fz] using h)
  simpa only [D.fz] using this
theorem R.part {P : Program} {w : World} {ow : Own} {xs : List D} {l : List Nat} {a : Option Addr} {len cap lo hi s : Nat} (h : R P w ow (.sl none (D.fzs xs)) l [.slice a len cap]) (h1 : lo ≤ hi) (h2 : hi ≤ len) (hs : ∀ x ∈ xs, x.w = s) :
    R P w ow (.sl none (D.fzs ((xs.drop lo).take (hi - lo)))) l [.slice (if cap = lo then a else a.map (·.add (lo * s))) (hi - lo) (cap - lo)] := by
  simp only [D.fzs_map] at h ⊢
  rw [List.map_take, List.map_drop]
  simp only [R] at h ⊢
  obtain ⟨a', cap', hv, hc1, hc2, h4⟩ := h
  simp only [List.cons.injEq, Value.slice.injEq, and_true] at hv
  obtain ⟨rfl, rfl, rfl⟩ := hv
  simp only [List.length_map] at hc1 h2
  have hlen : (((xs.map D.fz).drop lo).take (hi - lo)).length = hi - lo := by simp; omega
  refine ⟨_, _, by rw [hlen], by omega, by omega, ?_⟩
  rcases h4 with ⟨rfl, hx0, rfl⟩ | ⟨_, hx0⟩ | ⟨b, off, s', C, e, fz, rfl, hh, hn, _, hr⟩
  · right; left; rw [hx0]; simp
  · right; left; rw [hx0]; simp
  · by_cases hcl : cap = lo
    · right; left
      refine ⟨trivial, ?_⟩
      have : hi - lo = 0 := by omega
      rw [this]; rfl
    · right; right
      have hrow := (Rs.iff hh).1 hr
      refine ⟨b, off + lo * s, s', C, e, fz, by rw [if_neg hcl]; simp [Addr.add], hh, hn, (fun t ht => by cases ht), (Rs.iff hh).2 fun j x hx => ?_⟩
      have hj : (xs.map D.fz)[lo + j]? = some x := by
        rw [List.getElem?_take] at hx
        split at hx
        · rw [List.getElem?_drop] at hx; exact hx
        · cases hx
      obtain ⟨y, hy, rfl⟩ := List.mem_map.1 (List.mem_of_getElem? hj)
      obtain ⟨g1, g2⟩ := hrow (lo + j) _ hj
      have hs' := hs y hy
      rw [← D.fz_w y] at hs'
      refine ⟨g1, ?_⟩
      have : off + lo * s + j * s' = off + (lo + j) * s' := by rw [← g1, hs', Nat.add_mul]; omega
      rw [this]
      exact g2.fz0
theorem ok_sliceF {P : Program} {n : Nat} {w0 : World} {ow0 : Own} {o : Oper} {s : St} {K : St → Prop} {t e : TypeId} {i : TypeInfo} {x : Operand} {lo hi : Option Operand} {xs : List D} (ht : P.underlying t = some (.slice e)) (hi' : P.info? e = some i) (ho : o.op = .slice t x lo hi none) (hd : dstOk n o = true)
    (hx : asSl s (slotOf x) (evS s x) = .fr xs) (hw : xs.all (fun d => d.w == i.size) = true)
    (h : bndK s hi xs.length fun h => bndK s lo 0 fun l => l ≤ h ∧ h ≤ xs.length ∧ K (s.setd o.dst (.val (.sl none ((xs.drop l).take (h - l)))))) : Ok P n w0 ow0 o s K := by
  refine ok_value fun a w ow hf => ?_
  have he : ∀ x u, evS s x = .val (.one u) → a.eval x = u := fun x u hx => (hf.one hx).1
  obtain ⟨hh, h2, e1⟩ := bnd_run (P := P) he h
  obtain ⟨ll, ⟨h3, h4, hK⟩, e2⟩ := bnd_run (P := P) he h2
  have hv := hf.asSl x
  rw [hx] at hv
  simp only [SlSays] at hv
  obtain ⟨ad, cap, hval, hcap, _⟩ := hv.hdr
  rw [D.fzs_map, List.length_map] at hval
  have hcap' : xs.length ≤ cap := by rw [D.fzs_map, List.length_map] at hcap; exact hcap
  rw [hval] at hv
  have hp := R.part hv h3 h4 fun d hd => by simpa using List.all_eq_true.1 hw d hd
  refine ⟨.slice (if cap = ll then ad else ad.map (·.add (ll * i.size))) (hh - ll) (cap - ll), w, ?_, _, hK, ow, ?_⟩
  · unfold execOp
    rw [ho]
    simp only [hval, Instr.sliceAt, Instr.slice, Sem.run_bind, run_underlying ht w, Result.andThen_ok, Option.map_none]
    rw [bounds_run e2 e1 h3 (Nat.le_trans h4 hcap')]
    simp only [Result.andThen_ok, Sem.run_bind, run_size hi' w, Sem.run_pure]
  · cases hod : o.dst with
    | none => exact hf
    | some t =>
      have ht : t < n := by simpa [dstOk, hod] using hd
      refine hf.set ht ?_
      simp only [SV, V, D.fz]
      exact hp.trf2
end Go.Dv
end
section
set_option linter.unusedVariables false
namespace Go.Dv
open Go.RowKit
set_option linter.unusedSectionVars false
variable [Glob]
abbrev dU (c : UInt8) : D := .one (.int .u8 c.toNat)
def bytes? : List D → Option (List UInt8)
  | [] => some []
  | d :: r => match d with
    | .one (.int .u8 n) => if 0 ≤ n ∧ n < 256 then (bytes? r).map (UInt8.ofNat n.toNat :: ·) else none
    | _ => none
theorem bytes?_nil : bytes? [] = some [] := rfl
theorem bytes?_cons (c : UInt8) (r : List D) : bytes? (.one (.int .u8 c.toNat) :: r) = (bytes? r).map (c :: ·) := by
  have := c.toNat_lt
  simp only [bytes?]
  rw [if_pos (by omega)]
  simp
theorem bytes?_map : ∀ l : List UInt8, bytes? (l.map fun c => D.one (.int .u8 c.toNat)) = some l
  | [] => rfl
  | c :: l => by rw [List.map_cons, bytes?_cons, bytes?_map l]; rfl
theorem bytes?_spec : ∀ {xs : List D} {l : List UInt8}, bytes? xs = some l → xs = l.map dU
  | [], l, h => by obtain rfl := Option.some.inj h; rfl
  | d :: r, l, h => by
    unfold bytes? at h
    split at h
    · rename_i n
      split at h
      · rename_i hn
        obtain ⟨l', h1, rfl⟩ := Option.map_eq_some_iff.1 h
        rw [bytes?_spec h1, List.map_cons]
        congr 3
        have : (UInt8.ofNat n.toNat).toNat = n.toNat := by simp; omega
        rw [this]; omega
      · cases h
    · cases h
theorem bytes?_append (xs ys : List D) : bytes? (xs ++ ys) = (bytes? xs).bind fun a => (bytes? ys).map (a ++ ·) := by
  induction xs with
  | nil => simp [bytes?]
  | cons d r ih =>
    simp only [List.cons_append]
    conv => lhs; unfold bytes?
    conv => rhs; arg 1; unfold bytes?
    split
    · split
      · rw [ih]; cases bytes? r <;> cases bytes? ys <;> simp
      · rfl
    · rfl
theorem ok_b2s {P : Program} {n : Nat} {w0 : World} {ow0 : Own} {o : Oper} {s : St} {K : St → Prop} {src e t : TypeId} {x : Operand} {l : List UInt8} (hs : P.underlying src = some (.slice e)) (he : P.underlying e = some (.int .u8)) (ht : P.underlying t = some .string) (ho : o.op = .convert src t x) (hd : dstOk n o = true)
    (hl : bytes? (asSl s (slotOf x) (evS s x)).xs = some l) (hno : asSl s (slotOf x) (evS s x) ≠ .no) (h : K (s.setd o.dst (.val (.one (.string ⟨l.toArray⟩))))) : Ok P n w0 ow0 o s K := by
  refine ok_value fun a w ow hf => ?_
  have hv := hf.asSl x
  have hx := bytes?_spec hl
  have key : ∀ (o' : Option TypeId) (ys : List D) (lab : List Nat), R P w ow (.sl o' ys) lab [a.eval x] → ys = l.map dU → (execOp a.eval o).run P w = .ok (.value (.string ⟨l.toArray⟩)) w := by
    intro o' ys lab hR hys
    subst hys
    unfold execOp
    rw [ho]
    obtain ⟨ad, cap, h1, _⟩ := hR.hdr
    have hrun : (convert src t (a.eval x)).run P w = .ok (.string ⟨l.toArray⟩) w := by
      rw [h1]
      rw [List.length_map]
      cases hl' : l with
      | nil =>
        subst hl'
        cases ad with
        | none => simp [convert, run_underlying hs, run_underlying he, run_underlying ht, Conv.bytesToString]; rfl
        | some ad => simp [convert, run_underlying hs, run_underlying he, run_underlying ht, Conv.bytesToString, loadCells]; rfl
      | cons c l' =>
        rw [← hl']
        have h0 : (l.map dU)[0]? = some (dU c) := by rw [hl']; rfl
        obtain ⟨b, off, cap', h2, h3⟩ := hR.elem h0
        rw [h1] at h2
        simp only [List.length_map, Value.slice.injEq] at h2
        obtain ⟨rfl, _, rfl⟩ := h2
        have := Lib.run_convert_whole (P := P) w src e t hs he ht b off ⟨l.toArray⟩ (fun i hi => ?_) cap
        · simpa [ByteArray.size] using this
        · have hil : i < l.length := by simpa [ByteArray.size] using hi
          have hi' : (l.map dU)[i]? = some (dU l[i]) := by simp [hil]
          obtain ⟨b2, off2, cap2, g1, g2⟩ := hR.elem hi'
          rw [h1] at g1
          simp only [List.length_map, Value.slice.injEq, Option.some.injEq, Addr.mk.injEq] at g1
          obtain ⟨⟨rfl, rfl, _⟩, _, _⟩ := g1
          obtain ⟨_, hL, _, _⟩ := hR.into g2
          obtain ⟨v, hv1, hv2⟩ := hL.cell rfl
          simp only [R] at hv2
          have hvv : v = .int .u8 (l[i]).toNat := by simpa using hv2.1
          have e1 : (dU l[i]).w = 1 := rfl
          rw [hvv, e1, Nat.mul_one] at hv1
          exact hv1
    simp only [Sem.run_bind, hrun, Result.andThen_ok, Sem.run_pure]
  refine ⟨.string ⟨l.toArray⟩, w, ?_, _, h, ow, ?_⟩
  · generalize asSl s (slotOf x) (evS s x) = z at hv hx hno
    cases z with
    | no => exact absurd rfl hno
    | fr ys =>
      simp only [SlSays] at hv
      refine key none _ _ hv ?_
      have hx' : ys = l.map dU := hx
      rw [hx', D.fzs_map, List.map_map]
      rfl
    | nd r p ys =>
      obtain ⟨d, o', _, _, hR, _⟩ := hv
      exact key o' ys _ hR hx
  · cases hod : o.dst with
    | none => exact hf
    | some t =>
      have ht : t < n := by simpa [dstOk, hod] using hd
      exact hf.set ht (SV.val_one rfl)
theorem ok_mm {P : Program} {n : Nat} {w0 : World} {ow0 : Own} {o : Oper} {s : St} {K : St → Prop} {x y : Operand} {ts : Array TypeId} {k k' : IntKind} {a b : Int} {mx : Bool} (ho : o.op = .call { callee := .builtin (if mx then .max else .min), args := #[x, y], argTypes := ts }) (hd : dstOk n o = true)
    (hx : evS s x = .val (.one (.int k a))) (hy : evS s y = .val (.one (.int k' b))) (h : K (s.setd o.dst (.val (.one (.int k (if mx then max a b else min a b)))))) : Ok P n w0 ow0 o s K := by
  refine ok_pure hd (u := .int k (if mx then max a b else min a b)) rfl (fun ac w he => ?_) h
  unfold execOp
  rw [ho]
  cases mx
  · have e : min a b = if b < a then b else a := by rw [Int.min_def]; split <;> split <;> omega
    simp [resolve, invoke, builtin, he _ _ hx, he _ _ hy, Builtin.min_, Builtin.min2, e]
  · have e : max a b = if b > a then b else a := by rw [Int.max_def]; split <;> split <;> omega
    simp [resolve, invoke, builtin, he _ _ hx, he _ _ hy, Builtin.max_, Builtin.max2, e]
end Go.Dv
end
section
set_option linter.unusedVariables false
namespace Go.Dv
open Go.RowKit
set_option linter.unusedSectionVars false
variable [Glob]
theorem ok_mm3 {P : Program} {n : Nat} {w0 : World} {ow0 : Own} {o : Oper} {s : St} {K : St → Prop} {x y z : Operand} {ts : Array TypeId} {k k' k2 : IntKind} {a b c : Int} {mx : Bool} (ho : o.op = .call { callee := .builtin (if mx then .max else .min), args := #[x, y, z], argTypes := ts }) (hd : dstOk n o = true)
    (hx : evS s x = .val (.one (.int k a))) (hy : evS s y = .val (.one (.int k' b))) (hz : evS s z = .val (.one (.int k2 c))) (h : K (s.setd o.dst (.val (.one (.int k (if mx then max (max a b) c else min (min a b) c)))))) : Ok P n w0 ow0 o s K := by
  refine ok_pure hd (u := .int k (if mx then max (max a b) c else min (min a b) c)) rfl (fun ac w he => ?_) h
  unfold execOp
  rw [ho]
  cases mx
  · have e : ∀ a b : Int, (if b < a then b else a) = min a b := fun a b => by rw [Int.min_def]; split <;> split <;> omega
    simp [resolve, invoke, builtin, he _ _ hx, he _ _ hy, he _ _ hz, Builtin.min_, Builtin.min2, e]
  · have e : ∀ a b : Int, (if b > a then b else a) = max a b := fun a b => by rw [Int.max_def]; split <;> split <;> omega
    simp [resolve, invoke, builtin, he _ _ hx, he _ _ hy, he _ _ hz, Builtin.max_, Builtin.max2, e]
theorem ok_s2b {P : Program} {n : Nat} {w0 : World} {ow0 : Own} {o : Oper} {s : St} {K : St → Prop} {src t e : TypeId} {x : Operand} {z : ByteArray} {i : TypeInfo} {u : Nat} (hs : P.underlying src = some .string) (ht : P.underlying t = some (.slice e)) (he : P.underlying e = some (.int .u8)) (hi : P.info? e = some i) (hsz : i.size = 1) (hz : z.size ≤ 16777216)
    (ho : o.op = .convert src t x) (hd : o.dst = some u) (hu : u < n) (hx : evS s x = .val (.one (.string z))) (h : K (s.set u (.own (.sl (some e) (z.data.toList.map dU))))) : Ok P n w0 ow0 o s K := by
  refine ok_value fun a w ow hf => ?_
  have hrun : (execOp a.eval o).run P w = .ok (.value (.slice (some ⟨w.heap.size, 0, none⟩) z.size (grownCap w z.size 0 e))) (Lib.bytesWorld w e z) := by
    unfold execOp; rw [ho]
    simp only [(hf.one hx).1, Sem.run_bind, Lib.run_convert_string_bytes w src t e z hs ht he, Result.andThen_ok]
    rfl
  refine ⟨_, _, hrun, _, h, ownNew w [u] ow, ?_⟩
  rw [hd]
  have hnew := Lib.bytesWorld_at_new w e z
  have hg : Fits P n w0 ow0 (ownNew w [u] ow) s a (Lib.bytesWorld w e z) := by
    refine hf.grown ?_ ?_ ?_ ?_ (fun b hb => ⟨Lib.bytesWorld_at_old w e z b hb, ownNew_old hb⟩) (fun b hb => ?_)
    · simp [Lib.bytesWorld, World.freeze, World.alloc, World.drew, -World.alloc_eq, -World.drew_eq]
    · simp [Lib.bytesWorld, World.freeze, World.alloc, World.drew, -World.alloc_eq, -World.drew_eq]
    · simp [Lib.bytesWorld, World.freeze, World.alloc, World.drew, -World.alloc_eq, -World.drew_eq]
    · rw [Lib.bytesWorld_size]; omega
    · rw [Lib.bytesWorld_size] at hb
      simp only [ownNew, show b ≠ w.heap.size by omega, if_false]
      exact hf.new b (by omega)
  refine hg.set hu ?_
  have hcap : z.size ≤ grownCap w z.size 0 e := grownCap_ge w z.size 0 e
  have hlen : (z.data.toList.map dU).length = z.size := by rw [List.length_map, Array.length_toList]; rfl
  have hsize : (Lib.bytesCells w e z).size = grownCap w z.size 0 e := by simp only [Lib.bytesCells, Array.size_append, Array.size_map, Array.size_replicate]; have : z.data.size = z.size := rfl; omega
  simp only [SV, V, R]
  rw [hlen]
  refine ⟨some ⟨w.heap.size, 0, none⟩, grownCap w z.size 0 e, rfl, hcap, grownCap_le_maxLen w _ _ e (by unfold maxLen; omega), .inr (.inr ⟨w.heap.size, 0, 1, _, e, _, rfl, hnew, (fun h => by cases h), ?_, ?_⟩)⟩
  · intro t' ht'
    obtain rfl : e = t' := by simpa using ht'
    exact ⟨by simp [ownNew], rfl, fun j hj hh => by omega, rfl, by rw [hsize]; omega, i, hi, hsz⟩
  · refine (Rs.iff hnew).2 fun j d hj => ?_
    simp only [List.getElem?_map, Option.map_eq_some_iff] at hj
    obtain ⟨c, hc, rfl⟩ := hj
    have hjl : j < z.data.size := by have := (List.getElem?_eq_some_iff.1 hc).1; simpa using this
    refine ⟨rfl, Lib.bytesCells w e z, e, _, [.int .u8 c.toNat], hnew, fun k hk => ?_, by simp [R, Value.oneCell']⟩
    have hk' : k < 1 := hk
    obtain rfl : k = 0 := by omega
    have hcj : z.data[j] = c := by
      have := (List.getElem?_eq_some_iff.1 hc).2
      simpa using this
    simp only [Lib.bytesCells]
    have h0 : 0 + j * 1 + 0 = j := by omega
    rw [h0, Array.getElem?_append_left (by simpa using hjl), Array.getElem?_map, Array.getElem?_eq_getElem hjl, hcj]
    rfl
end Go.Dv
namespace Go.Dv
open Go.RowKit
set_option linter.unusedSectionVars false
mutual
theorem R.flatInv {P : Program} {w : World} {ow : Own} : ∀ {d : D} {l : List Nat} {cs cs' : List Value}, d.flat = some cs' → R P w ow d l cs → cs = cs'
  | .one v, l, cs, cs', h, hr => by
    simp only [D.flat] at h
    simp only [R] at hr
    split at h
    · rw [hr.1]; simpa using h
    · cases h
  | .sl o xs, l, cs, cs', h, _ => by simp only [D.flat] at h; cases h
  | .bx o xs, l, cs, cs', h, _ => by simp only [D.flat] at h; cases h
  | .any n, l, cs, cs', h, _ => by simp only [D.flat] at h; cases h
  | .agg xs, l, cs, cs', h, hr => by simp only [D.flat] at h; simp only [R] at hr; exact Ra.flatInv h hr
theorem Ra.flatInv {P : Program} {w : World} {ow : Own} : ∀ {xs : List D} {l : List Nat} {i : Nat} {cs cs' : List Value}, D.flats xs = some cs' → Ra P w ow xs l i cs → cs = cs'
  | [], l, i, cs, cs', h, hr => by simp only [D.flats] at h; simp only [Ra] at hr; rw [hr]; simpa using h
  | x :: xs, l, i, cs, cs', h, hr => by
    simp only [D.flats] at h
    simp only [Ra] at hr
    obtain ⟨c1, c2, h1, h2, h3, h4⟩ := hr
    split at h
    · rename_i a b ha hb
      rw [h1, R.flatInv ha h3, Ra.flatInv hb h4]; simpa using h
    · cases h
end
mutual
theorem D.flat_fzq : ∀ {d : D} {cs : List Value}, d.flat = some cs → d.fz = d
  | .one v, _, _ => rfl
  | .sl _ _, _, h => by simp only [D.flat] at h; cases h
  | .bx _ _, _, h => by simp only [D.flat] at h; cases h
  | .any _, _, h => by simp only [D.flat] at h; cases h
  | .agg xs, _, h => by simp only [D.flat] at h; simp only [D.fz, D.flats_fzq h]
theorem D.flats_fzq : ∀ {xs : List D} {cs : List Value}, D.flats xs = some cs → D.fzs xs = xs
  | [], _, _ => rfl
  | x :: xs, cs, h => by
    simp only [D.flats] at h
    split at h
    · rename_i a b ha hb; simp only [D.fzs, D.flat_fzq ha, D.flats_fzq hb]
    · cases h
end
def flatS (s : St) (x : Operand) : Option (List Value) := match evS s x with
  | .val (.agg xs) => D.flats xs
  | .own (.agg xs) => D.flats xs
  | .ag r p => match s r with
    | .own d => match D.sub p d with
      | some (.agg xs) => D.flats xs
      | _ => none
    | _ => none
  | _ => none
section
variable [Glob]
theorem Fits.flatS {P : Program} {n : Nat} {w0 w : World} {ow0 ow : Own} {s : St} {a : Act} (h : Fits P n w0 ow0 ow s a w) {x : Operand} {cs : List Value} (hx : Dv.flatS s x = some cs) : a.eval x = .agg cs.toArray := by
  have hv := h.eval x
  unfold Dv.flatS at hx
  split at hx
  · rename_i xs he
    rw [he] at hv
    simp only [SV] at hv
    rw [show (D.agg xs).fz = .agg xs from D.flat_fzq (d := .agg xs) hx] at hv
    obtain ⟨c, h1, h2⟩ := hv
    simp only [R] at h2
    rw [h1, ← Ra.flatInv hx h2]
  · rename_i xs he
    rw [he] at hv
    obtain ⟨c, h1, h2⟩ := hv
    simp only [R] at h2
    rw [h1, ← Ra.flatInv hx h2]
  · rename_i r p he
    rw [he] at hv
    obtain ⟨d, m, hs, hm, hagg, hV⟩ := hv
    rw [hs] at hx
    simp only [hm] at hx
    split at hx
    · rename_i m' xs hm'
      obtain rfl : m = .agg xs := Option.some.inj hm'
      obtain ⟨c, h1, h2⟩ := hV
      simp only [R] at h2
      rw [h1, ← Ra.flatInv hx h2]
    · cases hx
  · cases hx
end
def EqAt (P : Program) (t : TypeId) (xs ys : List Value) (r : Bool) : Prop := P.eqGuardType P.depth t = false ∧ ∀ w, (Op.equalIn 10000 t (.agg xs.toArray) (.agg ys.toArray)).run P w = .ok r w
theorem EqAt.iff {P : Program} {t : TypeId} {xs ys : List Value} {r0 r : Bool} (h : EqAt P t xs ys r0) : EqAt P t xs ys r ↔ r = r0 := by
  constructor
  · intro h'
    have h1 := h.2 (default : World)
    have h2 := h'.2 (default : World)
    rw [h1] at h2
    injection h2 with h2
    exact h2.symm
  · rintro rfl; exact h
end Go.Dv
end
section
set_option linter.unusedVariables false
namespace Go.Dv
open Go.RowKit
set_option linter.unusedSectionVars false
variable [Glob]
def eqSK (P : Program) (op : BinOp) (t : TypeId) (x y : Option (List Value)) (K : Value → Prop) : Prop := match op, x, y with
  | .eql, some a, some b => ∃ r, EqAt P t a b r ∧ K (.bool r)
  | .neq, some a, some b => ∃ r, EqAt P t a b r ∧ K (.bool (!r))
  | _, _, _ => False
theorem ok_eqS {P : Program} {n : Nat} {w0 : World} {ow0 : Own} {o : Oper} {s : St} {K : St → Prop} {op : BinOp} {t t' : TypeId} {x y : Operand} (ho : o.op = .binOp op t x y t') (hd : dstOk n o = true)
    (h : eqSK P op t (flatS s x) (flatS s y) fun r => K (s.setd o.dst (.val (.one r)))) : Ok P n w0 ow0 o s K := by
  refine ok_value fun a w ow hf => ?_
  have fin : ∀ r : Bool, Rel P n w0 ow0 (s.setd o.dst (.val (.one (.bool r)))) (a.put o.dst (.bool r)) w := fun r => ⟨ow, by
    cases hod : o.dst with
    | none => exact hf
    | some t =>
      have ht : t < n := by simpa [dstOk, hod] using hd
      exact hf.set ht (SV.val_one rfl)⟩
  unfold eqSK at h
  split at h
  · rename_i ca cb hx hy
    obtain ⟨r, ⟨hm, hr⟩, hK⟩ := h
    refine ⟨.bool r, w, ?_, _, hK, fin r⟩
    unfold execOp; rw [ho]
    simp only [hf.flatS hx, hf.flatS hy, Sem.run_bind, run_eqGuard_agg w .eql t x y _ _ hm, Result.andThen_ok, run_eql_struct, hr w, Sem.run_pure]
  · rename_i ca cb hx hy
    obtain ⟨r, ⟨hm, hr⟩, hK⟩ := h
    refine ⟨.bool (!r), w, ?_, _, hK, fin _⟩
    unfold execOp; rw [ho]
    simp only [hf.flatS hx, hf.flatS hy, Sem.run_bind, run_eqGuard_agg w .neq t x y _ _ hm, Result.andThen_ok, run_neq_struct, hr w, Sem.run_pure]
  · exact h.elim
def nilK (op : BinOp) (x : S) (z : SLv) (K : Value → Prop) : Prop := match op with
  | .eql => (x = .val (.one (.slice none 0 0)) ∧ K (.bool true)) ∨ (z ≠ .no ∧ z.xs ≠ [] ∧ K (.bool false))
  | .neq => (x = .val (.one (.slice none 0 0)) ∧ K (.bool false)) ∨ (z ≠ .no ∧ z.xs ≠ [] ∧ K (.bool true))
  | _ => False
theorem SlSays.hdr {P : Program} {w : World} {ow : Own} {s : St} {a : Act} {v : Value} {z : SLv} (h : SlSays P w ow s a v z) (hz : z ≠ .no) (hx : z.xs ≠ []) : ∃ ad m c, v = .slice (some ad) m c := by
  have key : ∀ (o : Option TypeId) (xs : List D) (l : List Nat), xs ≠ [] → R P w ow (.sl o xs) l [v] → ∃ ad m c, v = .slice (some ad) m c := by
    intro o xs l hne hr
    simp only [R] at hr
    obtain ⟨ad, cap, h1, h2, h3, h4⟩ := hr
    rcases h4 with ⟨_, h4, _⟩ | ⟨_, h4⟩ | ⟨b, off, s, C, e, fz, ha, _⟩
    · exact absurd h4 hne
    · exact absurd h4 hne
    · exact ⟨_, _, _, by rw [ha] at h1; simpa using h1⟩
  cases z with
  | no => exact absurd rfl hz
  | fr xs =>
    simp only [SlSays] at h
    refine key none (D.fzs xs) [] ?_ h
    intro e
    rw [D.fzs_map] at e
    exact hx (by simpa [SLv.xs] using e)
  | nd r p xs =>
    obtain ⟨d, o, _, _, hR, _⟩ := h
    exact key o xs _ hx hR
theorem ok_nilS {P : Program} {n : Nat} {w0 : World} {ow0 : Own} {o : Oper} {s : St} {K : St → Prop} {op : BinOp} {t t' e : TypeId} {x : Operand} (ht : P.underlying t = some (.slice e)) (ho : o.op = .binOp op t x (.const (.slice none 0 0)) t') (hd : dstOk n o = true)
    (h : nilK op (evS s x) (asSl s (slotOf x) (evS s x)) fun r => K (s.setd o.dst (.val (.one r)))) : Ok P n w0 ow0 o s K := by
  refine ok_value fun a w ow hf => ?_
  have fin : ∀ r : Bool, Rel P n w0 ow0 (s.setd o.dst (.val (.one (.bool r)))) (a.put o.dst (.bool r)) w := fun r => ⟨ow, by
    cases hod : o.dst with
    | none => exact hf
    | some t =>
      have ht : t < n := by simpa [dstOk, hod] using hd
      exact hf.set ht (SV.val_one rfl)⟩
  have hv := hf.asSl x
  have yes : evS s x = .val (.one (.slice none 0 0)) → a.eval x = .slice none 0 0 := fun he => (hf.one he).1
  have ev : a.eval (.const (.slice none 0 0)) = .slice none 0 0 := rfl
  have e1 : (Op.equal t (.slice none 0 0) (.slice none 0 0)).run P w = .ok true w := by
    unfold Op.equal Op.maxDepth Op.equalIn
    rw [Sem.run_bind, run_underlying ht w]; rfl
  have e2 : ∀ ad m c, (Op.equal t (.slice (some ad) m c) (.slice none 0 0)).run P w = .ok false w := fun ad m c => by
    unfold Op.equal Op.maxDepth Op.equalIn
    rw [Sem.run_bind, run_underlying ht w]; rfl
  unfold nilK at h
  split at h
  · rcases h with ⟨he, hK⟩ | ⟨hz, hx, hK⟩
    · refine ⟨.bool true, w, ?_, _, hK, fin _⟩
      unfold execOp; rw [ho]
      simp only [yes he, ev]
      have hg : (eqGuard .eql t x (.const (.slice none 0 0)) (.slice none 0 0) (.slice none 0 0)).run P w = .ok () w := rfl
      simp only [Sem.run_bind, hg, Result.andThen_ok, binOp, e1, Sem.run_pure]
      try rfl
    · obtain ⟨ad, m, c, hs⟩ := SlSays.hdr hv hz hx
      refine ⟨.bool false, w, ?_, _, hK, fin _⟩
      unfold execOp; rw [ho]
      simp only [hs, ev]
      have hg : (eqGuard .eql t x (.const (.slice none 0 0)) (.slice (some ad) m c) (.slice none 0 0)).run P w = .ok () w := rfl
      simp only [Sem.run_bind, hg, Result.andThen_ok, binOp, e2 ad m c, Sem.run_pure]
      try rfl
  · rcases h with ⟨he, hK⟩ | ⟨hz, hx, hK⟩
    · refine ⟨.bool false, w, ?_, _, hK, fin _⟩
      unfold execOp; rw [ho]
      simp only [yes he, ev]
      have hg : (eqGuard .neq t x (.const (.slice none 0 0)) (.slice none 0 0) (.slice none 0 0)).run P w = .ok () w := rfl
      simp only [Sem.run_bind, hg, Result.andThen_ok, binOp, e1, Sem.run_pure]
      try rfl
    · obtain ⟨ad, m, c, hs⟩ := SlSays.hdr hv hz hx
      refine ⟨.bool true, w, ?_, _, hK, fin _⟩
      unfold execOp; rw [ho]
      simp only [hs, ev]
      have hg : (eqGuard .neq t x (.const (.slice none 0 0)) (.slice (some ad) m c) (.slice none 0 0)).run P w = .ok () w := rfl
      simp only [Sem.run_bind, hg, Result.andThen_ok, binOp, e2 ad m c, Sem.run_pure]
      try rfl
  · exact h.elim
def ifcK (op : BinOp) (v : Value) (K : Value → Prop) : Prop := match op, v with
  | .eql, .nilIface => K (.bool true)
  | .neq, .nilIface => K (.bool false)
  | .eql, .iface _ _ => K (.bool false)
  | .neq, .iface _ _ => K (.bool true)
  | _, _ => False
theorem ok_ifc {P : Program} {n : Nat} {w0 : World} {ow0 : Own} {o : Oper} {s : St} {K : St → Prop} {op : BinOp} {t t' : TypeId} {ms} {x : Operand} (ht : P.underlying t = some (.interface ms)) (ho : o.op = .binOp op t x (.const .nilIface) t') (hd : dstOk n o = true)
    (h : oneK (evS s x) fun v => ifcK op v fun r => K (s.setd o.dst (.val (.one r)))) : Ok P n w0 ow0 o s K := by
  obtain ⟨v, hv, h⟩ := oneK_of h
  have e1 : ∀ w : World, (Op.equal t .nilIface .nilIface).run P w = .ok true w := fun w => by
    unfold Op.equal Op.maxDepth Op.equalIn
    rw [Sem.run_bind, run_underlying ht w]; rfl
  have e2 : ∀ (w : World) a b, (Op.equal t (.iface a b) .nilIface).run P w = .ok false w := fun w a b => by
    unfold Op.equal Op.maxDepth Op.equalIn
    rw [Sem.run_bind, run_underlying ht w]; rfl
  have ev : ∀ ac : Act, ac.eval (.const .nilIface) = .nilIface := fun _ => rfl
  have hg1 : ∀ (w : World) op, (eqGuard op t x (.const .nilIface) .nilIface .nilIface).run P w = .ok () w := fun w op => by
    unfold eqGuard
    cases op <;> cases x <;> rfl
  have hg2 : ∀ (w : World) op a b, (eqGuard op t x (.const .nilIface) (.iface a b) .nilIface).run P w = .ok () w := fun w op a b => by
    unfold eqGuard
    cases op <;> rfl
  unfold ifcK at h
  split at h
  · refine ok_pure hd (u := .bool true) rfl (fun ac w he => ?_) h
    unfold execOp; rw [ho]; simp only [he _ _ hv, ev, Sem.run_bind, hg1, Result.andThen_ok, binOp, e1, Sem.run_pure]
  · refine ok_pure hd (u := .bool false) rfl (fun ac w he => ?_) h
    unfold execOp; rw [ho]; simp only [he _ _ hv, ev, Sem.run_bind, hg1, Result.andThen_ok, binOp, e1, Sem.run_pure]
    rfl
  · refine ok_pure hd (u := .bool false) rfl (fun ac w he => ?_) h
    unfold execOp; rw [ho]; simp only [he _ _ hv, ev, Sem.run_bind, hg2, Result.andThen_ok, binOp, e2, Sem.run_pure]
  · refine ok_pure hd (u := .bool true) rfl (fun ac w he => ?_) h
    unfold execOp; rw [ho]; simp only [he _ _ hv, ev, Sem.run_bind, hg2, Result.andThen_ok, binOp, e2, Sem.run_pure]
    rfl
  · exact h.elim
end Go.Dv
namespace Go.Dv
open Go.RowKit
set_option linter.unusedSectionVars false
mutual
theorem D.flat_len : ∀ {d : D} {cs : List Value}, d.flat = some cs → cs.length = d.w
  | .one v, cs, h => by
    simp only [D.flat] at h
    split at h
    · obtain rfl : [v] = cs := by simpa using h
      rfl
    · cases h
  | .sl _ _, _, h => by simp only [D.flat] at h; cases h
  | .bx _ _, _, h => by simp only [D.flat] at h; cases h
  | .any _, _, h => by simp only [D.flat] at h; cases h
  | .agg xs, cs, h => by simp only [D.flat] at h; simp only [D.w, D.flats_len h]
theorem D.flats_len : ∀ {xs : List D} {cs : List Value}, D.flats xs = some cs → cs.length = D.ws xs
  | [], cs, h => by simp only [D.flats] at h; obtain rfl : [] = cs := by simpa using h
                    rfl
  | x :: xs, cs, h => by
    simp only [D.flats] at h
    split at h
    · rename_i a b ha hb
      obtain rfl : a ++ b = cs := by simpa using h
      simp only [List.length_append, D.ws, D.flat_len ha, D.flats_len hb]
    · cases h
end
theorem flats_seg : ∀ {xs : List D} {cs : List Value} {s j : Nat} {d : D}, D.flats xs = some cs → (∀ x ∈ xs, x.w = s) → xs[j]? = some d → ∃ c, d.flat = some c ∧ (cs.drop (j * s)).take s = c
  | [], cs, s, j, d, _, _, h => by simp at h
  | x :: xs, cs, s, j, d, h, hw, hj => by
    simp only [D.flats] at h
    split at h
    · rename_i a b ha hb
      obtain rfl : a ++ b = cs := by simpa using h
      have hal : a.length = s := (D.flat_len ha).trans (hw x (by simp))
      cases j with
      | zero =>
        obtain rfl : x = d := by simpa using hj
        exact ⟨a, ha, by simp [← hal]⟩
      | succ j =>
        obtain ⟨c, h1, h2⟩ := flats_seg hb (fun y hy => hw y (by simp [hy])) (by simpa using hj)
        refine ⟨c, h1, ?_⟩
        rw [← h2, show (j + 1) * s = a.length + j * s by rw [Nat.succ_mul, hal]; omega, List.drop_append, Nat.add_sub_cancel_left, List.drop_eq_nil_of_le (by omega)]
        rfl
    · cases h
section
variable [Glob]
theorem ok_idxV {P : Program} {T : TypeId → TyE} {n : Nat} {w0 : World} {ow0 : Own} {o : Oper} {s : St} {K : St → Prop} {t e : TypeId} {len : Nat} {x y : Operand} {k : IntKind} {j : Int} {xs : List D} {d : D} {cs : List Value} (hG : ∀ t, Good P T t) (ht : P.underlying t = some (.array len e)) (he : (T e).ok = true) (ho : o.op = .index t x y) (hd : dstOk n o = true)
    (hx : evS s x = .val (.agg xs)) (hcs : D.flats xs = some cs) (hy : evS s y = .val (.one (.int k j))) (hj : 0 ≤ j) (hj2 : j < len) (hw : xs.all (fun d => d.w == (T e).w) = true) (hget : xs[j.toNat]? = some d) (hagg : d.isAgg = (T e).ty.isAgg) (h : K (s.setd o.dst (.val d))) : Ok P n w0 ow0 o s K := by
  refine ok_value fun a w ow hf => ?_
  obtain ⟨hdesc, i, zv, hi, hsz, hz, hflat, _, hz2, hby, hzw2⟩ := (hG e).of (TyE.ok_of he)
  have hxv : a.eval x = .agg cs.toArray := hf.flatS (by unfold flatS; rw [hx]; exact hcs)
  obtain ⟨c, hc1, hc2⟩ := flats_seg (s := (T e).w) hcs (fun y hy => by simpa using List.all_eq_true.1 hw y hy) hget
  have hcl := D.flat_len hc1
  have hdw : d.w = (T e).w := by simpa using List.all_eq_true.1 hw d (List.mem_of_getElem? hget)
  have hpart : ∃ v, (part e cs.toArray (j.toNat * i.size)).run P w = .ok v w ∧ V P w ow d.fz [] v := by
    have hdf : d.fz = d := D.flat_fzq hc1
    rw [hdf]
    have hR : R P w ow d [] c := R.flat hc1
    unfold part
    simp only [Sem.run_bind, run_isAgg hdesc, Result.andThen_ok]
    by_cases hag : (T e).ty.isAgg = true
    · rw [hag]
      simp only [if_true, Sem.run_bind, run_size hi, Result.andThen_ok, Sem.run_pure]
      refine ⟨_, rfl, ?_⟩
      have := (V.of hR).1 (by rw [hagg, hag])
      rw [hsz]
      have e1 : cs.toArray.extract (j.toNat * (T e).w) (j.toNat * (T e).w + (T e).w) = c.toArray := by
        apply Array.toList_inj.1
        simp [List.extract_eq_take_drop, hc2]
      rw [e1]; exact this
    · have hag' : (T e).ty.isAgg = false := by simpa using hag
      rw [hag']
      obtain ⟨v, hv, hV⟩ := (V.of hR).2 (by rw [hagg, hag']) (by
        rw [hcl]
        cases d with
        | agg ys => rw [hag'] at hagg; cases hagg
        | one v => rfl
        | sl _ _ => rfl
        | bx _ _ => rfl
        | any _ => simp [D.flat] at hc1)
      have hget2 : cs.toArray[j.toNat * i.size]? = some v := by
        rw [hsz]
        have h1 : ((cs.drop (j.toNat * (T e).w)).take (T e).w)[0]? = some v := by rw [hc2, hv]; rfl
        rw [List.getElem?_take] at h1
        split at h1
        · simpa using h1
        · cases h1
      refine ⟨v, ?_, hV⟩
      simp only [Bool.false_eq_true, if_false, hget2, Sem.run_pure]
  obtain ⟨v, hv, hV⟩ := hpart
  refine ⟨v, w, ?_, _, h, ow, ?_⟩
  · unfold execOp; rw [ho]
    have hyv := (hf.one hy).1
    simp only [hxv, hyv, Sem.run_bind]
    have : (Instr.index t (.agg cs.toArray) (.int k j)).run P w = .ok v w := by
      unfold Instr.index
      simp only [asIntOf, Sem.run_bind, Sem.run_pure, Result.andThen_ok, run_underlying ht]
      rw [if_pos ⟨hj, hj2⟩]
      simp only [Sem.run_bind, run_size hi, Result.andThen_ok, hv]
    simp only [this, Result.andThen_ok, Sem.run_pure]
  · cases hod : o.dst with
    | none => exact hf
    | some t =>
      have ht : t < n := by simpa [dstOk, hod] using hd
      exact hf.set ht hV
end
end Go.Dv
end
section
set_option linter.unusedVariables false
namespace Go.Dv
open Go.RowKit
set_option linter.unusedSectionVars false
variable [Glob]
def FnOkB (P : Program) (f : FuncId) (ds : List D) (gs : List (Nat × D)) (Q : S → Prop) : Prop :=
  ∀ (w : World) (ow : Own) (vs : Array Value) (t : Nat), t ≠ far0 → Laid w ow → (∀ b, w.heap.size ≤ b → ow b = none) → vs.size = ds.length → (∀ (i : Nat) (d : D), ds[i]? = some d → V P w ow d.fz [] (vs.getD i undef)) →
    (∀ p ∈ gs, V P w ow (D.bx false p.2).fz [] (.pointer (some ⟨p.1, 0, none⟩))) →
    Calls P f vs w fun e w' => ∃ v ow' r, e = .returned v ∧ Q r ∧ After w ow w' ow' ∧ S.plain r = true ∧ ∀ s a, SV P w' ow' s a t r v
theorem FnOk.toB {P : Program} {f : FuncId} {ds : List D} {gs : List (Nat × D)} {Q : S → Prop} (h : FnOk P f ds Q) : FnOkB P f ds gs Q := fun w ow vs t h0 h1 h2 h3 h4 _ => h w ow vs t h0 h1 h2 h3 h4
theorem FnOkB.fzs {P : Program} {f : FuncId} {ds : List D} {gs : List (Nat × D)} {Q : S → Prop} (h : FnOkB P f (D.fzs ds) gs Q) : FnOkB P f ds gs Q := by
  intro w ow vs t ht hL h1 h2 h3 h4
  refine h w ow vs t ht hL h1 (by rw [h2, D.fzs_map]; simp) (fun i d hd => ?_) h4
  rw [D.fzs_map] at hd
  simp only [List.getElem?_map, Option.map_eq_some_iff] at hd
  obtain ⟨d2, h5, rfl⟩ := hd
  rw [D.fz_fz]
  exact h3 i d2 h5
def unbx : List D → Option (List D)
  | [] => some []
  | .bx _ d :: l => (unbx l).map (d :: ·)
  | _ => none
theorem unbx_get : ∀ {ds ms : List D}, unbx ds = some ms → ds.length = ms.length ∧ ∀ (i : Nat) (m : D), ms[i]? = some m → ∃ o, ds[i]? = some (.bx o m)
  | [], ms, h => by simp only [unbx] at h; obtain rfl : [] = ms := by simpa using h
                    exact ⟨rfl, fun i m h => by simp at h⟩
  | d :: l, ms, h => by
    cases d with
    | bx o d =>
      simp only [unbx, Option.map_eq_some_iff] at h
      obtain ⟨ms', h1, rfl⟩ := h
      obtain ⟨h2, h3⟩ := unbx_get h1
      refine ⟨by simp [h2], fun i m hi => ?_⟩
      cases i with
      | zero => simp at hi; subst hi; exact ⟨o, rfl⟩
      | succ i => simpa using h3 i m (by simpa using hi)
    | _ => simp [unbx] at h
def callKB (P : Program) (f : FuncId) (ds : List D) (gs : List (Nat × D)) (rs : List Nat) [k : Hid1 S] : Prop := ∃ Q, FnOkB P f ds gs Q ∧ ∀ r, Q r → (rs = [] ∨ r.closed = true) ∧ k.K r
theorem callKB_of {P : Program} {f : FuncId} {ds : List D} {gs : List (Nat × D)} {rs : List Nat} {K : S → Prop} {r : S} (h : FnOkB P f ds gs (fun r' => r' = r)) (hc : rs = [] ∨ r.closed = true) (hK : K r) : (callKB (k := ⟨K⟩) P f ds gs rs) := ⟨_, h, fun r' e => by subst e; exact ⟨hc, hK⟩⟩
theorem callKB_ex {P : Program} {f : FuncId} {ds : List D} {gs : List (Nat × D)} {rs : List Nat} {K : S → Prop} {Q : S → Prop} (h : FnOkB P f ds gs Q) (hK : ∀ r, Q r → (rs = [] ∨ r.closed = true) ∧ K r) : (callKB (k := ⟨K⟩) P f ds gs rs) := ⟨_, h, hK⟩
def dcallB (s : St) (u : Option Nat) (f : FuncId) (P : Program) (args : List Operand) (bs : List Nat) (K : St → Prop) : Prop :=
  argK s args fun ds rs => argK s (bs.map Operand.global) fun ds2 rs2 => match unbx ds2 with
    | some ms => (callKB (k := ⟨fun r => K (s.setd u r)⟩) P f (D.fzs ds) (bs.zip (D.fzs ms)) (rs ++ rs2))
    | none => False
def capOps : List Value → Option (List Operand)
  | [] => some []
  | .pointer (some ⟨b, 0, none⟩) :: l => (capOps l).map (.global b :: ·)
  | _ => none
theorem capOps_spec {a : Act} : ∀ {cs : List Value} {ops : List Operand}, capOps cs = some ops → ops.map a.eval = cs
  | [], ops, h => by simp only [capOps] at h; obtain rfl : [] = ops := by simpa using h
                     rfl
  | v :: l, ops, h => by
    unfold capOps at h
    split at h
    · rename_i h0; cases h0
    · rename_i b l' h0
      obtain ⟨rfl, rfl⟩ := List.cons.inj h0
      simp only [Option.map_eq_some_iff] at h
      obtain ⟨ops', h1, rfl⟩ := h
      simp only [List.map_cons, capOps_spec h1, List.cons.injEq, and_true]
      rfl
    · cases h
theorem ok_callX {P : Program} {n : Nat} {w0 : World} {ow0 : Own} {o : Oper} {s : St} {K : St → Prop} {f : FuncId} {args : List Operand}
    (hrun : ∀ a w ow, Fits P n w0 ow0 ow s a w → (execOp a.eval o).run P w = .ok (.enter f (args.map a.eval).toArray) w) (hd : dstOk n o = true)
    (h : ∀ a w ow, Fits P n w0 ow0 ow s a w → ∃ (ds : List D) (gs : List (Nat × D)) (rs : List Nat) (Q : S → Prop), ds.length = args.length ∧ (∀ (i : Nat) (d : D), ds[i]? = some d → ∃ x, args[i]? = some x ∧ V P w (lend rs ow) d.fz [] (a.eval x)) ∧
      (∀ p ∈ gs, V P w (lend rs ow) (D.bx false p.2).fz [] (.pointer (some ⟨p.1, 0, none⟩))) ∧ FnOkB P f ds gs Q ∧ ∀ r, Q r → (rs = [] ∨ r.closed = true) ∧ K (s.setd o.dst r)) : Ok P n w0 ow0 o s K := by
  intro a w ⟨ow, hf⟩ next Q' hn
  obtain ⟨ds, gs, rs, Q, hlen, hrd, hgs, hfn, hK⟩ := h a w ow hf
  unfold Oper.wp
  rw [hrun a w ow hf]
  simp only [Oper.upon]
  obtain ⟨t, ht, hdt⟩ : ∃ t, t ≠ far0 ∧ ∀ u, o.dst = some u → u = t ∧ u < n := by
    cases hd' : o.dst with
    | none => exact ⟨0, by simp [far0], fun u hu => by cases hu⟩
    | some u =>
      have hu : u < n := by simpa [dstOk, hd'] using hd
      exact ⟨u, fun e => absurd (show far0 < n from e ▸ hu) (Nat.not_lt.2 (Nat.le_trans hf.small (by decide))), fun u' hu' => by obtain rfl := Option.some.inj hu'; exact ⟨rfl, hu⟩⟩
  refine (hfn w (lend rs ow) (args.map a.eval).toArray t ht (hf.laidNow.mono fun b o h1 h2 => ⟨h1, lend_none h2⟩) (fun b hb => lend_none (hf.new b hb)) (by simp [hlen]) (fun i d hi => ?_) hgs).mono ?_
  · obtain ⟨x, h1, h2⟩ := hrd i d hi
    have : (args.map a.eval).toArray.getD i undef = a.eval x := by
      simp [Array.getD_eq_getD_getElem?, h1]
    rw [this]; exact h2
  · rintro e w' ⟨v, ow', r, rfl, hQ, haf, hpl, hsv⟩
    obtain ⟨hcl, hKr⟩ := hK r hQ
    simp only
    have hnew2 : ∀ b, w'.heap.size ≤ b → (if b < w.heap.size then ow b else ow' b) = none := by
      intro b hb
      rw [if_neg (by have := haf.size; omega)]
      exact haf.new b hb
    have hg : Fits P n w0 ow0 (fun b => if b < w.heap.size then ow b else ow' b) s a w' := hf.grown haf.os haf.tape haf.output haf.size (fun b hb => ⟨(haf.old b hb).1, if_pos hb⟩) hnew2
    have hres : ∀ s2, SV P w' (fun b => if b < w.heap.size then ow b else ow' b) s2 a t r v := by
      intro s2
      rcases hcl with hcl | hcl
      · subst hcl
        have : (fun b => if b < w.heap.size then ow b else ow' b) = ow' := by
          funext b
          split
          · rename_i hb; rw [(haf.old b hb).2, lend_nil]
          · rfl
        rw [this]
        exact hsv s2 a
      · refine SV.closed hcl (fun b hb q hq => ⟨rfl, ?_⟩) (hsv s2 a)
        by_cases hlt : b < w.heap.size
        · have h1 := (haf.old b hlt).2
          rw [hq] at h1
          simp only [if_pos hlt]
          unfold lend at h1
          split at h1
          · rename_i l hl
            split at h1
            · cases h1
            · rw [hl]; exact h1.symm
          · cases h1
        · simp only [if_neg hlt]; exact hq
    refine hn _ _ _ hKr ?_
    cases hd' : o.dst with
    | none => exact ⟨_, hg⟩
    | some u =>
      obtain ⟨rfl, hu⟩ := hdt u hd'
      exact ⟨_, hg.set hu (hres _)⟩
theorem Fits.argK2 {P : Program} {n : Nat} {w0 w : World} {ow0 ow : Own} {s : St} {a : Act} (h : Fits P n w0 ow0 ow s a w) {args : List Operand} {bs : List Nat} {f : FuncId} {u : Option Nat} {K : St → Prop} (hk : dcallB s u f P args bs K) :
    ∃ (ds : List D) (gs : List (Nat × D)) (rs : List Nat) (Q : S → Prop), ds.length = args.length ∧ (∀ (i : Nat) (d : D), ds[i]? = some d → ∃ x, args[i]? = some x ∧ V P w (lend rs ow) d.fz [] (a.eval x)) ∧
      (∀ p ∈ gs, V P w (lend rs ow) (D.bx false p.2).fz [] (.pointer (some ⟨p.1, 0, none⟩))) ∧ FnOkB P f ds gs Q ∧ ∀ r, Q r → (rs = [] ∨ r.closed = true) ∧ K (s.setd u r) := by
  obtain ⟨ds, rs, h1, hlen, hrd⟩ := h.argK _ hk
  obtain ⟨ds2, rs2, h2, hlen2, hrd2⟩ := h.argK _ h1
  split at h2
  · rename_i ms hms
    obtain ⟨Q, hfn, hK⟩ := h2
    obtain ⟨hml, hmg⟩ := unbx_get hms
    refine ⟨ds, bs.zip (D.fzs ms), rs ++ rs2, Q, hlen, fun i d hd => hrd _ (fun r hr => by simp [hr]) i d hd, ?_, hfn.fzs, hK⟩
    rintro ⟨b, m⟩ hp
    obtain ⟨i, hi⟩ := List.getElem?_of_mem hp
    rw [List.getElem?_zip_eq_some] at hi
    obtain ⟨hb, hm⟩ := hi
    rw [D.fzs_map] at hm
    simp only [List.getElem?_map, Option.map_eq_some_iff] at hm
    obtain ⟨m', hm', rfl⟩ := hm
    obtain ⟨oo, hd2⟩ := hmg i m' hm'
    obtain ⟨x, hx, hV⟩ := hrd2 (rs ++ rs2) (fun r hr => by simp [hr]) i _ hd2
    simp only [List.getElem?_map, hb, Option.map_some, Option.some.injEq] at hx
    subst hx
    simp only [D.fz] at hV ⊢
    rw [D.fz_fz]
    exact hV
  · exact h2.elim
theorem ok_callB {P : Program} {n : Nat} {w0 : World} {ow0 : Own} {o : Oper} {s : St} {K : St → Prop} {f : FuncId} {args : Array Operand} {ts : Array TypeId} {bs : List Nat} (he : Enters P f)
    (ho : o.op = .call { callee := .value (.func f), args := args, argTypes := ts }) (hd : dstOk n o = true) (h : dcallB s o.dst f P args.toList bs K) : Ok P n w0 ow0 o s K := by
  refine ok_callX (f := f) (args := args.toList) (fun a w ow hf => ?_) hd fun a w ow hf => hf.argK2 h
  unfold execOp
  simp only [ho, resolve, invoke, Act.eval, Deferred.ofValue, Sem.run_bind, Sem.run_pure, Result.andThen_ok]
  have := he (#[] ++ args.map a.eval ++ #[]) w
  have e : (args.toList.map a.eval).toArray = #[] ++ args.map a.eval ++ #[] := by apply Array.toList_inj.1; simp
  rw [e]
  simpa using this
theorem ok_callV {P : Program} {n : Nat} {w0 : World} {ow0 : Own} {o : Oper} {s : St} {K : St → Prop} {x : Operand} {f : FuncId} {cap : Array Value} {ops : List Operand} {args : Array Operand} {ts : Array TypeId} (he : Enters P f) (hx : evS s x = .val (.one (.func (.func f) #[] cap))) (hops : capOps cap.toList = some ops)
    (ho : o.op = .call { callee := .value x, args := args, argTypes := ts }) (hd : dstOk n o = true) (h : dcall s o.dst f P (args.toList ++ ops) K) : Ok P n w0 ow0 o s K := by
  refine ok_callX (f := f) (args := args.toList ++ ops) (fun a w ow hf => ?_) hd fun a w ow hf => ?_
  · have hv := (hf.one hx).1
    unfold execOp
    simp only [ho, resolve, invoke, hv, Deferred.ofValue, Sem.run_bind, Sem.run_pure, Result.andThen_ok]
    have := he (#[] ++ args.map a.eval ++ cap) w
    have e : ((args.toList ++ ops).map a.eval).toArray = #[] ++ args.map a.eval ++ cap := by
      apply Array.toList_inj.1
      simp [capOps_spec hops]
    rw [e]
    simpa using this
  · obtain ⟨ds, rs, ⟨Q, hfn, hK⟩, hlen, hrd⟩ := hf.argK _ h
    exact ⟨ds, [], rs, Q, hlen, fun i d hd => hrd rs (fun _ h => h) i d hd, fun p hp => by simp at hp, hfn.ofFzs.toB, hK⟩
def dmkFn (u : Nat) (g : FuncId) (c : Operand) (s : St) (K : St → Prop) : Prop := match evS s c with
  | .own (.bx true d) => u ≠ slotOf c ∧ ∀ b, K (((s.kill (1000000 + 2 * b)).put (1000000 + 2 * b) (.rf (slotOf c) [0])).set u (.val (.one (.func (.func g) #[] #[.pointer (some ⟨b, 0, none⟩)]))))
  | _ => False
theorem ok_mkFn {P : Program} {n : Nat} {w0 : World} {ow0 : Own} {o : Oper} {s : St} {K : St → Prop} {u c : Nat} {g : FuncId} (ho : o.op = .makeFunc (.func g) #[] #[.tmp c]) (hd : o.dst = some u) (hu : u < n) (h : dmkFn u g (.tmp c) s K) : Ok P n w0 ow0 o s K := by
  refine ok_value fun a w ow hf => ?_
  unfold dmkFn at h
  split at h
  rotate_left
  · exact h.elim
  rename_i d hc
  obtain ⟨huc, h⟩ := h
  have hc6 : c < 1000000 := by
    by_cases hc6 : c < 1000000
    · exact hc6
    · simp only [evS, hc6, if_false] at hc; cases hc
  have hs : s c = .own (.bx true d) := by simpa [evS, hc6] using hc
  have hV := hf.slot c
  rw [hs] at hV
  simp only [SV, V, R] at hV
  obtain ⟨b, off, C, e, fz, cs', h1, hh, hn, hs2, hl, hcc, hr⟩ := hV
  obtain ⟨hob, hunf, rfl, hCs⟩ := hs2 trivial
  have hav : aval a c = .pointer (some ⟨b, 0, none⟩) := by simpa using h1
  have hev : a.eval (.tmp c) = aval a c := by
    unfold aval; rw [if_pos hc6]; rfl
  refine ⟨.func (.func g) #[] #[.pointer (some ⟨b, 0, none⟩)], w, ?_, _, h b, ow, ?_⟩
  · unfold execOp; rw [ho]
    simp only [Instr.makeFunc, Sem.run_bind, Sem.run_pure, Result.andThen_ok]
    simp [hev, hav]
  · rw [hd]
    have hk := hf.kill (1000000 + 2 * b)
    have hck : (s.kill (1000000 + 2 * b)) c = .own (.bx true d) := by
      have : c ≠ 1000000 + 2 * b := by omega
      simp [St.kill, this, hs, S.drop, S.root]
    have hk0 : ((s.kill (1000000 + 2 * b)) (1000000 + 2 * b)).isOwn = false := by simp [St.kill, S.isOwn]
    have hfar : 1000000 + 2 * b ≠ far0 := by unfold far0; omega
    refine (hk.tell hfar hk0 ?_).set hu (SV.val_one rfl)
    simp only [SV, slotOf]
    refine ⟨.bx true d, d, b, 0, hck, by simp [D.sub, D.kid], ?_, ?_⟩
    · rw [hav]; simp [loc, into, locAt]
    · unfold aval; rw [if_neg (by omega)]
      have : (1000000 + 2 * b - 1000000) / 2 = b := by omega
      rw [this]
end Go.Dv
end
section
set_option linter.unusedVariables false
namespace Go.Dv
open Go.RowKit
set_option linter.unusedSectionVars false
variable [Glob]
def FnW (P : Program) (f : FuncId) (ds : List D) (cs : List (Nat × Option D)) (rd gs : List (Nat × D)) (Q : S → List D → Prop) : Prop :=
  ∀ (w : World) (ow : Own) (vs : Array Value) (t : Nat), t < 1000000 → Laid w ow → (∀ b, w.heap.size ≤ b → ow b = none) → vs.size = ds.length + cs.length →
    (∀ (i : Nat) (d : D), ds[i]? = some d → V P w ow d.fz [] (vs.getD i undef)) →
    (∀ (j : Nat) (c : Nat × Option D), cs[j]? = some c → vs.getD (ds.length + j) undef = .pointer (some ⟨c.1, 0, none⟩)) →
    (∀ p ∈ rd, V P w ow (D.bx false p.2).fz [] (.pointer (some ⟨p.1, 0, none⟩))) →
    (∀ g ∈ gs, V P w ow (.bx true g.2) [1000000 + 2 * g.1] (.pointer (some ⟨g.1, 0, none⟩))) →
    Calls P f vs w fun e w' => ∃ v ow' r ds', e = .returned v ∧ Q r ds' ∧ w'.os = w.os ∧ w'.tape = w.tape ∧ w'.output = w.output ∧ w.heap.size ≤ w'.heap.size ∧
      (∀ b, b < w.heap.size → (∀ g ∈ gs, ∀ q, ow b ≠ some (q ++ [1000000 + 2 * g.1])) → w'.heap[b]? = w.heap[b]? ∧ ow' b = ow b) ∧ (∀ b, w'.heap.size ≤ b → ow' b = none) ∧
      ds'.length = gs.length ∧ (∀ (j : Nat) (g : Nat × D) (d' : D), gs[j]? = some g → ds'[j]? = some d' → V P w' ow' (.bx true d') [1000000 + 2 * g.1] (.pointer (some ⟨g.1, 0, none⟩))) ∧ S.plain r = true ∧ ∀ s a, SV P w' ow' s a t r v
theorem FnW.mono {P : Program} {f : FuncId} {ds : List D} {cs : List (Nat × Option D)} {rd gs : List (Nat × D)} {Q Q' : S → List D → Prop} (h : FnW P f ds cs rd gs Q) (hq : ∀ r ds', Q r ds' → Q' r ds') : FnW P f ds cs rd gs Q' := fun w ow vs t h1 h2 h3 h4 h5 h6 h7 h8 =>
  (h w ow vs t h1 h2 h3 h4 h5 h6 h7 h8).mono fun e w' ⟨v, ow', r, ds', g1, g2, g3⟩ => ⟨v, ow', r, ds', g1, hq r ds' g2, g3⟩
def lentK (s : St) : List (Nat × D) → Prop
  | [] => True
  | (b, d) :: gs => s (1000000 + 2 * b) = .own (.bx true d) ∧ lentK s gs
theorem lentK_mem {s : St} : ∀ {gs : List (Nat × D)}, lentK s gs → ∀ g ∈ gs, s (1000000 + 2 * g.1) = .own (.bx true g.2)
  | [], _, g, hg => by simp at hg
  | (b, d) :: gs, h, g, hg => by
    rcases List.mem_cons.1 hg with rfl | hg
    · exact h.1
    · exact lentK_mem h.2 g hg
def S.fresh (ks : List Nat) (x : S) : S := match x with
  | .rf r p => if ks.contains r then (if p = [0] then .rf r [0] else .un) else .rf r p
  | .al r p => if ks.contains r then .un else .al r p
  | .ag r p => if ks.contains r then .un else .ag r p
  | x => x
def St.fresh (ks : List Nat) (s : St) : St := fun j => (s j).fresh ks
def putW : List (Nat × D) → List D → St → St
  | (b, _) :: gs, d :: ds, s => (putW gs ds s).put (1000000 + 2 * b) (.own (.bx true d))
  | _, _, s => s
theorem putW_out : ∀ {gs : List (Nat × D)} {ds : List D} {s : St} {i : Nat}, (∀ g ∈ gs, i ≠ 1000000 + 2 * g.1) → putW gs ds s i = s i
  | [], ds, s, i, _ => by simp [putW]
  | _ :: _, [], s, i, _ => by simp [putW]
  | (b, d0) :: gs, d :: ds, s, i, h => by
    have h1 := h (b, d0) (by simp)
    simp only [putW, St.put, if_neg h1]
    exact putW_out fun g hg => h g (by simp [hg])
theorem putW_in : ∀ {gs : List (Nat × D)} {ds : List D} {s : St} {g : Nat × D}, ds.length = gs.length → g ∈ gs → ∃ (j : Nat) (g' : Nat × D) (d' : D), gs[j]? = some g' ∧ ds[j]? = some d' ∧ g'.1 = g.1 ∧ putW gs ds s (1000000 + 2 * g.1) = .own (.bx true d')
  | [], _, s, g, _, hg => by simp at hg
  | _ :: _, [], s, g, hl, _ => by simp at hl
  | (b, d0) :: gs, d :: ds, s, g, hl, hg => by
    by_cases hb : b = g.1
    · exact ⟨0, (b, d0), d, rfl, rfl, hb, by simp [putW, St.put, hb]⟩
    · have hg' : g ∈ gs := by
        rcases List.mem_cons.1 hg with rfl | h
        · exact absurd rfl hb
        · exact h
      obtain ⟨j, g', d', h1, h2, h3, h4⟩ := putW_in (s := s) (by simpa using hl) hg'
      refine ⟨j + 1, g', d', by simpa using h1, by simpa using h2, h3, ?_⟩
      have : 1000000 + 2 * g.1 ≠ 1000000 + 2 * b := by omega
      simp only [putW, St.put, if_neg this]
      exact h4
class HidW where
  L : List (Nat × D) → List (Nat × D) → (List Nat → Prop) → Prop
  K : S → List D → List (Nat × D) → Prop
def wantW (s : St) (rd gs : List (Nat × D)) (C : List Nat → Prop) : Prop := lentK s gs ∧ argK s (rd.map fun p => Operand.global p.1) fun ds2 rs2 => (unbx ds2).map D.fzs = some (D.fzs (rd.map fun p => p.2)) ∧ C rs2
def callW (P : Program) (f : FuncId) (ds : List D) (bs rs : List Nat) [k : HidW] : Prop :=
  ∃ cs rd gs Q, FnW P f ds cs rd gs Q ∧ cs.map (fun c => c.1) = bs ∧ k.L rd gs fun rs2 => (∀ r ∈ rs ++ rs2, ∀ g ∈ gs, r ≠ 1000000 + 2 * g.1) ∧ ∀ r ds', Q r ds' → (rs ++ rs2 = [] ∨ (r.closed = true ∧ D.allOwns ds' = true)) ∧ k.K r ds' gs
def dcallW (s : St) (u : Option Nat) (f : FuncId) (P : Program) (args : List Operand) (bs : List Nat) (K : St → Prop) : Prop :=
  argK s args fun ds rs => @callW _ P f ds bs rs ⟨wantW s, fun r ds' gs => K ((putW gs ds' (s.fresh (gs.map fun g => 1000000 + 2 * g.1))).setd u r)⟩
theorem callW_of {P : Program} {f : FuncId} {ds : List D} {bs rs : List Nat} {L : List (Nat × D) → List (Nat × D) → (List Nat → Prop) → Prop} {K : S → List D → List (Nat × D) → Prop} {cs : List (Nat × Option D)} {rd gs : List (Nat × D)} {Q : S → List D → Prop} (h : FnW P f ds cs rd gs Q) (hc : cs.map (fun c => c.1) = bs)
    (hL : L rd gs fun rs2 => (∀ r ∈ rs ++ rs2, ∀ g ∈ gs, r ≠ 1000000 + 2 * g.1) ∧ ∀ r ds', Q r ds' → (rs ++ rs2 = [] ∨ (r.closed = true ∧ D.allOwns ds' = true)) ∧ K r ds' gs) : @callW _ P f ds bs rs ⟨L, K⟩ := ⟨cs, rd, gs, Q, h, hc, hL⟩
theorem lend_miss {rs : List Nat} {ow : Own} {b r : Nat} {q : List Nat} (h : ow b = some (q ++ [r])) (hr : r ∉ rs) : lend rs ow b = some (q ++ [r]) := by simp [lend, h, hr]
theorem lend_some {rs : List Nat} {ow : Own} {b : Nat} {l : List Nat} (h : lend rs ow b = some l) : ow b = some l := by
  unfold lend at h
  split at h
  · rename_i l' hl
    split at h
    · cases h
    · rw [hl]; exact h
  · cases h
open Classical in
noncomputable def backL (w : World) (gs : List (Nat × D)) (ow ow' : Own) : Own := fun b => if b < w.heap.size ∧ (∀ g ∈ gs, ∀ q, ow b ≠ some (q ++ [1000000 + 2 * g.1])) then ow b else ow' b
theorem ok_callGW {P : Program} {n : Nat} {w0 : World} {ow0 : Own} {o : Oper} {s : St} {K : St → Prop} {f : FuncId} {args : List Operand} {cap : List Value} {bs : List Nat}
    (hrun : ∀ a w ow, Fits P n w0 ow0 ow s a w → (execOp a.eval o).run P w = .ok (.enter f (args.map a.eval ++ cap).toArray) w) (hcap : cap = bs.map fun b => Value.pointer (some ⟨b, 0, none⟩)) (hd : dstOk n o = true)
    (h : dcallW s o.dst f P args bs K) : Ok P n w0 ow0 o s K := by
  intro a w ⟨ow, hf⟩ next Q' hn
  obtain ⟨ds, rs, ⟨cs, rd, gs, Q, hfn, hcs, hlent, hwant⟩, hlen, hargs⟩ := hf.argK _ h
  obtain ⟨ds2, rs2, ⟨hub, hdis, hK⟩, hlen2, hrd2⟩ := hf.argK _ hwant
  have hgs := lentK_mem hlent
  unfold Oper.wp
  rw [hrun a w ow hf]
  simp only [Oper.upon]
  obtain ⟨t, ht, hdt⟩ : ∃ t, t < 1000000 ∧ ∀ u, o.dst = some u → u = t ∧ u < n := by
    cases hd' : o.dst with
    | none => exact ⟨0, by decide, fun u hu => by cases hu⟩
    | some u =>
      have hu : u < n := by simpa [dstOk, hd'] using hd
      have hsm := hf.small
      exact ⟨u, Nat.lt_of_lt_of_le hu hsm, fun u' hu' => by obtain rfl := Option.some.inj hu'; exact ⟨rfl, hu⟩⟩
  have hcl : cs.length = bs.length := by rw [← hcs]; simp
  have hav : ∀ b, aval a (1000000 + 2 * b) = .pointer (some ⟨b, 0, none⟩) := fun b => by
    unfold aval
    rw [if_neg (by omega)]
    have : (1000000 + 2 * b - 1000000) / 2 = b := by omega
    rw [this]
  have hfar : ∀ b, 1000000 + 2 * b ≠ far0 := fun b => by unfold far0; omega
  have hgV : ∀ g ∈ gs, V P w (lend (rs ++ rs2) ow) (.bx true g.2) [1000000 + 2 * g.1] (.pointer (some ⟨g.1, 0, none⟩)) := by
    intro g hg
    have h1 := hf.slot (1000000 + 2 * g.1)
    rw [hgs g hg, hav] at h1
    refine V.tr (fun b _ => ⟨fun ho => ⟨rfl, lend_none ho⟩, fun q hq => ⟨rfl, ?_⟩⟩) h1
    exact lend_miss hq fun hm => hdis _ hm g hg rfl
  refine (hfn w (lend (rs ++ rs2) ow) (args.map a.eval ++ cap).toArray t ht (hf.laidNow.mono fun b o h1 h2 => ⟨h1, lend_none h2⟩) (fun b hb => lend_none (hf.new b hb)) (by simp [hlen, hcl, hcap]) (fun i d hi => ?_) (fun j c hj => ?_) (fun p hp => ?_) hgV).mono ?_
  · obtain ⟨x, h1, h2⟩ := hargs (rs ++ rs2) (fun r hr => by simp [hr]) i d hi
    have hil : i < args.length := (List.getElem?_eq_some_iff.1 h1).1
    have : (args.map a.eval ++ cap).toArray.getD i undef = a.eval x := by
      simp only [Array.getD_eq_getD_getElem?, List.getElem?_toArray]
      rw [List.getElem?_append_left (by simpa using hil), List.getElem?_map, h1]
      rfl
    rw [this]; exact h2
  · have hb : bs[j]? = some c.1 := by rw [← hcs, List.getElem?_map, hj]; rfl
    simp only [Array.getD_eq_getD_getElem?, List.getElem?_toArray]
    rw [List.getElem?_append_right (by simp [hlen])]
    simp [hlen, hcap, hb]
  · obtain ⟨i, hi⟩ := List.getElem?_of_mem hp
    cases hu : unbx ds2 with
    | none => rw [hu] at hub; cases hub
    | some ms =>
      rw [hu] at hub
      obtain ⟨hml, hmg⟩ := unbx_get hu
      simp only [Option.map_some, Option.some.injEq] at hub
      have h3 : (D.fzs ms)[i]? = some p.2.fz := by rw [hub, D.fzs_map, List.getElem?_map, List.getElem?_map, hi]; rfl
      rw [D.fzs_map, List.getElem?_map, Option.map_eq_some_iff] at h3
      obtain ⟨m, hm, hmz⟩ := h3
      obtain ⟨oo, hd2⟩ := hmg i m hm
      obtain ⟨x, hx, hV⟩ := hrd2 (rs ++ rs2) (fun r hr => by simp [hr]) i _ hd2
      simp only [List.getElem?_map, hi, Option.map_some, Option.some.injEq] at hx
      subst hx
      simp only [D.fz] at hV ⊢
      rw [← hmz]
      exact hV
  · rintro e w' ⟨v, ow', r, ds', rfl, hQ, g1, g2, g3, g4, g5, g6, g7, g8, hpl, hsv⟩
    obtain ⟨hcl2, hKr⟩ := hK r ds' hQ
    simp only
    have hin : ∀ b, ¬ (b < w.heap.size ∧ (∀ g ∈ gs, ∀ q, ow b ≠ some (q ++ [1000000 + 2 * g.1]))) → backL w gs ow ow' b = ow' b := fun b hb => by unfold backL; rw [if_neg hb]
    have hout : ∀ b, b < w.heap.size → (∀ g ∈ gs, ∀ q, ow b ≠ some (q ++ [1000000 + 2 * g.1])) → backL w gs ow ow' b = ow b ∧ w'.heap[b]? = w.heap[b]? ∧ ow' b = lend (rs ++ rs2) ow b := fun b hb hno => by
      obtain ⟨k1, k2⟩ := g5 b hb (fun g hg q e => hno g hg q (lend_some e))
      exact ⟨by unfold backL; rw [if_pos ⟨hb, hno⟩], k1, k2⟩
    have hlab : ∀ b q (i : Nat), ow' b = some (q ++ [i]) → (i = t ∨ ∃ g ∈ gs, i = 1000000 + 2 * g.1) → (∃ g ∈ gs, i = 1000000 + 2 * g.1) → backL w gs ow ow' b = some (q ++ [i]) := by
      rintro b q i hb _ ⟨g, hg, rfl⟩
      rw [hin b, hb]
      rintro ⟨k1, k2⟩
      obtain ⟨_, _, k3⟩ := hout b k1 k2
      rw [k3] at hb
      exact k2 g hg q (lend_some hb)
    have hVg : ∀ (j : Nat) (g : Nat × D) (d' : D), gs[j]? = some g → ds'[j]? = some d' → V P w' (backL w gs ow ow') (.bx true d') [1000000 + 2 * g.1] (.pointer (some ⟨g.1, 0, none⟩)) := by
      intro j g d' hj hj'
      have h1 := g8 j g d' hj hj'
      have hg := List.mem_of_getElem? hj
      rcases hcl2 with hrs | ⟨_, hcl2⟩
      · refine V.tr (fun b hb => ⟨fun ho => ⟨rfl, ?_⟩, fun q hq => ⟨rfl, hlab b q _ hq (.inr ⟨g, hg, rfl⟩) ⟨g, hg, rfl⟩⟩⟩) h1
        by_cases hc : b < w.heap.size ∧ (∀ g ∈ gs, ∀ q, ow b ≠ some (q ++ [1000000 + 2 * g.1]))
        · obtain ⟨k1, _, k3⟩ := hout b hc.1 hc.2
          rw [k1]; rw [k3, hrs, lend_nil] at ho; exact ho
        · rw [hin b hc]; exact ho
      · have hall : (D.bx true d').allOwn = true := by
          simp only [D.allOwn, Bool.true_and]
          have : ∀ (l : List D), D.allOwns l = true → ∀ x ∈ l, x.allOwn = true := by
            intro l
            induction l with
            | nil => intro _ x hx; simp at hx
            | cons y l ih =>
              intro hl x hx
              simp only [D.allOwns, Bool.and_eq_true] at hl
              rcases List.mem_cons.1 hx with rfl | hx
              · exact hl.1
              · exact ih hl.2 x hx
          exact this _ hcl2 _ (List.mem_of_getElem? hj')
        exact V.owned hall (fun b hb q hq => ⟨rfl, hlab b q _ hq (.inr ⟨g, hg, rfl⟩) ⟨g, hg, rfl⟩⟩) h1
    have hroot : ∀ i r, (s i).root = some r → (s r).isOwn = true := fun i r hr => (hf.slot i).root hr
    have hg : Fits P n w0 ow0 (backL w gs ow ow') (putW gs ds' (s.fresh (gs.map fun g => 1000000 + 2 * g.1))) a w' := by
      refine hf.change hf.nodef hf.size g1 g2 g3 g4 (fun b hb ho => ?_) (fun b hb => ?_) (fun j => (∃ g ∈ gs, j = 1000000 + 2 * g.1) ∨ (∃ g ∈ gs, s j = .rf (1000000 + 2 * g.1) [0])) ?_ ?_ ?_ ?_
      · obtain ⟨k1, k2, _⟩ := hout b hb (fun g hg q e => by rw [ho] at e; cases e)
        exact ⟨k2, by rw [k1]; exact ho⟩
      · rw [hin b (fun hc => by have := hc.1; omega)]
        exact g6 b hb
      · intro j hj b hb q hq
        obtain ⟨k1, k2, _⟩ := hout b hb (fun g hg q' e => by
          rw [hq] at e
          have := congrArg List.getLast? (Option.some.inj e)
          simp at this
          exact hj (.inl ⟨g, hg, this⟩))
        exact ⟨k2, by rw [k1]; exact hq⟩
      · intro i hi
        refine ⟨rfl, ?_⟩
        have hi1 : ∀ g ∈ gs, i ≠ 1000000 + 2 * g.1 := fun g hg e => hi (.inl ⟨g, hg, e⟩)
        rw [putW_out hi1]
        simp only [St.fresh]
        have good : ∀ r, (s i).root = some r → r ∉ gs.map (fun g => 1000000 + 2 * g.1) → ∀ j, (s i).root = some j → ¬ ((∃ g ∈ gs, j = 1000000 + 2 * g.1) ∨ (∃ g ∈ gs, s j = .rf (1000000 + 2 * g.1) [0])) ∧ putW gs ds' (s.fresh (gs.map fun g => 1000000 + 2 * g.1)) j = s j := by
          intro r hr hnr j hj
          rw [hr] at hj
          obtain rfl := Option.some.inj hj
          have ho := hroot i r hr
          have hn1 : ∀ g ∈ gs, r ≠ 1000000 + 2 * g.1 := fun g hg e => hnr (by simp only [List.mem_map]; exact ⟨g, hg, e.symm⟩)
          refine ⟨?_, ?_⟩
          · rintro (⟨g, hg, e⟩ | ⟨g, hg, e⟩)
            · exact hn1 g hg e
            · rw [e] at ho; cases ho
          · rw [putW_out hn1]
            simp only [St.fresh]
            cases hsr : s r <;> rw [hsr] at ho <;> first | rfl | cases ho
        cases hsi : s i with
        | rf r p =>
          simp only [S.fresh]
          by_cases hc : r ∈ gs.map (fun g => 1000000 + 2 * g.1)
          · rw [if_pos (by simpa using hc)]
            by_cases hp : p = [0]
            · subst hp
              obtain ⟨g, hg, rfl⟩ := List.mem_map.1 hc
              exact absurd (.inr ⟨g, hg, hsi⟩) hi
            · rw [if_neg hp]; exact .inl rfl
          · rw [if_neg (by simpa using hc)]
            rw [← hsi]
            exact .inr ⟨rfl, good r (by rw [hsi]; rfl) hc⟩
        | al r p =>
          simp only [S.fresh]
          by_cases hc : r ∈ gs.map (fun g => 1000000 + 2 * g.1)
          · rw [if_pos (by simpa using hc)]; exact .inl rfl
          · rw [if_neg (by simpa using hc)]
            rw [← hsi]
            exact .inr ⟨rfl, good r (by rw [hsi]; rfl) hc⟩
        | ag r p =>
          simp only [S.fresh]
          by_cases hc : r ∈ gs.map (fun g => 1000000 + 2 * g.1)
          · rw [if_pos (by simpa using hc)]; exact .inl rfl
          · rw [if_neg (by simpa using hc)]
            rw [← hsi]
            exact .inr ⟨rfl, good r (by rw [hsi]; rfl) hc⟩
        | _ => exact .inr ⟨rfl, fun j hj => by simp [S.root] at hj⟩
      · rintro i (⟨g, hg, rfl⟩ | ⟨g, hg, hsi⟩)
        · obtain ⟨j, g', d', k1, k2, k3, k4⟩ := putW_in (s := s.fresh (gs.map fun g => 1000000 + 2 * g.1)) g7 hg
          rw [k4, hav]
          have := hVg j g' d' k1 k2
          rw [k3] at this
          exact this
        · have hi1 : ∀ g ∈ gs, i ≠ 1000000 + 2 * g.1 := fun g' hg' e => by rw [e, hgs g' hg'] at hsi; cases hsi
          obtain ⟨j, g', d', k1, k2, k3, k4⟩ := putW_in (s := s.fresh (gs.map fun g => 1000000 + 2 * g.1)) g7 hg
          rw [putW_out hi1]
          have hc : (1000000 + 2 * g.1) ∈ gs.map (fun g => 1000000 + 2 * g.1) := List.mem_map.2 ⟨g, hg, rfl⟩
          simp only [St.fresh, hsi, S.fresh]
          rw [if_pos (by simpa using hc)]
          simp only [if_true]
          have h1 := hf.slot i
          rw [hsi] at h1
          obtain ⟨d, m, b, off, e1, e2, e3, e4⟩ := h1
          rw [hgs g hg] at e1
          obtain rfl : D.bx true g.2 = d := by injection e1
          rw [hav] at e3
          simp only [loc, into, if_true, locAt, Option.some.injEq, Prod.mk.injEq] at e3
          obtain ⟨rfl, rfl⟩ := e3
          refine ⟨.bx true d', d', g.1, 0, k4, by simp [D.sub, D.kid], ?_, e4⟩
          rw [hav]
          simp [loc, into, locAt]
      · rintro (⟨g, hg, e⟩ | ⟨g, hg, e⟩)
        · exact hfar g.1 e.symm
        · rw [hf.far] at e; cases e
    have hres : ∀ s2, SV P w' (backL w gs ow ow') s2 a t r v := by
      intro s2
      rcases hcl2 with hrs | ⟨hc, _⟩
      · have : backL w gs ow ow' = ow' := by
          funext b
          by_cases hc : b < w.heap.size ∧ (∀ g ∈ gs, ∀ q, ow b ≠ some (q ++ [1000000 + 2 * g.1]))
          · obtain ⟨k1, _, k3⟩ := hout b hc.1 hc.2
            rw [k1, k3, hrs, lend_nil]
          · exact hin b hc
        rw [this]
        exact hsv s2 a
      · refine SV.closed hc (fun b hb q hq => ⟨rfl, ?_⟩) (hsv s2 a)
        by_cases hc : b < w.heap.size ∧ (∀ g ∈ gs, ∀ q, ow b ≠ some (q ++ [1000000 + 2 * g.1]))
        · obtain ⟨k1, _, k3⟩ := hout b hc.1 hc.2
          rw [k3] at hq
          rw [k1]
          exact lend_some hq
        · rw [hin b hc]; exact hq
    refine hn _ _ _ hKr ?_
    cases hd' : o.dst with
    | none => exact ⟨_, hg⟩
    | some u =>
      obtain ⟨rfl, hu⟩ := hdt u hd'
      exact ⟨_, hg.set hu (hres _)⟩
theorem ok_callW {P : Program} {n : Nat} {w0 : World} {ow0 : Own} {o : Oper} {s : St} {K : St → Prop} {f : FuncId} {args : Array Operand} {ts : Array TypeId} (he : Enters P f)
    (ho : o.op = .call { callee := .value (.func f), args := args, argTypes := ts }) (hd : dstOk n o = true) (h : dcallW s o.dst f P args.toList [] K) : Ok P n w0 ow0 o s K := by
  refine ok_callGW (f := f) (args := args.toList) (cap := []) (bs := []) (fun a w ow hf => ?_) rfl hd h
  unfold execOp
  simp only [ho, resolve, invoke, Act.eval, Deferred.ofValue, Sem.run_bind, Sem.run_pure, Result.andThen_ok]
  have := he (#[] ++ args.map a.eval ++ #[]) w
  have e : (args.toList.map a.eval ++ []).toArray = #[] ++ args.map a.eval ++ #[] := by apply Array.toList_inj.1; simp
  rw [e]
  simpa using this
def capBs : List Value → Option (List Nat)
  | [] => some []
  | .pointer (some ⟨b, 0, none⟩) :: l => (capBs l).map (b :: ·)
  | _ => none
theorem capBs_spec : ∀ {cs : List Value} {bs : List Nat}, capBs cs = some bs → cs = bs.map fun b => Value.pointer (some ⟨b, 0, none⟩)
  | [], bs, h => by simp only [capBs] at h; obtain rfl : [] = bs := by simpa using h
                    rfl
  | v :: l, bs, h => by
    unfold capBs at h
    split at h
    · rename_i h0; cases h0
    · rename_i b l' h0
      obtain ⟨rfl, rfl⟩ := List.cons.inj h0
      simp only [Option.map_eq_some_iff] at h
      obtain ⟨bs', h1, rfl⟩ := h
      simp [capBs_spec h1]
    · cases h
theorem ok_callVW {P : Program} {n : Nat} {w0 : World} {ow0 : Own} {o : Oper} {s : St} {K : St → Prop} {x : Operand} {f : FuncId} {cap : Array Value} {bs : List Nat} {args : Array Operand} {ts : Array TypeId} (he : Enters P f) (hx : evS s x = .val (.one (.func (.func f) #[] cap))) (hbs : capBs cap.toList = some bs)
    (ho : o.op = .call { callee := .value x, args := args, argTypes := ts }) (hd : dstOk n o = true) (h : dcallW s o.dst f P args.toList bs K) : Ok P n w0 ow0 o s K := by
  refine ok_callGW (f := f) (args := args.toList) (cap := cap.toList) (bs := bs) (fun a w ow hf => ?_) (capBs_spec hbs) hd h
  have hv := (hf.one hx).1
  unfold execOp
  simp only [ho, resolve, invoke, hv, Deferred.ofValue, Sem.run_bind, Sem.run_pure, Result.andThen_ok]
  have := he (#[] ++ args.map a.eval ++ cap) w
  have e : (args.toList.map a.eval ++ cap.toList).toArray = #[] ++ args.map a.eval ++ cap := by
    apply Array.toList_inj.1
    simp
  rw [e]
  simpa using this
def NewG (s : St) (b : Nat) : Prop := ∀ o d, s (1000000 + 2 * b) ≠ .own (.bx o d)
theorem NewG.ne {s : St} {b b' : Nat} {o : Bool} {d : D} (h : NewG s b) (h' : s (1000000 + 2 * b') = .own (.bx o d)) : b ≠ b' := by
  rintro rfl
  exact h _ _ h'
def capsK (u : Nat) (s : St) : List Nat → (List Nat → St → Prop) → Prop
  | [], K => K [] s
  | c :: cs, K => u ≠ c ∧ c < 1000000 ∧ match s c with
    | .own (.bx true d) => ∀ b, NewG s b → capsK u ((((s.kill (1000000 + 2 * b)).kill c).put (1000000 + 2 * b) (.own (.bx true d))).put c (.rf (1000000 + 2 * b) [0])) cs fun bs s' => K (b :: bs) s'
    | .rf r [0] => ∃ b, r = 1000000 + 2 * b ∧ capsK u s cs fun bs s' => K (b :: bs) s'
    | _ => False
def mkW (u : Nat) (s : St) (cs : List Nat) [k : Hid1 (List Nat × St)] : Prop := capsK u s cs fun bs s' => k.K (bs, s')
theorem mkW_of {u : Nat} {s : St} {cs : List Nat} {K : List Nat × St → Prop} (h : capsK u s cs fun bs s' => K (bs, s')) : (mkW (k := ⟨K⟩) u s cs) := h
def tmpsOf : List Operand → Option (List Nat)
  | [] => some []
  | .tmp c :: l => (tmpsOf l).map (c :: ·)
  | _ => none
theorem tmpsOf_spec : ∀ {l : List Operand} {cs : List Nat}, tmpsOf l = some cs → l = cs.map Operand.tmp
  | [], cs, h => by simp only [tmpsOf] at h; obtain rfl : [] = cs := by simpa using h
                    rfl
  | x :: l, cs, h => by
    unfold tmpsOf at h
    split at h
    · rename_i h0; cases h0
    · rename_i c l' h0
      obtain ⟨rfl, rfl⟩ := List.cons.inj h0
      simp only [Option.map_eq_some_iff] at h
      obtain ⟨cs', h1, rfl⟩ := h
      simp [tmpsOf_spec h1]
    · cases h
def dmkW (u : Nat) (g : FuncId) (caps : List Operand) (s : St) (K : St → Prop) : Prop := match tmpsOf caps with
  | some cs => (mkW (k := ⟨fun y => K (y.2.set u (.val (.one (.func (.func g) #[] (y.1.map fun b => Value.pointer (some ⟨b, 0, none⟩)).toArray))))⟩) u s cs)
  | none => False
theorem Fits.toGh {P : Program} {n : Nat} {w0 w : World} {ow0 ow : Own} {s : St} {a : Act} {c b : Nat} {d : D} (h : Fits P n w0 ow0 ow s a w) (hc : s c = .own (.bx true d)) (hc6 : c < 1000000) (hv : aval a c = .pointer (some ⟨b, 0, none⟩)) (hb : (s (1000000 + 2 * b)).isOwn = false) :
    Fits P n w0 ow0 (relab c (1000000 + 2 * b) ow) (((s.kill c).put (1000000 + 2 * b) (.own (.bx true d))).put c (.rf (1000000 + 2 * b) [0])) a w := by
  have hav : aval a (1000000 + 2 * b) = .pointer (some ⟨b, 0, none⟩) := by
    unfold aval
    rw [if_neg (by omega)]
    have : (1000000 + 2 * b - 1000000) / 2 = b := by omega
    rw [this]
  have hne : c ≠ 1000000 + 2 * b := by omega
  have hfar : 1000000 + 2 * b ≠ far0 := by unfold far0; omega
  have hfc : c ≠ far0 := by unfold far0; omega
  have hVc := h.slot c
  rw [hc] at hVc
  refine h.change h.nodef h.size rfl rfl rfl (Nat.le_refl _) (fun b _ ho => ⟨rfl, relab_none ho⟩) (fun b hb => relab_none (h.new b hb)) (fun j => j = c ∨ j = 1000000 + 2 * b) ?_ ?_ ?_ ?_
  · intro j hj b' _ q hq
    exact ⟨rfl, relab_same hq fun e => hj (.inl e)⟩
  · intro i hi
    have hi1 : i ≠ c := fun e => hi (.inl e)
    have hi2 : i ≠ 1000000 + 2 * b := fun e => hi (.inr e)
    refine ⟨rfl, ?_⟩
    simp only [St.put, if_neg hi1, if_neg hi2]
    rcases kill_at s c i with h1 | ⟨h1, _, h2⟩
    · exact .inl h1
    · right
      refine ⟨h1, fun j hj => ?_⟩
      have hjc : j ≠ c := by rintro rfl; exact h2 hj
      have hown := (h.slot i).root hj
      have hjb : j ≠ 1000000 + 2 * b := by rintro rfl; rw [hb] at hown; cases hown
      exact ⟨fun e => e.elim hjc hjb, by simp only [St.put, if_neg hjc, if_neg hjb]; exact kill_own hown hjc⟩
  · rintro i (rfl | rfl)
    · simp only [St.put, if_true, SV]
      refine ⟨.bx true d, d, b, 0, by simp [St.put, Ne.symm hne], by simp [D.sub, D.kid], ?_, hv⟩
      rw [hav]; simp [loc, into, locAt]
    · simp only [St.put, if_neg (Ne.symm hne), if_true, SV]
      rw [hav, ← hv]
      exact V.tr (fun b' _ => ⟨fun ho => ⟨rfl, relab_none ho⟩, fun q hq => ⟨rfl, relab_mv hq⟩⟩) hVc
  · rintro (e | e)
    · exact hfc e.symm
    · exact hfar e.symm
theorem caps_ok {P : Program} {n : Nat} {w0 w : World} {ow0 : Own} {a : Act} {u : Nat} : ∀ (cs : List Nat) {ow : Own} {s : St} {K : List Nat → St → Prop}, Fits P n w0 ow0 ow s a w → capsK u s cs K →
    ∃ bs s' ow', K bs s' ∧ Fits P n w0 ow0 ow' s' a w ∧ bs.length = cs.length ∧ (cs.map (aval a) = bs.map fun b => Value.pointer (some ⟨b, 0, none⟩)) ∧ ∀ c ∈ cs, c < 1000000
  | [], ow, s, K, hf, hk => ⟨[], s, ow, hk, hf, rfl, rfl, fun c hc => by simp at hc⟩
  | c :: cs, ow, s, K, hf, hk => by
    simp only [capsK] at hk
    obtain ⟨huc, hc6, hk⟩ := hk
    split at hk
    · rename_i d hs
      have hV := hf.slot c
      rw [hs] at hV
      simp only [SV, V, R] at hV
      obtain ⟨b, off, C, e, fz, cs', h1, hh, hn, hs2, hl, hcc, hr⟩ := hV
      obtain ⟨hob, hunf, rfl, hCs⟩ := hs2 trivial
      have hav : aval a c = .pointer (some ⟨b, 0, none⟩) := by simpa using h1
      have hnew : NewG s b := by
        intro o2 x2 hsb
        have hV2 := hf.slot (1000000 + 2 * b)
        have hav2 : aval a (1000000 + 2 * b) = .pointer (some ⟨b, 0, none⟩) := by
          unfold aval
          rw [if_neg (by omega)]
          have : (1000000 + 2 * b - 1000000) / 2 = b := by omega
          rw [this]
        rw [hsb, hav2] at hV2
        simp only [SV, V, R] at hV2
        obtain ⟨b2, off2, C2, e2, fz2, cs2, k1, k2, k3, k4, _⟩ := hV2
        simp only [List.cons.injEq, Value.pointer.injEq, Option.some.injEq, and_true] at k1
        obtain ⟨rfl, rfl, _⟩ := Addr.mk.inj k1
        cases o2 with
        | true =>
          have := (k4 rfl).1
          rw [hob] at this
          simp at this
          omega
        | false =>
          have := k3 rfl
          rw [hob] at this; cases this
      have hk0 := hf.kill (1000000 + 2 * b)
      have hck : (s.kill (1000000 + 2 * b)) c = .own (.bx true d) := by
        have : c ≠ 1000000 + 2 * b := by omega
        simp [St.kill, this, hs, S.drop, S.root]
      have hk1 : ((s.kill (1000000 + 2 * b)) (1000000 + 2 * b)).isOwn = false := by simp [St.kill, S.isOwn]
      obtain ⟨bs, s', ow', k1, k2, k3, k4, k5⟩ := caps_ok cs (hk0.toGh hck hc6 hav hk1) (hk b hnew)
      exact ⟨b :: bs, s', ow', k1, k2, by simp [k3], by simp [hav, k4], fun c' hc' => (List.mem_cons.1 hc').elim (fun e => e ▸ hc6) (k5 c')⟩
    · rename_i r hs
      obtain ⟨b, rfl, hk⟩ := hk
      obtain ⟨bs, s', ow', k1, k2, k3, k4, k5⟩ := caps_ok cs hf hk
      have hV := hf.slot c
      rw [hs] at hV
      obtain ⟨d, m, b', off, e1, e2, e3, e4⟩ := hV
      have hav2 : aval a (1000000 + 2 * b) = .pointer (some ⟨b, 0, none⟩) := by
        unfold aval
        rw [if_neg (by omega)]
        have : (1000000 + 2 * b - 1000000) / 2 = b := by omega
        rw [this]
      rw [hav2] at e3
      have hd : ∃ o x, d = .bx o x := by
        cases d with
        | bx o x => exact ⟨o, x, rfl⟩
        | _ => simp [loc, into] at e3
      obtain ⟨o, x, rfl⟩ := hd
      simp only [loc, into, if_true, locAt, Option.some.injEq, Prod.mk.injEq] at e3
      obtain ⟨rfl, rfl⟩ := e3
      exact ⟨b :: bs, s', ow', k1, k2, by simp [k3], by simp [e4, k4], fun c' hc' => (List.mem_cons.1 hc').elim (fun e => e ▸ hc6) (k5 c')⟩
    · exact hk.elim
theorem ok_mkW {P : Program} {n : Nat} {w0 : World} {ow0 : Own} {o : Oper} {s : St} {K : St → Prop} {u : Nat} {g : FuncId} {caps : Array Operand} (ho : o.op = .makeFunc (.func g) #[] caps) (hd : o.dst = some u) (hu : u < n) (h : dmkW u g caps.toList s K) : Ok P n w0 ow0 o s K := by
  refine ok_value fun a w ow hf => ?_
  unfold dmkW at h
  split at h
  rotate_left
  · exact h.elim
  rename_i cs hcs
  obtain ⟨bs, s', ow', hK, hf', hbl, hbv, hclt⟩ := caps_ok cs hf h
  have hsp := tmpsOf_spec hcs
  have hev : (caps.map a.eval).toList = bs.map fun b => Value.pointer (some ⟨b, 0, none⟩) := by
    rw [Array.toList_map, hsp, List.map_map, ← hbv]
    refine List.map_congr_left fun c hc => ?_
    have := hclt c hc
    unfold aval
    rw [if_pos this]; rfl
  refine ⟨.func (.func g) #[] (bs.map fun b => Value.pointer (some ⟨b, 0, none⟩)).toArray, w, ?_, _, hK, ow', ?_⟩
  · unfold execOp; rw [ho]
    simp only [Instr.makeFunc, Sem.run_bind, Sem.run_pure, Result.andThen_ok]
    have : caps.map a.eval = (bs.map fun b => Value.pointer (some ⟨b, 0, none⟩)).toArray := by apply Array.toList_inj.1; simpa using hev
    simp [this]
  · rw [hd]
    exact hf'.set hu (SV.val_one rfl)
end Go.Dv
end
section
set_option linter.unusedVariables false
namespace Go.Dv
open Go.RowKit
set_option linter.unusedSectionVars false
variable [Glob]
def dstK (n : Nat) (dst : Option Nat) (K : Nat → Prop) : Prop := match dst with
  | some u => u < n ∧ K u
  | none => False
def intK (x : S) (K : Int → Prop) : Prop := oneK x fun v => match v with
  | .int _ j => K j
  | _ => False
theorem intK_of {x : S} {K : Int → Prop} (h : intK x K) : ∃ k j, x = .val (.one (.int k j)) ∧ K j := by
  obtain ⟨v, hv, h1⟩ := oneK_of h
  split at h1
  · exact ⟨_, _, hv, h1⟩
  · exact h1.elim
def mmK (mx : Bool) (u v : Value) (K : Value → Prop) : Prop := match u, v with
  | .int k a, .int _ b => K (.int k (if mx then max a b else min a b))
  | _, _ => False
def mmK3 (mx : Bool) (u v w : Value) (K : Value → Prop) : Prop := match u, v, w with
  | .int k a, .int _ b, .int _ c => K (.int k (if mx then max (max a b) c else min (min a b) c))
  | _, _, _ => False
def mmH (mx : Bool) (x y : S) [k : Hid1 Value] : Prop := oneK x fun a => oneK y fun b => mmK mx a b k.K
def mmH3 (mx : Bool) (x y z : S) [k : Hid1 Value] : Prop := oneK x fun a => oneK y fun b => oneK z fun c => mmK3 mx a b c k.K
theorem mmH_int {mx : Bool} {k k' : IntKind} {a b : Int} {F : Value → Prop} : @mmH mx (.val (.one (.int k a))) (.val (.one (.int k' b))) ⟨F⟩ = F (.int k (if mx then max a b else min a b)) := rfl
theorem mmH3_int {mx : Bool} {k k' k2 : IntKind} {a b c : Int} {F : Value → Prop} : @mmH3 mx (.val (.one (.int k a))) (.val (.one (.int k' b))) (.val (.one (.int k2 c))) ⟨F⟩ = F (.int k (if mx then max (max a b) c else min (min a b) c)) := rfl
def idxH (x y : S) [k : Hid1 Value] : Prop := oneK x fun v => match v with
  | .string z => intK y fun j => 0 ≤ j ∧ ∃ c, z[j.toNat]? = some c ∧ k.K (.int .u8 c.toNat)
  | _ => False
def getH (o : Option UInt8) [k : Hid1 Value] : Prop := ∃ c, o = some c ∧ k.K (.int .u8 c.toNat)
theorem idxH_str {z : ByteArray} {k : IntKind} {j : Int} {F : Value → Prop} : @idxH (.val (.one (.string z))) (.val (.one (.int k j))) ⟨F⟩ = (0 ≤ j ∧ @getH (z[j.toNat]?) ⟨F⟩) := rfl
theorem getH_some {c : UInt8} {F : Value → Prop} : @getH (some c) ⟨F⟩ = F (.int .u8 c.toNat) := by simp [getH]
def capsOf (s : St) : List Operand → List Nat
  | [] => []
  | x :: xs => (match evS s x with
    | .val (.one (.func _ _ cap)) => cap.toList.filterMap fun v => match v with | .pointer (some ⟨b, _, _⟩) => some b | _ => none
    | _ => []) ++ capsOf s xs
def stepCall (P : Program) (T : TypeId → TyE) (n : Nat) (c : Callee) (args : List Operand) (ts : List TypeId) (dst : Option Nat) (s : St) (K : St → Prop) : Prop :=
  match c, args, ts with
  | .value (.func f), args, _ => Enters P f ∧ (∀ u, dst = some u → u < n) ∧ (if (T (1000000 + f)).w = 1000 then dcallW s dst f P args [] K else match (T (1000000 + f)).w with
    | 0 => (match capsOf s args with
      | [] => dcall s dst f P args K
      | bs => dcallB s dst f P args bs K)
    | m + 1 => dcallM s dst f P m args K)
  | .value x, args, _ => (∀ u, dst = some u → u < n) ∧ oneK (evS s x) fun v => match v with
    | .func (.func g) fst cap => fst = #[] ∧ Enters P g ∧ (if (T (1000000 + g)).w = 1000 then (match capBs cap.toList with
      | some bs => dcallW s dst g P args bs K
      | none => False) else match capOps cap.toList with
      | some ops => dcall s dst g P (args ++ ops) K
      | none => False)
    | _ => False
  | .builtin .len, [x], [t] => (∀ u, dst = some u → u < n) ∧ (match (T t).ty with
    | .sl e => (match asSl s (slotOf x) (evS s x) with | .no => False | z => K (s.setd dst (.val (.one (.int .i64 z.xs.length)))))
    | .str => oneK (evS s x) fun v => match v with | .string z => K (s.setd dst (.val (.one (.int .i64 z.size)))) | _ => False
    | _ => False)
  | .builtin .append, [x, y], [t, t'] => t = t' ∧ (match (T t).ty with
    | .sl e => dstK n dst fun u => (T e).ok = true ∧ 0 < (T e).w ∧ dappend e (T e).w u x y s K
    | _ => False)
  | .builtin .min, [x, y], _ => (∀ u, dst = some u → u < n) ∧ @mmH false (evS s x) (evS s y) ⟨fun r => K (s.setd dst (.val (.one r)))⟩
  | .builtin .max, [x, y], _ => (∀ u, dst = some u → u < n) ∧ @mmH true (evS s x) (evS s y) ⟨fun r => K (s.setd dst (.val (.one r)))⟩
  | .builtin .min, [x, y, z], _ => (∀ u, dst = some u → u < n) ∧ @mmH3 false (evS s x) (evS s y) (evS s z) ⟨fun r => K (s.setd dst (.val (.one r)))⟩
  | .builtin .max, [x, y, z], _ => (∀ u, dst = some u → u < n) ∧ @mmH3 true (evS s x) (evS s y) (evS s z) ⟨fun r => K (s.setd dst (.val (.one r)))⟩
  | _, _, _ => False
def stepOp (P : Program) (T : TypeId → TyE) (n : Nat) (op : Op) (dst : Option Nat) (s : St) (K : St → Prop) : Prop :=
  match op with
  | .move x => dstK n dst fun u => dmove u x s K
  | .assign x => dstK n dst fun u => dassign u x s K
  | .pick c x y => dstK n dst fun u => dpick u c x y s K
  | .load t x => dstK n dst fun u => dload (T t) u (asPtr s (slotOf x) (evS s x)) s K
  | .store t x y => dst = none ∧ (T t).ok = true ∧ dstore (T t) (asPtr s (slotOf x) (evS s x)) (srcOf s (slotOf y) (evS s y)) s K
  | .binOp op t x y _ => (∀ u, dst = some u → u < n) ∧ (match (T t).ty with
    | .bool => oneK (evS s x) fun u => oneK (evS s y) fun v => eqB op u v fun r => K (s.setd dst (.val (.one r)))
    | .agg _ => eqSK P op t (flatS s x) (flatS s y) fun r => K (s.setd dst (.val (.one r)))
    | .sl _ => (match y with | .const (.slice none 0 0) => nilK op (evS s x) (asSl s (slotOf x) (evS s x)) fun r => K (s.setd dst (.val (.one r))) | _ => False)
    | .ifc => (match y with | .const .nilIface => oneK (evS s x) fun v => ifcK op v fun r => K (s.setd dst (.val (.one r))) | _ => False)
    | _ => dbin op (evS s x) (evS s y) fun r => K (s.setd dst (.val (.one r))))
  | .unOp op _ x => (∀ u, dst = some u → u < n) ∧ oneK (evS s x) fun u => unV op u fun r => K (s.setd dst (.val (.one r)))
  | .convert src t x => (∀ u, dst = some u → u < n) ∧ (T src).ok = true ∧ (match (T src).ty, (T t).ty with
    | .int _, .int k => dconvI k (evS s x) fun r => K (s.setd dst (.val (.one r)))
    | .sl e, .str => (match (T e).ty with | .int .u8 => True | _ => False) ∧ asSl s (slotOf x) (evS s x) ≠ .no ∧ (match bytes? (asSl s (slotOf x) (evS s x)).xs with
      | some l => K (s.setd dst (.val (.one (.string ⟨l.toArray⟩))))
      | none => False)
    | .str, .sl e => (T e).ok = true ∧ (T e).w = 1 ∧ (match (T e).ty with | .int .u8 => True | _ => False) ∧ oneK (evS s x) fun v => match v with
      | .string z => z.size ≤ 16777216 ∧ dstK n dst fun u => K (s.set u (.own (.sl (some e) (z.data.toList.map dU))))
      | _ => False
    | _, _ => False)
  | .indexAddr t x y => (match (T t).ty with
    | .sl e => dstK n dst fun u => (T e).ok = true ∧ intK (evS s y) fun j => 0 ≤ j ∧ dindex (T e).w u (asSl s (slotOf x) (evS s x)) j.toNat s K
    | .arr len e => dstK n dst fun u => (T e).ok = true ∧ intK (evS s y) fun j => 0 ≤ j ∧ j < len ∧ dfield (j.toNat * (T e).w) j.toNat u (asPtr s (slotOf x) (evS s x)) s K
    | _ => False)
  | .index t x y => (∀ u, dst = some u → u < n) ∧ (match (T t).ty with
    | .str => @idxH (evS s x) (evS s y) ⟨fun r => K (s.setd dst (.val (.one r)))⟩
    | .arr len e => (T e).ok = true ∧ (match evS s x with
      | .val (.agg xs) => (D.flats xs).isSome = true ∧ xs.all (fun d => d.w == (T e).w) = true ∧ intK (evS s y) fun j => 0 ≤ j ∧ j < len ∧ (match xs[j.toNat]? with
        | some d => d.isAgg = (T e).ty.isAgg ∧ K (s.setd dst (.val d))
        | none => False)
      | _ => False)
    | _ => False)
  | .fieldAddr t x f => (match (T t).ty with
    | .agg fs => match fs[f]? with
      | some (off, ft) => dstK n dst fun u => dfield off f u (asPtr s (slotOf x) (evS s x)) s K
      | none => False
    | _ => False)
  | .box t x => dstK n dst fun u => (match srcOf s (slotOf x) (evS s x) with | .no => False | z => K ((z.st s).set u (.own (.bx true z.data))))
  | .alloc t => (T t).ok = true ∧ dstK n dst fun u => K (s.set u (.own (.bx true (T t).z)))
  | .build t parts => (match (T t).ty, (T t).z with
    | .agg fs, .agg zs => fs.all (fun x => (T x.2).ok) = true ∧ dstK n dst fun u => dbuild T fs zs u parts.toList s K
    | _, _ => False)
  | .buildSlice t len parts => (match (T t).ty with
    | .sl e => (T e).ok = true ∧ len * (T e).w ≤ 16777216 ∧ len ≤ 16777216 ∧ 0 < (T e).w ∧ dstK n dst fun u => dbuildS T e len u parts.toList s K
    | _ => False)
  | .makeSlice t x y => (match (T t).ty with
    | .sl e => (T e).ok = true ∧ intK (evS s x) fun l => intK (evS s y) fun c => 0 ≤ l ∧ l ≤ c ∧ c ≤ 1073741824 ∧ dstK n dst fun u => K (s.set u (.own (.sl (some e) (List.replicate l.toNat (T e).z))))
    | _ => False)
  | .slice t x lo hi none => (∀ u, dst = some u → u < n) ∧ (match (T t).ty with
    | .str => oneK (evS s x) fun v => match v with | .string z => dsliceT s z lo hi fun r => K (s.setd dst (.val (.one r))) | _ => False
    | .sl e => (T e).ok = true ∧ (match asSl s (slotOf x) (evS s x) with
      | .fr xs => xs.all (fun d => d.w == (T e).w) = true ∧ bndK s hi xs.length fun h => bndK s lo 0 fun l => l ≤ h ∧ h ≤ xs.length ∧ K (s.setd dst (.val (.sl none ((xs.drop l).take (h - l)))))
      | _ => False)
    | _ => False)
  | .extract (.tmp r) k => r < 1000000 ∧ dstK n dst fun u => dextract u r k s K
  | .nilCheck x => dstK n dst fun u => asPtr s (slotOf x) (evS s x) ≠ .un ∧ dmove u x s K
  | .call c => stepCall P T n c.callee c.args.toList c.argTypes.toList dst s K
  | .makeFunc fn fst caps => (match fn, fst.toList with
    | .func g, [] => dstK n dst fun u => if (T (1000000 + g)).w = 1000 then dmkW u g caps.toList s K else match caps.toList with
      | [.tmp c] => dmkFn u g (.tmp c) s K
      | _ => False
    | _, _ => False)
  | _ => False
theorem dstOk_of {n : Nat} {o : Oper} (h : ∀ u, o.dst = some u → u < n) : dstOk n o = true := by
  unfold dstOk
  split
  · rename_i t ht; simpa using h t ht
  · rfl
theorem dstK_of {n : Nat} {dst : Option Nat} {K : Nat → Prop} (h : dstK n dst K) : ∃ u, dst = some u ∧ u < n ∧ K u := by
  unfold dstK at h
  split at h
  · exact ⟨_, rfl, h⟩
  · exact h.elim
theorem Good.desc {P : Program} {T : TypeId → TyE} {t : TypeId} {x : Ty} (h : Good P T t) (hx : (T t).ty = x) (hn : x ≠ .no) : x.desc P t := by
  have := (h.of fun y hy => by rw [← hy, hx]; exact hn).1
  rw [hx] at this; exact this
theorem Good.under {P : Program} {T : TypeId → TyE} {t : TypeId} (h : Good P T t) (hn : (T t).ok = true) : ∃ d, P.underlying t = some d := by
  have := (h.of (TyE.ok_of hn)).1
  revert this
  cases (T t).ty <;> simp only [Ty.desc] <;> intro h
  case no => exact h.elim
  case ptr => obtain ⟨_, h⟩ := h; exact ⟨_, h⟩
  case ifc => obtain ⟨_, h⟩ := h; exact ⟨_, h⟩
  case fn => obtain ⟨_, _, _, h⟩ := h; exact ⟨_, h⟩
  case agg => obtain ⟨_, h, _⟩ := h; exact ⟨_, h⟩
  all_goals exact ⟨_, h⟩
section
variable {P : Program} {T : TypeId → TyE} {n : Nat} {w0 : World} {ow0 : Own} {o : Oper} {s : St} {K : St → Prop}
theorem stepCall_ok (hG : ∀ t, Good P T t) {c : Call} (ho : o.op = .call c) (h : stepCall P T n c.callee c.args.toList c.argTypes.toList o.dst s K) : Ok P n w0 ow0 o s K := by
  obtain ⟨cal, args, ts⟩ := c
  simp only at h
  unfold stepCall at h
  split at h
  · obtain ⟨h1, h2, h3⟩ := h
    split at h3
    · exact ok_callW h1 ho (dstOk_of h2) h3
    split at h3
    · split at h3
      · exact ok_call h1 ho (dstOk_of h2) h3
      · exact ok_callB h1 ho (dstOk_of h2) h3
    · exact ok_dcallM h1 ho (dstOk_of h2) h3
  · obtain ⟨h1, h2⟩ := h
    obtain ⟨v, hv, h3⟩ := oneK_of h2
    split at h3
    · rename_i g fst cap
      obtain ⟨rfl, h4, h5⟩ := h3
      split at h5
      · split at h5
        · rename_i bs hbs
          exact ok_callVW h4 hv hbs ho (dstOk_of h1) h5
        · exact h5.elim
      split at h5
      · rename_i ops hops
        exact ok_callV h4 hv hops ho (dstOk_of h1) h5
      · exact h5.elim
    · exact h3.elim
  · rename_i x t ha ht
    obtain ⟨h1, h2⟩ := h
    obtain rfl : args = #[x] := by apply Array.toList_inj.1; simpa using ha
    obtain rfl : ts = #[t] := by apply Array.toList_inj.1; simpa using ht
    split at h2
    · rename_i e hty
      exact ok_lenS ((hG t).desc hty (by simp)) ho (dstOk_of h1) h2
    · rename_i hty
      exact ok_lenT ((hG t).desc hty (by simp)) ho (dstOk_of h1) h2
    · exact h2.elim
  · rename_i x y t t' ha ht
    obtain ⟨rfl, h2⟩ := h
    obtain rfl : args = #[x, y] := by apply Array.toList_inj.1; simpa using ha
    obtain rfl : ts = #[t, t] := by apply Array.toList_inj.1; simpa using ht
    split at h2
    · rename_i e hty
      obtain ⟨u, hd, hu, h3, h4, h5⟩ := dstK_of h2
      exact ok_append hG ((hG t).desc hty (by simp)) h3 h4 ho hd hu h5
    · exact h2.elim
  · rename_i x y ha
    obtain ⟨h1, h2⟩ := h
    obtain rfl : args = #[x, y] := by apply Array.toList_inj.1; simpa using ha
    obtain ⟨a, hx, h3⟩ := oneK_of h2
    obtain ⟨b, hy, h4⟩ := oneK_of h3
    unfold mmK at h4
    split at h4
    · exact ok_mm (mx := false) ho (dstOk_of h1) hx hy h4
    · exact h4.elim
  · rename_i x y ha
    obtain ⟨h1, h2⟩ := h
    obtain rfl : args = #[x, y] := by apply Array.toList_inj.1; simpa using ha
    obtain ⟨a, hx, h3⟩ := oneK_of h2
    obtain ⟨b, hy, h4⟩ := oneK_of h3
    unfold mmK at h4
    split at h4
    · exact ok_mm (mx := true) ho (dstOk_of h1) hx hy h4
    · exact h4.elim
  · rename_i x y z ha
    obtain ⟨h1, h2⟩ := h
    obtain rfl : args = #[x, y, z] := by apply Array.toList_inj.1; simpa using ha
    obtain ⟨a, hx, h3⟩ := oneK_of h2
    obtain ⟨b, hy, h4⟩ := oneK_of h3
    obtain ⟨c, hz, h5⟩ := oneK_of h4
    unfold mmK3 at h5
    split at h5
    · exact ok_mm3 (mx := false) ho (dstOk_of h1) hx hy hz h5
    · exact h5.elim
  · rename_i x y z ha
    obtain ⟨h1, h2⟩ := h
    obtain rfl : args = #[x, y, z] := by apply Array.toList_inj.1; simpa using ha
    obtain ⟨a, hx, h3⟩ := oneK_of h2
    obtain ⟨b, hy, h4⟩ := oneK_of h3
    obtain ⟨c, hz, h5⟩ := oneK_of h4
    unfold mmK3 at h5
    split at h5
    · exact ok_mm3 (mx := true) ho (dstOk_of h1) hx hy hz h5
    · exact h5.elim
  · exact h.elim
theorem step_ok (hG : ∀ t, Good P T t) (h : stepOp P T n o.op o.dst s K) : Ok P n w0 ow0 o s K := by
  generalize ho : o.op = op at h
  unfold stepOp at h
  split at h
  · obtain ⟨u, hd, hu, h⟩ := dstK_of h; exact ok_move ho hd hu h
  · obtain ⟨u, hd, hu, h⟩ := dstK_of h; exact ok_assign ho hd hu h
  · obtain ⟨u, hd, hu, h⟩ := dstK_of h; exact ok_pick ho hd hu h
  · obtain ⟨u, hd, hu, h⟩ := dstK_of h; exact ok_load (hG _) ho hd hu _ (fun hf => hf.asPtr _) h
  · obtain ⟨h1, h2, h3⟩ := h; exact ok_store (hG _) (TyE.ok_of h2) ho h1 h3
  · obtain ⟨h1, h2⟩ := h
    split at h2
    · rename_i hty; exact ok_eqB ((hG _).desc hty (by simp)) ho (dstOk_of h1) h2
    · exact ok_eqS ho (dstOk_of h1) h2
    · rename_i e hty
      split at h2
      · exact ok_nilS ((hG _).desc hty (by simp)) ho (dstOk_of h1) h2
      · exact h2.elim
    · rename_i hty
      split at h2
      · obtain ⟨ms, hms⟩ := (hG _).desc hty (by simp)
        exact ok_ifc hms ho (dstOk_of h1) h2
      · exact h2.elim
    · exact ok_bin ho (dstOk_of h1) h2
  · exact ok_un ho (dstOk_of h.1) h.2
  · obtain ⟨h1, h2, h3⟩ := h
    split at h3
    · rename_i hs ht
      obtain ⟨d, hd⟩ := (hG _).under h2
      exact ok_convI ho hd ((hG _).desc ht (by simp)) (dstOk_of h1) h3
    · rename_i e hs ht
      obtain ⟨h4, h5, h6⟩ := h3
      split at h4
      · rename_i he
        split at h6
        · rename_i l hl
          exact ok_b2s ((hG _).desc hs (by simp)) ((hG _).desc he (by simp)) ((hG _).desc ht (by simp)) ho (dstOk_of h1) hl h5 h6
        · exact h6.elim
      · exact h4.elim
    · rename_i e hs ht
      obtain ⟨h4, h5, h6, h7⟩ := h3
      obtain ⟨v, hv, h8⟩ := oneK_of h7
      split at h6
      · rename_i he
        split at h8
        · rename_i z
          obtain ⟨h9, h10⟩ := h8
          obtain ⟨u, hd, hu, h11⟩ := dstK_of h10
          obtain ⟨_, i, zv, hi, hsz, _⟩ := (hG e).of (TyE.ok_of h4)
          exact ok_s2b ((hG _).desc hs (by simp)) ((hG _).desc ht (by simp)) ((hG _).desc he (by simp)) hi (hsz.trans h5) h9 ho hd hu hv h11
        · exact h8.elim
      · exact h6.elim
    · exact h3.elim
  · split at h
    · rename_i e hty
      obtain ⟨u, hd, hu, h1, h2⟩ := dstK_of h
      obtain ⟨k, j, hy, hj, h3⟩ := intK_of h2
      exact ok_index (hG e) (TyE.ok_of h1) ((hG _).desc hty (by simp)) ho hd hu hy hj h3
    · rename_i len e hty
      obtain ⟨u, hd, hu, h1, h2⟩ := dstK_of h
      obtain ⟨k, j, hy, hj, hj2, h3⟩ := intK_of h2
      obtain ⟨_, i, zv, hi, hsz, _⟩ := (hG e).of (TyE.ok_of h1)
      rw [← hsz] at h3
      exact ok_indexA ((hG _).desc hty (by simp)) hi ho hd hu hy hj hj2 h3
    · exact h.elim
  · obtain ⟨h1, h2⟩ := h
    split at h2
    · rename_i hty
      obtain ⟨v, hv, h3⟩ := oneK_of h2
      split at h3
      · obtain ⟨k, j, hy, hj, c, hc, hK⟩ := intK_of h3
        exact ok_byte ((hG _).desc hty (by simp)) ho (dstOk_of h1) hv hy hj hc hK
      · exact h3.elim
    · rename_i len e hty
      obtain ⟨h3, h4⟩ := h2
      split at h4
      · rename_i xs hx
        obtain ⟨h5, h6, h7⟩ := h4
        obtain ⟨k, j, hy, hj, hj2, h8⟩ := intK_of h7
        split at h8
        · rename_i d hget
          obtain ⟨cs, hcs⟩ := Option.isSome_iff_exists.1 h5
          exact ok_idxV hG ((hG _).desc hty (by simp)) h3 ho (dstOk_of h1) hx hcs hy hj hj2 h6 hget h8.1 h8.2
        · exact h8.elim
      · exact h4.elim
    · exact h2.elim
  · split at h
    · rename_i fs hty
      split at h
      · rename_i off ft hf
        obtain ⟨u, hd, hu, h⟩ := dstK_of h
        exact ok_fieldAddr (hG _) hty hf ho hd hu h
      · exact h.elim
    · exact h.elim
  · obtain ⟨u, hd, hu, h⟩ := dstK_of h; exact ok_box ho hd hu h
  · obtain ⟨h1, h2⟩ := h
    obtain ⟨u, hd, hu, h⟩ := dstK_of h2; exact ok_alloc (hG _) (TyE.ok_of h1) ho hd hu h
  · split at h
    · rename_i fs zs hty hz
      obtain ⟨h1, h2⟩ := h
      obtain ⟨u, hd, hu, h⟩ := dstK_of h2
      exact ok_build hG hty hz h1 ho hd hu h
    · exact h.elim
  · split at h
    · rename_i e hty
      obtain ⟨h1, h2, h3, h4, h5⟩ := h
      obtain ⟨u, hd, hu, h⟩ := dstK_of h5
      exact ok_buildS hG ((hG _).desc hty (by simp)) h1 h2 h3 h4 ho hd hu h
    · exact h.elim
  · split at h
    · rename_i e hty
      obtain ⟨h1, h2⟩ := h
      obtain ⟨k, l, hx, h3⟩ := intK_of h2
      obtain ⟨k', c, hy, h4, h5, h6, h7⟩ := intK_of h3
      obtain ⟨u, hd, hu, h⟩ := dstK_of h7
      exact ok_makeS hG ((hG _).desc hty (by simp)) h1 hx hy h4 h5 h6 ho hd hu h
    · exact h.elim
  · obtain ⟨h1, h2⟩ := h
    split at h2
    · rename_i hty
      exact ok_sliceT ((hG _).desc hty (by simp)) ho (dstOk_of h1) h2
    · rename_i e hty
      obtain ⟨h3, h4⟩ := h2
      split at h4
      · rename_i xs hx
        obtain ⟨_, i, zv, hi, hsz, _⟩ := (hG e).of (TyE.ok_of h3)
        exact ok_sliceF ((hG _).desc hty (by simp)) hi ho (dstOk_of h1) hx (by rw [hsz]; exact h4.1) h4.2
      · exact h4.elim
    · exact h2.elim
  · obtain ⟨h1, h2⟩ := h
    obtain ⟨u, hd, hu, h⟩ := dstK_of h2; exact ok_extract ho hd hu h1 h
  · obtain ⟨u, hd, hu, h1, h⟩ := dstK_of h; exact ok_nilCheck ho hd hu ⟨_, rfl, h1⟩ h
  · exact stepCall_ok hG ho h
  · rename_i fn fst caps
    split at h
    · rename_i g h1
      obtain rfl : fst = #[] := by apply Array.toList_inj.1; simpa using h1
      obtain ⟨u, hd, hu, h3⟩ := dstK_of h
      split at h3
      · exact ok_mkW ho hd hu h3
      · split at h3
        · rename_i c h2
          obtain rfl : caps = #[.tmp c] := by apply Array.toList_inj.1; simpa using h2
          exact ok_mkFn ho hd hu h3
        · exact h3.elim
    · exact h.elim
  · exact h.elim
def vcL (P : Program) (T : TypeId → TyE) (n : Nat) (ops : Array Oper) : List Oper → St → (St → Prop) → Prop
  | [], s, K => K s
  | o :: l, s, K => gK ops o s (stepOp P T n o.op o.dst s fun s' => vcL P T n ops l s' K) (dstOk n o = true ∧ vcL P T n ops l (s.setd o.dst (.tup [])) K)
theorem stepL_ok (hG : ∀ t, Good P T t) {ops : Array Oper} : ∀ (l : List Oper) (s : St) (K : St → Prop), vcL P T n ops l s K → OkL P n w0 ow0 ops l s K
  | [], s, K, h => h
  | o :: l, s, K, h => by
    have hm : ∀ (s' : St), vcL P T n ops l s' K → OkL P n w0 ow0 ops l s' K := fun s' hs' => stepL_ok hG l s' K hs'
    unfold OkL
    refine gK_mono h (fun h1 => ?_) fun h1 => ⟨h1.1, hm _ h1.2⟩
    intro a w hR next Q hn
    exact (step_ok hG h1 : Ok P n w0 ow0 o s _) a w hR next Q fun s' a' w' hK hR' => hn s' a' w' (hm s' hK) hR'
theorem okC_step (hG : ∀ t, Good P T t) {p : Pin} {id : Nat} {ops : Array Oper} {K : Exit → St → Prop} (h : vcL P T n ops ops.toList s (fun s' => K .normal s')) (hd : noDst p ops.toList = true) : OkC P n w0 ow0 p (.region id ops false) s K :=
  okC_region (stepL_ok hG _ _ _ h) hd
end
end Go.Dv
end
section
set_option linter.unusedVariables false
namespace Go.Dv
open Go.RowKit
set_option linter.unusedSectionVars false
variable [Glob]
section
variable {P : Program} {n : Nat} {w0 : World} {ow0 : Own} {p : Pin} {s : St} {K : Exit → St → Prop}
theorem okC_rg {T : TypeId → TyE} (hG : ∀ t, Good P T t) {id : Nat} {ops : Array Oper} {y : Code} (h : vcL P T n ops ops.toList s (fun s' => @blk St s' ⟨fun s' => OkC P n w0 ow0 p y s' K⟩)) (hd : noDst p ops.toList = true := by rfl) : OkC P n w0 ow0 p (.seq (.region id ops false) y) s K := okC_seq (okC_step hG h hd)
theorem okC_rg1 {T : TypeId → TyE} (hG : ∀ t, Good P T t) {id : Nat} {ops : Array Oper} (h : vcL P T n ops ops.toList s (fun s' => @blk St s' ⟨fun s' => K .normal s'⟩)) (hd : noDst p ops.toList = true := by rfl) : OkC P n w0 ow0 p (.region id ops false) s K := okC_step hG h hd
theorem okC_seq_k {x y : Code} (h : ∀ N : St → Prop, (∀ s', OkC P n w0 ow0 p y s' K → N s') → OkC P n w0 ow0 p x s (thenK N K)) : OkC P n w0 ow0 p (.seq x y) s K := okC_seq (h _ fun _ h => h)
theorem okC_rounds {c : Code} {X : Type} (I : X → List (Nat × S)) (μ : X → Nat) (ok : X → Prop) (x0 : X) (ts0 : List Nat) (hx : ok x0) (h0 : lessL (s.cools ts0) (I x0) (I x0))
    (round : ∀ x, ok x → ∀ K' : Exit → St → Prop, K' = thenK (fun s' => ∃ y ts, ok y ∧ μ y < μ x ∧ lessL (s'.cools ts) (I y) (I y)) K → OkC P n w0 ow0 p c (lst (I x)) K') : OkC P n w0 ow0 p (.loop c) s K :=
  okC_loop (fun x => lst (I x)) μ ok x0 hx (tells_list ts0 h0) fun x hok => okC_mono (round x hok _ rfl) fun e s' h => by
    cases e with
    | normal => obtain ⟨y, ts, h1, h2, h3⟩ := h; exact ⟨y, h1, h2, tells_list ts h3⟩
    | _ => exact h
theorem normalE {N : St → Prop} {K' : Exit → St → Prop} (h : K' = thenK N K) (hn : N s) : K' .normal s := by rw [h]; exact hn
theorem exitE {N : St → Prop} {K' : Exit → St → Prop} {id : Nat} (h : K' = thenK N K) (hn : K (.exit id) s) : K' (.exit id) s := by rw [h]; exact hn
theorem retE {N : St → Prop} {K' : Exit → St → Prop} (h : K' = thenK N K) (hn : K .ret s) : K' .ret s := by rw [h]; exact hn
end
class HidA where
  P : Prop
class HidB where
  P : Prop
def gH (ops : Array Oper) (o : Oper) (s : St) [A : HidA] [B : HidB] : Prop := gK ops o s A.P B.P
def gT (u : Option (Option Nat)) (s : St) (b : Bool) [A : HidA] [B : HidB] : Prop := match u with
  | some (some t) => gS (s t) b A.P B.P
  | _ => B.P
def gU (x : S) (b : Bool) [A : HidA] [B : HidB] : Prop := gS x b A.P B.P
def gI (c : Bool) [A : HidA] [B : HidB] : Prop := (c = true → A.P) ∧ (c = false → B.P)
theorem gI_of {c : Bool} {A B : Prop} (hA : c = true → A) (hB : c = false → B) : @gI c ⟨A⟩ ⟨B⟩ := ⟨hA, hB⟩
theorem gI_dec {p : Prop} [Decidable p] {A B : Prop} (hA : p → A) (hB : ¬ p → B) : @gI (decide p) ⟨A⟩ ⟨B⟩ := ⟨fun h => hA (by simpa using h), fun h => hB (by simpa using h)⟩
theorem gI_true {A B : Prop} : @gI true ⟨A⟩ ⟨B⟩ = A := by simp [gI]
theorem gI_false {A B : Prop} : @gI false ⟨A⟩ ⟨B⟩ = B := by simp [gI]
theorem gU_tup {l : List S} {b : Bool} {A B : Prop} : @gU (.tup l) b ⟨A⟩ ⟨B⟩ = B := rfl
theorem gU_yes {c : Bool} {A B : Prop} : @gU (.val (.one (.bool c))) true ⟨A⟩ ⟨B⟩ = @gI c ⟨A⟩ ⟨B⟩ := by
  unfold gU gS gI
  cases c <;> simp [oneK]
theorem gU_no {c : Bool} {A B : Prop} : @gU (.val (.one (.bool c))) false ⟨A⟩ ⟨B⟩ = @gI c ⟨B⟩ ⟨A⟩ := by
  unfold gU gS gI
  cases c <;> simp [oneK]
theorem gT_eq {t : Nat} {s : St} {b : Bool} {A B : Prop} : @gT (some (some t)) s b ⟨A⟩ ⟨B⟩ = @gU (s t) b ⟨A⟩ ⟨B⟩ := rfl
theorem gH_none {ops : Array Oper} {d : Option Nat} {op : Op} {ty : TypeId} {pos : String} {aft} {s : St} {A B : Prop} : @gH ops ⟨d, op, ty, pos, aft, none⟩ s ⟨A⟩ ⟨B⟩ = A := rfl
theorem gH_some {ops : Array Oper} {d : Option Nat} {op : Op} {ty : TypeId} {pos : String} {aft} {j : Nat} {b : Bool} {s : St} {A B : Prop} : @gH ops ⟨d, op, ty, pos, aft, some (j, b)⟩ s ⟨A⟩ ⟨B⟩ = @gT ((ops[j]?).map (·.dst)) s b ⟨A⟩ ⟨B⟩ := by
  unfold gH gK gT
  simp only
  cases ops[j]? with
  | none => rfl
  | some o => cases o with
    | mk d op ty pos aft g => cases d <;> rfl
section
variable {P : Program} {T : TypeId → TyE} {n : Nat} {ops : Array Oper} {s s' : St} {K : St → Prop} {o : Oper} {l : List Oper} {t : Nat} {x : S}
theorem vcL_nil : vcL P T n ops [] s K = K s := rfl
theorem vcL_put : vcL P T n ops (o :: l) (s.put t x) K = @gH ops o (s.put t x) ⟨stepOp P T n o.op o.dst (s.put t x) fun s' => vcL P T n ops l s' K⟩ ⟨dstOk n o = true ∧ vcL P T n ops l ((s.put t x).setd o.dst (.tup [])) K⟩ := rfl
theorem vcL_lst {L : List (Nat × S)} : vcL P T n ops (o :: l) (lst L) K = @gH ops o (lst L) ⟨stepOp P T n o.op o.dst (lst L) fun s' => vcL P T n ops l s' K⟩ ⟨dstOk n o = true ∧ vcL P T n ops l ((lst L).setd o.dst (.tup [])) K⟩ := rfl
theorem vcL_arg {ds : List D} : vcL P T n ops (o :: l) (argSt ds) K = @gH ops o (argSt ds) ⟨stepOp P T n o.op o.dst (argSt ds) fun s' => vcL P T n ops l s' K⟩ ⟨dstOk n o = true ∧ vcL P T n ops l ((argSt ds).setd o.dst (.tup [])) K⟩ := rfl
theorem vcL_kill : vcL P T n ops (o :: l) (s.kill t) K = @gH ops o (s.kill t) ⟨stepOp P T n o.op o.dst (s.kill t) fun s' => vcL P T n ops l s' K⟩ ⟨dstOk n o = true ∧ vcL P T n ops l ((s.kill t).setd o.dst (.tup [])) K⟩ := rfl
end
theorem isAny_one (v : Value) : (D.one v).isAny = false := rfl
theorem isAny_sl (o : Option TypeId) (xs : List D) : (D.sl o xs).isAny = false := rfl
theorem isAny_agg (xs : List D) : (D.agg xs).isAny = false := rfl
theorem isAny_bx (o : Bool) (x : D) : (D.bx o x).isAny = false := rfl
theorem isAny_any (n : Nat) : (D.any n).isAny = true := rfl
theorem isAgg_one (v : Value) : (D.one v).isAgg = false := rfl
theorem isAgg_sl (o : Option TypeId) (xs : List D) : (D.sl o xs).isAgg = false := rfl
theorem isAgg_agg (xs : List D) : (D.agg xs).isAgg = true := rfl
theorem isAgg_bx (o : Bool) (x : D) : (D.bx o x).isAgg = false := rfl
theorem isAgg_any (n : Nat) : (D.any n).isAgg = false := rfl
theorem isHd_one (v : Value) : (D.one v).isHd = false := rfl
theorem isHd_sl (o : Option TypeId) (xs : List D) : (D.sl o xs).isHd = true := rfl
theorem isHd_agg (xs : List D) : (D.agg xs).isHd = false := rfl
theorem isHd_bx (o : Bool) (x : D) : (D.bx o x).isHd = true := rfl
theorem isHd_any (n : Nat) : (D.any n).isHd = false := rfl
theorem hkid_one (v : Value) (i : Nat) : (D.one v).kid i = none := rfl
theorem hkid_sl (o : Option TypeId) (xs : List D) (i : Nat) : (D.sl o xs).kid i = xs[i]? := rfl
theorem hkid_agg (xs : List D) (i : Nat) : (D.agg xs).kid i = xs[i]? := rfl
theorem hkid_bx (o : Bool) (x : D) (i : Nat) : (D.bx o x).kid i = if i = 0 then some x else none := rfl
theorem hkid_any (n : Nat) (i : Nat) : (D.any n).kid i = none := rfl
theorem hsetKid_one (v : Value) (i : Nat) (y : D) : (D.one v).setKid i y = D.one v := rfl
theorem hsetKid_sl (o : Option TypeId) (xs : List D) (i : Nat) (y : D) : (D.sl o xs).setKid i y = D.sl o (xs.set i y) := rfl
theorem hsetKid_agg (xs : List D) (i : Nat) (y : D) : (D.agg xs).setKid i y = D.agg (xs.set i y) := rfl
theorem hsetKid_bx (o : Bool) (x : D) (i : Nat) (y : D) : (D.bx o x).setKid i y = D.bx o y := rfl
theorem hsetKid_any (n : Nat) (i : Nat) (y : D) : (D.any n).setKid i y = D.any n := rfl
def GoodE (P : Program) (t : TypeId) (e : TyE) : Prop := e.ty.desc P t ∧ ∃ i zv, P.info? t = some i ∧ i.size = e.w ∧ i.zero = some zv ∧ D.zf e.z = some zv.cells.toList ∧ e.z.isAgg = e.ty.isAgg ∧ (∃ cs, zv = .agg cs) = (e.ty.isAgg = true) ∧ i.bytes ≤ 4096 ∧ e.z.w = e.w
def allGood (P : Program) : List (Nat × TyE) → Prop
  | [] => True
  | (t, e) :: L => GoodE P t e ∧ allGood P L
def tab : List (Nat × TyE) → TypeId → TyE
  | [], _ => ⟨.no, 0, .any 0⟩
  | (t, e) :: L, u => if u = t then e else tab L u
theorem good_tab {P : Program} : ∀ {L : List (Nat × TyE)}, allGood P L → ∀ t, Good P (tab L) t
  | [], _, t => .inl trivial
  | (u, e) :: L, h, t => by
    by_cases hu : t = u
    · subst hu
      have : tab ((t, e) :: L) t = e := by simp [tab]
      unfold Good
      rw [this]
      exact .inr h.1
    · have : tab ((u, e) :: L) t = tab L t := by simp [tab, hu]
      have := good_tab h.2 t
      unfold Good at this ⊢
      simp only [tab, hu, if_false]
      exact this
attribute [go_sem] D.frzs_map D.allOwns_map D.fzs_mapf D.allOwn D.allOwns S.closed
attribute [go_sem] bytes?_nil bytes?_cons bytes?_map bytes?_append mmH_int mmH3_int idxH_str getH_some
attribute [go_sem] dcallW capBs dmkW tmpsOf lentK wantW putW St.fresh S.fresh
attribute [go_sem] St.cools St.cool lessL lessK vcL_nil vcL_put vcL_lst vcL_arg vcL_kill gH_none gH_some gT_eq gU_tup gU_yes gU_no gI_true gI_false stepOp stepCall capsOf capOps dcallB unbx dmkFn eqSK nilK ifcK flatS D.flat D.flats dstK intK oneK dmove dassign dpick dload dstore dfield dindex dextract dbuild dbuildS dappend dcall dcallM argK
  evS slotOf asPtr asSl srcOf Src.st Src.from Src.data SLv.xs takeK setParts partsOk rowOf places St.set St.setd St.free St.kill St.put St.dropAg S.drop S.root S.isOwn Value.oneCell'
  dbin binV arithK strK unV dconvI eqB bndK dsliceT D.okTy isAny_one isAny_sl isAny_agg isAny_bx isAny_any isAgg_one isAgg_sl isAgg_agg isAgg_bx isAgg_any isHd_one isHd_sl isHd_agg isHd_bx isHd_any hkid_one hkid_sl hkid_agg hkid_bx hkid_any hsetKid_one hsetKid_sl hsetKid_agg hsetKid_bx hsetKid_any D.w D.ws D.frz D.frzs D.fz D.fzs D.sub D.upd D.free TyE.ok Ty.isAgg dstOk lst argSt thenK blockK endK retK numb
end Go.Dv
end
section
set_option linter.unusedVariables false
namespace Go.Dv
open Go.RowKit
set_option linter.unusedSectionVars false
variable [Glob]
def rvOp : ResultVar → Operand
  | .tmp t => .tmp t
  | .cell a _ => .tmp a
def retL (T : TypeId → TyE) : List ResultVar → St → (List (D × Bool) → St → Prop) → Prop
  | [], s, K => K [] s
  | .tmp t :: rs, s, K => (match srcOf s t (evS s (.tmp t)) with | .no => False | _ => True) ∧ (srcOf s t (evS s (.tmp t))).from ≠ some res0 ∧
      retL T rs ((srcOf s t (evS s (.tmp t))).st s) fun ds s2 => K (((srcOf s t (evS s (.tmp t))).data, (srcOf s t (evS s (.tmp t))).from.isNone) :: ds) s2
  | .cell a ty :: rs, s, K => match asPtr s a (evS s (.tmp a)) with
    | .rf r p => match s r with
      | .own d => match D.sub p d with
        | some m => r ≠ res0 ∧ p ≠ [] ∧ m.okTy (T ty) = true ∧
            retL T rs ((s.kill r).put r (.own (D.upd p d (.any m.w)))) fun ds s2 => K ((m, false) :: ds) s2
        | none => False
      | _ => False
    | _ => False
def rvRun (tmps : Array Value) : ResultVar → Sem Value
  | .tmp t => pure (tmps.getD t undef)
  | .cell a t => do loadVar t (← asAddr (tmps.getD a undef))
theorem rvRun_eq (tmps : Array Value) (P : Program) (w : World) (g : ResultVar → Sem Value) (hg : ∀ t, g (.tmp t) = pure (tmps.getD t undef)) (hg2 : ∀ a t, g (.cell a t) = do loadVar t (← asAddr (tmps.getD a undef))) : ∀ r, g r = rvRun tmps r := by
  intro r
  cases r with
  | tmp t => exact hg t
  | cell a t => exact hg2 a t
theorem Fits.retL {P : Program} {T : TypeId → TyE} {n : Nat} {w0 w : World} {ow0 : Own} {a : Act} (hG : ∀ t, Good P T t) (lab : Nat → List Nat) : ∀ (rs : List ResultVar) (k : Nat) {ow : Own} {s : St} {K : List (D × Bool) → St → Prop}, Fits P n w0 ow0 ow s a w → Dv.retL T rs s K →
    ∃ vals ow' s' ds, K ds s' ∧ Fits P n w0 ow0 ow' s' a w ∧ ds.length = rs.length ∧ vals.length = rs.length ∧ (∀ (g : ResultVar → Sem Value), (∀ r, g r = rvRun a.tmps r) → (rs.mapM g).run P w = .ok vals w) ∧
      (∀ (j : Nat) (p : D × Bool), ds[j]? = some p → ∃ v, vals[j]? = some v ∧ V P w ow' p.1 (lab (k + j) ++ [res0]) v ∧ (p.2 = true → p.1.fz = p.1)) ∧ ∀ l, Keeps w ow (l ++ [res0]) w ow' (l ++ [res0])
  | [], k, ow, s, K, h, hk => ⟨[], ow, s, [], hk, h, rfl, rfl, fun g _ => rfl, fun j p hj => by simp at hj, fun l b _ => ⟨fun h => ⟨rfl, h⟩, fun q h => ⟨rfl, h⟩⟩⟩
  | r :: rs, k, ow, s, K, h, hk => by
    have go : ∀ (v : Value) (ow1 : Own) (s1 : St) (d : D) (b : Bool), (∀ (g : ResultVar → Sem Value), (∀ r, g r = rvRun a.tmps r) → (g r).run P w = .ok v w) → Fits P n w0 ow0 ow1 s1 a w → V P w ow1 d (lab k ++ [res0]) v → (b = true → d.fz = d) → (∀ l, Keeps w ow (l ++ [res0]) w ow1 (l ++ [res0])) →
        Dv.retL T rs s1 (fun ds s2 => K ((d, b) :: ds) s2) → ∃ vals ow' s' ds, K ds s' ∧ Fits P n w0 ow0 ow' s' a w ∧ ds.length = (r :: rs).length ∧ vals.length = (r :: rs).length ∧ (∀ (g : ResultVar → Sem Value), (∀ r, g r = rvRun a.tmps r) → ((r :: rs).mapM g).run P w = .ok vals w) ∧
          (∀ (j : Nat) (p : D × Bool), ds[j]? = some p → ∃ v, vals[j]? = some v ∧ V P w ow' p.1 (lab (k + j) ++ [res0]) v ∧ (p.2 = true → p.1.fz = p.1)) ∧ ∀ l, Keeps w ow (l ++ [res0]) w ow' (l ++ [res0]) := by
      intro v ow1 s1 d b hrun hf hV hb hkeep hrest
      obtain ⟨vals, ow', s', ds, k1, k2, k3, k4, k5, k6, k7⟩ := Fits.retL hG lab rs (k + 1) hf hrest
      refine ⟨v :: vals, ow', s', (d, b) :: ds, k1, k2, by simp [k3], by simp [k4], fun g hg => ?_, fun j p hj => ?_, fun l b hb => ?_⟩
      · simp only [List.mapM_cons, Sem.run_bind, hrun g hg, Result.andThen_ok, k5 g hg, Sem.run_pure]
      · cases j with
        | zero =>
          simp at hj
          subst hj
          exact ⟨v, rfl, V.tr (k7 (lab k)) hV, hb⟩
        | succ j =>
          simp at hj
          obtain ⟨v', e1, e2⟩ := k6 j p hj
          exact ⟨v', by simpa using e1, by rw [show k + (j + 1) = k + 1 + j by omega]; exact e2⟩
      · obtain ⟨a1, a2⟩ := hkeep l b hb
        obtain ⟨b1, b2⟩ := k7 l b hb
        exact ⟨fun h0 => ⟨rfl, (b1 (a1 h0).2).2⟩, fun q hq => ⟨rfl, (b2 q (a2 q hq).2).2⟩⟩
    cases r with
    | tmp t =>
      obtain ⟨h1, h2, h3⟩ := hk
      obtain ⟨ow1, g1, g2, g3⟩ := h.src (.tmp t) (lab k ++ [res0]) (srcOf s t (evS s (.tmp t))) rfl (by intro e; rw [e] at h1; exact h1)
      refine go (a.eval (.tmp t)) ow1 _ _ _ (fun g hg => by rw [hg]; rfl) g1 g2 ?_ (fun l => g3 l res0 h2) h3
      intro hb
      cases hz : srcOf s t (evS s (.tmp t)) with
      | fr d => simp only [Src.data]; exact D.fz_fz d
      | all r d => rw [hz] at hb; cases hb
      | nd r p d m => rw [hz] at hb; cases hb
      | no => rw [hz] at h1; exact h1.elim
    | cell x ty =>
      unfold Dv.retL at hk
      have hp := h.asPtr (.tmp x)
      simp only [slotOf] at hp
      split at hk
      · rename_i r p hrp
        rw [hrp] at hp
        split at hk
        · rename_i d hs
          split at hk
          · rename_i m hm
            obtain ⟨hr0, hp0, hty, hrest⟩ := hk
            obtain ⟨d', m', b, off, h1, h2, h3, h4⟩ := hp
            rw [hs] at h1
            obtain rfl : d = d' := by injection h1
            rw [hm] at h2
            obtain rfl : m = m' := Option.some.inj h2
            have hVr := h.slot r
            rw [hs] at hVr
            have hR : R P w ow d [r] [aval a r] := by
              cases p with
              | nil => exact absurd rfl hp0
              | cons k p => exact V.one hVr h3
            obtain ⟨hL, _, _⟩ := hR.at h3 hm
            obtain ⟨v, hv, hV, _⟩ := run_load (hG ty) hty hL
            obtain ⟨g1, g2⟩ := h.take hs hm hp0 (lab k ++ [res0]) hV
            refine go v _ _ m false (fun g hg => ?_) g1 g2 (fun hb => by cases hb) (fun l => keeps_take hr0) hrest
            rw [hg]
            have he : a.tmps.getD x undef = .pointer (some ⟨b, off, none⟩) := h4
            simp only [rvRun, he, asAddr, Sem.run_bind, Sem.run_pure, Result.andThen_ok]
            simp only [Instr.loadAt, Instr.sureAddr, Sem.run_bind, Sem.run_pure, Result.andThen_ok] at hv
            exact hv
          · exact hk.elim
        · exact hk.elim
      · exact hk.elim
def retS : List (D × Bool) → S
  | [(d, b)] => if b || d.frz then .val d else .own d
  | ds => .tup (ds.map fun p => if p.2 || p.1.frz then .val p.1 else .own p.1)
def endR (T : TypeId → TyE) (rs : List ResultVar) (Q : S → Prop) : Exit → St → Prop
  | .normal, s => retL T rs s fun ds _ => Q (retS ds)
  | .ret, s => retL T rs s fun ds _ => Q (retS ds)
  | _, _ => False
def argB : List (Nat × D) → List D → St
  | [], ds => argSt ds
  | (b, d) :: gs, ds => (argB gs ds).put (1000000 + 2 * b) (.rp d)
theorem argB_own : ∀ (gs : List (Nat × D)) (ds : List D) (i : Nat), (argB gs ds i).isOwn = false
  | [], ds, i => by
    simp only [argB, argSt]
    cases ds[i]? <;> rfl
  | (b, d) :: gs, ds, i => by
    simp only [argB, St.put]
    split
    · rfl
    · exact argB_own gs ds i
theorem fn_ofB {P : Program} {T : TypeId → TyE} {f : FuncId} {fn : Func} {c : Code} {n : Nat} {rs : List ResultVar} {ds : List D} {gs : List (Nat × D)} {Q : S → Prop} (hG : ∀ t, Good P T t) (hf : P.funcs[f]? = some fn) (hb : fn.body = some c) (hn' : fn.ntmps = n) (hn : n ≤ 1000000) (hd : ds.length ≤ n)
    (hr : fn.results = rs.toArray) (h : ∀ w0 ow0, OkC P n w0 ow0 none c (argB gs ds) (endR T rs Q)) : FnOkB P f ds gs Q := by
  subst hn'
  intro w ow vs t ht hL hnew hvs hargs hgs
  refine calls_of_wp hf hb ?_
  have hfit0 : Fits P fn.ntmps w (fun b => (ow b).map (· ++ [far0])) (fun b => (ow b).map (· ++ [far0])) (argSt ds) { tmps := vs ++ Array.replicate (fn.ntmps - vs.size) undef, defers := [] } w := by
    refine ⟨rfl, by simp; omega, hn, (hL.mono fun b o h1 h2 => ⟨h1, by simp [h2]⟩), ⟨rfl, rfl, rfl, Nat.le_refl _, fun _ _ _ => rfl⟩, fun _ _ h => h, fun b hb => by simp [hnew b hb], ?_, fun _ _ _ h => ⟨rfl, h⟩, fun i => ?_⟩
    · unfold argSt
      rw [List.getElem?_eq_none (by unfold far0; omega)]
    · unfold argSt
      cases hdi : ds[i]? with
      | none => trivial
      | some d =>
        have hi : i < ds.length := (List.getElem?_eq_some_iff.1 hdi).1
        have := hargs i d hdi
        simp only [SV]
        have he : aval { tmps := vs ++ Array.replicate (fn.ntmps - vs.size) undef, defers := [] } i = vs.getD i undef := by
          unfold aval
          rw [if_pos (by omega)]
          simp only [Array.getD_eq_getD_getElem?]
          rw [Array.getElem?_append_left (by omega)]
        rw [he]
        exact V.trf (fun b _ ho => ⟨rfl, by simp [ho]⟩) this
  have hfit : Fits P fn.ntmps w (fun b => (ow b).map (· ++ [far0])) (fun b => (ow b).map (· ++ [far0])) (argB gs ds) { tmps := vs ++ Array.replicate (fn.ntmps - vs.size) undef, defers := [] } w := by
    clear h
    induction gs with
    | nil => exact hfit0
    | cons p gs ih =>
      obtain ⟨b, d⟩ := p
      have h1 := hgs (b, d) (by simp)
      refine (ih fun p hp => hgs p (by simp [hp])).tell (by unfold far0; omega) (argB_own gs ds _) ?_
      have hq : Quiet w ow w (fun b => (ow b).map (· ++ [far0])) := fun b _ ho => ⟨rfl, by simp [ho]⟩
      have h2 := V.trf (l2 := []) hq h1
      simp only [V, D.fz, R] at h2
      obtain ⟨b', off, C, e, fz, cs, g1, g2, g3, _, g5, g6, g7⟩ := h2
      simp only [List.cons.injEq, Value.pointer.injEq, Option.some.injEq, and_true] at g1
      obtain ⟨rfl, rfl, _⟩ := Addr.mk.inj g1
      simp only [SV]
      refine ⟨b, 0, ?_, g3 trivial, C, e, fz, cs, g2, fun j hj => g6 j (by rw [g5]; exact hj), R.trf (fun b _ hb => ⟨rfl, hb⟩) g7⟩
      unfold aval
      rw [if_neg (by omega)]
      have : (1000000 + 2 * b - 1000000) / 2 = b := by omega
      rw [this]
  refine h w _ _ w ⟨_, hfit⟩ (fun m v e => by cases e) _ fun e s' a' w' hK hR _ => ?_
  have key : retL T rs s' (fun ds _ => Q (retS ds)) → bodyPost P fn (fun e w' => ∃ v ow' r, e = .returned v ∧ Q r ∧ After w ow w' ow' ∧ S.plain r = true ∧ ∀ s a, SV P w' ow' s a t r v) .ret a' w' := by
    intro hK
    obtain ⟨ow1, hf1⟩ := hR
    obtain ⟨vals, ow2, s2, ds2, hQ, hf2, hl1, hl2, hrun, hvals, hkeep⟩ := hf1.retL hG (fun k => if rs.length = 1 then [] else [k]) rs 0 hK
    have hres : (results fn a'.tmps).run P w' = .ok (if h : vals.toArray.size = 1 then vals.toArray[0] else .tuple vals.toArray) w' := by
      unfold results
      rw [hr]
      have hb : ∀ {α β : Type} (x : Sem α) (g : α → Sem β), Sem.run P (Sem.bind x g) w' = (Sem.run P x w').andThen fun a w' => Sem.run P (g a) w' := fun x g => Sem.run_bind ..
      simp only [List.mapM_toArray, Functor.map, Sem.run_bind, Sem.run_pure]
      rw [hb, hrun _ (rvRun_eq a'.tmps P w' _ (fun _ => rfl) fun _ _ => rfl)]
      rfl
    refine ⟨hf1.nodef, _, hres, ?_⟩
    have hnone : ∀ b, ow2 b = none → leave w ow ow2 t b = none := by
      intro b hb
      unfold leave
      split
      · rename_i hlt
        cases ho : ow b with
        | none => rfl
        | some q =>
          have := (hf2.keep b hlt q (by simp [ho])).2
          rw [hb] at this; cases this
      · simp [hb]
    have hold : ∀ b q, b < w.heap.size → ow2 b ≠ some (q ++ [res0]) := by
      intro b q hlt e
      cases ho : ow b with
      | none =>
        have := hf2.own b hlt (by simp [ho])
        rw [e] at this; cases this
      | some q' =>
        have := (hf2.keep b hlt q' (by simp [ho])).2
        rw [e] at this
        have := congrArg List.getLast? (Option.some.inj this)
        simp [res0, far0] at this
    have hk : ∀ l, Keeps w' ow2 (l ++ [res0]) w' (leave w ow ow2 t) (l ++ [t]) := fun l b _ => ⟨fun ho => ⟨rfl, hnone b ho⟩, fun q hq => ⟨rfl, by
      have hq' : ow2 b = some ((q ++ l) ++ [res0]) := by rw [hq]; simp
      unfold leave
      rw [if_neg fun hlt => hold b _ hlt hq', hq']
      simp⟩⟩
    have hq : Quiet w' ow2 w' (leave w ow ow2 t) := fun b _ ho => ⟨rfl, hnone b ho⟩
    have part : ∀ (j : Nat) (p : D × Bool), ds2[j]? = some p → ∃ v, vals[j]? = some v ∧ (if (p.2 || p.1.frz) = true then V P w' (leave w ow ow2 t) p.1.fz [] v else V P w' (leave w ow ow2 t) p.1 ((if rs.length = 1 then [] else [j]) ++ [t]) v) := by
      intro j p hj
      obtain ⟨v, h1, h2, h3⟩ := hvals j p hj
      rw [Nat.zero_add] at h2
      refine ⟨v, h1, ?_⟩
      by_cases hp : (p.2 || p.1.frz) = true
      · rw [if_pos hp]
        have hfz : p.1.fz = p.1 := by
          rcases Bool.or_eq_true _ _ ▸ hp with hp | hp
          · exact h3 hp
          · exact D.fz_frz hp
        rw [← hfz] at h2
        exact V.trf hq h2
      · rw [if_neg hp]
        exact V.tr (hk _) h2
    refine ⟨_, leave w ow ow2 t, retS ds2, rfl, hQ, ⟨hf2.bel.os, hf2.bel.tape, hf2.bel.output, hf2.bel.size, fun b hb => ⟨?_, by unfold leave; rw [if_pos hb]⟩, fun b hb => hnone b (hf2.new b hb)⟩, ?_, fun s a => ?_⟩
    · cases ho : ow b with
      | none => exact hf2.bel.block b hb (by simp [ho])
      | some q => exact (hf2.keep b hb q (by simp [ho])).1
    · unfold retS
      split
      · split <;> rfl
      · rfl
    · by_cases hone : rs.length = 1
      · have hd1 : ds2.length = 1 := by rw [hl1, hone]
        have hv1 : vals.length = 1 := by rw [hl2, hone]
        obtain ⟨⟨d, b⟩, rfl⟩ := List.length_eq_one_iff.1 hd1
        obtain ⟨v, rfl⟩ := List.length_eq_one_iff.1 hv1
        · obtain ⟨v', h1, h2⟩ := part 0 (d, b) rfl
          obtain rfl : v = v' := by simpa using h1
          rw [if_pos hone] at h2
          simp only [retS]
          by_cases hp : (b || d.frz) = true
          · rw [if_pos hp] at h2 ⊢
            exact h2
          · rw [if_neg hp] at h2 ⊢
            exact h2
      · have hd1 : ∀ p, ds2 ≠ [p] := fun p e => by rw [e] at hl1; simp at hl1; exact hone hl1.symm
        have htup : retS ds2 = .tup (ds2.map fun p => if p.2 || p.1.frz then .val p.1 else .own p.1) := by
          unfold retS
          split
          · rename_i d b; exact absurd rfl (hd1 _)
          · rfl
        rw [htup]
        refine ⟨vals.toArray, ?_, by simp [hl1, hl2], fun j x hx => ?_⟩
        · rw [dif_neg]
          simp [hl2, hone]
        · simp only [List.getElem?_map, Option.map_eq_some_iff] at hx
          obtain ⟨p, hp, rfl⟩ := hx
          obtain ⟨v, h1, h2⟩ := part j p hp
          have hv : vals.toArray.getD j undef = v := by simp [Array.getD_eq_getD_getElem?, h1]
          rw [hv]
          by_cases hpf : (p.2 || p.1.frz) = true
          · rw [if_pos hpf] at h2 ⊢
            exact h2
          · rw [if_neg hpf] at h2 ⊢
            rw [if_neg hone] at h2
            exact h2
  cases e with
  | normal => exact key hK
  | ret => exact key hK
  | _ => exact hK.elim
theorem fn_of {P : Program} {T : TypeId → TyE} {f : FuncId} {fn : Func} {c : Code} {n : Nat} {rs : List ResultVar} {ds : List D} {Q : S → Prop} (hG : ∀ t, Good P T t) (hf : P.funcs[f]? = some fn) (hb : fn.body = some c) (hn' : fn.ntmps = n) (hn : n ≤ 1000000) (hd : ds.length ≤ n)
    (hr : fn.results = rs.toArray) (h : ∀ w0 ow0, OkC P n w0 ow0 none c (argSt ds) (endR T rs Q)) : FnOk P f ds Q := fun w ow vs t h0 h1 h2 h3 h4 => fn_ofB (gs := []) hG hf hb hn' hn hd hr h w ow vs t h0 h1 h2 h3 h4 (fun p hp => by simp at hp)
attribute [go_sem] argB endR retL retS rvOp res0 far0
end Go.Dv
end
section
set_option linter.unusedVariables false
namespace Go.Dv
open Go.RowKit
set_option linter.unusedSectionVars false
variable [Glob]
def tabM (M : List (Nat × Nat)) (L : List (Nat × TyE)) (t : TypeId) : TyE := match M.lookup t with
  | some m => ⟨.no, m + 1, .any 0⟩
  | none => tab L t
theorem good_tabM {P : Program} {M : List (Nat × Nat)} {L : List (Nat × TyE)} (h : allGood P L) (t : TypeId) : Good P (tabM M L) t := by
  unfold Good tabM
  cases hM : M.lookup t with
  | some m => exact .inl trivial
  | none =>
    have := good_tab h t
    unfold Good at this
    exact this
def fldsOk (P : Program) : List Field → Prop
  | [] => True
  | f :: l => (f.name ≠ "_" ∧ ∃ i, P.info? f.type = some i ∧ 0 < i.size) ∧ fldsOk P l
theorem fldsOk.mem {P : Program} : ∀ {l : List Field}, fldsOk P l → ∀ f ∈ l, f.name ≠ "_" ∧ ∃ i, P.info? f.type = some i ∧ 0 < i.size
  | f :: l, h, g, hg => by
    rcases List.mem_cons.1 hg with rfl | hg
    · exact h.1
    · exact h.2.mem g hg
theorem fn_plain {P : Program} {f : FuncId} {ds : List D} {u : Value} (hu : u.oneCell' = true) (h : ∀ (w : World) (ow : Own) (vs : Array Value), Laid w ow → vs.size = ds.length → (∀ (i : Nat) (d : D), ds[i]? = some d → V P w ow d.fz [] (vs.getD i undef)) → Calls P f vs w fun e w' => e = .returned u ∧ Below w.heap.size w w') :
    FnOk P f ds (fun r => r = .val (.one u)) := by
  intro w ow vs t ht hL hnew hvs hargs
  refine (h w ow vs hL hvs hargs).mono ?_
  rintro e w' ⟨rfl, hB⟩
  refine ⟨u, fun b => if b < w.heap.size then ow b else none, _, rfl, rfl, ⟨hB.os, hB.tape, hB.output, hB.size, fun b hb => ⟨hB.block b hb, if_pos hb⟩, fun b hb => if_neg (by have := hB.size; omega)⟩, rfl, fun s a => SV.val_one hu⟩
end Go.Dv
end
