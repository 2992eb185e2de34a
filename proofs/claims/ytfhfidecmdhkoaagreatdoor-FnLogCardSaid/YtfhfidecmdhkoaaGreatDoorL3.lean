/- General lemmas (data by value) and the walks on which the law's proof leans, part 3. No condition. -/
import Derived.Test.YtfhfidecmdhkoaaGreatDoorL2
import Derived.Test.YtfhfidecmdhkoaaGreatDoorProg
import Derived.Lib.LaidTab
import Derived.Lib.ItoaNum
import Derived.Shelf.Strconv.Itoa3
import Derived.StillTail
set_option linter.unusedVariables false
set_option linter.unusedSimpArgs false
set_option linter.unusedSectionVars false
section
namespace Go.Dv
open Go.RowKit
variable [Glob]
def FnW (P : Program) (f : FuncId) (ds : List D) (cs : List (Nat × Option D)) (rd gs : List (Nat × D)) (Q : S → List D → Prop) : Prop :=
  ∀ (w : World) (ow : Own) (vs : Array Value) (t : Nat), t < 1000000 → Laid w ow → (∀ b, w.heap.size ≤ b → ow b = none) → vs.size = ds.length + cs.length →
    (∀ (i : Nat) (d : D), ds[i]? = some d → V P w ow d.fz [] (vs.getD i undef)) →
    (∀ (j : Nat) (c : Nat × Option D), cs[j]? = some c → vs.getD (ds.length + j) undef = .pointer (some ⟨c.1, 0, none⟩)) →
    (∀ p ∈ rd, V P w ow (D.bx false p.2).fz [] (.pointer (some ⟨p.1, 0, none⟩))) →
    (∀ g ∈ gs, V P w ow (.bx true g.2) [1000000 + 2 * g.1] (.pointer (some ⟨g.1, 0, none⟩))) →
    Calls P f vs w fun e w' => ∃ v ow' r ds', e = .returned v ∧ Q r ds' ∧ w'.os = w.os ∧ w'.tape = w.tape ∧ w'.output = w.output ∧ w.heap.size ≤ w'.heap.size ∧
      (∀ b, b < w.heap.size → (∀ g ∈ gs, ∀ q, ow b ≠ some (q ++ [1000000 + 2 * g.1])) → w'.heap[b]? = w.heap[b]? ∧ ow' b = ow b) ∧ (∀ b, w'.heap.size ≤ b → ow' b = none) ∧
      ds'.length = gs.length ∧ (∀ (j : Nat) (g : Nat × D) (d' : D), gs[j]? = some g → ds'[j]? = some d' → V P w' ow' (.bx true d') [1000000 + 2 * g.1] (.pointer (some ⟨g.1, 0, none⟩))) ∧ S.plain r = true ∧ ∀ s a, SV P w' ow' s a t r v
theorem FnW.mono {P : Program} {f : FuncId} {ds : List D} {cs : List (Nat × Option D)} {rd gs : List (Nat × D)} {Q Q' : S → List D → Prop} (h : FnW P f ds cs rd gs Q) (hq : ∀ r ds', Q r ds' → Q' r ds') : FnW P f ds cs rd gs Q' := fun w ow vs t h1 h2 h3 h4 h5 h6 h7 h8 =>
  (h w ow vs t h1 h2 h3 h4 h5 h6 h7 h8).mono fun e w' ⟨v, ow', r, ds', g1, g2, g3⟩ => ⟨v, ow', r, ds', g1, hq r ds' g2, g3⟩
def lentK (s : St) : List (Nat × D) → Prop
  | [] => True
  | (b, d) :: gs => s (1000000 + 2 * b) = .own (.bx true d) ∧ lentK s gs
theorem lentK_mem {s : St} : ∀ {gs : List (Nat × D)}, lentK s gs → ∀ g ∈ gs, s (1000000 + 2 * g.1) = .own (.bx true g.2)
  | [], _, g, hg => by simp at hg
  | (b, d) :: gs, h, g, hg => by
    rcases List.mem_cons.1 hg with rfl | hg
    · exact h.1
    · exact lentK_mem h.2 g hg
def S.fresh (ks : List Nat) (x : S) : S := match x with
  | .rf r p => if ks.contains r then (if p = [0] then .rf r [0] else .un) else .rf r p
  | .al r p => if ks.contains r then .un else .al r p
  | .ag r p => if ks.contains r then .un else .ag r p
  | x => x
def St.fresh (ks : List Nat) (s : St) : St := fun j => (s j).fresh ks
def putW : List (Nat × D) → List D → St → St
  | (b, _) :: gs, d :: ds, s => (putW gs ds s).put (1000000 + 2 * b) (.own (.bx true d))
  | _, _, s => s
theorem putW_out : ∀ {gs : List (Nat × D)} {ds : List D} {s : St} {i : Nat}, (∀ g ∈ gs, i ≠ 1000000 + 2 * g.1) → putW gs ds s i = s i
  | [], ds, s, i, _ => by simp [putW]
  | _ :: _, [], s, i, _ => by simp [putW]
  | (b, d0) :: gs, d :: ds, s, i, h => by
    have h1 := h (b, d0) (by simp)
    simp only [putW, St.put, if_neg h1]
    exact putW_out fun g hg => h g (by simp [hg])
theorem putW_in : ∀ {gs : List (Nat × D)} {ds : List D} {s : St} {g : Nat × D}, ds.length = gs.length → g ∈ gs → ∃ (j : Nat) (g' : Nat × D) (d' : D), gs[j]? = some g' ∧ ds[j]? = some d' ∧ g'.1 = g.1 ∧ putW gs ds s (1000000 + 2 * g.1) = .own (.bx true d')
  | [], _, s, g, _, hg => by simp at hg
  | _ :: _, [], s, g, hl, _ => by simp at hl
  | (b, d0) :: gs, d :: ds, s, g, hl, hg => by
    by_cases hb : b = g.1
    · exact ⟨0, (b, d0), d, rfl, rfl, hb, by simp [putW, St.put, hb]⟩
    · have hg' : g ∈ gs := by
        rcases List.mem_cons.1 hg with rfl | h
        · exact absurd rfl hb
        · exact h
      obtain ⟨j, g', d', h1, h2, h3, h4⟩ := putW_in (s := s) (by simpa using hl) hg'
      refine ⟨j + 1, g', d', by simpa using h1, by simpa using h2, h3, ?_⟩
      have : 1000000 + 2 * g.1 ≠ 1000000 + 2 * b := by omega
      simp only [putW, St.put, if_neg this]
      exact h4
class HidW where
  L : List (Nat × D) → List (Nat × D) → (List Nat → Prop) → Prop
  K : S → List D → List (Nat × D) → Prop
def wantW (s : St) (rd gs : List (Nat × D)) (C : List Nat → Prop) : Prop := lentK s gs ∧ argK s (rd.map fun p => Operand.global p.1) fun ds2 rs2 => (unbx ds2).map D.fzs = some (D.fzs (rd.map fun p => p.2)) ∧ C rs2
def callW (P : Program) (f : FuncId) (ds : List D) (bs rs : List Nat) [k : HidW] : Prop :=
  ∃ cs rd gs Q, FnW P f ds cs rd gs Q ∧ cs.map (fun c => c.1) = bs ∧ k.L rd gs fun rs2 => (∀ r ∈ rs ++ rs2, ∀ g ∈ gs, r ≠ 1000000 + 2 * g.1) ∧ ∀ r ds', Q r ds' → (rs ++ rs2 = [] ∨ (r.closed = true ∧ D.allOwns ds' = true)) ∧ k.K r ds' gs
def dcallW (s : St) (u : Option Nat) (f : FuncId) (P : Program) (args : List Operand) (bs : List Nat) (K : St → Prop) : Prop :=
  argK s args fun ds rs => @callW _ P f ds bs rs ⟨wantW s, fun r ds' gs => K ((putW gs ds' (s.fresh (gs.map fun g => 1000000 + 2 * g.1))).setd u r)⟩
theorem lend_miss {rs : List Nat} {ow : Own} {b r : Nat} {q : List Nat} (h : ow b = some (q ++ [r])) (hr : r ∉ rs) : lend rs ow b = some (q ++ [r]) := by simp [lend, h, hr]
theorem lend_some {rs : List Nat} {ow : Own} {b : Nat} {l : List Nat} (h : lend rs ow b = some l) : ow b = some l := by
  unfold lend at h
  split at h
  · rename_i l' hl
    split at h
    · cases h
    · rw [hl]; exact h
  · cases h
open Classical in
noncomputable def backL (w : World) (gs : List (Nat × D)) (ow ow' : Own) : Own := fun b => if b < w.heap.size ∧ (∀ g ∈ gs, ∀ q, ow b ≠ some (q ++ [1000000 + 2 * g.1])) then ow b else ow' b
theorem ok_callGW {P : Program} {n : Nat} {w0 : World} {ow0 : Own} {o : Oper} {s : St} {K : St → Prop} {f : FuncId} {args : List Operand} {cap : List Value} {bs : List Nat}
    (hrun : ∀ a w ow, Fits P n w0 ow0 ow s a w → (execOp a.eval o).run P w = .ok (.enter f (args.map a.eval ++ cap).toArray) w) (hcap : cap = bs.map fun b => Value.pointer (some ⟨b, 0, none⟩)) (hd : dstOk n o = true)
    (h : dcallW s o.dst f P args bs K) : Ok P n w0 ow0 o s K := by
  intro a w ⟨ow, hf⟩ next Q' hn
  obtain ⟨ds, rs, ⟨cs, rd, gs, Q, hfn, hcs, hlent, hwant⟩, hlen, hargs⟩ := hf.argK _ h
  obtain ⟨ds2, rs2, ⟨hub, hdis, hK⟩, hlen2, hrd2⟩ := hf.argK _ hwant
  have hgs := lentK_mem hlent
  unfold Oper.wp
  rw [hrun a w ow hf]
  simp only [Oper.upon]
  obtain ⟨t, ht, hdt⟩ : ∃ t, t < 1000000 ∧ ∀ u, o.dst = some u → u = t ∧ u < n := by
    cases hd' : o.dst with
    | none => exact ⟨0, by decide, fun u hu => by cases hu⟩
    | some u =>
      have hu : u < n := by simpa [dstOk, hd'] using hd
      have hsm := hf.small
      exact ⟨u, Nat.lt_of_lt_of_le hu hsm, fun u' hu' => by obtain rfl := Option.some.inj hu'; exact ⟨rfl, hu⟩⟩
  have hcl : cs.length = bs.length := by rw [← hcs]; simp
  have hav : ∀ b, aval a (1000000 + 2 * b) = .pointer (some ⟨b, 0, none⟩) := fun b => by
    unfold aval
    rw [if_neg (by omega)]
    have : (1000000 + 2 * b - 1000000) / 2 = b := by omega
    rw [this]
  have hfar : ∀ b, 1000000 + 2 * b ≠ far0 := fun b => by unfold far0; omega
  have hgV : ∀ g ∈ gs, V P w (lend (rs ++ rs2) ow) (.bx true g.2) [1000000 + 2 * g.1] (.pointer (some ⟨g.1, 0, none⟩)) := by
    intro g hg
    have h1 := hf.slot (1000000 + 2 * g.1)
    rw [hgs g hg, hav] at h1
    refine V.tr (fun b _ => ⟨fun ho => ⟨rfl, lend_none ho⟩, fun q hq => ⟨rfl, ?_⟩⟩) h1
    exact lend_miss hq fun hm => hdis _ hm g hg rfl
  refine (hfn w (lend (rs ++ rs2) ow) (args.map a.eval ++ cap).toArray t ht (hf.laidNow.mono fun b o h1 h2 => ⟨h1, lend_none h2⟩) (fun b hb => lend_none (hf.new b hb)) (by simp [hlen, hcl, hcap]) (fun i d hi => ?_) (fun j c hj => ?_) (fun p hp => ?_) hgV).mono ?_
  · obtain ⟨x, h1, h2⟩ := hargs (rs ++ rs2) (fun r hr => by simp [hr]) i d hi
    have hil : i < args.length := (List.getElem?_eq_some_iff.1 h1).1
    have : (args.map a.eval ++ cap).toArray.getD i undef = a.eval x := by
      simp only [Array.getD_eq_getD_getElem?, List.getElem?_toArray]
      rw [List.getElem?_append_left (by simpa using hil), List.getElem?_map, h1]
      rfl
    rw [this]; exact h2
  · have hb : bs[j]? = some c.1 := by rw [← hcs, List.getElem?_map, hj]; rfl
    simp only [Array.getD_eq_getD_getElem?, List.getElem?_toArray]
    rw [List.getElem?_append_right (by simp [hlen])]
    simp [hlen, hcap, hb]
  · obtain ⟨i, hi⟩ := List.getElem?_of_mem hp
    cases hu : unbx ds2 with
    | none => rw [hu] at hub; cases hub
    | some ms =>
      rw [hu] at hub
      obtain ⟨hml, hmg⟩ := unbx_get hu
      simp only [Option.map_some, Option.some.injEq] at hub
      have h3 : (D.fzs ms)[i]? = some p.2.fz := by rw [hub, D.fzs_map, List.getElem?_map, List.getElem?_map, hi]; rfl
      rw [D.fzs_map, List.getElem?_map, Option.map_eq_some_iff] at h3
      obtain ⟨m, hm, hmz⟩ := h3
      obtain ⟨oo, hd2⟩ := hmg i m hm
      obtain ⟨x, hx, hV⟩ := hrd2 (rs ++ rs2) (fun r hr => by simp [hr]) i _ hd2
      simp only [List.getElem?_map, hi, Option.map_some, Option.some.injEq] at hx
      subst hx
      simp only [D.fz] at hV ⊢
      rw [← hmz]
      exact hV
  · rintro e w' ⟨v, ow', r, ds', rfl, hQ, g1, g2, g3, g4, g5, g6, g7, g8, hpl, hsv⟩
    obtain ⟨hcl2, hKr⟩ := hK r ds' hQ
    simp only
    have hin : ∀ b, ¬ (b < w.heap.size ∧ (∀ g ∈ gs, ∀ q, ow b ≠ some (q ++ [1000000 + 2 * g.1]))) → backL w gs ow ow' b = ow' b := fun b hb => by unfold backL; rw [if_neg hb]
    have hout : ∀ b, b < w.heap.size → (∀ g ∈ gs, ∀ q, ow b ≠ some (q ++ [1000000 + 2 * g.1])) → backL w gs ow ow' b = ow b ∧ w'.heap[b]? = w.heap[b]? ∧ ow' b = lend (rs ++ rs2) ow b := fun b hb hno => by
      obtain ⟨k1, k2⟩ := g5 b hb (fun g hg q e => hno g hg q (lend_some e))
      exact ⟨by unfold backL; rw [if_pos ⟨hb, hno⟩], k1, k2⟩
    have hlab : ∀ b q (i : Nat), ow' b = some (q ++ [i]) → (i = t ∨ ∃ g ∈ gs, i = 1000000 + 2 * g.1) → (∃ g ∈ gs, i = 1000000 + 2 * g.1) → backL w gs ow ow' b = some (q ++ [i]) := by
      rintro b q i hb _ ⟨g, hg, rfl⟩
      rw [hin b, hb]
      rintro ⟨k1, k2⟩
      obtain ⟨_, _, k3⟩ := hout b k1 k2
      rw [k3] at hb
      exact k2 g hg q (lend_some hb)
    have hVg : ∀ (j : Nat) (g : Nat × D) (d' : D), gs[j]? = some g → ds'[j]? = some d' → V P w' (backL w gs ow ow') (.bx true d') [1000000 + 2 * g.1] (.pointer (some ⟨g.1, 0, none⟩)) := by
      intro j g d' hj hj'
      have h1 := g8 j g d' hj hj'
      have hg := List.mem_of_getElem? hj
      rcases hcl2 with hrs | ⟨_, hcl2⟩
      · refine V.tr (fun b hb => ⟨fun ho => ⟨rfl, ?_⟩, fun q hq => ⟨rfl, hlab b q _ hq (.inr ⟨g, hg, rfl⟩) ⟨g, hg, rfl⟩⟩⟩) h1
        by_cases hc : b < w.heap.size ∧ (∀ g ∈ gs, ∀ q, ow b ≠ some (q ++ [1000000 + 2 * g.1]))
        · obtain ⟨k1, _, k3⟩ := hout b hc.1 hc.2
          rw [k1]; rw [k3, hrs, lend_nil] at ho; exact ho
        · rw [hin b hc]; exact ho
      · have hall : (D.bx true d').allOwn = true := by
          simp only [D.allOwn, Bool.true_and]
          have : ∀ (l : List D), D.allOwns l = true → ∀ x ∈ l, x.allOwn = true := by
            intro l
            induction l with
            | nil => intro _ x hx; simp at hx
            | cons y l ih =>
              intro hl x hx
              simp only [D.allOwns, Bool.and_eq_true] at hl
              rcases List.mem_cons.1 hx with rfl | hx
              · exact hl.1
              · exact ih hl.2 x hx
          exact this _ hcl2 _ (List.mem_of_getElem? hj')
        exact V.owned hall (fun b hb q hq => ⟨rfl, hlab b q _ hq (.inr ⟨g, hg, rfl⟩) ⟨g, hg, rfl⟩⟩) h1
    have hroot : ∀ i r, (s i).root = some r → (s r).isOwn = true := fun i r hr => (hf.slot i).root hr
    have hg : Fits P n w0 ow0 (backL w gs ow ow') (putW gs ds' (s.fresh (gs.map fun g => 1000000 + 2 * g.1))) a w' := by
      refine hf.change hf.nodef hf.size g1 g2 g3 g4 (fun b hb ho => ?_) (fun b hb => ?_) (fun j => (∃ g ∈ gs, j = 1000000 + 2 * g.1) ∨ (∃ g ∈ gs, s j = .rf (1000000 + 2 * g.1) [0])) ?_ ?_ ?_ ?_
      · obtain ⟨k1, k2, _⟩ := hout b hb (fun g hg q e => by rw [ho] at e; cases e)
        exact ⟨k2, by rw [k1]; exact ho⟩
      · rw [hin b (fun hc => by have := hc.1; omega)]
        exact g6 b hb
      · intro j hj b hb q hq
        obtain ⟨k1, k2, _⟩ := hout b hb (fun g hg q' e => by
          rw [hq] at e
          have := congrArg List.getLast? (Option.some.inj e)
          simp at this
          exact hj (.inl ⟨g, hg, this⟩))
        exact ⟨k2, by rw [k1]; exact hq⟩
      · intro i hi
        refine ⟨rfl, ?_⟩
        have hi1 : ∀ g ∈ gs, i ≠ 1000000 + 2 * g.1 := fun g hg e => hi (.inl ⟨g, hg, e⟩)
        rw [putW_out hi1]
        simp only [St.fresh]
        have good : ∀ r, (s i).root = some r → r ∉ gs.map (fun g => 1000000 + 2 * g.1) → ∀ j, (s i).root = some j → ¬ ((∃ g ∈ gs, j = 1000000 + 2 * g.1) ∨ (∃ g ∈ gs, s j = .rf (1000000 + 2 * g.1) [0])) ∧ putW gs ds' (s.fresh (gs.map fun g => 1000000 + 2 * g.1)) j = s j := by
          intro r hr hnr j hj
          rw [hr] at hj
          obtain rfl := Option.some.inj hj
          have ho := hroot i r hr
          have hn1 : ∀ g ∈ gs, r ≠ 1000000 + 2 * g.1 := fun g hg e => hnr (by simp only [List.mem_map]; exact ⟨g, hg, e.symm⟩)
          refine ⟨?_, ?_⟩
          · rintro (⟨g, hg, e⟩ | ⟨g, hg, e⟩)
            · exact hn1 g hg e
            · rw [e] at ho; cases ho
          · rw [putW_out hn1]
            simp only [St.fresh]
            cases hsr : s r <;> rw [hsr] at ho <;> first | rfl | cases ho
        cases hsi : s i with
        | rf r p =>
          simp only [S.fresh]
          by_cases hc : r ∈ gs.map (fun g => 1000000 + 2 * g.1)
          · rw [if_pos (by simpa using hc)]
            by_cases hp : p = [0]
            · subst hp
              obtain ⟨g, hg, rfl⟩ := List.mem_map.1 hc
              exact absurd (.inr ⟨g, hg, hsi⟩) hi
            · rw [if_neg hp]; exact .inl rfl
          · rw [if_neg (by simpa using hc)]
            rw [← hsi]
            exact .inr ⟨rfl, good r (by rw [hsi]; rfl) hc⟩
        | al r p =>
          simp only [S.fresh]
          by_cases hc : r ∈ gs.map (fun g => 1000000 + 2 * g.1)
          · rw [if_pos (by simpa using hc)]; exact .inl rfl
          · rw [if_neg (by simpa using hc)]
            rw [← hsi]
            exact .inr ⟨rfl, good r (by rw [hsi]; rfl) hc⟩
        | ag r p =>
          simp only [S.fresh]
          by_cases hc : r ∈ gs.map (fun g => 1000000 + 2 * g.1)
          · rw [if_pos (by simpa using hc)]; exact .inl rfl
          · rw [if_neg (by simpa using hc)]
            rw [← hsi]
            exact .inr ⟨rfl, good r (by rw [hsi]; rfl) hc⟩
        | _ => exact .inr ⟨rfl, fun j hj => by simp [S.root] at hj⟩
      · rintro i (⟨g, hg, rfl⟩ | ⟨g, hg, hsi⟩)
        · obtain ⟨j, g', d', k1, k2, k3, k4⟩ := putW_in (s := s.fresh (gs.map fun g => 1000000 + 2 * g.1)) g7 hg
          rw [k4, hav]
          have := hVg j g' d' k1 k2
          rw [k3] at this
          exact this
        · have hi1 : ∀ g ∈ gs, i ≠ 1000000 + 2 * g.1 := fun g' hg' e => by rw [e, hgs g' hg'] at hsi; cases hsi
          obtain ⟨j, g', d', k1, k2, k3, k4⟩ := putW_in (s := s.fresh (gs.map fun g => 1000000 + 2 * g.1)) g7 hg
          rw [putW_out hi1]
          have hc : (1000000 + 2 * g.1) ∈ gs.map (fun g => 1000000 + 2 * g.1) := List.mem_map.2 ⟨g, hg, rfl⟩
          simp only [St.fresh, hsi, S.fresh]
          rw [if_pos (by simpa using hc)]
          simp only [if_true]
          have h1 := hf.slot i
          rw [hsi] at h1
          obtain ⟨d, m, b, off, e1, e2, e3, e4⟩ := h1
          rw [hgs g hg] at e1
          obtain rfl : D.bx true g.2 = d := by injection e1
          rw [hav] at e3
          simp only [loc, into, if_true, locAt, Option.some.injEq, Prod.mk.injEq] at e3
          obtain ⟨rfl, rfl⟩ := e3
          refine ⟨.bx true d', d', g.1, 0, k4, by simp [D.sub, D.kid], ?_, e4⟩
          rw [hav]
          simp [loc, into, locAt]
      · rintro (⟨g, hg, e⟩ | ⟨g, hg, e⟩)
        · exact hfar g.1 e.symm
        · rw [hf.far] at e; cases e
    have hres : ∀ s2, SV P w' (backL w gs ow ow') s2 a t r v := by
      intro s2
      rcases hcl2 with hrs | ⟨hc, _⟩
      · have : backL w gs ow ow' = ow' := by
          funext b
          by_cases hc : b < w.heap.size ∧ (∀ g ∈ gs, ∀ q, ow b ≠ some (q ++ [1000000 + 2 * g.1]))
          · obtain ⟨k1, _, k3⟩ := hout b hc.1 hc.2
            rw [k1, k3, hrs, lend_nil]
          · exact hin b hc
        rw [this]
        exact hsv s2 a
      · refine SV.closed hc (fun b hb q hq => ⟨rfl, ?_⟩) (hsv s2 a)
        by_cases hc : b < w.heap.size ∧ (∀ g ∈ gs, ∀ q, ow b ≠ some (q ++ [1000000 + 2 * g.1]))
        · obtain ⟨k1, _, k3⟩ := hout b hc.1 hc.2
          rw [k3] at hq
          rw [k1]
          exact lend_some hq
        · rw [hin b hc]; exact hq
    refine hn _ _ _ hKr ?_
    cases hd' : o.dst with
    | none => exact ⟨_, hg⟩
    | some u =>
      obtain ⟨rfl, hu⟩ := hdt u hd'
      exact ⟨_, hg.set hu (hres _)⟩
theorem ok_callW {P : Program} {n : Nat} {w0 : World} {ow0 : Own} {o : Oper} {s : St} {K : St → Prop} {f : FuncId} {args : Array Operand} {ts : Array TypeId} (he : Enters P f)
    (ho : o.op = .call { callee := .value (.func f), args := args, argTypes := ts }) (hd : dstOk n o = true) (h : dcallW s o.dst f P args.toList [] K) : Ok P n w0 ow0 o s K := by
  refine ok_callGW (f := f) (args := args.toList) (cap := []) (bs := []) (fun a w ow hf => ?_) rfl hd h
  unfold execOp
  simp only [ho, resolve, invoke, Act.eval, Deferred.ofValue, Sem.run_bind, Sem.run_pure, Result.andThen_ok]
  have := he (#[] ++ args.map a.eval ++ #[]) w
  have e : (args.toList.map a.eval ++ []).toArray = #[] ++ args.map a.eval ++ #[] := by apply Array.toList_inj.1; simp
  rw [e]
  simpa using this
def capBs : List Value → Option (List Nat)
  | [] => some []
  | .pointer (some ⟨b, 0, none⟩) :: l => (capBs l).map (b :: ·)
  | _ => none
theorem capBs_spec : ∀ {cs : List Value} {bs : List Nat}, capBs cs = some bs → cs = bs.map fun b => Value.pointer (some ⟨b, 0, none⟩)
  | [], bs, h => by simp only [capBs] at h; obtain rfl : [] = bs := by simpa using h
                    rfl
  | v :: l, bs, h => by
    unfold capBs at h
    split at h
    · rename_i h0; cases h0
    · rename_i b l' h0
      obtain ⟨rfl, rfl⟩ := List.cons.inj h0
      simp only [Option.map_eq_some_iff] at h
      obtain ⟨bs', h1, rfl⟩ := h
      simp [capBs_spec h1]
    · cases h
theorem ok_callVW {P : Program} {n : Nat} {w0 : World} {ow0 : Own} {o : Oper} {s : St} {K : St → Prop} {x : Operand} {f : FuncId} {cap : Array Value} {bs : List Nat} {args : Array Operand} {ts : Array TypeId} (he : Enters P f) (hx : evS s x = .val (.one (.func (.func f) #[] cap))) (hbs : capBs cap.toList = some bs)
    (ho : o.op = .call { callee := .value x, args := args, argTypes := ts }) (hd : dstOk n o = true) (h : dcallW s o.dst f P args.toList bs K) : Ok P n w0 ow0 o s K := by
  refine ok_callGW (f := f) (args := args.toList) (cap := cap.toList) (bs := bs) (fun a w ow hf => ?_) (capBs_spec hbs) hd h
  have hv := (hf.one hx).1
  unfold execOp
  simp only [ho, resolve, invoke, hv, Deferred.ofValue, Sem.run_bind, Sem.run_pure, Result.andThen_ok]
  have := he (#[] ++ args.map a.eval ++ cap) w
  have e : (args.toList.map a.eval ++ cap.toList).toArray = #[] ++ args.map a.eval ++ cap := by
    apply Array.toList_inj.1
    simp
  rw [e]
  simpa using this
def NewG (s : St) (b : Nat) : Prop := ∀ o d, s (1000000 + 2 * b) ≠ .own (.bx o d)
def capsK (u : Nat) (s : St) : List Nat → (List Nat → St → Prop) → Prop
  | [], K => K [] s
  | c :: cs, K => u ≠ c ∧ c < 1000000 ∧ match s c with
    | .own (.bx true d) => ∀ b, NewG s b → capsK u ((((s.kill (1000000 + 2 * b)).kill c).put (1000000 + 2 * b) (.own (.bx true d))).put c (.rf (1000000 + 2 * b) [0])) cs fun bs s' => K (b :: bs) s'
    | .rf r [0] => ∃ b, r = 1000000 + 2 * b ∧ capsK u s cs fun bs s' => K (b :: bs) s'
    | _ => False
def mkW (u : Nat) (s : St) (cs : List Nat) [k : Hid1 (List Nat × St)] : Prop := capsK u s cs fun bs s' => k.K (bs, s')
def tmpsOf : List Operand → Option (List Nat)
  | [] => some []
  | .tmp c :: l => (tmpsOf l).map (c :: ·)
  | _ => none
theorem tmpsOf_spec : ∀ {l : List Operand} {cs : List Nat}, tmpsOf l = some cs → l = cs.map Operand.tmp
  | [], cs, h => by simp only [tmpsOf] at h; obtain rfl : [] = cs := by simpa using h
                    rfl
  | x :: l, cs, h => by
    unfold tmpsOf at h
    split at h
    · rename_i h0; cases h0
    · rename_i c l' h0
      obtain ⟨rfl, rfl⟩ := List.cons.inj h0
      simp only [Option.map_eq_some_iff] at h
      obtain ⟨cs', h1, rfl⟩ := h
      simp [tmpsOf_spec h1]
    · cases h
def dmkW (u : Nat) (g : FuncId) (caps : List Operand) (s : St) (K : St → Prop) : Prop := match tmpsOf caps with
  | some cs => (mkW (k := ⟨fun y => K (y.2.set u (.val (.one (.func (.func g) #[] (y.1.map fun b => Value.pointer (some ⟨b, 0, none⟩)).toArray))))⟩) u s cs)
  | none => False
theorem Fits.toGh {P : Program} {n : Nat} {w0 w : World} {ow0 ow : Own} {s : St} {a : Act} {c b : Nat} {d : D} (h : Fits P n w0 ow0 ow s a w) (hc : s c = .own (.bx true d)) (hc6 : c < 1000000) (hv : aval a c = .pointer (some ⟨b, 0, none⟩)) (hb : (s (1000000 + 2 * b)).isOwn = false) :
    Fits P n w0 ow0 (relab c (1000000 + 2 * b) ow) (((s.kill c).put (1000000 + 2 * b) (.own (.bx true d))).put c (.rf (1000000 + 2 * b) [0])) a w := by
  have hav : aval a (1000000 + 2 * b) = .pointer (some ⟨b, 0, none⟩) := by
    unfold aval
    rw [if_neg (by omega)]
    have : (1000000 + 2 * b - 1000000) / 2 = b := by omega
    rw [this]
  have hne : c ≠ 1000000 + 2 * b := by omega
  have hfar : 1000000 + 2 * b ≠ far0 := by unfold far0; omega
  have hfc : c ≠ far0 := by unfold far0; omega
  have hVc := h.slot c
  rw [hc] at hVc
  refine h.change h.nodef h.size rfl rfl rfl (Nat.le_refl _) (fun b _ ho => ⟨rfl, relab_none ho⟩) (fun b hb => relab_none (h.new b hb)) (fun j => j = c ∨ j = 1000000 + 2 * b) ?_ ?_ ?_ ?_
  · intro j hj b' _ q hq
    exact ⟨rfl, relab_same hq fun e => hj (.inl e)⟩
  · intro i hi
    have hi1 : i ≠ c := fun e => hi (.inl e)
    have hi2 : i ≠ 1000000 + 2 * b := fun e => hi (.inr e)
    refine ⟨rfl, ?_⟩
    simp only [St.put, if_neg hi1, if_neg hi2]
    rcases kill_at s c i with h1 | ⟨h1, _, h2⟩
    · exact .inl h1
    · right
      refine ⟨h1, fun j hj => ?_⟩
      have hjc : j ≠ c := by rintro rfl; exact h2 hj
      have hown := (h.slot i).root hj
      have hjb : j ≠ 1000000 + 2 * b := by rintro rfl; rw [hb] at hown; cases hown
      exact ⟨fun e => e.elim hjc hjb, by simp only [St.put, if_neg hjc, if_neg hjb]; exact kill_own hown hjc⟩
  · rintro i (rfl | rfl)
    · simp only [St.put, if_true, SV]
      refine ⟨.bx true d, d, b, 0, by simp [St.put, Ne.symm hne], by simp [D.sub, D.kid], ?_, hv⟩
      rw [hav]; simp [loc, into, locAt]
    · simp only [St.put, if_neg (Ne.symm hne), if_true, SV]
      rw [hav, ← hv]
      exact V.tr (fun b' _ => ⟨fun ho => ⟨rfl, relab_none ho⟩, fun q hq => ⟨rfl, relab_mv hq⟩⟩) hVc
  · rintro (e | e)
    · exact hfc e.symm
    · exact hfar e.symm
theorem caps_ok {P : Program} {n : Nat} {w0 w : World} {ow0 : Own} {a : Act} {u : Nat} : ∀ (cs : List Nat) {ow : Own} {s : St} {K : List Nat → St → Prop}, Fits P n w0 ow0 ow s a w → capsK u s cs K →
    ∃ bs s' ow', K bs s' ∧ Fits P n w0 ow0 ow' s' a w ∧ bs.length = cs.length ∧ (cs.map (aval a) = bs.map fun b => Value.pointer (some ⟨b, 0, none⟩)) ∧ ∀ c ∈ cs, c < 1000000
  | [], ow, s, K, hf, hk => ⟨[], s, ow, hk, hf, rfl, rfl, fun c hc => by simp at hc⟩
  | c :: cs, ow, s, K, hf, hk => by
    simp only [capsK] at hk
    obtain ⟨huc, hc6, hk⟩ := hk
    split at hk
    · rename_i d hs
      have hV := hf.slot c
      rw [hs] at hV
      simp only [SV, V, R] at hV
      obtain ⟨b, off, C, e, fz, cs', h1, hh, hn, hs2, hl, hcc, hr⟩ := hV
      obtain ⟨hob, hunf, rfl, hCs⟩ := hs2 trivial
      have hav : aval a c = .pointer (some ⟨b, 0, none⟩) := by simpa using h1
      have hnew : NewG s b := by
        intro o2 x2 hsb
        have hV2 := hf.slot (1000000 + 2 * b)
        have hav2 : aval a (1000000 + 2 * b) = .pointer (some ⟨b, 0, none⟩) := by
          unfold aval
          rw [if_neg (by omega)]
          have : (1000000 + 2 * b - 1000000) / 2 = b := by omega
          rw [this]
        rw [hsb, hav2] at hV2
        simp only [SV, V, R] at hV2
        obtain ⟨b2, off2, C2, e2, fz2, cs2, k1, k2, k3, k4, _⟩ := hV2
        simp only [List.cons.injEq, Value.pointer.injEq, Option.some.injEq, and_true] at k1
        obtain ⟨rfl, rfl, _⟩ := Addr.mk.inj k1
        cases o2 with
        | true =>
          have := (k4 rfl).1
          rw [hob] at this
          simp at this
          omega
        | false =>
          have := k3 rfl
          rw [hob] at this; cases this
      have hk0 := hf.kill (1000000 + 2 * b)
      have hck : (s.kill (1000000 + 2 * b)) c = .own (.bx true d) := by
        have : c ≠ 1000000 + 2 * b := by omega
        simp [St.kill, this, hs, S.drop, S.root]
      have hk1 : ((s.kill (1000000 + 2 * b)) (1000000 + 2 * b)).isOwn = false := by simp [St.kill, S.isOwn]
      obtain ⟨bs, s', ow', k1, k2, k3, k4, k5⟩ := caps_ok cs (hk0.toGh hck hc6 hav hk1) (hk b hnew)
      exact ⟨b :: bs, s', ow', k1, k2, by simp [k3], by simp [hav, k4], fun c' hc' => (List.mem_cons.1 hc').elim (fun e => e ▸ hc6) (k5 c')⟩
    · rename_i r hs
      obtain ⟨b, rfl, hk⟩ := hk
      obtain ⟨bs, s', ow', k1, k2, k3, k4, k5⟩ := caps_ok cs hf hk
      have hV := hf.slot c
      rw [hs] at hV
      obtain ⟨d, m, b', off, e1, e2, e3, e4⟩ := hV
      have hav2 : aval a (1000000 + 2 * b) = .pointer (some ⟨b, 0, none⟩) := by
        unfold aval
        rw [if_neg (by omega)]
        have : (1000000 + 2 * b - 1000000) / 2 = b := by omega
        rw [this]
      rw [hav2] at e3
      have hd : ∃ o x, d = .bx o x := by
        cases d with
        | bx o x => exact ⟨o, x, rfl⟩
        | _ => simp [loc, into] at e3
      obtain ⟨o, x, rfl⟩ := hd
      simp only [loc, into, if_true, locAt, Option.some.injEq, Prod.mk.injEq] at e3
      obtain ⟨rfl, rfl⟩ := e3
      exact ⟨b :: bs, s', ow', k1, k2, by simp [k3], by simp [e4, k4], fun c' hc' => (List.mem_cons.1 hc').elim (fun e => e ▸ hc6) (k5 c')⟩
    · exact hk.elim
theorem ok_mkW {P : Program} {n : Nat} {w0 : World} {ow0 : Own} {o : Oper} {s : St} {K : St → Prop} {u : Nat} {g : FuncId} {caps : Array Operand} (ho : o.op = .makeFunc (.func g) #[] caps) (hd : o.dst = some u) (hu : u < n) (h : dmkW u g caps.toList s K) : Ok P n w0 ow0 o s K := by
  refine ok_value fun a w ow hf => ?_
  unfold dmkW at h
  split at h
  rotate_left
  · exact h.elim
  rename_i cs hcs
  obtain ⟨bs, s', ow', hK, hf', hbl, hbv, hclt⟩ := caps_ok cs hf h
  have hsp := tmpsOf_spec hcs
  have hev : (caps.map a.eval).toList = bs.map fun b => Value.pointer (some ⟨b, 0, none⟩) := by
    rw [Array.toList_map, hsp, List.map_map, ← hbv]
    refine List.map_congr_left fun c hc => ?_
    have := hclt c hc
    unfold aval
    rw [if_pos this]; rfl
  refine ⟨.func (.func g) #[] (bs.map fun b => Value.pointer (some ⟨b, 0, none⟩)).toArray, w, ?_, _, hK, ow', ?_⟩
  · unfold execOp; rw [ho]
    simp only [Instr.makeFunc, Sem.run_bind, Sem.run_pure, Result.andThen_ok]
    have : caps.map a.eval = (bs.map fun b => Value.pointer (some ⟨b, 0, none⟩)).toArray := by apply Array.toList_inj.1; simpa using hev
    simp [this]
  · rw [hd]
    exact hf'.set hu (SV.val_one rfl)
end Go.Dv

end
section
namespace Go.Dv
open Go.RowKit
variable [Glob]
def dstK (n : Nat) (dst : Option Nat) (K : Nat → Prop) : Prop := match dst with
  | some u => u < n ∧ K u
  | none => False
def intK (x : S) (K : Int → Prop) : Prop := oneK x fun v => match v with
  | .int _ j => K j
  | _ => False
theorem intK_of {x : S} {K : Int → Prop} (h : intK x K) : ∃ k j, x = .val (.one (.int k j)) ∧ K j := by
  obtain ⟨v, hv, h1⟩ := oneK_of h
  split at h1
  · exact ⟨_, _, hv, h1⟩
  · exact h1.elim
def mmK (mx : Bool) (u v : Value) (K : Value → Prop) : Prop := match u, v with
  | .int k a, .int _ b => K (.int k (if mx then max a b else min a b))
  | _, _ => False
def mmK3 (mx : Bool) (u v w : Value) (K : Value → Prop) : Prop := match u, v, w with
  | .int k a, .int _ b, .int _ c => K (.int k (if mx then max (max a b) c else min (min a b) c))
  | _, _, _ => False
def mmH (mx : Bool) (x y : S) [k : Hid1 Value] : Prop := oneK x fun a => oneK y fun b => mmK mx a b k.K
def mmH3 (mx : Bool) (x y z : S) [k : Hid1 Value] : Prop := oneK x fun a => oneK y fun b => oneK z fun c => mmK3 mx a b c k.K
theorem mmH_int {mx : Bool} {k k' : IntKind} {a b : Int} {F : Value → Prop} : @mmH mx (.val (.one (.int k a))) (.val (.one (.int k' b))) ⟨F⟩ = F (.int k (if mx then max a b else min a b)) := rfl
theorem mmH3_int {mx : Bool} {k k' k2 : IntKind} {a b c : Int} {F : Value → Prop} : @mmH3 mx (.val (.one (.int k a))) (.val (.one (.int k' b))) (.val (.one (.int k2 c))) ⟨F⟩ = F (.int k (if mx then max (max a b) c else min (min a b) c)) := rfl
def idxH (x y : S) [k : Hid1 Value] : Prop := oneK x fun v => match v with
  | .string z => intK y fun j => 0 ≤ j ∧ ∃ c, z[j.toNat]? = some c ∧ k.K (.int .u8 c.toNat)
  | _ => False
def getH (o : Option UInt8) [k : Hid1 Value] : Prop := ∃ c, o = some c ∧ k.K (.int .u8 c.toNat)
theorem idxH_str {z : ByteArray} {k : IntKind} {j : Int} {F : Value → Prop} : @idxH (.val (.one (.string z))) (.val (.one (.int k j))) ⟨F⟩ = (0 ≤ j ∧ @getH (z[j.toNat]?) ⟨F⟩) := rfl
theorem getH_some {c : UInt8} {F : Value → Prop} : @getH (some c) ⟨F⟩ = F (.int .u8 c.toNat) := by simp [getH]
def capsOf (s : St) : List Operand → List Nat
  | [] => []
  | x :: xs => (match evS s x with
    | .val (.one (.func _ _ cap)) => cap.toList.filterMap fun v => match v with | .pointer (some ⟨b, _, _⟩) => some b | _ => none
    | _ => []) ++ capsOf s xs
def coolA (s : St) : List Operand → St
  | [] => s
  | x :: xs => match evS s x with
    | .own _ => coolA (s.cool (slotOf x)) xs
    | _ => coolA s xs
theorem tells_coolA {P : Program} {n : Nat} : ∀ (xs : List Operand) (s : St), Tells P n s (coolA s xs)
  | [], s => Tells.refl s
  | x :: xs, s => by
    unfold coolA
    split
    · exact (tells_cool _).trans (tells_coolA xs _)
    · exact tells_coolA xs s
def stepCall (P : Program) (T : TypeId → TyE) (n : Nat) (c : Callee) (args : List Operand) (ts : List TypeId) (dst : Option Nat) (s : St) (K : St → Prop) : Prop :=
  match c, args, ts with
  | .value (.func f), args, _ => Enters P f ∧ (∀ u, dst = some u → u < n) ∧ (if (T (1000000 + f)).w = 1000 then dcallW s dst f P args [] K else match (T (1000000 + f)).w with
    | 0 => (match capsOf s args with
      | [] => dcall s dst f P args K
      | bs => dcallB s dst f P args bs K)
    | m + 1 => dcallM (coolA s args) dst f P m args K)
  | .value x, args, _ => (∀ u, dst = some u → u < n) ∧ oneK (evS s x) fun v => match v with
    | .func (.func g) fst cap => fst = #[] ∧ Enters P g ∧ (if (T (1000000 + g)).w = 1000 then (match capBs cap.toList with
      | some bs => dcallW s dst g P args bs K
      | none => False) else match capOps cap.toList with
      | some ops => dcall s dst g P (args ++ ops) K
      | none => False)
    | _ => False
  | .builtin .len, [x], [t] => (∀ u, dst = some u → u < n) ∧ (match (T t).ty with
    | .sl e => (match asSl s (slotOf x) (evS s x) with | .no => False | z => K (s.setd dst (.val (.one (.int .i64 z.xs.length)))))
    | .str => oneK (evS s x) fun v => match v with | .string z => K (s.setd dst (.val (.one (.int .i64 z.size)))) | _ => False
    | _ => False)
  | .builtin .append, [x, y], [t, t'] => t = t' ∧ (match (T t).ty with
    | .sl e => dstK n dst fun u => (T e).ok = true ∧ 0 < (T e).w ∧ dappend e (T e).w u x y s K
    | _ => False)
  | .builtin .min, [x, y], _ => (∀ u, dst = some u → u < n) ∧ @mmH false (evS s x) (evS s y) ⟨fun r => K (s.setd dst (.val (.one r)))⟩
  | .builtin .max, [x, y], _ => (∀ u, dst = some u → u < n) ∧ @mmH true (evS s x) (evS s y) ⟨fun r => K (s.setd dst (.val (.one r)))⟩
  | .builtin .min, [x, y, z], _ => (∀ u, dst = some u → u < n) ∧ @mmH3 false (evS s x) (evS s y) (evS s z) ⟨fun r => K (s.setd dst (.val (.one r)))⟩
  | .builtin .max, [x, y, z], _ => (∀ u, dst = some u → u < n) ∧ @mmH3 true (evS s x) (evS s y) (evS s z) ⟨fun r => K (s.setd dst (.val (.one r)))⟩
  | _, _, _ => False
def stepOp (P : Program) (T : TypeId → TyE) (n : Nat) (op : Op) (dst : Option Nat) (s : St) (K : St → Prop) : Prop :=
  match op with
  | .move x => dstK n dst fun u => dmove u x s K
  | .assign x => dstK n dst fun u => dassign u x s K
  | .pick c x y => dstK n dst fun u => dpick u c x y s K
  | .load t x => dstK n dst fun u => dload (T t) u (asPtr s (slotOf x) (evS s x)) s K
  | .store t x y => dst = none ∧ (T t).ok = true ∧ dstore (T t) (asPtr s (slotOf x) (evS s x)) (srcOf s (slotOf y) (evS s y)) s K
  | .binOp op t x y _ => (∀ u, dst = some u → u < n) ∧ (match (T t).ty with
    | .bool => oneK (evS s x) fun u => oneK (evS s y) fun v => eqB op u v fun r => K (s.setd dst (.val (.one r)))
    | .agg _ => eqSK P op t (flatS s x) (flatS s y) fun r => K (s.setd dst (.val (.one r)))
    | .sl _ => (match y with | .const (.slice none 0 0) => nilK op (evS s x) (asSl s (slotOf x) (evS s x)) fun r => K (s.setd dst (.val (.one r))) | _ => False)
    | .ifc => (match y with | .const .nilIface => oneK (evS s x) fun v => ifcK op v fun r => K (s.setd dst (.val (.one r))) | _ => False)
    | _ => dbin op (evS s x) (evS s y) fun r => K (s.setd dst (.val (.one r))))
  | .unOp op _ x => (∀ u, dst = some u → u < n) ∧ oneK (evS s x) fun u => unV op u fun r => K (s.setd dst (.val (.one r)))
  | .convert src t x => (∀ u, dst = some u → u < n) ∧ (T src).ok = true ∧ (match (T src).ty, (T t).ty with
    | .int _, .int k => dconvI k (evS s x) fun r => K (s.setd dst (.val (.one r)))
    | .sl e, .str => (match (T e).ty with | .int .u8 => True | _ => False) ∧ asSl s (slotOf x) (evS s x) ≠ .no ∧ (match bytes? (asSl s (slotOf x) (evS s x)).xs with
      | some l => K (s.setd dst (.val (.one (.string ⟨l.toArray⟩))))
      | none => False)
    | .str, .sl e => (T e).ok = true ∧ (T e).w = 1 ∧ (match (T e).ty with | .int .u8 => True | _ => False) ∧ oneK (evS s x) fun v => match v with
      | .string z => z.size ≤ 16777216 ∧ dstK n dst fun u => K (s.set u (.own (.sl (some e) (z.data.toList.map dU))))
      | _ => False
    | _, _ => False)
  | .indexAddr t x y => (match (T t).ty with
    | .sl e => dstK n dst fun u => (T e).ok = true ∧ intK (evS s y) fun j => 0 ≤ j ∧ dindex (T e).w u (asSl s (slotOf x) (evS s x)) j.toNat s K
    | .arr len e => dstK n dst fun u => (T e).ok = true ∧ intK (evS s y) fun j => 0 ≤ j ∧ j < len ∧ dfield (j.toNat * (T e).w) j.toNat u (asPtr s (slotOf x) (evS s x)) s K
    | _ => False)
  | .index t x y => (∀ u, dst = some u → u < n) ∧ (match (T t).ty with
    | .str => @idxH (evS s x) (evS s y) ⟨fun r => K (s.setd dst (.val (.one r)))⟩
    | .arr len e => (T e).ok = true ∧ (match evS s x with
      | .val (.agg xs) => (D.flats xs).isSome = true ∧ xs.all (fun d => d.w == (T e).w) = true ∧ intK (evS s y) fun j => 0 ≤ j ∧ j < len ∧ (match xs[j.toNat]? with
        | some d => d.isAgg = (T e).ty.isAgg ∧ K (s.setd dst (.val d))
        | none => False)
      | _ => False)
    | _ => False)
  | .fieldAddr t x f => (match (T t).ty with
    | .agg fs => match fs[f]? with
      | some (off, ft) => dstK n dst fun u => dfield off f u (asPtr s (slotOf x) (evS s x)) s K
      | none => False
    | _ => False)
  | .box t x => dstK n dst fun u => (match srcOf s (slotOf x) (evS s x) with | .no => False | z => K ((z.st s).set u (.own (.bx true z.data))))
  | .alloc t => (T t).ok = true ∧ dstK n dst fun u => K (s.set u (.own (.bx true (T t).z)))
  | .build t parts => (match (T t).ty, (T t).z with
    | .agg fs, .agg zs => fs.all (fun x => (T x.2).ok) = true ∧ dstK n dst fun u => dbuild T fs zs u parts.toList s K
    | _, _ => False)
  | .buildSlice t len parts => (match (T t).ty with
    | .sl e => (T e).ok = true ∧ len * (T e).w ≤ 16777216 ∧ len ≤ 16777216 ∧ 0 < (T e).w ∧ dstK n dst fun u => dbuildS T e len u parts.toList s K
    | _ => False)
  | .makeSlice t x y => (match (T t).ty with
    | .sl e => (T e).ok = true ∧ intK (evS s x) fun l => intK (evS s y) fun c => 0 ≤ l ∧ l ≤ c ∧ c ≤ 1073741824 ∧ dstK n dst fun u => K (s.set u (.own (.sl (some e) (List.replicate l.toNat (T e).z))))
    | _ => False)
  | .slice t x lo hi none => (∀ u, dst = some u → u < n) ∧ (match (T t).ty with
    | .str => oneK (evS s x) fun v => match v with | .string z => dsliceT s z lo hi fun r => K (s.setd dst (.val (.one r))) | _ => False
    | .sl e => (T e).ok = true ∧ (match asSl s (slotOf x) (evS s x) with
      | .fr xs => xs.all (fun d => d.w == (T e).w) = true ∧ bndK s hi xs.length fun h => bndK s lo 0 fun l => l ≤ h ∧ h ≤ xs.length ∧ K (s.setd dst (.val (.sl none ((xs.drop l).take (h - l)))))
      | _ => False)
    | _ => False)
  | .extract (.tmp r) k => r < 1000000 ∧ dstK n dst fun u => dextract u r k s K
  | .nilCheck x => dstK n dst fun u => asPtr s (slotOf x) (evS s x) ≠ .un ∧ dmove u x s K
  | .call c => stepCall P T n c.callee c.args.toList c.argTypes.toList dst s K
  | .makeFunc fn fst caps => (match fn, fst.toList with
    | .func g, [] => dstK n dst fun u => if (T (1000000 + g)).w = 1000 then dmkW u g caps.toList s K else match caps.toList with
      | [.tmp c] => dmkFn u g (.tmp c) s K
      | _ => False
    | _, _ => False)
  | _ => False
theorem dstOk_of {n : Nat} {o : Oper} (h : ∀ u, o.dst = some u → u < n) : dstOk n o = true := by
  unfold dstOk
  split
  · rename_i t ht; simpa using h t ht
  · rfl
theorem dstK_of {n : Nat} {dst : Option Nat} {K : Nat → Prop} (h : dstK n dst K) : ∃ u, dst = some u ∧ u < n ∧ K u := by
  unfold dstK at h
  split at h
  · exact ⟨_, rfl, h⟩
  · exact h.elim
theorem Good.desc {P : Program} {T : TypeId → TyE} {t : TypeId} {x : Ty} (h : Good P T t) (hx : (T t).ty = x) (hn : x ≠ .no) : x.desc P t := by
  have := (h.of fun y hy => by rw [← hy, hx]; exact hn).1
  rw [hx] at this; exact this
theorem Good.under {P : Program} {T : TypeId → TyE} {t : TypeId} (h : Good P T t) (hn : (T t).ok = true) : ∃ d, P.underlying t = some d := by
  have := (h.of (TyE.ok_of hn)).1
  revert this
  cases (T t).ty <;> simp only [Ty.desc] <;> intro h
  case no => exact h.elim
  case ptr => obtain ⟨_, h⟩ := h; exact ⟨_, h⟩
  case ifc => obtain ⟨_, h⟩ := h; exact ⟨_, h⟩
  case fn => obtain ⟨_, _, _, h⟩ := h; exact ⟨_, h⟩
  case agg => obtain ⟨_, h, _⟩ := h; exact ⟨_, h⟩
  all_goals exact ⟨_, h⟩
section
variable {P : Program} {T : TypeId → TyE} {n : Nat} {w0 : World} {ow0 : Own} {o : Oper} {s : St} {K : St → Prop}
theorem stepCall_ok (hG : ∀ t, Good P T t) {c : Call} (ho : o.op = .call c) (h : stepCall P T n c.callee c.args.toList c.argTypes.toList o.dst s K) : Ok P n w0 ow0 o s K := by
  obtain ⟨cal, args, ts⟩ := c
  simp only at h
  unfold stepCall at h
  split at h
  · obtain ⟨h1, h2, h3⟩ := h
    split at h3
    · exact ok_callW h1 ho (dstOk_of h2) h3
    split at h3
    · split at h3
      · exact ok_call h1 ho (dstOk_of h2) h3
      · exact ok_callB h1 ho (dstOk_of h2) h3
    · exact fun a w hR => (ok_dcallM h1 ho (dstOk_of h2) h3 : Ok P n w0 ow0 o _ K) a w ((tells_coolA _ _).rel hR)
  · obtain ⟨h1, h2⟩ := h
    obtain ⟨v, hv, h3⟩ := oneK_of h2
    split at h3
    · rename_i g fst cap
      obtain ⟨rfl, h4, h5⟩ := h3
      split at h5
      · split at h5
        · rename_i bs hbs
          exact ok_callVW h4 hv hbs ho (dstOk_of h1) h5
        · exact h5.elim
      split at h5
      · rename_i ops hops
        exact ok_callV h4 hv hops ho (dstOk_of h1) h5
      · exact h5.elim
    · exact h3.elim
  · rename_i x t ha ht
    obtain ⟨h1, h2⟩ := h
    obtain rfl : args = #[x] := by apply Array.toList_inj.1; simpa using ha
    obtain rfl : ts = #[t] := by apply Array.toList_inj.1; simpa using ht
    split at h2
    · rename_i e hty
      exact ok_lenS ((hG t).desc hty (by simp)) ho (dstOk_of h1) h2
    · rename_i hty
      exact ok_lenT ((hG t).desc hty (by simp)) ho (dstOk_of h1) h2
    · exact h2.elim
  · rename_i x y t t' ha ht
    obtain ⟨rfl, h2⟩ := h
    obtain rfl : args = #[x, y] := by apply Array.toList_inj.1; simpa using ha
    obtain rfl : ts = #[t, t] := by apply Array.toList_inj.1; simpa using ht
    split at h2
    · rename_i e hty
      obtain ⟨u, hd, hu, h3, h4, h5⟩ := dstK_of h2
      exact ok_append hG ((hG t).desc hty (by simp)) h3 h4 ho hd hu h5
    · exact h2.elim
  · rename_i x y ha
    obtain ⟨h1, h2⟩ := h
    obtain rfl : args = #[x, y] := by apply Array.toList_inj.1; simpa using ha
    obtain ⟨a, hx, h3⟩ := oneK_of h2
    obtain ⟨b, hy, h4⟩ := oneK_of h3
    unfold mmK at h4
    split at h4
    · exact ok_mm (mx := false) ho (dstOk_of h1) hx hy h4
    · exact h4.elim
  · rename_i x y ha
    obtain ⟨h1, h2⟩ := h
    obtain rfl : args = #[x, y] := by apply Array.toList_inj.1; simpa using ha
    obtain ⟨a, hx, h3⟩ := oneK_of h2
    obtain ⟨b, hy, h4⟩ := oneK_of h3
    unfold mmK at h4
    split at h4
    · exact ok_mm (mx := true) ho (dstOk_of h1) hx hy h4
    · exact h4.elim
  · rename_i x y z ha
    obtain ⟨h1, h2⟩ := h
    obtain rfl : args = #[x, y, z] := by apply Array.toList_inj.1; simpa using ha
    obtain ⟨a, hx, h3⟩ := oneK_of h2
    obtain ⟨b, hy, h4⟩ := oneK_of h3
    obtain ⟨c, hz, h5⟩ := oneK_of h4
    unfold mmK3 at h5
    split at h5
    · exact ok_mm3 (mx := false) ho (dstOk_of h1) hx hy hz h5
    · exact h5.elim
  · rename_i x y z ha
    obtain ⟨h1, h2⟩ := h
    obtain rfl : args = #[x, y, z] := by apply Array.toList_inj.1; simpa using ha
    obtain ⟨a, hx, h3⟩ := oneK_of h2
    obtain ⟨b, hy, h4⟩ := oneK_of h3
    obtain ⟨c, hz, h5⟩ := oneK_of h4
    unfold mmK3 at h5
    split at h5
    · exact ok_mm3 (mx := true) ho (dstOk_of h1) hx hy hz h5
    · exact h5.elim
  · exact h.elim
theorem step_ok (hG : ∀ t, Good P T t) (h : stepOp P T n o.op o.dst s K) : Ok P n w0 ow0 o s K := by
  generalize ho : o.op = op at h
  unfold stepOp at h
  split at h
  · obtain ⟨u, hd, hu, h⟩ := dstK_of h; exact ok_move ho hd hu h
  · obtain ⟨u, hd, hu, h⟩ := dstK_of h; exact ok_assign ho hd hu h
  · obtain ⟨u, hd, hu, h⟩ := dstK_of h; exact ok_pick ho hd hu h
  · obtain ⟨u, hd, hu, h⟩ := dstK_of h; exact ok_load (hG _) ho hd hu _ (fun hf => hf.asPtr _) h
  · obtain ⟨h1, h2, h3⟩ := h; exact ok_store (hG _) (TyE.ok_of h2) ho h1 h3
  · obtain ⟨h1, h2⟩ := h
    split at h2
    · rename_i hty; exact ok_eqB ((hG _).desc hty (by simp)) ho (dstOk_of h1) h2
    · exact ok_eqS ho (dstOk_of h1) h2
    · rename_i e hty
      split at h2
      · exact ok_nilS ((hG _).desc hty (by simp)) ho (dstOk_of h1) h2
      · exact h2.elim
    · rename_i hty
      split at h2
      · obtain ⟨ms, hms⟩ := (hG _).desc hty (by simp)
        exact ok_ifc hms ho (dstOk_of h1) h2
      · exact h2.elim
    · exact ok_bin ho (dstOk_of h1) h2
  · exact ok_un ho (dstOk_of h.1) h.2
  · obtain ⟨h1, h2, h3⟩ := h
    split at h3
    · rename_i hs ht
      obtain ⟨d, hd⟩ := (hG _).under h2
      exact ok_convI ho hd ((hG _).desc ht (by simp)) (dstOk_of h1) h3
    · rename_i e hs ht
      obtain ⟨h4, h5, h6⟩ := h3
      split at h4
      · rename_i he
        split at h6
        · rename_i l hl
          exact ok_b2s ((hG _).desc hs (by simp)) ((hG _).desc he (by simp)) ((hG _).desc ht (by simp)) ho (dstOk_of h1) hl h5 h6
        · exact h6.elim
      · exact h4.elim
    · rename_i e hs ht
      obtain ⟨h4, h5, h6, h7⟩ := h3
      obtain ⟨v, hv, h8⟩ := oneK_of h7
      split at h6
      · rename_i he
        split at h8
        · rename_i z
          obtain ⟨h9, h10⟩ := h8
          obtain ⟨u, hd, hu, h11⟩ := dstK_of h10
          obtain ⟨_, i, zv, hi, hsz, _⟩ := (hG e).of (TyE.ok_of h4)
          exact ok_s2b ((hG _).desc hs (by simp)) ((hG _).desc ht (by simp)) ((hG _).desc he (by simp)) hi (hsz.trans h5) h9 ho hd hu hv h11
        · exact h8.elim
      · exact h6.elim
    · exact h3.elim
  · split at h
    · rename_i e hty
      obtain ⟨u, hd, hu, h1, h2⟩ := dstK_of h
      obtain ⟨k, j, hy, hj, h3⟩ := intK_of h2
      exact ok_index (hG e) (TyE.ok_of h1) ((hG _).desc hty (by simp)) ho hd hu hy hj h3
    · rename_i len e hty
      obtain ⟨u, hd, hu, h1, h2⟩ := dstK_of h
      obtain ⟨k, j, hy, hj, hj2, h3⟩ := intK_of h2
      obtain ⟨_, i, zv, hi, hsz, _⟩ := (hG e).of (TyE.ok_of h1)
      rw [← hsz] at h3
      exact ok_indexA ((hG _).desc hty (by simp)) hi ho hd hu hy hj hj2 h3
    · exact h.elim
  · obtain ⟨h1, h2⟩ := h
    split at h2
    · rename_i hty
      obtain ⟨v, hv, h3⟩ := oneK_of h2
      split at h3
      · obtain ⟨k, j, hy, hj, c, hc, hK⟩ := intK_of h3
        exact ok_byte ((hG _).desc hty (by simp)) ho (dstOk_of h1) hv hy hj hc hK
      · exact h3.elim
    · rename_i len e hty
      obtain ⟨h3, h4⟩ := h2
      split at h4
      · rename_i xs hx
        obtain ⟨h5, h6, h7⟩ := h4
        obtain ⟨k, j, hy, hj, hj2, h8⟩ := intK_of h7
        split at h8
        · rename_i d hget
          obtain ⟨cs, hcs⟩ := Option.isSome_iff_exists.1 h5
          exact ok_idxV hG ((hG _).desc hty (by simp)) h3 ho (dstOk_of h1) hx hcs hy hj hj2 h6 hget h8.1 h8.2
        · exact h8.elim
      · exact h4.elim
    · exact h2.elim
  · split at h
    · rename_i fs hty
      split at h
      · rename_i off ft hf
        obtain ⟨u, hd, hu, h⟩ := dstK_of h
        exact ok_fieldAddr (hG _) hty hf ho hd hu h
      · exact h.elim
    · exact h.elim
  · obtain ⟨u, hd, hu, h⟩ := dstK_of h; exact ok_box ho hd hu h
  · obtain ⟨h1, h2⟩ := h
    obtain ⟨u, hd, hu, h⟩ := dstK_of h2; exact ok_alloc (hG _) (TyE.ok_of h1) ho hd hu h
  · split at h
    · rename_i fs zs hty hz
      obtain ⟨h1, h2⟩ := h
      obtain ⟨u, hd, hu, h⟩ := dstK_of h2
      exact ok_build hG hty hz h1 ho hd hu h
    · exact h.elim
  · split at h
    · rename_i e hty
      obtain ⟨h1, h2, h3, h4, h5⟩ := h
      obtain ⟨u, hd, hu, h⟩ := dstK_of h5
      exact ok_buildS hG ((hG _).desc hty (by simp)) h1 h2 h3 h4 ho hd hu h
    · exact h.elim
  · split at h
    · rename_i e hty
      obtain ⟨h1, h2⟩ := h
      obtain ⟨k, l, hx, h3⟩ := intK_of h2
      obtain ⟨k', c, hy, h4, h5, h6, h7⟩ := intK_of h3
      obtain ⟨u, hd, hu, h⟩ := dstK_of h7
      exact ok_makeS hG ((hG _).desc hty (by simp)) h1 hx hy h4 h5 h6 ho hd hu h
    · exact h.elim
  · obtain ⟨h1, h2⟩ := h
    split at h2
    · rename_i hty
      exact ok_sliceT ((hG _).desc hty (by simp)) ho (dstOk_of h1) h2
    · rename_i e hty
      obtain ⟨h3, h4⟩ := h2
      split at h4
      · rename_i xs hx
        obtain ⟨_, i, zv, hi, hsz, _⟩ := (hG e).of (TyE.ok_of h3)
        exact ok_sliceF ((hG _).desc hty (by simp)) hi ho (dstOk_of h1) hx (by rw [hsz]; exact h4.1) h4.2
      · exact h4.elim
    · exact h2.elim
  · obtain ⟨h1, h2⟩ := h
    obtain ⟨u, hd, hu, h⟩ := dstK_of h2; exact ok_extract ho hd hu h1 h
  · obtain ⟨u, hd, hu, h1, h⟩ := dstK_of h; exact ok_nilCheck ho hd hu ⟨_, rfl, h1⟩ h
  · exact stepCall_ok hG ho h
  · rename_i fn fst caps
    split at h
    · rename_i g h1
      obtain rfl : fst = #[] := by apply Array.toList_inj.1; simpa using h1
      obtain ⟨u, hd, hu, h3⟩ := dstK_of h
      split at h3
      · exact ok_mkW ho hd hu h3
      · split at h3
        · rename_i c h2
          obtain rfl : caps = #[.tmp c] := by apply Array.toList_inj.1; simpa using h2
          exact ok_mkFn ho hd hu h3
        · exact h3.elim
    · exact h.elim
  · exact h.elim
def vcL0 (P : Program) (T : TypeId → TyE) (n : Nat) (ops : Array Oper) : List Oper → St → (St → Prop) → Prop
  | [], s, K => K s
  | o :: l, s, K => gK ops o s (stepOp P T n o.op o.dst s fun s' => vcL0 P T n ops l s' K) (dstOk n o = true ∧ vcL0 P T n ops l (s.setd o.dst (.tup [])) K)
theorem vcL_ex (P : Program) (T : TypeId → TyE) (n : Nat) (ops : Array Oper) : ∃ f : List Oper → St → (St → Prop) → Prop, f = vcL0 P T n ops := ⟨_, rfl⟩
noncomputable def vcL (P : Program) (T : TypeId → TyE) (n : Nat) (ops : Array Oper) : List Oper → St → (St → Prop) → Prop := Classical.choose (vcL_ex P T n ops)
theorem vcL_eq (P : Program) (T : TypeId → TyE) (n : Nat) (ops : Array Oper) : vcL P T n ops = vcL0 P T n ops := Classical.choose_spec (vcL_ex P T n ops)
theorem stepL0_ok (hG : ∀ t, Good P T t) {ops : Array Oper} : ∀ (l : List Oper) (s : St) (K : St → Prop), vcL0 P T n ops l s K → OkL P n w0 ow0 ops l s K
  | [], s, K, h => h
  | o :: l, s, K, h => by
    have hm : ∀ (s' : St), vcL0 P T n ops l s' K → OkL P n w0 ow0 ops l s' K := fun s' hs' => stepL0_ok hG l s' K hs'
    unfold OkL
    refine gK_mono h (fun h1 => ?_) fun h1 => ⟨h1.1, hm _ h1.2⟩
    intro a w hR next Q hn
    exact (step_ok hG h1 : Ok P n w0 ow0 o s _) a w hR next Q fun s' a' w' hK hR' => hn s' a' w' (hm s' hK) hR'
theorem stepL_ok (hG : ∀ t, Good P T t) {ops : Array Oper} (l : List Oper) (s : St) (K : St → Prop) (h : vcL P T n ops l s K) : OkL P n w0 ow0 ops l s K := by
  rw [vcL_eq] at h
  exact stepL0_ok hG l s K h
theorem okC_step (hG : ∀ t, Good P T t) {p : Pin} {id : Nat} {ops : Array Oper} {K : Exit → St → Prop} (h : vcL P T n ops ops.toList s (fun s' => K .normal s')) (hd : noDst p ops.toList = true) : OkC P n w0 ow0 p (.region id ops false) s K :=
  okC_region (stepL_ok hG _ _ _ h) hd
end
end Go.Dv

end
section
namespace Go.Dv
open Go.RowKit
variable [Glob]
section
variable {P : Program} {n : Nat} {w0 : World} {ow0 : Own} {p : Pin} {s : St} {K : Exit → St → Prop}
theorem okC_rg {T : TypeId → TyE} (hG : ∀ t, Good P T t) {id : Nat} {ops : Array Oper} {y : Code} (h : vcL P T n ops ops.toList s (fun s' => @blk St s' ⟨fun s' => OkC P n w0 ow0 p y s' K⟩)) (hd : noDst p ops.toList = true := by rfl) : OkC P n w0 ow0 p (.seq (.region id ops false) y) s K := okC_seq (okC_step hG h hd)
theorem okC_rg1 {T : TypeId → TyE} (hG : ∀ t, Good P T t) {id : Nat} {ops : Array Oper} (h : vcL P T n ops ops.toList s (fun s' => @blk St s' ⟨fun s' => K .normal s'⟩)) (hd : noDst p ops.toList = true := by rfl) : OkC P n w0 ow0 p (.region id ops false) s K := okC_step hG h hd
theorem okC_rounds {c : Code} {X : Type} (I : X → List (Nat × S)) (μ : X → Nat) (ok : X → Prop) (x0 : X) (ts0 : List Nat) (hx : ok x0) (h0 : lessL (s.cools ts0) (I x0) (I x0))
    (round : ∀ x, ok x → ∀ K' : Exit → St → Prop, K' = thenK (fun s' => ∃ y ts, ok y ∧ μ y < μ x ∧ lessL (s'.cools ts) (I y) (I y)) K → OkC P n w0 ow0 p c (lst (I x)) K') : OkC P n w0 ow0 p (.loop c) s K :=
  okC_loop (fun x => lst (I x)) μ ok x0 hx (tells_list ts0 h0) fun x hok => okC_mono (round x hok _ rfl) fun e s' h => by
    cases e with
    | normal => obtain ⟨y, ts, h1, h2, h3⟩ := h; exact ⟨y, h1, h2, tells_list ts h3⟩
    | _ => exact h
theorem normalE {N : St → Prop} {K' : Exit → St → Prop} (h : K' = thenK N K) (hn : N s) : K' .normal s := by rw [h]; exact hn
theorem exitE {N : St → Prop} {K' : Exit → St → Prop} {id : Nat} (h : K' = thenK N K) (hn : K (.exit id) s) : K' (.exit id) s := by rw [h]; exact hn
theorem retE {N : St → Prop} {K' : Exit → St → Prop} (h : K' = thenK N K) (hn : K .ret s) : K' .ret s := by rw [h]; exact hn
end
class HidA where
  P : Prop
class HidB where
  P : Prop
def gH (ops : Array Oper) (o : Oper) (s : St) [A : HidA] [B : HidB] : Prop := gK ops o s A.P B.P
def gT (u : Option (Option Nat)) (s : St) (b : Bool) [A : HidA] [B : HidB] : Prop := match u with
  | some (some t) => gS (s t) b A.P B.P
  | _ => B.P
def gU (x : S) (b : Bool) [A : HidA] [B : HidB] : Prop := gS x b A.P B.P
def gI (c : Bool) [A : HidA] [B : HidB] : Prop := (c = true → A.P) ∧ (c = false → B.P)
theorem gI_of {c : Bool} {A B : Prop} (hA : c = true → A) (hB : c = false → B) : @gI c ⟨A⟩ ⟨B⟩ := ⟨hA, hB⟩
theorem gI_dec {p : Prop} [Decidable p] {A B : Prop} (hA : p → A) (hB : ¬ p → B) : @gI (decide p) ⟨A⟩ ⟨B⟩ := ⟨fun h => hA (by simpa using h), fun h => hB (by simpa using h)⟩
theorem gI_true {A B : Prop} : @gI true ⟨A⟩ ⟨B⟩ = A := by simp [gI]
theorem gI_false {A B : Prop} : @gI false ⟨A⟩ ⟨B⟩ = B := by simp [gI]
theorem gU_tup {l : List S} {b : Bool} {A B : Prop} : @gU (.tup l) b ⟨A⟩ ⟨B⟩ = B := rfl
theorem gU_yes {c : Bool} {A B : Prop} : @gU (.val (.one (.bool c))) true ⟨A⟩ ⟨B⟩ = @gI c ⟨A⟩ ⟨B⟩ := by
  unfold gU gS gI
  cases c <;> simp [oneK]
theorem gU_no {c : Bool} {A B : Prop} : @gU (.val (.one (.bool c))) false ⟨A⟩ ⟨B⟩ = @gI c ⟨B⟩ ⟨A⟩ := by
  unfold gU gS gI
  cases c <;> simp [oneK]
theorem gT_eq {t : Nat} {s : St} {b : Bool} {A B : Prop} : @gT (some (some t)) s b ⟨A⟩ ⟨B⟩ = @gU (s t) b ⟨A⟩ ⟨B⟩ := rfl
theorem gH_none {ops : Array Oper} {d : Option Nat} {op : Op} {ty : TypeId} {pos : String} {aft} {s : St} {A B : Prop} : @gH ops ⟨d, op, ty, pos, aft, none⟩ s ⟨A⟩ ⟨B⟩ = A := rfl
theorem gH_some {ops : Array Oper} {d : Option Nat} {op : Op} {ty : TypeId} {pos : String} {aft} {j : Nat} {b : Bool} {s : St} {A B : Prop} : @gH ops ⟨d, op, ty, pos, aft, some (j, b)⟩ s ⟨A⟩ ⟨B⟩ = @gT ((ops[j]?).map (·.dst)) s b ⟨A⟩ ⟨B⟩ := by
  unfold gH gK gT
  simp only
  cases ops[j]? with
  | none => rfl
  | some o => cases o with
    | mk d op ty pos aft g => cases d <;> rfl
section
variable {P : Program} {T : TypeId → TyE} {n : Nat} {ops : Array Oper} {s s' : St} {K : St → Prop} {o : Oper} {l : List Oper} {t : Nat} {x : S}
theorem vcL_nil : vcL P T n ops [] s K = K s := by rw [vcL_eq]; rfl
theorem vcL_put : vcL P T n ops (o :: l) (s.put t x) K = @gH ops o (s.put t x) ⟨stepOp P T n o.op o.dst (s.put t x) fun s' => vcL P T n ops l s' K⟩ ⟨dstOk n o = true ∧ vcL P T n ops l ((s.put t x).setd o.dst (.tup [])) K⟩ := by rw [vcL_eq]; rfl
theorem vcL_lst {L : List (Nat × S)} : vcL P T n ops (o :: l) (lst L) K = @gH ops o (lst L) ⟨stepOp P T n o.op o.dst (lst L) fun s' => vcL P T n ops l s' K⟩ ⟨dstOk n o = true ∧ vcL P T n ops l ((lst L).setd o.dst (.tup [])) K⟩ := by rw [vcL_eq]; rfl
theorem vcL_arg {ds : List D} : vcL P T n ops (o :: l) (argSt ds) K = @gH ops o (argSt ds) ⟨stepOp P T n o.op o.dst (argSt ds) fun s' => vcL P T n ops l s' K⟩ ⟨dstOk n o = true ∧ vcL P T n ops l ((argSt ds).setd o.dst (.tup [])) K⟩ := by rw [vcL_eq]; rfl
theorem vcL_kill : vcL P T n ops (o :: l) (s.kill t) K = @gH ops o (s.kill t) ⟨stepOp P T n o.op o.dst (s.kill t) fun s' => vcL P T n ops l s' K⟩ ⟨dstOk n o = true ∧ vcL P T n ops l ((s.kill t).setd o.dst (.tup [])) K⟩ := by rw [vcL_eq]; rfl
end
theorem isAny_one (v : Value) : (D.one v).isAny = false := rfl
theorem isAny_sl (o : Option TypeId) (xs : List D) : (D.sl o xs).isAny = false := rfl
theorem isAny_agg (xs : List D) : (D.agg xs).isAny = false := rfl
theorem isAny_bx (o : Bool) (x : D) : (D.bx o x).isAny = false := rfl
theorem isAny_any (n : Nat) : (D.any n).isAny = true := rfl
theorem isAgg_one (v : Value) : (D.one v).isAgg = false := rfl
theorem isAgg_sl (o : Option TypeId) (xs : List D) : (D.sl o xs).isAgg = false := rfl
theorem isAgg_agg (xs : List D) : (D.agg xs).isAgg = true := rfl
theorem isAgg_bx (o : Bool) (x : D) : (D.bx o x).isAgg = false := rfl
theorem isAgg_any (n : Nat) : (D.any n).isAgg = false := rfl
theorem isHd_one (v : Value) : (D.one v).isHd = false := rfl
theorem isHd_sl (o : Option TypeId) (xs : List D) : (D.sl o xs).isHd = true := rfl
theorem isHd_agg (xs : List D) : (D.agg xs).isHd = false := rfl
theorem isHd_bx (o : Bool) (x : D) : (D.bx o x).isHd = true := rfl
theorem isHd_any (n : Nat) : (D.any n).isHd = false := rfl
theorem hkid_one (v : Value) (i : Nat) : (D.one v).kid i = none := rfl
theorem hkid_sl (o : Option TypeId) (xs : List D) (i : Nat) : (D.sl o xs).kid i = xs[i]? := rfl
theorem hkid_agg (xs : List D) (i : Nat) : (D.agg xs).kid i = xs[i]? := rfl
theorem hkid_bx (o : Bool) (x : D) (i : Nat) : (D.bx o x).kid i = if i = 0 then some x else none := rfl
theorem hkid_any (n : Nat) (i : Nat) : (D.any n).kid i = none := rfl
theorem hsetKid_one (v : Value) (i : Nat) (y : D) : (D.one v).setKid i y = D.one v := rfl
theorem hsetKid_sl (o : Option TypeId) (xs : List D) (i : Nat) (y : D) : (D.sl o xs).setKid i y = D.sl o (xs.set i y) := rfl
theorem hsetKid_agg (xs : List D) (i : Nat) (y : D) : (D.agg xs).setKid i y = D.agg (xs.set i y) := rfl
theorem hsetKid_bx (o : Bool) (x : D) (i : Nat) (y : D) : (D.bx o x).setKid i y = D.bx o y := rfl
theorem hsetKid_any (n : Nat) (i : Nat) (y : D) : (D.any n).setKid i y = D.any n := rfl
def GoodE (P : Program) (t : TypeId) (e : TyE) : Prop := e.ty.desc P t ∧ ∃ i zv, P.info? t = some i ∧ i.size = e.w ∧ i.zero = some zv ∧ D.zf e.z = some zv.cells.toList ∧ e.z.isAgg = e.ty.isAgg ∧ (∃ cs, zv = .agg cs) = (e.ty.isAgg = true) ∧ i.bytes ≤ 4096 ∧ e.z.w = e.w
def allGood (P : Program) : List (Nat × TyE) → Prop
  | [] => True
  | (t, e) :: L => GoodE P t e ∧ allGood P L
def tab : List (Nat × TyE) → TypeId → TyE
  | [], _ => ⟨.no, 0, .any 0⟩
  | (t, e) :: L, u => if u = t then e else tab L u
theorem good_tab {P : Program} : ∀ {L : List (Nat × TyE)}, allGood P L → ∀ t, Good P (tab L) t
  | [], _, t => .inl trivial
  | (u, e) :: L, h, t => by
    by_cases hu : t = u
    · subst hu
      have : tab ((t, e) :: L) t = e := by simp [tab]
      unfold Good
      rw [this]
      exact .inr h.1
    · have : tab ((u, e) :: L) t = tab L t := by simp [tab, hu]
      have := good_tab h.2 t
      unfold Good at this ⊢
      simp only [tab, hu, if_false]
      exact this
attribute [go_sem] D.frzs_map D.allOwns_map D.fzs_mapf D.allOwn D.allOwns S.closed
attribute [go_sem] bytes?_nil bytes?_cons bytes?_map bytes?_append mmH_int mmH3_int idxH_str getH_some
attribute [go_sem] dcallW capBs dmkW tmpsOf lentK wantW putW St.fresh S.fresh
attribute [go_sem] St.cools St.cool lessL lessK vcL_nil vcL_put vcL_lst vcL_arg vcL_kill gH_none gH_some gT_eq gU_tup gU_yes gU_no gI_true gI_false stepOp stepCall capsOf capOps dcallB unbx dmkFn eqSK nilK ifcK flatS D.flat D.flats dstK intK oneK dmove dassign dpick dload dstore dfield dindex dextract dbuild dbuildS dappend dcall dcallM coolA St.killP S.rootP argK
  evS slotOf asPtr asSl srcOf Src.st Src.from Src.data SLv.xs takeK setParts partsOk rowOf places St.set St.setd St.free St.kill St.put St.dropAg S.drop S.root S.isOwn Value.oneCell'
  dbin binV arithK strK unV dconvI eqB bndK dsliceT D.okTy isAny_one isAny_sl isAny_agg isAny_bx isAny_any isAgg_one isAgg_sl isAgg_agg isAgg_bx isAgg_any isHd_one isHd_sl isHd_agg isHd_bx isHd_any hkid_one hkid_sl hkid_agg hkid_bx hkid_any hsetKid_one hsetKid_sl hsetKid_agg hsetKid_bx hsetKid_any D.w D.ws D.frz D.frzs D.fz D.fzs D.sub D.upd D.free TyE.ok Ty.isAgg dstOk lst argSt thenK blockK endK retK numb
end Go.Dv

end
section
namespace Go.Dv
open Go.RowKit
variable [Glob]
def rvOp : ResultVar → Operand
  | .tmp t => .tmp t
  | .cell a _ => .tmp a
def retL (T : TypeId → TyE) : List ResultVar → St → (List (D × Bool) → St → Prop) → Prop
  | [], s, K => K [] s
  | .tmp t :: rs, s, K => (match srcOf s t (evS s (.tmp t)) with | .no => False | _ => True) ∧ (srcOf s t (evS s (.tmp t))).from ≠ some res0 ∧
      retL T rs ((srcOf s t (evS s (.tmp t))).st s) fun ds s2 => K (((srcOf s t (evS s (.tmp t))).data, (srcOf s t (evS s (.tmp t))).from.isNone) :: ds) s2
  | .cell a ty :: rs, s, K => match asPtr s a (evS s (.tmp a)) with
    | .rf r p => match s r with
      | .own d => match D.sub p d with
        | some m => r ≠ res0 ∧ p ≠ [] ∧ m.okTy (T ty) = true ∧
            retL T rs ((s.kill r).put r (.own (D.upd p d (.any m.w)))) fun ds s2 => K ((m, false) :: ds) s2
        | none => False
      | _ => False
    | _ => False
def rvRun (tmps : Array Value) : ResultVar → Sem Value
  | .tmp t => pure (tmps.getD t undef)
  | .cell a t => do loadVar t (← asAddr (tmps.getD a undef))
theorem rvRun_eq (tmps : Array Value) (P : Program) (w : World) (g : ResultVar → Sem Value) (hg : ∀ t, g (.tmp t) = pure (tmps.getD t undef)) (hg2 : ∀ a t, g (.cell a t) = do loadVar t (← asAddr (tmps.getD a undef))) : ∀ r, g r = rvRun tmps r := by
  intro r
  cases r with
  | tmp t => exact hg t
  | cell a t => exact hg2 a t
theorem Fits.retL {P : Program} {T : TypeId → TyE} {n : Nat} {w0 w : World} {ow0 : Own} {a : Act} (hG : ∀ t, Good P T t) (lab : Nat → List Nat) : ∀ (rs : List ResultVar) (k : Nat) {ow : Own} {s : St} {K : List (D × Bool) → St → Prop}, Fits P n w0 ow0 ow s a w → Dv.retL T rs s K →
    ∃ vals ow' s' ds, K ds s' ∧ Fits P n w0 ow0 ow' s' a w ∧ ds.length = rs.length ∧ vals.length = rs.length ∧ (∀ (g : ResultVar → Sem Value), (∀ r, g r = rvRun a.tmps r) → (rs.mapM g).run P w = .ok vals w) ∧
      (∀ (j : Nat) (p : D × Bool), ds[j]? = some p → ∃ v, vals[j]? = some v ∧ V P w ow' p.1 (lab (k + j) ++ [res0]) v ∧ (p.2 = true → p.1.fz = p.1)) ∧ ∀ l, Keeps w ow (l ++ [res0]) w ow' (l ++ [res0])
  | [], k, ow, s, K, h, hk => ⟨[], ow, s, [], hk, h, rfl, rfl, fun g _ => rfl, fun j p hj => by simp at hj, fun l b _ => ⟨fun h => ⟨rfl, h⟩, fun q h => ⟨rfl, h⟩⟩⟩
  | r :: rs, k, ow, s, K, h, hk => by
    have go : ∀ (v : Value) (ow1 : Own) (s1 : St) (d : D) (b : Bool), (∀ (g : ResultVar → Sem Value), (∀ r, g r = rvRun a.tmps r) → (g r).run P w = .ok v w) → Fits P n w0 ow0 ow1 s1 a w → V P w ow1 d (lab k ++ [res0]) v → (b = true → d.fz = d) → (∀ l, Keeps w ow (l ++ [res0]) w ow1 (l ++ [res0])) →
        Dv.retL T rs s1 (fun ds s2 => K ((d, b) :: ds) s2) → ∃ vals ow' s' ds, K ds s' ∧ Fits P n w0 ow0 ow' s' a w ∧ ds.length = (r :: rs).length ∧ vals.length = (r :: rs).length ∧ (∀ (g : ResultVar → Sem Value), (∀ r, g r = rvRun a.tmps r) → ((r :: rs).mapM g).run P w = .ok vals w) ∧
          (∀ (j : Nat) (p : D × Bool), ds[j]? = some p → ∃ v, vals[j]? = some v ∧ V P w ow' p.1 (lab (k + j) ++ [res0]) v ∧ (p.2 = true → p.1.fz = p.1)) ∧ ∀ l, Keeps w ow (l ++ [res0]) w ow' (l ++ [res0]) := by
      intro v ow1 s1 d b hrun hf hV hb hkeep hrest
      obtain ⟨vals, ow', s', ds, k1, k2, k3, k4, k5, k6, k7⟩ := Fits.retL hG lab rs (k + 1) hf hrest
      refine ⟨v :: vals, ow', s', (d, b) :: ds, k1, k2, by simp [k3], by simp [k4], fun g hg => ?_, fun j p hj => ?_, fun l b hb => ?_⟩
      · simp only [List.mapM_cons, Sem.run_bind, hrun g hg, Result.andThen_ok, k5 g hg, Sem.run_pure]
      · cases j with
        | zero =>
          simp at hj
          subst hj
          exact ⟨v, rfl, V.tr (k7 (lab k)) hV, hb⟩
        | succ j =>
          simp at hj
          obtain ⟨v', e1, e2⟩ := k6 j p hj
          exact ⟨v', by simpa using e1, by rw [show k + (j + 1) = k + 1 + j by omega]; exact e2⟩
      · obtain ⟨a1, a2⟩ := hkeep l b hb
        obtain ⟨b1, b2⟩ := k7 l b hb
        exact ⟨fun h0 => ⟨rfl, (b1 (a1 h0).2).2⟩, fun q hq => ⟨rfl, (b2 q (a2 q hq).2).2⟩⟩
    cases r with
    | tmp t =>
      obtain ⟨h1, h2, h3⟩ := hk
      obtain ⟨ow1, g1, g2, g3⟩ := h.src (.tmp t) (lab k ++ [res0]) (srcOf s t (evS s (.tmp t))) rfl (by intro e; rw [e] at h1; exact h1)
      refine go (a.eval (.tmp t)) ow1 _ _ _ (fun g hg => by rw [hg]; rfl) g1 g2 ?_ (fun l => g3 l res0 h2) h3
      intro hb
      cases hz : srcOf s t (evS s (.tmp t)) with
      | fr d => simp only [Src.data]; exact D.fz_fz d
      | all r d => rw [hz] at hb; cases hb
      | nd r p d m => rw [hz] at hb; cases hb
      | no => rw [hz] at h1; exact h1.elim
    | cell x ty =>
      unfold Dv.retL at hk
      have hp := h.asPtr (.tmp x)
      simp only [slotOf] at hp
      split at hk
      · rename_i r p hrp
        rw [hrp] at hp
        split at hk
        · rename_i d hs
          split at hk
          · rename_i m hm
            obtain ⟨hr0, hp0, hty, hrest⟩ := hk
            obtain ⟨d', m', b, off, h1, h2, h3, h4⟩ := hp
            rw [hs] at h1
            obtain rfl : d = d' := by injection h1
            rw [hm] at h2
            obtain rfl : m = m' := Option.some.inj h2
            have hVr := h.slot r
            rw [hs] at hVr
            have hR : R P w ow d [r] [aval a r] := by
              cases p with
              | nil => exact absurd rfl hp0
              | cons k p => exact V.one hVr h3
            obtain ⟨hL, _, _⟩ := hR.at h3 hm
            obtain ⟨v, hv, hV, _⟩ := run_load (hG ty) hty hL
            obtain ⟨g1, g2⟩ := h.take hs hm hp0 (lab k ++ [res0]) hV
            refine go v _ _ m false (fun g hg => ?_) g1 g2 (fun hb => by cases hb) (fun l => keeps_take hr0) hrest
            rw [hg]
            have he : a.tmps.getD x undef = .pointer (some ⟨b, off, none⟩) := h4
            simp only [rvRun, he, asAddr, Sem.run_bind, Sem.run_pure, Result.andThen_ok]
            simp only [Instr.loadAt, Instr.sureAddr, Sem.run_bind, Sem.run_pure, Result.andThen_ok] at hv
            exact hv
          · exact hk.elim
        · exact hk.elim
      · exact hk.elim
def retS : List (D × Bool) → S
  | [(d, b)] => if b || d.frz then .val d else .own d
  | ds => .tup (ds.map fun p => if p.2 || p.1.frz then .val p.1 else .own p.1)
def endR (T : TypeId → TyE) (rs : List ResultVar) (Q : S → Prop) : Exit → St → Prop
  | .normal, s => retL T rs s fun ds _ => Q (retS ds)
  | .ret, s => retL T rs s fun ds _ => Q (retS ds)
  | _, _ => False
def argB : List (Nat × D) → List D → St
  | [], ds => argSt ds
  | (b, d) :: gs, ds => (argB gs ds).put (1000000 + 2 * b) (.rp d)
theorem argB_own : ∀ (gs : List (Nat × D)) (ds : List D) (i : Nat), (argB gs ds i).isOwn = false
  | [], ds, i => by
    simp only [argB, argSt]
    cases ds[i]? <;> rfl
  | (b, d) :: gs, ds, i => by
    simp only [argB, St.put]
    split
    · rfl
    · exact argB_own gs ds i
theorem fn_ofB {P : Program} {T : TypeId → TyE} {f : FuncId} {fn : Func} {c : Code} {n : Nat} {rs : List ResultVar} {ds : List D} {gs : List (Nat × D)} {Q : S → Prop} (hG : ∀ t, Good P T t) (hf : P.funcs[f]? = some fn) (hb : fn.body = some c) (hn' : fn.ntmps = n) (hn : n ≤ 1000000) (hd : ds.length ≤ n)
    (hr : fn.results = rs.toArray) (h : ∀ w0 ow0, OkC P n w0 ow0 none c (argB gs ds) (endR T rs Q)) : FnOkB P f ds gs Q := by
  subst hn'
  intro w ow vs t ht hL hnew hvs hargs hgs
  refine calls_of_wp hf hb ?_
  have hfit0 : Fits P fn.ntmps w (fun b => (ow b).map (· ++ [far0])) (fun b => (ow b).map (· ++ [far0])) (argSt ds) { tmps := vs ++ Array.replicate (fn.ntmps - vs.size) undef, defers := [] } w := by
    refine ⟨rfl, by simp; omega, hn, (hL.mono fun b o h1 h2 => ⟨h1, by simp [h2]⟩), ⟨rfl, rfl, rfl, Nat.le_refl _, fun _ _ _ => rfl⟩, fun _ _ h => h, fun b hb => by simp [hnew b hb], ?_, fun _ _ _ h => ⟨rfl, h⟩, fun i => ?_⟩
    · unfold argSt
      rw [List.getElem?_eq_none (by unfold far0; omega)]
    · unfold argSt
      cases hdi : ds[i]? with
      | none => trivial
      | some d =>
        have hi : i < ds.length := (List.getElem?_eq_some_iff.1 hdi).1
        have := hargs i d hdi
        simp only [SV]
        have he : aval { tmps := vs ++ Array.replicate (fn.ntmps - vs.size) undef, defers := [] } i = vs.getD i undef := by
          unfold aval
          rw [if_pos (by omega)]
          simp only [Array.getD_eq_getD_getElem?]
          rw [Array.getElem?_append_left (by omega)]
        rw [he]
        exact V.trf (fun b _ ho => ⟨rfl, by simp [ho]⟩) this
  have hfit : Fits P fn.ntmps w (fun b => (ow b).map (· ++ [far0])) (fun b => (ow b).map (· ++ [far0])) (argB gs ds) { tmps := vs ++ Array.replicate (fn.ntmps - vs.size) undef, defers := [] } w := by
    clear h
    induction gs with
    | nil => exact hfit0
    | cons p gs ih =>
      obtain ⟨b, d⟩ := p
      have h1 := hgs (b, d) (by simp)
      refine (ih fun p hp => hgs p (by simp [hp])).tell (by unfold far0; omega) (argB_own gs ds _) ?_
      have hq : Quiet w ow w (fun b => (ow b).map (· ++ [far0])) := fun b _ ho => ⟨rfl, by simp [ho]⟩
      have h2 := V.trf (l2 := []) hq h1
      simp only [V, D.fz, R] at h2
      obtain ⟨b', off, C, e, fz, cs, g1, g2, g3, _, g5, g6, g7⟩ := h2
      simp only [List.cons.injEq, Value.pointer.injEq, Option.some.injEq, and_true] at g1
      obtain ⟨rfl, rfl, _⟩ := Addr.mk.inj g1
      simp only [SV]
      refine ⟨b, 0, ?_, g3 trivial, C, e, fz, cs, g2, fun j hj => g6 j (by rw [g5]; exact hj), R.trf (fun b _ hb => ⟨rfl, hb⟩) g7⟩
      unfold aval
      rw [if_neg (by omega)]
      have : (1000000 + 2 * b - 1000000) / 2 = b := by omega
      rw [this]
  refine h w _ _ w ⟨_, hfit⟩ (fun m v e => by cases e) _ fun e s' a' w' hK hR _ => ?_
  have key : retL T rs s' (fun ds _ => Q (retS ds)) → bodyPost P fn (fun e w' => ∃ v ow' r, e = .returned v ∧ Q r ∧ After w ow w' ow' ∧ S.plain r = true ∧ ∀ s a, SV P w' ow' s a t r v) .ret a' w' := by
    intro hK
    obtain ⟨ow1, hf1⟩ := hR
    obtain ⟨vals, ow2, s2, ds2, hQ, hf2, hl1, hl2, hrun, hvals, hkeep⟩ := hf1.retL hG (fun k => if rs.length = 1 then [] else [k]) rs 0 hK
    have hres : (results fn a'.tmps).run P w' = .ok (if h : vals.toArray.size = 1 then vals.toArray[0] else .tuple vals.toArray) w' := by
      unfold results
      rw [hr]
      have hb : ∀ {α β : Type} (x : Sem α) (g : α → Sem β), Sem.run P (Sem.bind x g) w' = (Sem.run P x w').andThen fun a w' => Sem.run P (g a) w' := fun x g => Sem.run_bind ..
      simp only [List.mapM_toArray, Functor.map, Sem.run_bind, Sem.run_pure]
      rw [hb, hrun _ (rvRun_eq a'.tmps P w' _ (fun _ => rfl) fun _ _ => rfl)]
      rfl
    refine ⟨hf1.nodef, _, hres, ?_⟩
    have hnone : ∀ b, ow2 b = none → leave w ow ow2 t b = none := by
      intro b hb
      unfold leave
      split
      · rename_i hlt
        cases ho : ow b with
        | none => rfl
        | some q =>
          have := (hf2.keep b hlt q (by simp [ho])).2
          rw [hb] at this; cases this
      · simp [hb]
    have hold : ∀ b q, b < w.heap.size → ow2 b ≠ some (q ++ [res0]) := by
      intro b q hlt e
      cases ho : ow b with
      | none =>
        have := hf2.own b hlt (by simp [ho])
        rw [e] at this; cases this
      | some q' =>
        have := (hf2.keep b hlt q' (by simp [ho])).2
        rw [e] at this
        have := congrArg List.getLast? (Option.some.inj this)
        simp [res0, far0] at this
    have hk : ∀ l, Keeps w' ow2 (l ++ [res0]) w' (leave w ow ow2 t) (l ++ [t]) := fun l b _ => ⟨fun ho => ⟨rfl, hnone b ho⟩, fun q hq => ⟨rfl, by
      have hq' : ow2 b = some ((q ++ l) ++ [res0]) := by rw [hq]; simp
      unfold leave
      rw [if_neg fun hlt => hold b _ hlt hq', hq']
      simp⟩⟩
    have hq : Quiet w' ow2 w' (leave w ow ow2 t) := fun b _ ho => ⟨rfl, hnone b ho⟩
    have part : ∀ (j : Nat) (p : D × Bool), ds2[j]? = some p → ∃ v, vals[j]? = some v ∧ (if (p.2 || p.1.frz) = true then V P w' (leave w ow ow2 t) p.1.fz [] v else V P w' (leave w ow ow2 t) p.1 ((if rs.length = 1 then [] else [j]) ++ [t]) v) := by
      intro j p hj
      obtain ⟨v, h1, h2, h3⟩ := hvals j p hj
      rw [Nat.zero_add] at h2
      refine ⟨v, h1, ?_⟩
      by_cases hp : (p.2 || p.1.frz) = true
      · rw [if_pos hp]
        have hfz : p.1.fz = p.1 := by
          rcases Bool.or_eq_true _ _ ▸ hp with hp | hp
          · exact h3 hp
          · exact D.fz_frz hp
        rw [← hfz] at h2
        exact V.trf hq h2
      · rw [if_neg hp]
        exact V.tr (hk _) h2
    refine ⟨_, leave w ow ow2 t, retS ds2, rfl, hQ, ⟨hf2.bel.os, hf2.bel.tape, hf2.bel.output, hf2.bel.size, fun b hb => ⟨?_, by unfold leave; rw [if_pos hb]⟩, fun b hb => hnone b (hf2.new b hb)⟩, ?_, fun s a => ?_⟩
    · cases ho : ow b with
      | none => exact hf2.bel.block b hb (by simp [ho])
      | some q => exact (hf2.keep b hb q (by simp [ho])).1
    · unfold retS
      split
      · split <;> rfl
      · rfl
    · by_cases hone : rs.length = 1
      · have hd1 : ds2.length = 1 := by rw [hl1, hone]
        have hv1 : vals.length = 1 := by rw [hl2, hone]
        obtain ⟨⟨d, b⟩, rfl⟩ := List.length_eq_one_iff.1 hd1
        obtain ⟨v, rfl⟩ := List.length_eq_one_iff.1 hv1
        · obtain ⟨v', h1, h2⟩ := part 0 (d, b) rfl
          obtain rfl : v = v' := by simpa using h1
          rw [if_pos hone] at h2
          simp only [retS]
          by_cases hp : (b || d.frz) = true
          · rw [if_pos hp] at h2 ⊢
            exact h2
          · rw [if_neg hp] at h2 ⊢
            exact h2
      · have hd1 : ∀ p, ds2 ≠ [p] := fun p e => by rw [e] at hl1; simp at hl1; exact hone hl1.symm
        have htup : retS ds2 = .tup (ds2.map fun p => if p.2 || p.1.frz then .val p.1 else .own p.1) := by
          unfold retS
          split
          · rename_i d b; exact absurd rfl (hd1 _)
          · rfl
        rw [htup]
        refine ⟨vals.toArray, ?_, by simp [hl1, hl2], fun j x hx => ?_⟩
        · rw [dif_neg]
          simp [hl2, hone]
        · simp only [List.getElem?_map, Option.map_eq_some_iff] at hx
          obtain ⟨p, hp, rfl⟩ := hx
          obtain ⟨v, h1, h2⟩ := part j p hp
          have hv : vals.toArray.getD j undef = v := by simp [Array.getD_eq_getD_getElem?, h1]
          rw [hv]
          by_cases hpf : (p.2 || p.1.frz) = true
          · rw [if_pos hpf] at h2 ⊢
            exact h2
          · rw [if_neg hpf] at h2 ⊢
            rw [if_neg hone] at h2
            exact h2
  cases e with
  | normal => exact key hK
  | ret => exact key hK
  | _ => exact hK.elim
theorem fn_of {P : Program} {T : TypeId → TyE} {f : FuncId} {fn : Func} {c : Code} {n : Nat} {rs : List ResultVar} {ds : List D} {Q : S → Prop} (hG : ∀ t, Good P T t) (hf : P.funcs[f]? = some fn) (hb : fn.body = some c) (hn' : fn.ntmps = n) (hn : n ≤ 1000000) (hd : ds.length ≤ n)
    (hr : fn.results = rs.toArray) (h : ∀ w0 ow0, OkC P n w0 ow0 none c (argSt ds) (endR T rs Q)) : FnOk P f ds Q := fun w ow vs t h0 h1 h2 h3 h4 => fn_ofB (gs := []) hG hf hb hn' hn hd hr h w ow vs t h0 h1 h2 h3 h4 (fun p hp => by simp at hp)
attribute [go_sem] argB endR retL retS rvOp res0 far0
end Go.Dv

end
section
namespace Go.Dv
open Go.RowKit
variable [Glob]
def tabM (M : List (Nat × Nat)) (L : List (Nat × TyE)) (t : TypeId) : TyE := match M.lookup t with
  | some m => ⟨.no, m + 1, .any 0⟩
  | none => tab L t
theorem good_tabM {P : Program} {M : List (Nat × Nat)} {L : List (Nat × TyE)} (h : allGood P L) (t : TypeId) : Good P (tabM M L) t := by
  unfold Good tabM
  cases hM : M.lookup t with
  | some m => exact .inl trivial
  | none =>
    have := good_tab h t
    unfold Good at this
    exact this
def fldsOk (P : Program) : List Field → Prop
  | [] => True
  | f :: l => (f.name ≠ "_" ∧ ∃ i, P.info? f.type = some i ∧ 0 < i.size) ∧ fldsOk P l
theorem fldsOk.mem {P : Program} : ∀ {l : List Field}, fldsOk P l → ∀ f ∈ l, f.name ≠ "_" ∧ ∃ i, P.info? f.type = some i ∧ 0 < i.size
  | f :: l, h, g, hg => by
    rcases List.mem_cons.1 hg with rfl | hg
    · exact h.1
    · exact h.2.mem g hg
theorem fn_plain {P : Program} {f : FuncId} {ds : List D} {u : Value} (hu : u.oneCell' = true) (h : ∀ (w : World) (ow : Own) (vs : Array Value), Laid w ow → vs.size = ds.length → (∀ (i : Nat) (d : D), ds[i]? = some d → V P w ow d.fz [] (vs.getD i undef)) → Calls P f vs w fun e w' => e = .returned u ∧ Below w.heap.size w w') :
    FnOk P f ds (fun r => r = .val (.one u)) := by
  intro w ow vs t ht hL hnew hvs hargs
  refine (h w ow vs hL hvs hargs).mono ?_
  rintro e w' ⟨rfl, hB⟩
  refine ⟨u, fun b => if b < w.heap.size then ow b else none, _, rfl, rfl, ⟨hB.os, hB.tape, hB.output, hB.size, fun b hb => ⟨hB.block b hb, if_pos hb⟩, fun b hb => if_neg (by have := hB.size; omega)⟩, rfl, fun s a => SV.val_one hu⟩
end Go.Dv

end
section
set_option maxRecDepth 10000
namespace Go.Proofs.YtfhfidecmdhkoaaGreatDoor
open Go.Dv
def GlobFacts (w : World) : Prop := Lib.TabIs Tryz.prog w "internal/strconv.uint64pow10" .u64 Lib.pow10Tab ∧ (∃ tp p, w.var? Tryz.prog "strconv.ErrSyntax" = some #[.iface tp p]) ∧ (∃ tp p, w.var? Tryz.prog "strconv.ErrRange" = some #[.iface tp p]) ∧ ∃ m, w.cell? ⟨0, 0, none⟩ = some (.int .i64 m)
instance : Glob := ⟨fun gl => ∀ w : World, (∀ p ∈ gl, w.heap[p.1]? = some p.2) → GlobFacts w⟩
theorem laid_facts {w : World} {ow : Own} (h : Laid w ow) : GlobFacts w := by
  obtain ⟨gl, h1, h2⟩ := h
  exact h1 w fun p hp => (h2 p hp).1
def T : TypeId → TyE := tabM [(1000014, 0), (1000033, 0), (1000063, 0), (1000065, 0), (1000086, 0), (1000054, 0), (1000138, 0), (1000036, 0), (1000085, 0), (1000055, 0), (1000037, 0), (1000053, 0), (1000067, 0), (1000066, 0), (1000099, 0), (1000140, 0), (1000097, 0), (1000098, 0), (1000139, 0), (1000096, 0), (1000132, 0), (1000056, 0), (1000087, 0), (1000166, 0), (1000167, 0)] [(1, ⟨.fn, 1, .one .nilFunc⟩),
  (2, ⟨.int .i64, 1, .one (.int .i64 0)⟩),
  (3, ⟨.int .i64, 1, .one (.int .i64 0)⟩),
  (4, ⟨.bool, 1, .one (.bool false)⟩),
  (5, ⟨.int .u8, 1, .one (.int .u8 0)⟩),
  (6, ⟨.int .u8, 1, .one (.int .u8 0)⟩),
  (7, ⟨.agg [(0, 2), (1, 3), (2, 4), (3, 6)], 4, .agg [.one (.int .i64 0), .one (.int .i64 0), .one (.bool false), .one (.int .u8 0)]⟩),
  (8, ⟨.agg [(0, 2), (1, 3), (2, 4), (3, 6)], 4, .agg [.one (.int .i64 0), .one (.int .i64 0), .one (.bool false), .one (.int .u8 0)]⟩),
  (9, ⟨.str, 1, .one (.string { data := #[] })⟩),
  (10, ⟨.str, 1, .one (.string { data := #[] })⟩),
  (11, ⟨.str, 1, .one (.string { data := #[] })⟩),
  (12, ⟨.int .u64, 1, .one (.int .u64 0)⟩),
  (15, ⟨.ptr, 1, .one (.pointer none)⟩),
  (16, ⟨.ptr, 1, .one (.pointer none)⟩),
  (17, ⟨.ptr, 1, .one (.pointer none)⟩),
  (20, ⟨.ifc, 1, .one .nilIface⟩),
  (21, ⟨.int .i32, 1, .one (.int .i32 0)⟩),
  (22, ⟨.sl 91, 1, .sl (some 91) []⟩),
  (23, ⟨.agg [(0, 22)], 1, .agg [.sl (some 91) []]⟩),
  (24, ⟨.agg [(0, 22)], 1, .agg [.sl (some 91) []]⟩),
  (25, ⟨.fn, 1, .one .nilFunc⟩),
  (27, ⟨.fn, 1, .one .nilFunc⟩),
  (28, ⟨.sl 81, 1, .sl (some 81) []⟩),
  (29, ⟨.agg [(0, 28)], 1, .agg [.sl (some 81) []]⟩),
  (30, ⟨.agg [(0, 28)], 1, .agg [.sl (some 81) []]⟩),
  (31, ⟨.fn, 1, .one .nilFunc⟩),
  (32, ⟨.fn, 1, .one .nilFunc⟩),
  (33, ⟨.fn, 1, .one .nilFunc⟩),
  (34, ⟨.sl 30, 1, .sl (some 30) []⟩),
  (36, ⟨.fn, 1, .one .nilFunc⟩),
  (37, ⟨.fn, 1, .one .nilFunc⟩),
  (38, ⟨.fn, 1, .one .nilFunc⟩),
  (39, ⟨.fn, 1, .one .nilFunc⟩),
  (40, ⟨.sl 5, 1, .sl (some 5) []⟩),
  (41, ⟨.fn, 1, .one .nilFunc⟩),
  (43, ⟨.fn, 1, .one .nilFunc⟩),
  (44, ⟨.fn, 1, .one .nilFunc⟩),
  (46, ⟨.fn, 1, .one .nilFunc⟩),
  (47, ⟨.fn, 1, .one .nilFunc⟩),
  (49, ⟨.fn, 1, .one .nilFunc⟩),
  (50, ⟨.fn, 1, .one .nilFunc⟩),
  (51, ⟨.fn, 1, .one .nilFunc⟩),
  (52, ⟨.fn, 1, .one .nilFunc⟩),
  (53, ⟨.fn, 1, .one .nilFunc⟩),
  (54, ⟨.fn, 1, .one .nilFunc⟩),
  (55, ⟨.fn, 1, .one .nilFunc⟩),
  (56, ⟨.fn, 1, .one .nilFunc⟩),
  (57, ⟨.fn, 1, .one .nilFunc⟩),
  (58, ⟨.fn, 1, .one .nilFunc⟩),
  (59, ⟨.fn, 1, .one .nilFunc⟩),
  (60, ⟨.ptr, 1, .one (.pointer none)⟩),
  (61, ⟨.fn, 1, .one .nilFunc⟩),
  (62, ⟨.fn, 1, .one .nilFunc⟩),
  (63, ⟨.sl 3, 1, .sl (some 3) []⟩),
  (64, ⟨.fn, 1, .one .nilFunc⟩),
  (65, ⟨.fn, 1, .one .nilFunc⟩),
  (66, ⟨.fn, 1, .one .nilFunc⟩),
  (67, ⟨.fn, 1, .one .nilFunc⟩),
  (68, ⟨.fn, 1, .one .nilFunc⟩),
  (69, ⟨.fn, 1, .one .nilFunc⟩),
  (71, ⟨.fn, 1, .one .nilFunc⟩),
  (73, ⟨.fn, 1, .one .nilFunc⟩),
  (74, ⟨.fn, 1, .one .nilFunc⟩),
  (75, ⟨.sl 9, 1, .sl (some 9) []⟩),
  (76, ⟨.agg [(0, 3), (1, 3), (2, 3), (3, 75)], 4, .agg [.one (.int .i64 0), .one (.int .i64 0), .one (.int .i64 0), .sl (some 9) []]⟩),
  (77, ⟨.agg [(0, 3), (1, 3), (2, 3), (3, 75)], 4, .agg [.one (.int .i64 0), .one (.int .i64 0), .one (.int .i64 0), .sl (some 9) []]⟩),
  (78, ⟨.agg [(0, 3), (1, 3), (2, 4), (3, 3)], 4, .agg [.one (.int .i64 0), .one (.int .i64 0), .one (.bool false), .one (.int .i64 0)]⟩),
  (79, ⟨.agg [(0, 3), (1, 3), (2, 4), (3, 3)], 4, .agg [.one (.int .i64 0), .one (.int .i64 0), .one (.bool false), .one (.int .i64 0)]⟩),
  (80, ⟨.agg [(0, 3), (1, 77), (5, 79)], 9, .agg [.one (.int .i64 0), .agg [.one (.int .i64 0), .one (.int .i64 0), .one (.int .i64 0), .sl (some 9) []], .agg [.one (.int .i64 0), .one (.int .i64 0), .one (.bool false), .one (.int .i64 0)]]⟩),
  (81, ⟨.agg [(0, 3), (1, 77), (5, 79)], 9, .agg [.one (.int .i64 0), .agg [.one (.int .i64 0), .one (.int .i64 0), .one (.int .i64 0), .sl (some 9) []], .agg [.one (.int .i64 0), .one (.int .i64 0), .one (.bool false), .one (.int .i64 0)]]⟩),
  (82, ⟨.fn, 1, .one .nilFunc⟩),
  (83, ⟨.fn, 1, .one .nilFunc⟩),
  (84, ⟨.fn, 1, .one .nilFunc⟩),
  (85, ⟨.fn, 1, .one .nilFunc⟩),
  (86, ⟨.fn, 1, .one .nilFunc⟩),
  (87, ⟨.fn, 1, .one .nilFunc⟩),
  (88, ⟨.agg [(0, 3), (1, 3), (2, 3), (3, 75)], 4, .agg [.one (.int .i64 0), .one (.int .i64 0), .one (.int .i64 0), .sl (some 9) []]⟩),
  (89, ⟨.agg [(0, 3), (1, 3), (2, 4), (3, 3)], 4, .agg [.one (.int .i64 0), .one (.int .i64 0), .one (.bool false), .one (.int .i64 0)]⟩),
  (90, ⟨.agg [(0, 3), (1, 88), (5, 89)], 9, .agg [.one (.int .i64 0), .agg [.one (.int .i64 0), .one (.int .i64 0), .one (.int .i64 0), .sl (some 9) []], .agg [.one (.int .i64 0), .one (.int .i64 0), .one (.bool false), .one (.int .i64 0)]]⟩),
  (91, ⟨.agg [(0, 3), (1, 88), (5, 89)], 9, .agg [.one (.int .i64 0), .agg [.one (.int .i64 0), .one (.int .i64 0), .one (.int .i64 0), .sl (some 9) []], .agg [.one (.int .i64 0), .one (.int .i64 0), .one (.bool false), .one (.int .i64 0)]]⟩),
  (92, ⟨.fn, 1, .one .nilFunc⟩),
  (93, ⟨.fn, 1, .one .nilFunc⟩),
  (94, ⟨.agg [(0, 40), (1, 3), (2, 3)], 3, .agg [.sl (some 5) [], .one (.int .i64 0), .one (.int .i64 0)]⟩),
  (95, ⟨.agg [(0, 40), (1, 3), (2, 3)], 3, .agg [.sl (some 5) [], .one (.int .i64 0), .one (.int .i64 0)]⟩),
  (96, ⟨.fn, 1, .one .nilFunc⟩),
  (97, ⟨.fn, 1, .one .nilFunc⟩),
  (98, ⟨.fn, 1, .one .nilFunc⟩),
  (99, ⟨.fn, 1, .one .nilFunc⟩),
  (100, ⟨.fn, 1, .one .nilFunc⟩),
  (101, ⟨.fn, 1, .one .nilFunc⟩),
  (102, ⟨.ifc, 1, .one .nilIface⟩),
  (103, ⟨.ifc, 1, .one .nilIface⟩),
  (105, ⟨.fn, 1, .one .nilFunc⟩),
  (106, ⟨.fn, 1, .one .nilFunc⟩),
  (107, ⟨.fn, 1, .one .nilFunc⟩),
  (109, ⟨.fn, 1, .one .nilFunc⟩),
  (110, ⟨.fn, 1, .one .nilFunc⟩),
  (111, ⟨.fn, 1, .one .nilFunc⟩),
  (112, ⟨.fn, 1, .one .nilFunc⟩),
  (113, ⟨.fn, 1, .one .nilFunc⟩),
  (114, ⟨.fn, 1, .one .nilFunc⟩),
  (115, ⟨.fn, 1, .one .nilFunc⟩),
  (116, ⟨.fn, 1, .one .nilFunc⟩),
  (117, ⟨.fn, 1, .one .nilFunc⟩),
  (118, ⟨.fn, 1, .one .nilFunc⟩),
  (119, ⟨.fn, 1, .one .nilFunc⟩),
  (120, ⟨.fn, 1, .one .nilFunc⟩),
  (121, ⟨.fn, 1, .one .nilFunc⟩),
  (122, ⟨.fn, 1, .one .nilFunc⟩),
  (123, ⟨.fn, 1, .one .nilFunc⟩),
  (124, ⟨.fn, 1, .one .nilFunc⟩),
  (125, ⟨.fn, 1, .one .nilFunc⟩),
  (126, ⟨.ptr, 1, .one (.pointer none)⟩),
  (127, ⟨.agg [(0, 126), (1, 40)], 2, .agg [.one (.pointer none), .sl (some 5) []]⟩),
  (128, ⟨.agg [(0, 126), (1, 40)], 2, .agg [.one (.pointer none), .sl (some 5) []]⟩),
  (129, ⟨.fn, 1, .one .nilFunc⟩),
  (130, ⟨.fn, 1, .one .nilFunc⟩),
  (131, ⟨.fn, 1, .one .nilFunc⟩),
  (132, ⟨.fn, 1, .one .nilFunc⟩),
  (134, ⟨.fn, 1, .one .nilFunc⟩),
  (136, ⟨.fn, 1, .one .nilFunc⟩),
  (138, ⟨.fn, 1, .one .nilFunc⟩),
  (140, ⟨.fn, 1, .one .nilFunc⟩),
  (141, ⟨.fn, 1, .one .nilFunc⟩),
  (142, ⟨.fn, 1, .one .nilFunc⟩),
  (143, ⟨.fn, 1, .one .nilFunc⟩),
  (144, ⟨.int .u64, 1, .one (.int .u64 0)⟩),
  (145, ⟨.fn, 1, .one .nilFunc⟩),
  (146, ⟨.fn, 1, .one .nilFunc⟩),
  (147, ⟨.fn, 1, .one .nilFunc⟩),
  (148, ⟨.fn, 1, .one .nilFunc⟩),
  (149, ⟨.fn, 1, .one .nilFunc⟩),
  (150, ⟨.fn, 1, .one .nilFunc⟩),
  (151, ⟨.fn, 1, .one .nilFunc⟩),
  (152, ⟨.fn, 1, .one .nilFunc⟩),
  (153, ⟨.ptr, 1, .one (.pointer none)⟩),
  (154, ⟨.int .i64, 1, .one (.int .i64 0)⟩),
  (156, ⟨.fn, 1, .one .nilFunc⟩),
  (157, ⟨.ptr, 1, .one (.pointer none)⟩),
  (158, ⟨.fn, 1, .one .nilFunc⟩),
  (159, ⟨.fn, 1, .one .nilFunc⟩),
  (160, ⟨.fn, 1, .one .nilFunc⟩),
  (161, ⟨.fn, 1, .one .nilFunc⟩),
  (163, ⟨.fn, 1, .one .nilFunc⟩),
  (164, ⟨.fn, 1, .one .nilFunc⟩),
  (165, ⟨.arr 24 5, 24, .agg (List.replicate 24 (.one (.int .u8 0)))⟩),
  (166, ⟨.int .u64, 1, .one (.int .u64 0)⟩),
  (167, ⟨.fn, 1, .one .nilFunc⟩),
  (168, ⟨.fn, 1, .one .nilFunc⟩),
  (170, ⟨.fn, 1, .one .nilFunc⟩),
  (172, ⟨.fn, 1, .one .nilFunc⟩),
  (173, ⟨.fn, 1, .one .nilFunc⟩),
  (175, ⟨.fn, 1, .one .nilFunc⟩),
  (176, ⟨.fn, 1, .one .nilFunc⟩),
  (177, ⟨.agg [(0, 9), (1, 9), (2, 103)], 3, .agg [.one (.string { data := #[] }), .one (.string { data := #[] }), .one .nilIface]⟩),
  (178, ⟨.agg [(0, 9), (1, 9), (2, 103)], 3, .agg [.one (.string { data := #[] }), .one (.string { data := #[] }), .one .nilIface]⟩),
  (179, ⟨.fn, 1, .one .nilFunc⟩),
  (181, ⟨.fn, 1, .one .nilFunc⟩),
  (182, ⟨.fn, 1, .one .nilFunc⟩),
  (183, ⟨.arr 256 4, 256, .agg (List.replicate 256 (.one (.bool false)))⟩),
  (184, ⟨.arr 256 4, 256, .agg (List.replicate 256 (.one (.bool false)))⟩),
  (186, ⟨.fn, 1, .one .nilFunc⟩),
  (187, ⟨.fn, 1, .one .nilFunc⟩),
  (188, ⟨.fn, 1, .one .nilFunc⟩),
  (189, ⟨.fn, 1, .one .nilFunc⟩),
  (190, ⟨.arr 20 166, 20, .agg (List.replicate 20 (.one (.int .u64 0)))⟩),
  (191, ⟨.int .u32, 1, .one (.int .u32 0)⟩),
  (192, ⟨.arr 65 5, 65, .agg (List.replicate 65 (.one (.int .u8 0)))⟩),
  (193, ⟨.fn, 1, .one .nilFunc⟩),
  (194, ⟨.fn, 1, .one .nilFunc⟩),
  (195, ⟨.ptr, 1, .one (.pointer none)⟩),
  (196, ⟨.agg [(0, 9)], 1, .agg [.one (.string { data := #[] })]⟩),
  (197, ⟨.agg [(0, 9)], 1, .agg [.one (.string { data := #[] })]⟩),
  (198, ⟨.fn, 1, .one .nilFunc⟩),
  (199, ⟨.ptr, 1, .one (.pointer none)⟩),
  (200, ⟨.fn, 1, .one .nilFunc⟩),
  (201, ⟨.arr 256 5, 256, .agg (List.replicate 256 (.one (.int .u8 0)))⟩),
  (202, ⟨.agg [(0, 5), (1, 5)], 2, .agg [.one (.int .u8 0), .one (.int .u8 0)]⟩),
  (203, ⟨.agg [(0, 5), (1, 5)], 2, .agg [.one (.int .u8 0), .one (.int .u8 0)]⟩),
  (204, ⟨.arr 16 203, 32, .agg (List.replicate 16 (.agg [.one (.int .u8 0), .one (.int .u8 0)]))⟩),
  (206, ⟨.fn, 1, .one .nilFunc⟩),
  (207, ⟨.arr 32 5, 32, .agg (List.replicate 32 (.one (.int .u8 0)))⟩),
  (208, ⟨.arr 64 5, 64, .agg (List.replicate 64 (.one (.int .u8 0)))⟩),
  (214, ⟨.fn, 1, .one .nilFunc⟩),
  (215, ⟨.int .u8, 1, .one (.int .u8 0)⟩),
  (216, ⟨.int .u8, 1, .one (.int .u8 0)⟩),
  (217, ⟨.fn, 1, .one .nilFunc⟩),
  (218, ⟨.int .i32, 1, .one (.int .i32 0)⟩),
  (219, ⟨.int .i32, 1, .one (.int .i32 0)⟩)]
set_option maxRecDepth 10000 in
theorem good : ∀ t, Dv.Good Tryz.prog T t   := good_tabM
  ⟨⟨⟨_, _, _, Tryz.underlying1⟩, Tryz.t1, _, Tryz.type1, rfl, rfl, rfl, rfl, by simp [Ty.isAgg], by decide, rfl⟩,
  ⟨Tryz.underlying2, Tryz.t2, _, Tryz.type2, rfl, rfl, rfl, rfl, by simp [Ty.isAgg], by decide, rfl⟩,
  ⟨Tryz.underlying3, Tryz.t3, _, Tryz.type3, rfl, rfl, rfl, rfl, by simp [Ty.isAgg], by decide, rfl⟩,
  ⟨Tryz.underlying4, Tryz.t4, _, Tryz.type4, rfl, rfl, rfl, rfl, by simp [Ty.isAgg], by decide, rfl⟩,
  ⟨Tryz.underlying5, Tryz.t5, _, Tryz.type5, rfl, rfl, rfl, rfl, by simp [Ty.isAgg], by decide, rfl⟩,
  ⟨Tryz.underlying6, Tryz.t6, _, Tryz.type6, rfl, rfl, rfl, rfl, by simp [Ty.isAgg], by decide, rfl⟩,
  ⟨⟨_, Tryz.underlying7, rfl, fldsOk.mem ⟨⟨by decide, Tryz.t2, Tryz.type2, by decide⟩, ⟨by decide, Tryz.t3, Tryz.type3, by decide⟩, ⟨by decide, Tryz.t4, Tryz.type4, by decide⟩, ⟨by decide, Tryz.t6, Tryz.type6, by decide⟩, trivial⟩, Tryz.stoodInHeld7⟩, Tryz.t7, _, Tryz.type7, rfl, rfl, rfl, rfl, by simp [Ty.isAgg], by decide, rfl⟩,
  ⟨⟨_, Tryz.underlying8, rfl, fldsOk.mem ⟨⟨by decide, Tryz.t2, Tryz.type2, by decide⟩, ⟨by decide, Tryz.t3, Tryz.type3, by decide⟩, ⟨by decide, Tryz.t4, Tryz.type4, by decide⟩, ⟨by decide, Tryz.t6, Tryz.type6, by decide⟩, trivial⟩, Tryz.stoodInHeld8⟩, Tryz.t8, _, Tryz.type8, rfl, rfl, rfl, rfl, by simp [Ty.isAgg], by decide, rfl⟩,
  ⟨Tryz.underlying9, Tryz.t9, _, Tryz.type9, rfl, rfl, rfl, rfl, by simp [Ty.isAgg], by decide, rfl⟩,
  ⟨Tryz.underlying10, Tryz.t10, _, Tryz.type10, rfl, rfl, rfl, rfl, by simp [Ty.isAgg], by decide, rfl⟩,
  ⟨Tryz.underlying11, Tryz.t11, _, Tryz.type11, rfl, rfl, rfl, rfl, by simp [Ty.isAgg], by decide, rfl⟩,
  ⟨Tryz.underlying12, Tryz.t12, _, Tryz.type12, rfl, rfl, rfl, rfl, by simp [Ty.isAgg], by decide, rfl⟩,
  ⟨⟨_, Tryz.underlying15⟩, Tryz.t15, _, Tryz.type15, rfl, rfl, rfl, rfl, by simp [Ty.isAgg], by decide, rfl⟩,
  ⟨⟨_, Tryz.underlying16⟩, Tryz.t16, _, Tryz.type16, rfl, rfl, rfl, rfl, by simp [Ty.isAgg], by decide, rfl⟩,
  ⟨⟨_, Tryz.underlying17⟩, Tryz.t17, _, Tryz.type17, rfl, rfl, rfl, rfl, by simp [Ty.isAgg], by decide, rfl⟩,
  ⟨⟨_, Tryz.underlying20⟩, Tryz.t20, _, Tryz.type20, rfl, rfl, rfl, rfl, by simp [Ty.isAgg], by decide, rfl⟩,
  ⟨Tryz.underlying21, Tryz.t21, _, Tryz.type21, rfl, rfl, rfl, rfl, by simp [Ty.isAgg], by decide, rfl⟩,
  ⟨Tryz.underlying22, Tryz.t22, _, Tryz.type22, rfl, rfl, rfl, rfl, by simp [Ty.isAgg], by decide, rfl⟩,
  ⟨⟨_, Tryz.underlying23, rfl, fldsOk.mem ⟨⟨by decide, Tryz.t22, Tryz.type22, by decide⟩, trivial⟩, Tryz.stoodInHeld23⟩, Tryz.t23, _, Tryz.type23, rfl, rfl, rfl, rfl, by simp [Ty.isAgg], by decide, rfl⟩,
  ⟨⟨_, Tryz.underlying24, rfl, fldsOk.mem ⟨⟨by decide, Tryz.t22, Tryz.type22, by decide⟩, trivial⟩, Tryz.stoodInHeld24⟩, Tryz.t24, _, Tryz.type24, rfl, rfl, rfl, rfl, by simp [Ty.isAgg], by decide, rfl⟩,
  ⟨⟨_, _, _, Tryz.underlying25⟩, Tryz.t25, _, Tryz.type25, rfl, rfl, rfl, rfl, by simp [Ty.isAgg], by decide, rfl⟩,
  ⟨⟨_, _, _, Tryz.underlying27⟩, Tryz.t27, _, Tryz.type27, rfl, rfl, rfl, rfl, by simp [Ty.isAgg], by decide, rfl⟩,
  ⟨Tryz.underlying28, Tryz.t28, _, Tryz.type28, rfl, rfl, rfl, rfl, by simp [Ty.isAgg], by decide, rfl⟩,
  ⟨⟨_, Tryz.underlying29, rfl, fldsOk.mem ⟨⟨by decide, Tryz.t28, Tryz.type28, by decide⟩, trivial⟩, Tryz.stoodInHeld29⟩, Tryz.t29, _, Tryz.type29, rfl, rfl, rfl, rfl, by simp [Ty.isAgg], by decide, rfl⟩,
  ⟨⟨_, Tryz.underlying30, rfl, fldsOk.mem ⟨⟨by decide, Tryz.t28, Tryz.type28, by decide⟩, trivial⟩, Tryz.stoodInHeld30⟩, Tryz.t30, _, Tryz.type30, rfl, rfl, rfl, rfl, by simp [Ty.isAgg], by decide, rfl⟩,
  ⟨⟨_, _, _, Tryz.underlying31⟩, Tryz.t31, _, Tryz.type31, rfl, rfl, rfl, rfl, by simp [Ty.isAgg], by decide, rfl⟩,
  ⟨⟨_, _, _, Tryz.underlying32⟩, Tryz.t32, _, Tryz.type32, rfl, rfl, rfl, rfl, by simp [Ty.isAgg], by decide, rfl⟩,
  ⟨⟨_, _, _, Tryz.underlying33⟩, Tryz.t33, _, Tryz.type33, rfl, rfl, rfl, rfl, by simp [Ty.isAgg], by decide, rfl⟩,
  ⟨Tryz.underlying34, Tryz.t34, _, Tryz.type34, rfl, rfl, rfl, rfl, by simp [Ty.isAgg], by decide, rfl⟩,
  ⟨⟨_, _, _, Tryz.underlying36⟩, Tryz.t36, _, Tryz.type36, rfl, rfl, rfl, rfl, by simp [Ty.isAgg], by decide, rfl⟩,
  ⟨⟨_, _, _, Tryz.underlying37⟩, Tryz.t37, _, Tryz.type37, rfl, rfl, rfl, rfl, by simp [Ty.isAgg], by decide, rfl⟩,
  ⟨⟨_, _, _, Tryz.underlying38⟩, Tryz.t38, _, Tryz.type38, rfl, rfl, rfl, rfl, by simp [Ty.isAgg], by decide, rfl⟩,
  ⟨⟨_, _, _, Tryz.underlying39⟩, Tryz.t39, _, Tryz.type39, rfl, rfl, rfl, rfl, by simp [Ty.isAgg], by decide, rfl⟩,
  ⟨Tryz.underlying40, Tryz.t40, _, Tryz.type40, rfl, rfl, rfl, rfl, by simp [Ty.isAgg], by decide, rfl⟩,
  ⟨⟨_, _, _, Tryz.underlying41⟩, Tryz.t41, _, Tryz.type41, rfl, rfl, rfl, rfl, by simp [Ty.isAgg], by decide, rfl⟩,
  ⟨⟨_, _, _, Tryz.underlying43⟩, Tryz.t43, _, Tryz.type43, rfl, rfl, rfl, rfl, by simp [Ty.isAgg], by decide, rfl⟩,
  ⟨⟨_, _, _, Tryz.underlying44⟩, Tryz.t44, _, Tryz.type44, rfl, rfl, rfl, rfl, by simp [Ty.isAgg], by decide, rfl⟩,
  ⟨⟨_, _, _, Tryz.underlying46⟩, Tryz.t46, _, Tryz.type46, rfl, rfl, rfl, rfl, by simp [Ty.isAgg], by decide, rfl⟩,
  ⟨⟨_, _, _, Tryz.underlying47⟩, Tryz.t47, _, Tryz.type47, rfl, rfl, rfl, rfl, by simp [Ty.isAgg], by decide, rfl⟩,
  ⟨⟨_, _, _, Tryz.underlying49⟩, Tryz.t49, _, Tryz.type49, rfl, rfl, rfl, rfl, by simp [Ty.isAgg], by decide, rfl⟩,
  ⟨⟨_, _, _, Tryz.underlying50⟩, Tryz.t50, _, Tryz.type50, rfl, rfl, rfl, rfl, by simp [Ty.isAgg], by decide, rfl⟩,
  ⟨⟨_, _, _, Tryz.underlying51⟩, Tryz.t51, _, Tryz.type51, rfl, rfl, rfl, rfl, by simp [Ty.isAgg], by decide, rfl⟩,
  ⟨⟨_, _, _, Tryz.underlying52⟩, Tryz.t52, _, Tryz.type52, rfl, rfl, rfl, rfl, by simp [Ty.isAgg], by decide, rfl⟩,
  ⟨⟨_, _, _, Tryz.underlying53⟩, Tryz.t53, _, Tryz.type53, rfl, rfl, rfl, rfl, by simp [Ty.isAgg], by decide, rfl⟩,
  ⟨⟨_, _, _, Tryz.underlying54⟩, Tryz.t54, _, Tryz.type54, rfl, rfl, rfl, rfl, by simp [Ty.isAgg], by decide, rfl⟩,
  ⟨⟨_, _, _, Tryz.underlying55⟩, Tryz.t55, _, Tryz.type55, rfl, rfl, rfl, rfl, by simp [Ty.isAgg], by decide, rfl⟩,
  ⟨⟨_, _, _, Tryz.underlying56⟩, Tryz.t56, _, Tryz.type56, rfl, rfl, rfl, rfl, by simp [Ty.isAgg], by decide, rfl⟩,
  ⟨⟨_, _, _, Tryz.underlying57⟩, Tryz.t57, _, Tryz.type57, rfl, rfl, rfl, rfl, by simp [Ty.isAgg], by decide, rfl⟩,
  ⟨⟨_, _, _, Tryz.underlying58⟩, Tryz.t58, _, Tryz.type58, rfl, rfl, rfl, rfl, by simp [Ty.isAgg], by decide, rfl⟩,
  ⟨⟨_, _, _, Tryz.underlying59⟩, Tryz.t59, _, Tryz.type59, rfl, rfl, rfl, rfl, by simp [Ty.isAgg], by decide, rfl⟩,
  ⟨⟨_, Tryz.underlying60⟩, Tryz.t60, _, Tryz.type60, rfl, rfl, rfl, rfl, by simp [Ty.isAgg], by decide, rfl⟩,
  ⟨⟨_, _, _, Tryz.underlying61⟩, Tryz.t61, _, Tryz.type61, rfl, rfl, rfl, rfl, by simp [Ty.isAgg], by decide, rfl⟩,
  ⟨⟨_, _, _, Tryz.underlying62⟩, Tryz.t62, _, Tryz.type62, rfl, rfl, rfl, rfl, by simp [Ty.isAgg], by decide, rfl⟩,
  ⟨Tryz.underlying63, Tryz.t63, _, Tryz.type63, rfl, rfl, rfl, rfl, by simp [Ty.isAgg], by decide, rfl⟩,
  ⟨⟨_, _, _, Tryz.underlying64⟩, Tryz.t64, _, Tryz.type64, rfl, rfl, rfl, rfl, by simp [Ty.isAgg], by decide, rfl⟩,
  ⟨⟨_, _, _, Tryz.underlying65⟩, Tryz.t65, _, Tryz.type65, rfl, rfl, rfl, rfl, by simp [Ty.isAgg], by decide, rfl⟩,
  ⟨⟨_, _, _, Tryz.underlying66⟩, Tryz.t66, _, Tryz.type66, rfl, rfl, rfl, rfl, by simp [Ty.isAgg], by decide, rfl⟩,
  ⟨⟨_, _, _, Tryz.underlying67⟩, Tryz.t67, _, Tryz.type67, rfl, rfl, rfl, rfl, by simp [Ty.isAgg], by decide, rfl⟩,
  ⟨⟨_, _, _, Tryz.underlying68⟩, Tryz.t68, _, Tryz.type68, rfl, rfl, rfl, rfl, by simp [Ty.isAgg], by decide, rfl⟩,
  ⟨⟨_, _, _, Tryz.underlying69⟩, Tryz.t69, _, Tryz.type69, rfl, rfl, rfl, rfl, by simp [Ty.isAgg], by decide, rfl⟩,
  ⟨⟨_, _, _, Tryz.underlying71⟩, Tryz.t71, _, Tryz.type71, rfl, rfl, rfl, rfl, by simp [Ty.isAgg], by decide, rfl⟩,
  ⟨⟨_, _, _, Tryz.underlying73⟩, Tryz.t73, _, Tryz.type73, rfl, rfl, rfl, rfl, by simp [Ty.isAgg], by decide, rfl⟩,
  ⟨⟨_, _, _, Tryz.underlying74⟩, Tryz.t74, _, Tryz.type74, rfl, rfl, rfl, rfl, by simp [Ty.isAgg], by decide, rfl⟩,
  ⟨Tryz.underlying75, Tryz.t75, _, Tryz.type75, rfl, rfl, rfl, rfl, by simp [Ty.isAgg], by decide, rfl⟩,
  ⟨⟨_, Tryz.underlying76, rfl, fldsOk.mem ⟨⟨by decide, Tryz.t3, Tryz.type3, by decide⟩, ⟨by decide, Tryz.t3, Tryz.type3, by decide⟩, ⟨by decide, Tryz.t3, Tryz.type3, by decide⟩, ⟨by decide, Tryz.t75, Tryz.type75, by decide⟩, trivial⟩, Tryz.stoodInHeld76⟩, Tryz.t76, _, Tryz.type76, rfl, rfl, rfl, rfl, by simp [Ty.isAgg], by decide, rfl⟩,
  ⟨⟨_, Tryz.underlying77, rfl, fldsOk.mem ⟨⟨by decide, Tryz.t3, Tryz.type3, by decide⟩, ⟨by decide, Tryz.t3, Tryz.type3, by decide⟩, ⟨by decide, Tryz.t3, Tryz.type3, by decide⟩, ⟨by decide, Tryz.t75, Tryz.type75, by decide⟩, trivial⟩, Tryz.stoodInHeld77⟩, Tryz.t77, _, Tryz.type77, rfl, rfl, rfl, rfl, by simp [Ty.isAgg], by decide, rfl⟩,
  ⟨⟨_, Tryz.underlying78, rfl, fldsOk.mem ⟨⟨by decide, Tryz.t3, Tryz.type3, by decide⟩, ⟨by decide, Tryz.t3, Tryz.type3, by decide⟩, ⟨by decide, Tryz.t4, Tryz.type4, by decide⟩, ⟨by decide, Tryz.t3, Tryz.type3, by decide⟩, trivial⟩, Tryz.stoodInHeld78⟩, Tryz.t78, _, Tryz.type78, rfl, rfl, rfl, rfl, by simp [Ty.isAgg], by decide, rfl⟩,
  ⟨⟨_, Tryz.underlying79, rfl, fldsOk.mem ⟨⟨by decide, Tryz.t3, Tryz.type3, by decide⟩, ⟨by decide, Tryz.t3, Tryz.type3, by decide⟩, ⟨by decide, Tryz.t4, Tryz.type4, by decide⟩, ⟨by decide, Tryz.t3, Tryz.type3, by decide⟩, trivial⟩, Tryz.stoodInHeld79⟩, Tryz.t79, _, Tryz.type79, rfl, rfl, rfl, rfl, by simp [Ty.isAgg], by decide, rfl⟩,
  ⟨⟨_, Tryz.underlying80, rfl, fldsOk.mem ⟨⟨by decide, Tryz.t3, Tryz.type3, by decide⟩, ⟨by decide, Tryz.t77, Tryz.type77, by decide⟩, ⟨by decide, Tryz.t79, Tryz.type79, by decide⟩, trivial⟩, Tryz.stoodInHeld80⟩, Tryz.t80, _, Tryz.type80, rfl, rfl, rfl, rfl, by simp [Ty.isAgg], by decide, rfl⟩,
  ⟨⟨_, Tryz.underlying81, rfl, fldsOk.mem ⟨⟨by decide, Tryz.t3, Tryz.type3, by decide⟩, ⟨by decide, Tryz.t77, Tryz.type77, by decide⟩, ⟨by decide, Tryz.t79, Tryz.type79, by decide⟩, trivial⟩, Tryz.stoodInHeld81⟩, Tryz.t81, _, Tryz.type81, rfl, rfl, rfl, rfl, by simp [Ty.isAgg], by decide, rfl⟩,
  ⟨⟨_, _, _, Tryz.underlying82⟩, Tryz.t82, _, Tryz.type82, rfl, rfl, rfl, rfl, by simp [Ty.isAgg], by decide, rfl⟩,
  ⟨⟨_, _, _, Tryz.underlying83⟩, Tryz.t83, _, Tryz.type83, rfl, rfl, rfl, rfl, by simp [Ty.isAgg], by decide, rfl⟩,
  ⟨⟨_, _, _, Tryz.underlying84⟩, Tryz.t84, _, Tryz.type84, rfl, rfl, rfl, rfl, by simp [Ty.isAgg], by decide, rfl⟩,
  ⟨⟨_, _, _, Tryz.underlying85⟩, Tryz.t85, _, Tryz.type85, rfl, rfl, rfl, rfl, by simp [Ty.isAgg], by decide, rfl⟩,
  ⟨⟨_, _, _, Tryz.underlying86⟩, Tryz.t86, _, Tryz.type86, rfl, rfl, rfl, rfl, by simp [Ty.isAgg], by decide, rfl⟩,
  ⟨⟨_, _, _, Tryz.underlying87⟩, Tryz.t87, _, Tryz.type87, rfl, rfl, rfl, rfl, by simp [Ty.isAgg], by decide, rfl⟩,
  ⟨⟨_, Tryz.underlying88, rfl, fldsOk.mem ⟨⟨by decide, Tryz.t3, Tryz.type3, by decide⟩, ⟨by decide, Tryz.t3, Tryz.type3, by decide⟩, ⟨by decide, Tryz.t3, Tryz.type3, by decide⟩, ⟨by decide, Tryz.t75, Tryz.type75, by decide⟩, trivial⟩, Tryz.stoodInHeld88⟩, Tryz.t88, _, Tryz.type88, rfl, rfl, rfl, rfl, by simp [Ty.isAgg], by decide, rfl⟩,
  ⟨⟨_, Tryz.underlying89, rfl, fldsOk.mem ⟨⟨by decide, Tryz.t3, Tryz.type3, by decide⟩, ⟨by decide, Tryz.t3, Tryz.type3, by decide⟩, ⟨by decide, Tryz.t4, Tryz.type4, by decide⟩, ⟨by decide, Tryz.t3, Tryz.type3, by decide⟩, trivial⟩, Tryz.stoodInHeld89⟩, Tryz.t89, _, Tryz.type89, rfl, rfl, rfl, rfl, by simp [Ty.isAgg], by decide, rfl⟩,
  ⟨⟨_, Tryz.underlying90, rfl, fldsOk.mem ⟨⟨by decide, Tryz.t3, Tryz.type3, by decide⟩, ⟨by decide, Tryz.t88, Tryz.type88, by decide⟩, ⟨by decide, Tryz.t89, Tryz.type89, by decide⟩, trivial⟩, Tryz.stoodInHeld90⟩, Tryz.t90, _, Tryz.type90, rfl, rfl, rfl, rfl, by simp [Ty.isAgg], by decide, rfl⟩,
  ⟨⟨_, Tryz.underlying91, rfl, fldsOk.mem ⟨⟨by decide, Tryz.t3, Tryz.type3, by decide⟩, ⟨by decide, Tryz.t88, Tryz.type88, by decide⟩, ⟨by decide, Tryz.t89, Tryz.type89, by decide⟩, trivial⟩, Tryz.stoodInHeld91⟩, Tryz.t91, _, Tryz.type91, rfl, rfl, rfl, rfl, by simp [Ty.isAgg], by decide, rfl⟩,
  ⟨⟨_, _, _, Tryz.underlying92⟩, Tryz.t92, _, Tryz.type92, rfl, rfl, rfl, rfl, by simp [Ty.isAgg], by decide, rfl⟩,
  ⟨⟨_, _, _, Tryz.underlying93⟩, Tryz.t93, _, Tryz.type93, rfl, rfl, rfl, rfl, by simp [Ty.isAgg], by decide, rfl⟩,
  ⟨⟨_, Tryz.underlying94, rfl, fldsOk.mem ⟨⟨by decide, Tryz.t40, Tryz.type40, by decide⟩, ⟨by decide, Tryz.t3, Tryz.type3, by decide⟩, ⟨by decide, Tryz.t3, Tryz.type3, by decide⟩, trivial⟩, Tryz.stoodInHeld94⟩, Tryz.t94, _, Tryz.type94, rfl, rfl, rfl, rfl, by simp [Ty.isAgg], by decide, rfl⟩,
  ⟨⟨_, Tryz.underlying95, rfl, fldsOk.mem ⟨⟨by decide, Tryz.t40, Tryz.type40, by decide⟩, ⟨by decide, Tryz.t3, Tryz.type3, by decide⟩, ⟨by decide, Tryz.t3, Tryz.type3, by decide⟩, trivial⟩, Tryz.stoodInHeld95⟩, Tryz.t95, _, Tryz.type95, rfl, rfl, rfl, rfl, by simp [Ty.isAgg], by decide, rfl⟩,
  ⟨⟨_, _, _, Tryz.underlying96⟩, Tryz.t96, _, Tryz.type96, rfl, rfl, rfl, rfl, by simp [Ty.isAgg], by decide, rfl⟩,
  ⟨⟨_, _, _, Tryz.underlying97⟩, Tryz.t97, _, Tryz.type97, rfl, rfl, rfl, rfl, by simp [Ty.isAgg], by decide, rfl⟩,
  ⟨⟨_, _, _, Tryz.underlying98⟩, Tryz.t98, _, Tryz.type98, rfl, rfl, rfl, rfl, by simp [Ty.isAgg], by decide, rfl⟩,
  ⟨⟨_, _, _, Tryz.underlying99⟩, Tryz.t99, _, Tryz.type99, rfl, rfl, rfl, rfl, by simp [Ty.isAgg], by decide, rfl⟩,
  ⟨⟨_, _, _, Tryz.underlying100⟩, Tryz.t100, _, Tryz.type100, rfl, rfl, rfl, rfl, by simp [Ty.isAgg], by decide, rfl⟩,
  ⟨⟨_, _, _, Tryz.underlying101⟩, Tryz.t101, _, Tryz.type101, rfl, rfl, rfl, rfl, by simp [Ty.isAgg], by decide, rfl⟩,
  ⟨⟨_, Tryz.underlying102⟩, Tryz.t102, _, Tryz.type102, rfl, rfl, rfl, rfl, by simp [Ty.isAgg], by decide, rfl⟩,
  ⟨⟨_, Tryz.underlying103⟩, Tryz.t103, _, Tryz.type103, rfl, rfl, rfl, rfl, by simp [Ty.isAgg], by decide, rfl⟩,
  ⟨⟨_, _, _, Tryz.underlying105⟩, Tryz.t105, _, Tryz.type105, rfl, rfl, rfl, rfl, by simp [Ty.isAgg], by decide, rfl⟩,
  ⟨⟨_, _, _, Tryz.underlying106⟩, Tryz.t106, _, Tryz.type106, rfl, rfl, rfl, rfl, by simp [Ty.isAgg], by decide, rfl⟩,
  ⟨⟨_, _, _, Tryz.underlying107⟩, Tryz.t107, _, Tryz.type107, rfl, rfl, rfl, rfl, by simp [Ty.isAgg], by decide, rfl⟩,
  ⟨⟨_, _, _, Tryz.underlying109⟩, Tryz.t109, _, Tryz.type109, rfl, rfl, rfl, rfl, by simp [Ty.isAgg], by decide, rfl⟩,
  ⟨⟨_, _, _, Tryz.underlying110⟩, Tryz.t110, _, Tryz.type110, rfl, rfl, rfl, rfl, by simp [Ty.isAgg], by decide, rfl⟩,
  ⟨⟨_, _, _, Tryz.underlying111⟩, Tryz.t111, _, Tryz.type111, rfl, rfl, rfl, rfl, by simp [Ty.isAgg], by decide, rfl⟩,
  ⟨⟨_, _, _, Tryz.underlying112⟩, Tryz.t112, _, Tryz.type112, rfl, rfl, rfl, rfl, by simp [Ty.isAgg], by decide, rfl⟩,
  ⟨⟨_, _, _, Tryz.underlying113⟩, Tryz.t113, _, Tryz.type113, rfl, rfl, rfl, rfl, by simp [Ty.isAgg], by decide, rfl⟩,
  ⟨⟨_, _, _, Tryz.underlying114⟩, Tryz.t114, _, Tryz.type114, rfl, rfl, rfl, rfl, by simp [Ty.isAgg], by decide, rfl⟩,
  ⟨⟨_, _, _, Tryz.underlying115⟩, Tryz.t115, _, Tryz.type115, rfl, rfl, rfl, rfl, by simp [Ty.isAgg], by decide, rfl⟩,
  ⟨⟨_, _, _, Tryz.underlying116⟩, Tryz.t116, _, Tryz.type116, rfl, rfl, rfl, rfl, by simp [Ty.isAgg], by decide, rfl⟩,
  ⟨⟨_, _, _, Tryz.underlying117⟩, Tryz.t117, _, Tryz.type117, rfl, rfl, rfl, rfl, by simp [Ty.isAgg], by decide, rfl⟩,
  ⟨⟨_, _, _, Tryz.underlying118⟩, Tryz.t118, _, Tryz.type118, rfl, rfl, rfl, rfl, by simp [Ty.isAgg], by decide, rfl⟩,
  ⟨⟨_, _, _, Tryz.underlying119⟩, Tryz.t119, _, Tryz.type119, rfl, rfl, rfl, rfl, by simp [Ty.isAgg], by decide, rfl⟩,
  ⟨⟨_, _, _, Tryz.underlying120⟩, Tryz.t120, _, Tryz.type120, rfl, rfl, rfl, rfl, by simp [Ty.isAgg], by decide, rfl⟩,
  ⟨⟨_, _, _, Tryz.underlying121⟩, Tryz.t121, _, Tryz.type121, rfl, rfl, rfl, rfl, by simp [Ty.isAgg], by decide, rfl⟩,
  ⟨⟨_, _, _, Tryz.underlying122⟩, Tryz.t122, _, Tryz.type122, rfl, rfl, rfl, rfl, by simp [Ty.isAgg], by decide, rfl⟩,
  ⟨⟨_, _, _, Tryz.underlying123⟩, Tryz.t123, _, Tryz.type123, rfl, rfl, rfl, rfl, by simp [Ty.isAgg], by decide, rfl⟩,
  ⟨⟨_, _, _, Tryz.underlying124⟩, Tryz.t124, _, Tryz.type124, rfl, rfl, rfl, rfl, by simp [Ty.isAgg], by decide, rfl⟩,
  ⟨⟨_, _, _, Tryz.underlying125⟩, Tryz.t125, _, Tryz.type125, rfl, rfl, rfl, rfl, by simp [Ty.isAgg], by decide, rfl⟩,
  ⟨⟨_, Tryz.underlying126⟩, Tryz.t126, _, Tryz.type126, rfl, rfl, rfl, rfl, by simp [Ty.isAgg], by decide, rfl⟩,
  ⟨⟨_, Tryz.underlying127, rfl, fldsOk.mem ⟨⟨by decide, Tryz.t126, Tryz.type126, by decide⟩, ⟨by decide, Tryz.t40, Tryz.type40, by decide⟩, trivial⟩, Tryz.stoodInHeld127⟩, Tryz.t127, _, Tryz.type127, rfl, rfl, rfl, rfl, by simp [Ty.isAgg], by decide, rfl⟩,
  ⟨⟨_, Tryz.underlying128, rfl, fldsOk.mem ⟨⟨by decide, Tryz.t126, Tryz.type126, by decide⟩, ⟨by decide, Tryz.t40, Tryz.type40, by decide⟩, trivial⟩, Tryz.stoodInHeld128⟩, Tryz.t128, _, Tryz.type128, rfl, rfl, rfl, rfl, by simp [Ty.isAgg], by decide, rfl⟩,
  ⟨⟨_, _, _, Tryz.underlying129⟩, Tryz.t129, _, Tryz.type129, rfl, rfl, rfl, rfl, by simp [Ty.isAgg], by decide, rfl⟩,
  ⟨⟨_, _, _, Tryz.underlying130⟩, Tryz.t130, _, Tryz.type130, rfl, rfl, rfl, rfl, by simp [Ty.isAgg], by decide, rfl⟩,
  ⟨⟨_, _, _, Tryz.underlying131⟩, Tryz.t131, _, Tryz.type131, rfl, rfl, rfl, rfl, by simp [Ty.isAgg], by decide, rfl⟩,
  ⟨⟨_, _, _, Tryz.underlying132⟩, Tryz.t132, _, Tryz.type132, rfl, rfl, rfl, rfl, by simp [Ty.isAgg], by decide, rfl⟩,
  ⟨⟨_, _, _, Tryz.underlying134⟩, Tryz.t134, _, Tryz.type134, rfl, rfl, rfl, rfl, by simp [Ty.isAgg], by decide, rfl⟩,
  ⟨⟨_, _, _, Tryz.underlying136⟩, Tryz.t136, _, Tryz.type136, rfl, rfl, rfl, rfl, by simp [Ty.isAgg], by decide, rfl⟩,
  ⟨⟨_, _, _, Tryz.underlying138⟩, Tryz.t138, _, Tryz.type138, rfl, rfl, rfl, rfl, by simp [Ty.isAgg], by decide, rfl⟩,
  ⟨⟨_, _, _, Tryz.underlying140⟩, Tryz.t140, _, Tryz.type140, rfl, rfl, rfl, rfl, by simp [Ty.isAgg], by decide, rfl⟩,
  ⟨⟨_, _, _, Tryz.underlying141⟩, Tryz.t141, _, Tryz.type141, rfl, rfl, rfl, rfl, by simp [Ty.isAgg], by decide, rfl⟩,
  ⟨⟨_, _, _, Tryz.underlying142⟩, Tryz.t142, _, Tryz.type142, rfl, rfl, rfl, rfl, by simp [Ty.isAgg], by decide, rfl⟩,
  ⟨⟨_, _, _, Tryz.underlying143⟩, Tryz.t143, _, Tryz.type143, rfl, rfl, rfl, rfl, by simp [Ty.isAgg], by decide, rfl⟩,
  ⟨Tryz.underlying144, Tryz.t144, _, Tryz.type144, rfl, rfl, rfl, rfl, by simp [Ty.isAgg], by decide, rfl⟩,
  ⟨⟨_, _, _, Tryz.underlying145⟩, Tryz.t145, _, Tryz.type145, rfl, rfl, rfl, rfl, by simp [Ty.isAgg], by decide, rfl⟩,
  ⟨⟨_, _, _, Tryz.underlying146⟩, Tryz.t146, _, Tryz.type146, rfl, rfl, rfl, rfl, by simp [Ty.isAgg], by decide, rfl⟩,
  ⟨⟨_, _, _, Tryz.underlying147⟩, Tryz.t147, _, Tryz.type147, rfl, rfl, rfl, rfl, by simp [Ty.isAgg], by decide, rfl⟩,
  ⟨⟨_, _, _, Tryz.underlying148⟩, Tryz.t148, _, Tryz.type148, rfl, rfl, rfl, rfl, by simp [Ty.isAgg], by decide, rfl⟩,
  ⟨⟨_, _, _, Tryz.underlying149⟩, Tryz.t149, _, Tryz.type149, rfl, rfl, rfl, rfl, by simp [Ty.isAgg], by decide, rfl⟩,
  ⟨⟨_, _, _, Tryz.underlying150⟩, Tryz.t150, _, Tryz.type150, rfl, rfl, rfl, rfl, by simp [Ty.isAgg], by decide, rfl⟩,
  ⟨⟨_, _, _, Tryz.underlying151⟩, Tryz.t151, _, Tryz.type151, rfl, rfl, rfl, rfl, by simp [Ty.isAgg], by decide, rfl⟩,
  ⟨⟨_, _, _, Tryz.underlying152⟩, Tryz.t152, _, Tryz.type152, rfl, rfl, rfl, rfl, by simp [Ty.isAgg], by decide, rfl⟩,
  ⟨⟨_, Tryz.underlying153⟩, Tryz.t153, _, Tryz.type153, rfl, rfl, rfl, rfl, by simp [Ty.isAgg], by decide, rfl⟩,
  ⟨Tryz.underlying154, Tryz.t154, _, Tryz.type154, rfl, rfl, rfl, rfl, by simp [Ty.isAgg], by decide, rfl⟩,
  ⟨⟨_, _, _, Tryz.underlying156⟩, Tryz.t156, _, Tryz.type156, rfl, rfl, rfl, rfl, by simp [Ty.isAgg], by decide, rfl⟩,
  ⟨⟨_, Tryz.underlying157⟩, Tryz.t157, _, Tryz.type157, rfl, rfl, rfl, rfl, by simp [Ty.isAgg], by decide, rfl⟩,
  ⟨⟨_, _, _, Tryz.underlying158⟩, Tryz.t158, _, Tryz.type158, rfl, rfl, rfl, rfl, by simp [Ty.isAgg], by decide, rfl⟩,
  ⟨⟨_, _, _, Tryz.underlying159⟩, Tryz.t159, _, Tryz.type159, rfl, rfl, rfl, rfl, by simp [Ty.isAgg], by decide, rfl⟩,
  ⟨⟨_, _, _, Tryz.underlying160⟩, Tryz.t160, _, Tryz.type160, rfl, rfl, rfl, rfl, by simp [Ty.isAgg], by decide, rfl⟩,
  ⟨⟨_, _, _, Tryz.underlying161⟩, Tryz.t161, _, Tryz.type161, rfl, rfl, rfl, rfl, by simp [Ty.isAgg], by decide, rfl⟩,
  ⟨⟨_, _, _, Tryz.underlying163⟩, Tryz.t163, _, Tryz.type163, rfl, rfl, rfl, rfl, by simp [Ty.isAgg], by decide, rfl⟩,
  ⟨⟨_, _, _, Tryz.underlying164⟩, Tryz.t164, _, Tryz.type164, rfl, rfl, rfl, rfl, by simp [Ty.isAgg], by decide, rfl⟩,
  ⟨Tryz.underlying165, Tryz.t165, _, Tryz.type165, rfl, rfl, rfl, rfl, by simp [Ty.isAgg], by decide, rfl⟩,
  ⟨Tryz.underlying166, Tryz.t166, _, Tryz.type166, rfl, rfl, rfl, rfl, by simp [Ty.isAgg], by decide, rfl⟩,
  ⟨⟨_, _, _, Tryz.underlying167⟩, Tryz.t167, _, Tryz.type167, rfl, rfl, rfl, rfl, by simp [Ty.isAgg], by decide, rfl⟩,
  ⟨⟨_, _, _, Tryz.underlying168⟩, Tryz.t168, _, Tryz.type168, rfl, rfl, rfl, rfl, by simp [Ty.isAgg], by decide, rfl⟩,
  ⟨⟨_, _, _, Tryz.underlying170⟩, Tryz.t170, _, Tryz.type170, rfl, rfl, rfl, rfl, by simp [Ty.isAgg], by decide, rfl⟩,
  ⟨⟨_, _, _, Tryz.underlying172⟩, Tryz.t172, _, Tryz.type172, rfl, rfl, rfl, rfl, by simp [Ty.isAgg], by decide, rfl⟩,
  ⟨⟨_, _, _, Tryz.underlying173⟩, Tryz.t173, _, Tryz.type173, rfl, rfl, rfl, rfl, by simp [Ty.isAgg], by decide, rfl⟩,
  ⟨⟨_, _, _, Tryz.underlying175⟩, Tryz.t175, _, Tryz.type175, rfl, rfl, rfl, rfl, by simp [Ty.isAgg], by decide, rfl⟩,
  ⟨⟨_, _, _, Tryz.underlying176⟩, Tryz.t176, _, Tryz.type176, rfl, rfl, rfl, rfl, by simp [Ty.isAgg], by decide, rfl⟩,
  ⟨⟨_, Tryz.underlying177, rfl, fldsOk.mem ⟨⟨by decide, Tryz.t9, Tryz.type9, by decide⟩, ⟨by decide, Tryz.t9, Tryz.type9, by decide⟩, ⟨by decide, Tryz.t103, Tryz.type103, by decide⟩, trivial⟩, Tryz.stoodInHeld177⟩, Tryz.t177, _, Tryz.type177, rfl, rfl, rfl, rfl, by simp [Ty.isAgg], by decide, rfl⟩,
  ⟨⟨_, Tryz.underlying178, rfl, fldsOk.mem ⟨⟨by decide, Tryz.t9, Tryz.type9, by decide⟩, ⟨by decide, Tryz.t9, Tryz.type9, by decide⟩, ⟨by decide, Tryz.t103, Tryz.type103, by decide⟩, trivial⟩, Tryz.stoodInHeld178⟩, Tryz.t178, _, Tryz.type178, rfl, rfl, rfl, rfl, by simp [Ty.isAgg], by decide, rfl⟩,
  ⟨⟨_, _, _, Tryz.underlying179⟩, Tryz.t179, _, Tryz.type179, rfl, rfl, rfl, rfl, by simp [Ty.isAgg], by decide, rfl⟩,
  ⟨⟨_, _, _, Tryz.underlying181⟩, Tryz.t181, _, Tryz.type181, rfl, rfl, rfl, rfl, by simp [Ty.isAgg], by decide, rfl⟩,
  ⟨⟨_, _, _, Tryz.underlying182⟩, Tryz.t182, _, Tryz.type182, rfl, rfl, rfl, rfl, by simp [Ty.isAgg], by decide, rfl⟩,
  ⟨Tryz.underlying183, Tryz.t183, _, Tryz.type183, rfl, rfl, rfl, rfl, by simp [Ty.isAgg], by decide, rfl⟩,
  ⟨Tryz.underlying184, Tryz.t184, _, Tryz.type184, rfl, rfl, rfl, rfl, by simp [Ty.isAgg], by decide, rfl⟩,
  ⟨⟨_, _, _, Tryz.underlying186⟩, Tryz.t186, _, Tryz.type186, rfl, rfl, rfl, rfl, by simp [Ty.isAgg], by decide, rfl⟩,
  ⟨⟨_, _, _, Tryz.underlying187⟩, Tryz.t187, _, Tryz.type187, rfl, rfl, rfl, rfl, by simp [Ty.isAgg], by decide, rfl⟩,
  ⟨⟨_, _, _, Tryz.underlying188⟩, Tryz.t188, _, Tryz.type188, rfl, rfl, rfl, rfl, by simp [Ty.isAgg], by decide, rfl⟩,
  ⟨⟨_, _, _, Tryz.underlying189⟩, Tryz.t189, _, Tryz.type189, rfl, rfl, rfl, rfl, by simp [Ty.isAgg], by decide, rfl⟩,
  ⟨Tryz.underlying190, Tryz.t190, _, Tryz.type190, rfl, rfl, rfl, rfl, by simp [Ty.isAgg], by decide, rfl⟩,
  ⟨Tryz.underlying191, Tryz.t191, _, Tryz.type191, rfl, rfl, rfl, rfl, by simp [Ty.isAgg], by decide, rfl⟩,
  ⟨Tryz.underlying192, Tryz.t192, _, Tryz.type192, rfl, rfl, rfl, rfl, by simp [Ty.isAgg], by decide, rfl⟩,
  ⟨⟨_, _, _, Tryz.underlying193⟩, Tryz.t193, _, Tryz.type193, rfl, rfl, rfl, rfl, by simp [Ty.isAgg], by decide, rfl⟩,
  ⟨⟨_, _, _, Tryz.underlying194⟩, Tryz.t194, _, Tryz.type194, rfl, rfl, rfl, rfl, by simp [Ty.isAgg], by decide, rfl⟩,
  ⟨⟨_, Tryz.underlying195⟩, Tryz.t195, _, Tryz.type195, rfl, rfl, rfl, rfl, by simp [Ty.isAgg], by decide, rfl⟩,
  ⟨⟨_, Tryz.underlying196, rfl, fldsOk.mem ⟨⟨by decide, Tryz.t9, Tryz.type9, by decide⟩, trivial⟩, Tryz.stoodInHeld196⟩, Tryz.t196, _, Tryz.type196, rfl, rfl, rfl, rfl, by simp [Ty.isAgg], by decide, rfl⟩,
  ⟨⟨_, Tryz.underlying197, rfl, fldsOk.mem ⟨⟨by decide, Tryz.t9, Tryz.type9, by decide⟩, trivial⟩, Tryz.stoodInHeld197⟩, Tryz.t197, _, Tryz.type197, rfl, rfl, rfl, rfl, by simp [Ty.isAgg], by decide, rfl⟩,
  ⟨⟨_, _, _, Tryz.underlying198⟩, Tryz.t198, _, Tryz.type198, rfl, rfl, rfl, rfl, by simp [Ty.isAgg], by decide, rfl⟩,
  ⟨⟨_, Tryz.underlying199⟩, Tryz.t199, _, Tryz.type199, rfl, rfl, rfl, rfl, by simp [Ty.isAgg], by decide, rfl⟩,
  ⟨⟨_, _, _, Tryz.underlying200⟩, Tryz.t200, _, Tryz.type200, rfl, rfl, rfl, rfl, by simp [Ty.isAgg], by decide, rfl⟩,
  ⟨Tryz.underlying201, Tryz.t201, _, Tryz.type201, rfl, rfl, rfl, rfl, by simp [Ty.isAgg], by decide, rfl⟩,
  ⟨⟨_, Tryz.underlying202, rfl, fldsOk.mem ⟨⟨by decide, Tryz.t5, Tryz.type5, by decide⟩, ⟨by decide, Tryz.t5, Tryz.type5, by decide⟩, trivial⟩, Tryz.stoodInHeld202⟩, Tryz.t202, _, Tryz.type202, rfl, rfl, rfl, rfl, by simp [Ty.isAgg], by decide, rfl⟩,
  ⟨⟨_, Tryz.underlying203, rfl, fldsOk.mem ⟨⟨by decide, Tryz.t5, Tryz.type5, by decide⟩, ⟨by decide, Tryz.t5, Tryz.type5, by decide⟩, trivial⟩, Tryz.stoodInHeld203⟩, Tryz.t203, _, Tryz.type203, rfl, rfl, rfl, rfl, by simp [Ty.isAgg], by decide, rfl⟩,
  ⟨Tryz.underlying204, Tryz.t204, _, Tryz.type204, rfl, rfl, rfl, rfl, by simp [Ty.isAgg], by decide, rfl⟩,
  ⟨⟨_, _, _, Tryz.underlying206⟩, Tryz.t206, _, Tryz.type206, rfl, rfl, rfl, rfl, by simp [Ty.isAgg], by decide, rfl⟩,
  ⟨Tryz.underlying207, Tryz.t207, _, Tryz.type207, rfl, rfl, rfl, rfl, by simp [Ty.isAgg], by decide, rfl⟩,
  ⟨Tryz.underlying208, Tryz.t208, _, Tryz.type208, rfl, rfl, rfl, rfl, by simp [Ty.isAgg], by decide, rfl⟩,
  ⟨⟨_, _, _, Tryz.underlying214⟩, Tryz.t214, _, Tryz.type214, rfl, rfl, rfl, rfl, by simp [Ty.isAgg], by decide, rfl⟩,
  ⟨Tryz.underlying215, Tryz.t215, _, Tryz.type215, rfl, rfl, rfl, rfl, by simp [Ty.isAgg], by decide, rfl⟩,
  ⟨Tryz.underlying216, Tryz.t216, _, Tryz.type216, rfl, rfl, rfl, rfl, by simp [Ty.isAgg], by decide, rfl⟩,
  ⟨⟨_, _, _, Tryz.underlying217⟩, Tryz.t217, _, Tryz.type217, rfl, rfl, rfl, rfl, by simp [Ty.isAgg], by decide, rfl⟩,
  ⟨Tryz.underlying218, Tryz.t218, _, Tryz.type218, rfl, rfl, rfl, rfl, by simp [Ty.isAgg], by decide, rfl⟩,
  ⟨Tryz.underlying219, Tryz.t219, _, Tryz.type219, rfl, rfl, rfl, rfl, by simp [Ty.isAgg], by decide, rfl⟩,
  trivial⟩
@[go_sem] theorem T1 : T 1 = ⟨.fn, 1, .one .nilFunc⟩ := rfl
@[go_sem] theorem T2 : T 2 = ⟨.int .i64, 1, .one (.int .i64 0)⟩ := rfl
@[go_sem] theorem T3 : T 3 = ⟨.int .i64, 1, .one (.int .i64 0)⟩ := rfl
@[go_sem] theorem T4 : T 4 = ⟨.bool, 1, .one (.bool false)⟩ := rfl
@[go_sem] theorem T5 : T 5 = ⟨.int .u8, 1, .one (.int .u8 0)⟩ := rfl
@[go_sem] theorem T6 : T 6 = ⟨.int .u8, 1, .one (.int .u8 0)⟩ := rfl
@[go_sem] theorem T7 : T 7 = ⟨.agg [(0, 2), (1, 3), (2, 4), (3, 6)], 4, .agg [.one (.int .i64 0), .one (.int .i64 0), .one (.bool false), .one (.int .u8 0)]⟩ := rfl
@[go_sem] theorem T8 : T 8 = ⟨.agg [(0, 2), (1, 3), (2, 4), (3, 6)], 4, .agg [.one (.int .i64 0), .one (.int .i64 0), .one (.bool false), .one (.int .u8 0)]⟩ := rfl
@[go_sem] theorem T9 : T 9 = ⟨.str, 1, .one (.string { data := #[] })⟩ := rfl
@[go_sem] theorem T10 : T 10 = ⟨.str, 1, .one (.string { data := #[] })⟩ := rfl
@[go_sem] theorem T11 : T 11 = ⟨.str, 1, .one (.string { data := #[] })⟩ := rfl
@[go_sem] theorem T12 : T 12 = ⟨.int .u64, 1, .one (.int .u64 0)⟩ := rfl
@[go_sem] theorem T15 : T 15 = ⟨.ptr, 1, .one (.pointer none)⟩ := rfl
@[go_sem] theorem T16 : T 16 = ⟨.ptr, 1, .one (.pointer none)⟩ := rfl
@[go_sem] theorem T17 : T 17 = ⟨.ptr, 1, .one (.pointer none)⟩ := rfl
@[go_sem] theorem T20 : T 20 = ⟨.ifc, 1, .one .nilIface⟩ := rfl
@[go_sem] theorem T21 : T 21 = ⟨.int .i32, 1, .one (.int .i32 0)⟩ := rfl
@[go_sem] theorem T22 : T 22 = ⟨.sl 91, 1, .sl (some 91) []⟩ := rfl
@[go_sem] theorem T23 : T 23 = ⟨.agg [(0, 22)], 1, .agg [.sl (some 91) []]⟩ := rfl
@[go_sem] theorem T24 : T 24 = ⟨.agg [(0, 22)], 1, .agg [.sl (some 91) []]⟩ := rfl
@[go_sem] theorem T25 : T 25 = ⟨.fn, 1, .one .nilFunc⟩ := rfl
@[go_sem] theorem T27 : T 27 = ⟨.fn, 1, .one .nilFunc⟩ := rfl
@[go_sem] theorem T28 : T 28 = ⟨.sl 81, 1, .sl (some 81) []⟩ := rfl
@[go_sem] theorem T29 : T 29 = ⟨.agg [(0, 28)], 1, .agg [.sl (some 81) []]⟩ := rfl
@[go_sem] theorem T30 : T 30 = ⟨.agg [(0, 28)], 1, .agg [.sl (some 81) []]⟩ := rfl
@[go_sem] theorem T31 : T 31 = ⟨.fn, 1, .one .nilFunc⟩ := rfl
@[go_sem] theorem T32 : T 32 = ⟨.fn, 1, .one .nilFunc⟩ := rfl
@[go_sem] theorem T33 : T 33 = ⟨.fn, 1, .one .nilFunc⟩ := rfl
@[go_sem] theorem T34 : T 34 = ⟨.sl 30, 1, .sl (some 30) []⟩ := rfl
@[go_sem] theorem T36 : T 36 = ⟨.fn, 1, .one .nilFunc⟩ := rfl
@[go_sem] theorem T37 : T 37 = ⟨.fn, 1, .one .nilFunc⟩ := rfl
@[go_sem] theorem T38 : T 38 = ⟨.fn, 1, .one .nilFunc⟩ := rfl
@[go_sem] theorem T39 : T 39 = ⟨.fn, 1, .one .nilFunc⟩ := rfl
@[go_sem] theorem T40 : T 40 = ⟨.sl 5, 1, .sl (some 5) []⟩ := rfl
@[go_sem] theorem T41 : T 41 = ⟨.fn, 1, .one .nilFunc⟩ := rfl
@[go_sem] theorem T43 : T 43 = ⟨.fn, 1, .one .nilFunc⟩ := rfl
@[go_sem] theorem T44 : T 44 = ⟨.fn, 1, .one .nilFunc⟩ := rfl
@[go_sem] theorem T46 : T 46 = ⟨.fn, 1, .one .nilFunc⟩ := rfl
@[go_sem] theorem T47 : T 47 = ⟨.fn, 1, .one .nilFunc⟩ := rfl
@[go_sem] theorem T49 : T 49 = ⟨.fn, 1, .one .nilFunc⟩ := rfl
@[go_sem] theorem T50 : T 50 = ⟨.fn, 1, .one .nilFunc⟩ := rfl
@[go_sem] theorem T51 : T 51 = ⟨.fn, 1, .one .nilFunc⟩ := rfl
@[go_sem] theorem T52 : T 52 = ⟨.fn, 1, .one .nilFunc⟩ := rfl
@[go_sem] theorem T53 : T 53 = ⟨.fn, 1, .one .nilFunc⟩ := rfl
@[go_sem] theorem T54 : T 54 = ⟨.fn, 1, .one .nilFunc⟩ := rfl
@[go_sem] theorem T55 : T 55 = ⟨.fn, 1, .one .nilFunc⟩ := rfl
@[go_sem] theorem T56 : T 56 = ⟨.fn, 1, .one .nilFunc⟩ := rfl
@[go_sem] theorem T57 : T 57 = ⟨.fn, 1, .one .nilFunc⟩ := rfl
@[go_sem] theorem T58 : T 58 = ⟨.fn, 1, .one .nilFunc⟩ := rfl
@[go_sem] theorem T59 : T 59 = ⟨.fn, 1, .one .nilFunc⟩ := rfl
@[go_sem] theorem T60 : T 60 = ⟨.ptr, 1, .one (.pointer none)⟩ := rfl
@[go_sem] theorem T61 : T 61 = ⟨.fn, 1, .one .nilFunc⟩ := rfl
@[go_sem] theorem T62 : T 62 = ⟨.fn, 1, .one .nilFunc⟩ := rfl
@[go_sem] theorem T63 : T 63 = ⟨.sl 3, 1, .sl (some 3) []⟩ := rfl
@[go_sem] theorem T64 : T 64 = ⟨.fn, 1, .one .nilFunc⟩ := rfl
@[go_sem] theorem T65 : T 65 = ⟨.fn, 1, .one .nilFunc⟩ := rfl
@[go_sem] theorem T66 : T 66 = ⟨.fn, 1, .one .nilFunc⟩ := rfl
@[go_sem] theorem T67 : T 67 = ⟨.fn, 1, .one .nilFunc⟩ := rfl
@[go_sem] theorem T68 : T 68 = ⟨.fn, 1, .one .nilFunc⟩ := rfl
@[go_sem] theorem T69 : T 69 = ⟨.fn, 1, .one .nilFunc⟩ := rfl
@[go_sem] theorem T71 : T 71 = ⟨.fn, 1, .one .nilFunc⟩ := rfl
@[go_sem] theorem T73 : T 73 = ⟨.fn, 1, .one .nilFunc⟩ := rfl
@[go_sem] theorem T74 : T 74 = ⟨.fn, 1, .one .nilFunc⟩ := rfl
@[go_sem] theorem T75 : T 75 = ⟨.sl 9, 1, .sl (some 9) []⟩ := rfl
@[go_sem] theorem T76 : T 76 = ⟨.agg [(0, 3), (1, 3), (2, 3), (3, 75)], 4, .agg [.one (.int .i64 0), .one (.int .i64 0), .one (.int .i64 0), .sl (some 9) []]⟩ := rfl
@[go_sem] theorem T77 : T 77 = ⟨.agg [(0, 3), (1, 3), (2, 3), (3, 75)], 4, .agg [.one (.int .i64 0), .one (.int .i64 0), .one (.int .i64 0), .sl (some 9) []]⟩ := rfl
@[go_sem] theorem T78 : T 78 = ⟨.agg [(0, 3), (1, 3), (2, 4), (3, 3)], 4, .agg [.one (.int .i64 0), .one (.int .i64 0), .one (.bool false), .one (.int .i64 0)]⟩ := rfl
@[go_sem] theorem T79 : T 79 = ⟨.agg [(0, 3), (1, 3), (2, 4), (3, 3)], 4, .agg [.one (.int .i64 0), .one (.int .i64 0), .one (.bool false), .one (.int .i64 0)]⟩ := rfl
@[go_sem] theorem T80 : T 80 = ⟨.agg [(0, 3), (1, 77), (5, 79)], 9, .agg [.one (.int .i64 0), .agg [.one (.int .i64 0), .one (.int .i64 0), .one (.int .i64 0), .sl (some 9) []], .agg [.one (.int .i64 0), .one (.int .i64 0), .one (.bool false), .one (.int .i64 0)]]⟩ := rfl
@[go_sem] theorem T81 : T 81 = ⟨.agg [(0, 3), (1, 77), (5, 79)], 9, .agg [.one (.int .i64 0), .agg [.one (.int .i64 0), .one (.int .i64 0), .one (.int .i64 0), .sl (some 9) []], .agg [.one (.int .i64 0), .one (.int .i64 0), .one (.bool false), .one (.int .i64 0)]]⟩ := rfl
@[go_sem] theorem T82 : T 82 = ⟨.fn, 1, .one .nilFunc⟩ := rfl
@[go_sem] theorem T83 : T 83 = ⟨.fn, 1, .one .nilFunc⟩ := rfl
@[go_sem] theorem T84 : T 84 = ⟨.fn, 1, .one .nilFunc⟩ := rfl
@[go_sem] theorem T85 : T 85 = ⟨.fn, 1, .one .nilFunc⟩ := rfl
@[go_sem] theorem T86 : T 86 = ⟨.fn, 1, .one .nilFunc⟩ := rfl
@[go_sem] theorem T87 : T 87 = ⟨.fn, 1, .one .nilFunc⟩ := rfl
@[go_sem] theorem T88 : T 88 = ⟨.agg [(0, 3), (1, 3), (2, 3), (3, 75)], 4, .agg [.one (.int .i64 0), .one (.int .i64 0), .one (.int .i64 0), .sl (some 9) []]⟩ := rfl
@[go_sem] theorem T89 : T 89 = ⟨.agg [(0, 3), (1, 3), (2, 4), (3, 3)], 4, .agg [.one (.int .i64 0), .one (.int .i64 0), .one (.bool false), .one (.int .i64 0)]⟩ := rfl
@[go_sem] theorem T90 : T 90 = ⟨.agg [(0, 3), (1, 88), (5, 89)], 9, .agg [.one (.int .i64 0), .agg [.one (.int .i64 0), .one (.int .i64 0), .one (.int .i64 0), .sl (some 9) []], .agg [.one (.int .i64 0), .one (.int .i64 0), .one (.bool false), .one (.int .i64 0)]]⟩ := rfl
@[go_sem] theorem T91 : T 91 = ⟨.agg [(0, 3), (1, 88), (5, 89)], 9, .agg [.one (.int .i64 0), .agg [.one (.int .i64 0), .one (.int .i64 0), .one (.int .i64 0), .sl (some 9) []], .agg [.one (.int .i64 0), .one (.int .i64 0), .one (.bool false), .one (.int .i64 0)]]⟩ := rfl
@[go_sem] theorem T92 : T 92 = ⟨.fn, 1, .one .nilFunc⟩ := rfl
@[go_sem] theorem T93 : T 93 = ⟨.fn, 1, .one .nilFunc⟩ := rfl
@[go_sem] theorem T94 : T 94 = ⟨.agg [(0, 40), (1, 3), (2, 3)], 3, .agg [.sl (some 5) [], .one (.int .i64 0), .one (.int .i64 0)]⟩ := rfl
@[go_sem] theorem T95 : T 95 = ⟨.agg [(0, 40), (1, 3), (2, 3)], 3, .agg [.sl (some 5) [], .one (.int .i64 0), .one (.int .i64 0)]⟩ := rfl
@[go_sem] theorem T96 : T 96 = ⟨.fn, 1, .one .nilFunc⟩ := rfl
@[go_sem] theorem T97 : T 97 = ⟨.fn, 1, .one .nilFunc⟩ := rfl
@[go_sem] theorem T98 : T 98 = ⟨.fn, 1, .one .nilFunc⟩ := rfl
@[go_sem] theorem T99 : T 99 = ⟨.fn, 1, .one .nilFunc⟩ := rfl
@[go_sem] theorem T100 : T 100 = ⟨.fn, 1, .one .nilFunc⟩ := rfl
@[go_sem] theorem T101 : T 101 = ⟨.fn, 1, .one .nilFunc⟩ := rfl
@[go_sem] theorem T102 : T 102 = ⟨.ifc, 1, .one .nilIface⟩ := rfl
@[go_sem] theorem T103 : T 103 = ⟨.ifc, 1, .one .nilIface⟩ := rfl
@[go_sem] theorem T105 : T 105 = ⟨.fn, 1, .one .nilFunc⟩ := rfl
@[go_sem] theorem T106 : T 106 = ⟨.fn, 1, .one .nilFunc⟩ := rfl
@[go_sem] theorem T107 : T 107 = ⟨.fn, 1, .one .nilFunc⟩ := rfl
@[go_sem] theorem T109 : T 109 = ⟨.fn, 1, .one .nilFunc⟩ := rfl
@[go_sem] theorem T110 : T 110 = ⟨.fn, 1, .one .nilFunc⟩ := rfl
@[go_sem] theorem T111 : T 111 = ⟨.fn, 1, .one .nilFunc⟩ := rfl
@[go_sem] theorem T112 : T 112 = ⟨.fn, 1, .one .nilFunc⟩ := rfl
@[go_sem] theorem T113 : T 113 = ⟨.fn, 1, .one .nilFunc⟩ := rfl
@[go_sem] theorem T114 : T 114 = ⟨.fn, 1, .one .nilFunc⟩ := rfl
@[go_sem] theorem T115 : T 115 = ⟨.fn, 1, .one .nilFunc⟩ := rfl
@[go_sem] theorem T116 : T 116 = ⟨.fn, 1, .one .nilFunc⟩ := rfl
@[go_sem] theorem T117 : T 117 = ⟨.fn, 1, .one .nilFunc⟩ := rfl
@[go_sem] theorem T118 : T 118 = ⟨.fn, 1, .one .nilFunc⟩ := rfl
@[go_sem] theorem T119 : T 119 = ⟨.fn, 1, .one .nilFunc⟩ := rfl
@[go_sem] theorem T120 : T 120 = ⟨.fn, 1, .one .nilFunc⟩ := rfl
@[go_sem] theorem T121 : T 121 = ⟨.fn, 1, .one .nilFunc⟩ := rfl
@[go_sem] theorem T122 : T 122 = ⟨.fn, 1, .one .nilFunc⟩ := rfl
@[go_sem] theorem T123 : T 123 = ⟨.fn, 1, .one .nilFunc⟩ := rfl
@[go_sem] theorem T124 : T 124 = ⟨.fn, 1, .one .nilFunc⟩ := rfl
@[go_sem] theorem T125 : T 125 = ⟨.fn, 1, .one .nilFunc⟩ := rfl
@[go_sem] theorem T126 : T 126 = ⟨.ptr, 1, .one (.pointer none)⟩ := rfl
@[go_sem] theorem T127 : T 127 = ⟨.agg [(0, 126), (1, 40)], 2, .agg [.one (.pointer none), .sl (some 5) []]⟩ := rfl
@[go_sem] theorem T128 : T 128 = ⟨.agg [(0, 126), (1, 40)], 2, .agg [.one (.pointer none), .sl (some 5) []]⟩ := rfl
@[go_sem] theorem T129 : T 129 = ⟨.fn, 1, .one .nilFunc⟩ := rfl
@[go_sem] theorem T130 : T 130 = ⟨.fn, 1, .one .nilFunc⟩ := rfl
@[go_sem] theorem T131 : T 131 = ⟨.fn, 1, .one .nilFunc⟩ := rfl
@[go_sem] theorem T132 : T 132 = ⟨.fn, 1, .one .nilFunc⟩ := rfl
@[go_sem] theorem T134 : T 134 = ⟨.fn, 1, .one .nilFunc⟩ := rfl
@[go_sem] theorem T136 : T 136 = ⟨.fn, 1, .one .nilFunc⟩ := rfl
@[go_sem] theorem T138 : T 138 = ⟨.fn, 1, .one .nilFunc⟩ := rfl
@[go_sem] theorem T140 : T 140 = ⟨.fn, 1, .one .nilFunc⟩ := rfl
@[go_sem] theorem T141 : T 141 = ⟨.fn, 1, .one .nilFunc⟩ := rfl
@[go_sem] theorem T142 : T 142 = ⟨.fn, 1, .one .nilFunc⟩ := rfl
@[go_sem] theorem T143 : T 143 = ⟨.fn, 1, .one .nilFunc⟩ := rfl
@[go_sem] theorem T144 : T 144 = ⟨.int .u64, 1, .one (.int .u64 0)⟩ := rfl
@[go_sem] theorem T145 : T 145 = ⟨.fn, 1, .one .nilFunc⟩ := rfl
@[go_sem] theorem T146 : T 146 = ⟨.fn, 1, .one .nilFunc⟩ := rfl
@[go_sem] theorem T147 : T 147 = ⟨.fn, 1, .one .nilFunc⟩ := rfl
@[go_sem] theorem T148 : T 148 = ⟨.fn, 1, .one .nilFunc⟩ := rfl
@[go_sem] theorem T149 : T 149 = ⟨.fn, 1, .one .nilFunc⟩ := rfl
@[go_sem] theorem T150 : T 150 = ⟨.fn, 1, .one .nilFunc⟩ := rfl
@[go_sem] theorem T151 : T 151 = ⟨.fn, 1, .one .nilFunc⟩ := rfl
@[go_sem] theorem T152 : T 152 = ⟨.fn, 1, .one .nilFunc⟩ := rfl
@[go_sem] theorem T153 : T 153 = ⟨.ptr, 1, .one (.pointer none)⟩ := rfl
@[go_sem] theorem T154 : T 154 = ⟨.int .i64, 1, .one (.int .i64 0)⟩ := rfl
@[go_sem] theorem T156 : T 156 = ⟨.fn, 1, .one .nilFunc⟩ := rfl
@[go_sem] theorem T157 : T 157 = ⟨.ptr, 1, .one (.pointer none)⟩ := rfl
@[go_sem] theorem T158 : T 158 = ⟨.fn, 1, .one .nilFunc⟩ := rfl
@[go_sem] theorem T159 : T 159 = ⟨.fn, 1, .one .nilFunc⟩ := rfl
@[go_sem] theorem T160 : T 160 = ⟨.fn, 1, .one .nilFunc⟩ := rfl
@[go_sem] theorem T161 : T 161 = ⟨.fn, 1, .one .nilFunc⟩ := rfl
@[go_sem] theorem T163 : T 163 = ⟨.fn, 1, .one .nilFunc⟩ := rfl
@[go_sem] theorem T164 : T 164 = ⟨.fn, 1, .one .nilFunc⟩ := rfl
@[go_sem] theorem T165 : T 165 = ⟨.arr 24 5, 24, .agg (List.replicate 24 (.one (.int .u8 0)))⟩ := rfl
@[go_sem] theorem T166 : T 166 = ⟨.int .u64, 1, .one (.int .u64 0)⟩ := rfl
@[go_sem] theorem T167 : T 167 = ⟨.fn, 1, .one .nilFunc⟩ := rfl
@[go_sem] theorem T168 : T 168 = ⟨.fn, 1, .one .nilFunc⟩ := rfl
@[go_sem] theorem T170 : T 170 = ⟨.fn, 1, .one .nilFunc⟩ := rfl
@[go_sem] theorem T172 : T 172 = ⟨.fn, 1, .one .nilFunc⟩ := rfl
@[go_sem] theorem T173 : T 173 = ⟨.fn, 1, .one .nilFunc⟩ := rfl
@[go_sem] theorem T175 : T 175 = ⟨.fn, 1, .one .nilFunc⟩ := rfl
@[go_sem] theorem T176 : T 176 = ⟨.fn, 1, .one .nilFunc⟩ := rfl
@[go_sem] theorem T177 : T 177 = ⟨.agg [(0, 9), (1, 9), (2, 103)], 3, .agg [.one (.string { data := #[] }), .one (.string { data := #[] }), .one .nilIface]⟩ := rfl
@[go_sem] theorem T178 : T 178 = ⟨.agg [(0, 9), (1, 9), (2, 103)], 3, .agg [.one (.string { data := #[] }), .one (.string { data := #[] }), .one .nilIface]⟩ := rfl
@[go_sem] theorem T179 : T 179 = ⟨.fn, 1, .one .nilFunc⟩ := rfl
@[go_sem] theorem T181 : T 181 = ⟨.fn, 1, .one .nilFunc⟩ := rfl
@[go_sem] theorem T182 : T 182 = ⟨.fn, 1, .one .nilFunc⟩ := rfl
@[go_sem] theorem T183 : T 183 = ⟨.arr 256 4, 256, .agg (List.replicate 256 (.one (.bool false)))⟩ := rfl
@[go_sem] theorem T184 : T 184 = ⟨.arr 256 4, 256, .agg (List.replicate 256 (.one (.bool false)))⟩ := rfl
@[go_sem] theorem T186 : T 186 = ⟨.fn, 1, .one .nilFunc⟩ := rfl
@[go_sem] theorem T187 : T 187 = ⟨.fn, 1, .one .nilFunc⟩ := rfl
@[go_sem] theorem T188 : T 188 = ⟨.fn, 1, .one .nilFunc⟩ := rfl
@[go_sem] theorem T189 : T 189 = ⟨.fn, 1, .one .nilFunc⟩ := rfl
@[go_sem] theorem T190 : T 190 = ⟨.arr 20 166, 20, .agg (List.replicate 20 (.one (.int .u64 0)))⟩ := rfl
@[go_sem] theorem T191 : T 191 = ⟨.int .u32, 1, .one (.int .u32 0)⟩ := rfl
@[go_sem] theorem T192 : T 192 = ⟨.arr 65 5, 65, .agg (List.replicate 65 (.one (.int .u8 0)))⟩ := rfl
@[go_sem] theorem T193 : T 193 = ⟨.fn, 1, .one .nilFunc⟩ := rfl
@[go_sem] theorem T194 : T 194 = ⟨.fn, 1, .one .nilFunc⟩ := rfl
@[go_sem] theorem T195 : T 195 = ⟨.ptr, 1, .one (.pointer none)⟩ := rfl
@[go_sem] theorem T196 : T 196 = ⟨.agg [(0, 9)], 1, .agg [.one (.string { data := #[] })]⟩ := rfl
@[go_sem] theorem T197 : T 197 = ⟨.agg [(0, 9)], 1, .agg [.one (.string { data := #[] })]⟩ := rfl
@[go_sem] theorem T198 : T 198 = ⟨.fn, 1, .one .nilFunc⟩ := rfl
@[go_sem] theorem T199 : T 199 = ⟨.ptr, 1, .one (.pointer none)⟩ := rfl
@[go_sem] theorem T200 : T 200 = ⟨.fn, 1, .one .nilFunc⟩ := rfl
@[go_sem] theorem T201 : T 201 = ⟨.arr 256 5, 256, .agg (List.replicate 256 (.one (.int .u8 0)))⟩ := rfl
@[go_sem] theorem T202 : T 202 = ⟨.agg [(0, 5), (1, 5)], 2, .agg [.one (.int .u8 0), .one (.int .u8 0)]⟩ := rfl
@[go_sem] theorem T203 : T 203 = ⟨.agg [(0, 5), (1, 5)], 2, .agg [.one (.int .u8 0), .one (.int .u8 0)]⟩ := rfl
@[go_sem] theorem T204 : T 204 = ⟨.arr 16 203, 32, .agg (List.replicate 16 (.agg [.one (.int .u8 0), .one (.int .u8 0)]))⟩ := rfl
@[go_sem] theorem T206 : T 206 = ⟨.fn, 1, .one .nilFunc⟩ := rfl
@[go_sem] theorem T207 : T 207 = ⟨.arr 32 5, 32, .agg (List.replicate 32 (.one (.int .u8 0)))⟩ := rfl
@[go_sem] theorem T208 : T 208 = ⟨.arr 64 5, 64, .agg (List.replicate 64 (.one (.int .u8 0)))⟩ := rfl
@[go_sem] theorem T214 : T 214 = ⟨.fn, 1, .one .nilFunc⟩ := rfl
@[go_sem] theorem T215 : T 215 = ⟨.int .u8, 1, .one (.int .u8 0)⟩ := rfl
@[go_sem] theorem T216 : T 216 = ⟨.int .u8, 1, .one (.int .u8 0)⟩ := rfl
@[go_sem] theorem T217 : T 217 = ⟨.fn, 1, .one .nilFunc⟩ := rfl
@[go_sem] theorem T218 : T 218 = ⟨.int .i32, 1, .one (.int .i32 0)⟩ := rfl
@[go_sem] theorem T219 : T 219 = ⟨.int .i32, 1, .one (.int .i32 0)⟩ := rfl
@[go_sem] theorem en2 : Dv.Enters Tryz.prog 2 := Tryz.call2
@[go_sem] theorem en3 : Dv.Enters Tryz.prog 3 := Tryz.call3
@[go_sem] theorem en4 : Dv.Enters Tryz.prog 4 := Tryz.call4
@[go_sem] theorem en5 : Dv.Enters Tryz.prog 5 := Tryz.call5
@[go_sem] theorem en6 : Dv.Enters Tryz.prog 6 := Tryz.call6
@[go_sem] theorem en7 : Dv.Enters Tryz.prog 7 := Tryz.call7
@[go_sem] theorem en8 : Dv.Enters Tryz.prog 8 := Tryz.call8
@[go_sem] theorem en9 : Dv.Enters Tryz.prog 9 := Tryz.call9
@[go_sem] theorem en10 : Dv.Enters Tryz.prog 10 := Tryz.call10
@[go_sem] theorem en11 : Dv.Enters Tryz.prog 11 := Tryz.call11
@[go_sem] theorem en12 : Dv.Enters Tryz.prog 12 := Tryz.call12
@[go_sem] theorem en13 : Dv.Enters Tryz.prog 13 := Tryz.call13
@[go_sem] theorem en14 : Dv.Enters Tryz.prog 14 := Tryz.call14
@[go_sem] theorem en15 : Dv.Enters Tryz.prog 15 := Tryz.call15
@[go_sem] theorem en16 : Dv.Enters Tryz.prog 16 := Tryz.call16
@[go_sem] theorem en17 : Dv.Enters Tryz.prog 17 := Tryz.call17
@[go_sem] theorem en18 : Dv.Enters Tryz.prog 18 := Tryz.call18
@[go_sem] theorem en19 : Dv.Enters Tryz.prog 19 := Tryz.call19
@[go_sem] theorem en20 : Dv.Enters Tryz.prog 20 := Tryz.call20
@[go_sem] theorem en21 : Dv.Enters Tryz.prog 21 := Tryz.call21
@[go_sem] theorem en22 : Dv.Enters Tryz.prog 22 := Tryz.call22
@[go_sem] theorem en23 : Dv.Enters Tryz.prog 23 := Tryz.call23
@[go_sem] theorem en24 : Dv.Enters Tryz.prog 24 := Tryz.call24
@[go_sem] theorem en25 : Dv.Enters Tryz.prog 25 := Tryz.call25
@[go_sem] theorem en26 : Dv.Enters Tryz.prog 26 := Tryz.call26
@[go_sem] theorem en27 : Dv.Enters Tryz.prog 27 := Tryz.call27
@[go_sem] theorem en28 : Dv.Enters Tryz.prog 28 := Tryz.call28
@[go_sem] theorem en29 : Dv.Enters Tryz.prog 29 := Tryz.call29
@[go_sem] theorem en30 : Dv.Enters Tryz.prog 30 := Tryz.call30
@[go_sem] theorem en31 : Dv.Enters Tryz.prog 31 := Tryz.call31
@[go_sem] theorem en32 : Dv.Enters Tryz.prog 32 := Tryz.call32
@[go_sem] theorem en33 : Dv.Enters Tryz.prog 33 := Tryz.call33
@[go_sem] theorem en34 : Dv.Enters Tryz.prog 34 := Tryz.call34
@[go_sem] theorem en35 : Dv.Enters Tryz.prog 35 := Tryz.call35
@[go_sem] theorem en36 : Dv.Enters Tryz.prog 36 := Tryz.call36
@[go_sem] theorem en37 : Dv.Enters Tryz.prog 37 := Tryz.call37
@[go_sem] theorem en38 : Dv.Enters Tryz.prog 38 := Tryz.call38
@[go_sem] theorem en39 : Dv.Enters Tryz.prog 39 := Tryz.call39
@[go_sem] theorem en40 : Dv.Enters Tryz.prog 40 := Tryz.call40
@[go_sem] theorem en41 : Dv.Enters Tryz.prog 41 := Tryz.call41
@[go_sem] theorem en42 : Dv.Enters Tryz.prog 42 := Tryz.call42
@[go_sem] theorem en43 : Dv.Enters Tryz.prog 43 := Tryz.call43
@[go_sem] theorem en44 : Dv.Enters Tryz.prog 44 := Tryz.call44
@[go_sem] theorem en45 : Dv.Enters Tryz.prog 45 := Tryz.call45
@[go_sem] theorem en46 : Dv.Enters Tryz.prog 46 := Tryz.call46
@[go_sem] theorem en47 : Dv.Enters Tryz.prog 47 := Tryz.call47
@[go_sem] theorem en48 : Dv.Enters Tryz.prog 48 := Tryz.call48
@[go_sem] theorem en49 : Dv.Enters Tryz.prog 49 := Tryz.call49
@[go_sem] theorem en50 : Dv.Enters Tryz.prog 50 := Tryz.call50
@[go_sem] theorem en51 : Dv.Enters Tryz.prog 51 := Tryz.call51
@[go_sem] theorem en52 : Dv.Enters Tryz.prog 52 := Tryz.call52
@[go_sem] theorem en53 : Dv.Enters Tryz.prog 53 := Tryz.call53
@[go_sem] theorem en54 : Dv.Enters Tryz.prog 54 := Tryz.call54
@[go_sem] theorem en55 : Dv.Enters Tryz.prog 55 := Tryz.call55
@[go_sem] theorem en56 : Dv.Enters Tryz.prog 56 := Tryz.call56
@[go_sem] theorem en57 : Dv.Enters Tryz.prog 57 := Tryz.call57
@[go_sem] theorem en58 : Dv.Enters Tryz.prog 58 := Tryz.call58
@[go_sem] theorem en59 : Dv.Enters Tryz.prog 59 := Tryz.call59
@[go_sem] theorem en60 : Dv.Enters Tryz.prog 60 := Tryz.call60
@[go_sem] theorem en61 : Dv.Enters Tryz.prog 61 := Tryz.call61
@[go_sem] theorem en62 : Dv.Enters Tryz.prog 62 := Tryz.call62
@[go_sem] theorem en63 : Dv.Enters Tryz.prog 63 := Tryz.call63
@[go_sem] theorem en64 : Dv.Enters Tryz.prog 64 := Tryz.call64
@[go_sem] theorem en65 : Dv.Enters Tryz.prog 65 := Tryz.call65
@[go_sem] theorem en66 : Dv.Enters Tryz.prog 66 := Tryz.call66
@[go_sem] theorem en67 : Dv.Enters Tryz.prog 67 := Tryz.call67
@[go_sem] theorem en68 : Dv.Enters Tryz.prog 68 := Tryz.call68
@[go_sem] theorem en69 : Dv.Enters Tryz.prog 69 := Tryz.call69
@[go_sem] theorem en70 : Dv.Enters Tryz.prog 70 := Tryz.call70
@[go_sem] theorem en71 : Dv.Enters Tryz.prog 71 := Tryz.call71
@[go_sem] theorem en72 : Dv.Enters Tryz.prog 72 := Tryz.call72
@[go_sem] theorem en73 : Dv.Enters Tryz.prog 73 := Tryz.call73
@[go_sem] theorem en74 : Dv.Enters Tryz.prog 74 := Tryz.call74
@[go_sem] theorem en75 : Dv.Enters Tryz.prog 75 := Tryz.call75
@[go_sem] theorem en76 : Dv.Enters Tryz.prog 76 := Tryz.call76
@[go_sem] theorem en77 : Dv.Enters Tryz.prog 77 := Tryz.call77
@[go_sem] theorem en78 : Dv.Enters Tryz.prog 78 := Tryz.call78
@[go_sem] theorem en79 : Dv.Enters Tryz.prog 79 := Tryz.call79
@[go_sem] theorem en80 : Dv.Enters Tryz.prog 80 := Tryz.call80
@[go_sem] theorem en81 : Dv.Enters Tryz.prog 81 := Tryz.call81
@[go_sem] theorem en82 : Dv.Enters Tryz.prog 82 := Tryz.call82
@[go_sem] theorem en83 : Dv.Enters Tryz.prog 83 := Tryz.call83
@[go_sem] theorem en84 : Dv.Enters Tryz.prog 84 := Tryz.call84
@[go_sem] theorem en85 : Dv.Enters Tryz.prog 85 := Tryz.call85
@[go_sem] theorem en86 : Dv.Enters Tryz.prog 86 := Tryz.call86
@[go_sem] theorem en87 : Dv.Enters Tryz.prog 87 := Tryz.call87
@[go_sem] theorem en88 : Dv.Enters Tryz.prog 88 := Tryz.call88
@[go_sem] theorem en89 : Dv.Enters Tryz.prog 89 := Tryz.call89
@[go_sem] theorem en90 : Dv.Enters Tryz.prog 90 := Tryz.call90
@[go_sem] theorem en91 : Dv.Enters Tryz.prog 91 := Tryz.call91
@[go_sem] theorem en92 : Dv.Enters Tryz.prog 92 := Tryz.call92
@[go_sem] theorem en93 : Dv.Enters Tryz.prog 93 := Tryz.call93
@[go_sem] theorem en94 : Dv.Enters Tryz.prog 94 := Tryz.call94
@[go_sem] theorem en95 : Dv.Enters Tryz.prog 95 := Tryz.call95
@[go_sem] theorem en96 : Dv.Enters Tryz.prog 96 := Tryz.call96
@[go_sem] theorem en97 : Dv.Enters Tryz.prog 97 := Tryz.call97
@[go_sem] theorem en98 : Dv.Enters Tryz.prog 98 := Tryz.call98
@[go_sem] theorem en99 : Dv.Enters Tryz.prog 99 := Tryz.call99
@[go_sem] theorem en100 : Dv.Enters Tryz.prog 100 := Tryz.call100
@[go_sem] theorem en101 : Dv.Enters Tryz.prog 101 := Tryz.call101
@[go_sem] theorem en102 : Dv.Enters Tryz.prog 102 := Tryz.call102
@[go_sem] theorem en103 : Dv.Enters Tryz.prog 103 := Tryz.call103
@[go_sem] theorem en104 : Dv.Enters Tryz.prog 104 := Tryz.call104
@[go_sem] theorem en105 : Dv.Enters Tryz.prog 105 := Tryz.call105
@[go_sem] theorem en106 : Dv.Enters Tryz.prog 106 := Tryz.call106
@[go_sem] theorem en107 : Dv.Enters Tryz.prog 107 := Tryz.call107
@[go_sem] theorem en108 : Dv.Enters Tryz.prog 108 := Tryz.call108
@[go_sem] theorem en109 : Dv.Enters Tryz.prog 109 := Tryz.call109
@[go_sem] theorem en110 : Dv.Enters Tryz.prog 110 := Tryz.call110
@[go_sem] theorem en111 : Dv.Enters Tryz.prog 111 := Tryz.call111
@[go_sem] theorem en113 : Dv.Enters Tryz.prog 113 := Tryz.call113
@[go_sem] theorem en114 : Dv.Enters Tryz.prog 114 := Tryz.call114
@[go_sem] theorem en115 : Dv.Enters Tryz.prog 115 := Tryz.call115
@[go_sem] theorem en116 : Dv.Enters Tryz.prog 116 := Tryz.call116
@[go_sem] theorem en117 : Dv.Enters Tryz.prog 117 := Tryz.call117
@[go_sem] theorem en118 : Dv.Enters Tryz.prog 118 := Tryz.call118
@[go_sem] theorem en119 : Dv.Enters Tryz.prog 119 := Tryz.call119
@[go_sem] theorem en120 : Dv.Enters Tryz.prog 120 := Tryz.call120
@[go_sem] theorem en121 : Dv.Enters Tryz.prog 121 := Tryz.call121
@[go_sem] theorem en122 : Dv.Enters Tryz.prog 122 := Tryz.call122
@[go_sem] theorem en123 : Dv.Enters Tryz.prog 123 := Tryz.call123
@[go_sem] theorem en124 : Dv.Enters Tryz.prog 124 := Tryz.call124
@[go_sem] theorem en125 : Dv.Enters Tryz.prog 125 := Tryz.call125
@[go_sem] theorem en126 : Dv.Enters Tryz.prog 126 := Tryz.call126
@[go_sem] theorem en127 : Dv.Enters Tryz.prog 127 := Tryz.call127
@[go_sem] theorem en128 : Dv.Enters Tryz.prog 128 := Tryz.call128
@[go_sem] theorem en129 : Dv.Enters Tryz.prog 129 := Tryz.call129
@[go_sem] theorem en130 : Dv.Enters Tryz.prog 130 := Tryz.call130
@[go_sem] theorem en131 : Dv.Enters Tryz.prog 131 := Tryz.call131
@[go_sem] theorem en132 : Dv.Enters Tryz.prog 132 := Tryz.call132
@[go_sem] theorem en133 : Dv.Enters Tryz.prog 133 := Tryz.call133
@[go_sem] theorem en134 : Dv.Enters Tryz.prog 134 := Tryz.call134
@[go_sem] theorem en135 : Dv.Enters Tryz.prog 135 := Tryz.call135
@[go_sem] theorem en136 : Dv.Enters Tryz.prog 136 := Tryz.call136
@[go_sem] theorem en137 : Dv.Enters Tryz.prog 137 := Tryz.call137
@[go_sem] theorem en138 : Dv.Enters Tryz.prog 138 := Tryz.call138
@[go_sem] theorem en139 : Dv.Enters Tryz.prog 139 := Tryz.call139
@[go_sem] theorem en140 : Dv.Enters Tryz.prog 140 := Tryz.call140
@[go_sem] theorem en141 : Dv.Enters Tryz.prog 141 := Tryz.call141
@[go_sem] theorem en142 : Dv.Enters Tryz.prog 142 := Tryz.call142
@[go_sem] theorem en143 : Dv.Enters Tryz.prog 143 := Tryz.call143
@[go_sem] theorem en144 : Dv.Enters Tryz.prog 144 := Tryz.call144
@[go_sem] theorem en145 : Dv.Enters Tryz.prog 145 := Tryz.call145
@[go_sem] theorem en146 : Dv.Enters Tryz.prog 146 := Tryz.call146
@[go_sem] theorem en147 : Dv.Enters Tryz.prog 147 := Tryz.call147
@[go_sem] theorem en148 : Dv.Enters Tryz.prog 148 := Tryz.call148
@[go_sem] theorem en149 : Dv.Enters Tryz.prog 149 := Tryz.call149
@[go_sem] theorem en150 : Dv.Enters Tryz.prog 150 := Tryz.call150
@[go_sem] theorem en151 : Dv.Enters Tryz.prog 151 := Tryz.call151
@[go_sem] theorem en152 : Dv.Enters Tryz.prog 152 := Tryz.call152
@[go_sem] theorem en153 : Dv.Enters Tryz.prog 153 := Tryz.call153
@[go_sem] theorem en154 : Dv.Enters Tryz.prog 154 := Tryz.call154
@[go_sem] theorem en155 : Dv.Enters Tryz.prog 155 := Tryz.call155
@[go_sem] theorem en156 : Dv.Enters Tryz.prog 156 := Tryz.call156
@[go_sem] theorem en157 : Dv.Enters Tryz.prog 157 := Tryz.call157
@[go_sem] theorem en158 : Dv.Enters Tryz.prog 158 := Tryz.call158
@[go_sem] theorem en159 : Dv.Enters Tryz.prog 159 := Tryz.call159
@[go_sem] theorem en160 : Dv.Enters Tryz.prog 160 := Tryz.call160
@[go_sem] theorem en161 : Dv.Enters Tryz.prog 161 := Tryz.call161
@[go_sem] theorem en162 : Dv.Enters Tryz.prog 162 := Tryz.call162
@[go_sem] theorem en163 : Dv.Enters Tryz.prog 163 := Tryz.call163
@[go_sem] theorem en164 : Dv.Enters Tryz.prog 164 := Tryz.call164
@[go_sem] theorem en165 : Dv.Enters Tryz.prog 165 := Tryz.call165
@[go_sem] theorem en166 : Dv.Enters Tryz.prog 166 := Tryz.call166
@[go_sem] theorem en167 : Dv.Enters Tryz.prog 167 := Tryz.call167
@[go_sem] theorem en168 : Dv.Enters Tryz.prog 168 := Tryz.call168
@[go_sem] theorem en169 : Dv.Enters Tryz.prog 169 := Tryz.call169
@[go_sem] theorem en170 : Dv.Enters Tryz.prog 170 := Tryz.call170
@[go_sem] theorem en171 : Dv.Enters Tryz.prog 171 := Tryz.call171
@[go_sem] theorem en172 : Dv.Enters Tryz.prog 172 := Tryz.call172
@[go_sem] theorem en173 : Dv.Enters Tryz.prog 173 := Tryz.call173
@[go_sem] theorem en174 : Dv.Enters Tryz.prog 174 := Tryz.call174
@[go_sem] theorem en177 : Dv.Enters Tryz.prog 177 := Tryz.call177
@[go_sem] theorem en178 : Dv.Enters Tryz.prog 178 := Tryz.call178
@[go_sem] theorem en179 : Dv.Enters Tryz.prog 179 := Tryz.call179
@[go_sem] theorem en180 : Dv.Enters Tryz.prog 180 := Tryz.call180
@[go_sem] theorem en181 : Dv.Enters Tryz.prog 181 := Tryz.call181
@[go_sem] theorem en183 : Dv.Enters Tryz.prog 183 := Tryz.call183
@[go_sem] theorem en184 : Dv.Enters Tryz.prog 184 := Tryz.call184
@[go_sem] theorem en185 : Dv.Enters Tryz.prog 185 := Tryz.call185
@[go_sem] theorem en186 : Dv.Enters Tryz.prog 186 := Tryz.call186
@[go_sem] theorem en187 : Dv.Enters Tryz.prog 187 := Tryz.call187
@[go_sem] theorem en188 : Dv.Enters Tryz.prog 188 := Tryz.call188
@[go_sem] theorem en189 : Dv.Enters Tryz.prog 189 := Tryz.call189
@[go_sem] theorem en190 : Dv.Enters Tryz.prog 190 := Tryz.call190
@[go_sem] theorem en191 : Dv.Enters Tryz.prog 191 := Tryz.call191
@[go_sem] theorem en192 : Dv.Enters Tryz.prog 192 := Tryz.call192
@[go_sem] theorem en193 : Dv.Enters Tryz.prog 193 := Tryz.call193
@[go_sem] theorem en194 : Dv.Enters Tryz.prog 194 := Tryz.call194
@[go_sem] theorem en195 : Dv.Enters Tryz.prog 195 := Tryz.call195
@[go_sem] theorem en196 : Dv.Enters Tryz.prog 196 := Tryz.call196
@[go_sem] theorem en197 : Dv.Enters Tryz.prog 197 := Tryz.call197
@[go_sem] theorem en199 : Dv.Enters Tryz.prog 199 := Tryz.call199
@[go_sem] theorem en200 : Dv.Enters Tryz.prog 200 := Tryz.call200
@[go_sem] theorem en201 : Dv.Enters Tryz.prog 201 := Tryz.call201
@[go_sem] theorem en202 : Dv.Enters Tryz.prog 202 := Tryz.call202
@[go_sem] theorem en203 : Dv.Enters Tryz.prog 203 := Tryz.call203
@[go_sem] theorem en204 : Dv.Enters Tryz.prog 204 := Tryz.call204
@[go_sem] theorem en234 : Dv.Enters Tryz.prog 234 := Tryz.call234
@[go_sem] theorem mu2 : T 1000002 = ⟨.no, 0, .any 0⟩ := rfl
@[go_sem] theorem mu3 : T 1000003 = ⟨.no, 0, .any 0⟩ := rfl
@[go_sem] theorem mu4 : T 1000004 = ⟨.no, 0, .any 0⟩ := rfl
@[go_sem] theorem mu5 : T 1000005 = ⟨.no, 0, .any 0⟩ := rfl
@[go_sem] theorem mu6 : T 1000006 = ⟨.no, 0, .any 0⟩ := rfl
@[go_sem] theorem mu7 : T 1000007 = ⟨.no, 0, .any 0⟩ := rfl
@[go_sem] theorem mu8 : T 1000008 = ⟨.no, 0, .any 0⟩ := rfl
@[go_sem] theorem mu9 : T 1000009 = ⟨.no, 0, .any 0⟩ := rfl
@[go_sem] theorem mu10 : T 1000010 = ⟨.no, 0, .any 0⟩ := rfl
@[go_sem] theorem mu11 : T 1000011 = ⟨.no, 0, .any 0⟩ := rfl
@[go_sem] theorem mu12 : T 1000012 = ⟨.no, 0, .any 0⟩ := rfl
@[go_sem] theorem mu13 : T 1000013 = ⟨.no, 0, .any 0⟩ := rfl
@[go_sem] theorem mu14 : T 1000014 = ⟨.no, 1, .any 0⟩ := rfl
@[go_sem] theorem mu15 : T 1000015 = ⟨.no, 0, .any 0⟩ := rfl
@[go_sem] theorem mu16 : T 1000016 = ⟨.no, 0, .any 0⟩ := rfl
@[go_sem] theorem mu17 : T 1000017 = ⟨.no, 0, .any 0⟩ := rfl
@[go_sem] theorem mu18 : T 1000018 = ⟨.no, 0, .any 0⟩ := rfl
@[go_sem] theorem mu19 : T 1000019 = ⟨.no, 0, .any 0⟩ := rfl
@[go_sem] theorem mu20 : T 1000020 = ⟨.no, 0, .any 0⟩ := rfl
@[go_sem] theorem mu21 : T 1000021 = ⟨.no, 0, .any 0⟩ := rfl
@[go_sem] theorem mu22 : T 1000022 = ⟨.no, 0, .any 0⟩ := rfl
@[go_sem] theorem mu23 : T 1000023 = ⟨.no, 0, .any 0⟩ := rfl
@[go_sem] theorem mu24 : T 1000024 = ⟨.no, 0, .any 0⟩ := rfl
@[go_sem] theorem mu25 : T 1000025 = ⟨.no, 0, .any 0⟩ := rfl
@[go_sem] theorem mu26 : T 1000026 = ⟨.no, 0, .any 0⟩ := rfl
@[go_sem] theorem mu27 : T 1000027 = ⟨.no, 0, .any 0⟩ := rfl
@[go_sem] theorem mu28 : T 1000028 = ⟨.no, 0, .any 0⟩ := rfl
@[go_sem] theorem mu29 : T 1000029 = ⟨.no, 0, .any 0⟩ := rfl
@[go_sem] theorem mu30 : T 1000030 = ⟨.no, 0, .any 0⟩ := rfl
@[go_sem] theorem mu31 : T 1000031 = ⟨.no, 0, .any 0⟩ := rfl
@[go_sem] theorem mu32 : T 1000032 = ⟨.no, 0, .any 0⟩ := rfl
@[go_sem] theorem mu33 : T 1000033 = ⟨.no, 1, .any 0⟩ := rfl
@[go_sem] theorem mu34 : T 1000034 = ⟨.no, 0, .any 0⟩ := rfl
@[go_sem] theorem mu35 : T 1000035 = ⟨.no, 0, .any 0⟩ := rfl
@[go_sem] theorem mu36 : T 1000036 = ⟨.no, 1, .any 0⟩ := rfl
@[go_sem] theorem mu37 : T 1000037 = ⟨.no, 1, .any 0⟩ := rfl
@[go_sem] theorem mu38 : T 1000038 = ⟨.no, 0, .any 0⟩ := rfl
@[go_sem] theorem mu39 : T 1000039 = ⟨.no, 0, .any 0⟩ := rfl
@[go_sem] theorem mu40 : T 1000040 = ⟨.no, 0, .any 0⟩ := rfl
@[go_sem] theorem mu41 : T 1000041 = ⟨.no, 0, .any 0⟩ := rfl
@[go_sem] theorem mu42 : T 1000042 = ⟨.no, 0, .any 0⟩ := rfl
@[go_sem] theorem mu43 : T 1000043 = ⟨.no, 0, .any 0⟩ := rfl
@[go_sem] theorem mu44 : T 1000044 = ⟨.no, 0, .any 0⟩ := rfl
@[go_sem] theorem mu45 : T 1000045 = ⟨.no, 0, .any 0⟩ := rfl
@[go_sem] theorem mu46 : T 1000046 = ⟨.no, 0, .any 0⟩ := rfl
@[go_sem] theorem mu47 : T 1000047 = ⟨.no, 0, .any 0⟩ := rfl
@[go_sem] theorem mu48 : T 1000048 = ⟨.no, 0, .any 0⟩ := rfl
@[go_sem] theorem mu49 : T 1000049 = ⟨.no, 0, .any 0⟩ := rfl
@[go_sem] theorem mu50 : T 1000050 = ⟨.no, 0, .any 0⟩ := rfl
@[go_sem] theorem mu51 : T 1000051 = ⟨.no, 0, .any 0⟩ := rfl
@[go_sem] theorem mu52 : T 1000052 = ⟨.no, 0, .any 0⟩ := rfl
@[go_sem] theorem mu53 : T 1000053 = ⟨.no, 1, .any 0⟩ := rfl
@[go_sem] theorem mu54 : T 1000054 = ⟨.no, 1, .any 0⟩ := rfl
@[go_sem] theorem mu55 : T 1000055 = ⟨.no, 1, .any 0⟩ := rfl
@[go_sem] theorem mu56 : T 1000056 = ⟨.no, 1, .any 0⟩ := rfl
@[go_sem] theorem mu57 : T 1000057 = ⟨.no, 0, .any 0⟩ := rfl
@[go_sem] theorem mu58 : T 1000058 = ⟨.no, 0, .any 0⟩ := rfl
@[go_sem] theorem mu59 : T 1000059 = ⟨.no, 0, .any 0⟩ := rfl
@[go_sem] theorem mu60 : T 1000060 = ⟨.no, 0, .any 0⟩ := rfl
@[go_sem] theorem mu61 : T 1000061 = ⟨.no, 0, .any 0⟩ := rfl
@[go_sem] theorem mu62 : T 1000062 = ⟨.no, 0, .any 0⟩ := rfl
@[go_sem] theorem mu63 : T 1000063 = ⟨.no, 1, .any 0⟩ := rfl
@[go_sem] theorem mu64 : T 1000064 = ⟨.no, 0, .any 0⟩ := rfl
@[go_sem] theorem mu65 : T 1000065 = ⟨.no, 1, .any 0⟩ := rfl
@[go_sem] theorem mu66 : T 1000066 = ⟨.no, 1, .any 0⟩ := rfl
@[go_sem] theorem mu67 : T 1000067 = ⟨.no, 1, .any 0⟩ := rfl
@[go_sem] theorem mu68 : T 1000068 = ⟨.no, 0, .any 0⟩ := rfl
@[go_sem] theorem mu69 : T 1000069 = ⟨.no, 0, .any 0⟩ := rfl
@[go_sem] theorem mu70 : T 1000070 = ⟨.no, 0, .any 0⟩ := rfl
@[go_sem] theorem mu71 : T 1000071 = ⟨.no, 0, .any 0⟩ := rfl
@[go_sem] theorem mu72 : T 1000072 = ⟨.no, 0, .any 0⟩ := rfl
@[go_sem] theorem mu73 : T 1000073 = ⟨.no, 0, .any 0⟩ := rfl
@[go_sem] theorem mu74 : T 1000074 = ⟨.no, 0, .any 0⟩ := rfl
@[go_sem] theorem mu75 : T 1000075 = ⟨.no, 0, .any 0⟩ := rfl
@[go_sem] theorem mu76 : T 1000076 = ⟨.no, 0, .any 0⟩ := rfl
@[go_sem] theorem mu77 : T 1000077 = ⟨.no, 0, .any 0⟩ := rfl
@[go_sem] theorem mu78 : T 1000078 = ⟨.no, 0, .any 0⟩ := rfl
@[go_sem] theorem mu79 : T 1000079 = ⟨.no, 0, .any 0⟩ := rfl
@[go_sem] theorem mu80 : T 1000080 = ⟨.no, 0, .any 0⟩ := rfl
@[go_sem] theorem mu81 : T 1000081 = ⟨.no, 0, .any 0⟩ := rfl
@[go_sem] theorem mu82 : T 1000082 = ⟨.no, 0, .any 0⟩ := rfl
@[go_sem] theorem mu83 : T 1000083 = ⟨.no, 0, .any 0⟩ := rfl
@[go_sem] theorem mu84 : T 1000084 = ⟨.no, 0, .any 0⟩ := rfl
@[go_sem] theorem mu85 : T 1000085 = ⟨.no, 1, .any 0⟩ := rfl
@[go_sem] theorem mu86 : T 1000086 = ⟨.no, 1, .any 0⟩ := rfl
@[go_sem] theorem mu87 : T 1000087 = ⟨.no, 1, .any 0⟩ := rfl
@[go_sem] theorem mu88 : T 1000088 = ⟨.no, 0, .any 0⟩ := rfl
@[go_sem] theorem mu89 : T 1000089 = ⟨.no, 0, .any 0⟩ := rfl
@[go_sem] theorem mu90 : T 1000090 = ⟨.no, 0, .any 0⟩ := rfl
@[go_sem] theorem mu91 : T 1000091 = ⟨.no, 0, .any 0⟩ := rfl
@[go_sem] theorem mu92 : T 1000092 = ⟨.no, 0, .any 0⟩ := rfl
@[go_sem] theorem mu93 : T 1000093 = ⟨.no, 0, .any 0⟩ := rfl
@[go_sem] theorem mu94 : T 1000094 = ⟨.no, 0, .any 0⟩ := rfl
@[go_sem] theorem mu95 : T 1000095 = ⟨.no, 0, .any 0⟩ := rfl
@[go_sem] theorem mu96 : T 1000096 = ⟨.no, 1, .any 0⟩ := rfl
@[go_sem] theorem mu97 : T 1000097 = ⟨.no, 1, .any 0⟩ := rfl
@[go_sem] theorem mu98 : T 1000098 = ⟨.no, 1, .any 0⟩ := rfl
@[go_sem] theorem mu99 : T 1000099 = ⟨.no, 1, .any 0⟩ := rfl
@[go_sem] theorem mu100 : T 1000100 = ⟨.no, 0, .any 0⟩ := rfl
@[go_sem] theorem mu101 : T 1000101 = ⟨.no, 0, .any 0⟩ := rfl
@[go_sem] theorem mu102 : T 1000102 = ⟨.no, 0, .any 0⟩ := rfl
@[go_sem] theorem mu103 : T 1000103 = ⟨.no, 0, .any 0⟩ := rfl
@[go_sem] theorem mu104 : T 1000104 = ⟨.no, 0, .any 0⟩ := rfl
@[go_sem] theorem mu105 : T 1000105 = ⟨.no, 0, .any 0⟩ := rfl
@[go_sem] theorem mu106 : T 1000106 = ⟨.no, 0, .any 0⟩ := rfl
@[go_sem] theorem mu107 : T 1000107 = ⟨.no, 0, .any 0⟩ := rfl
@[go_sem] theorem mu108 : T 1000108 = ⟨.no, 0, .any 0⟩ := rfl
@[go_sem] theorem mu109 : T 1000109 = ⟨.no, 0, .any 0⟩ := rfl
@[go_sem] theorem mu110 : T 1000110 = ⟨.no, 0, .any 0⟩ := rfl
@[go_sem] theorem mu111 : T 1000111 = ⟨.no, 0, .any 0⟩ := rfl
@[go_sem] theorem mu113 : T 1000113 = ⟨.no, 0, .any 0⟩ := rfl
@[go_sem] theorem mu114 : T 1000114 = ⟨.no, 0, .any 0⟩ := rfl
@[go_sem] theorem mu115 : T 1000115 = ⟨.no, 0, .any 0⟩ := rfl
@[go_sem] theorem mu116 : T 1000116 = ⟨.no, 0, .any 0⟩ := rfl
@[go_sem] theorem mu117 : T 1000117 = ⟨.no, 0, .any 0⟩ := rfl
@[go_sem] theorem mu118 : T 1000118 = ⟨.no, 0, .any 0⟩ := rfl
@[go_sem] theorem mu119 : T 1000119 = ⟨.no, 0, .any 0⟩ := rfl
@[go_sem] theorem mu120 : T 1000120 = ⟨.no, 0, .any 0⟩ := rfl
@[go_sem] theorem mu121 : T 1000121 = ⟨.no, 0, .any 0⟩ := rfl
@[go_sem] theorem mu122 : T 1000122 = ⟨.no, 0, .any 0⟩ := rfl
@[go_sem] theorem mu123 : T 1000123 = ⟨.no, 0, .any 0⟩ := rfl
@[go_sem] theorem mu124 : T 1000124 = ⟨.no, 0, .any 0⟩ := rfl
@[go_sem] theorem mu125 : T 1000125 = ⟨.no, 0, .any 0⟩ := rfl
@[go_sem] theorem mu126 : T 1000126 = ⟨.no, 0, .any 0⟩ := rfl
@[go_sem] theorem mu127 : T 1000127 = ⟨.no, 0, .any 0⟩ := rfl
@[go_sem] theorem mu128 : T 1000128 = ⟨.no, 0, .any 0⟩ := rfl
@[go_sem] theorem mu129 : T 1000129 = ⟨.no, 0, .any 0⟩ := rfl
@[go_sem] theorem mu130 : T 1000130 = ⟨.no, 0, .any 0⟩ := rfl
@[go_sem] theorem mu131 : T 1000131 = ⟨.no, 0, .any 0⟩ := rfl
@[go_sem] theorem mu132 : T 1000132 = ⟨.no, 1, .any 0⟩ := rfl
@[go_sem] theorem mu133 : T 1000133 = ⟨.no, 0, .any 0⟩ := rfl
@[go_sem] theorem mu134 : T 1000134 = ⟨.no, 0, .any 0⟩ := rfl
@[go_sem] theorem mu135 : T 1000135 = ⟨.no, 0, .any 0⟩ := rfl
@[go_sem] theorem mu136 : T 1000136 = ⟨.no, 0, .any 0⟩ := rfl
@[go_sem] theorem mu137 : T 1000137 = ⟨.no, 0, .any 0⟩ := rfl
@[go_sem] theorem mu138 : T 1000138 = ⟨.no, 1, .any 0⟩ := rfl
@[go_sem] theorem mu139 : T 1000139 = ⟨.no, 1, .any 0⟩ := rfl
@[go_sem] theorem mu140 : T 1000140 = ⟨.no, 1, .any 0⟩ := rfl
@[go_sem] theorem mu141 : T 1000141 = ⟨.no, 0, .any 0⟩ := rfl
@[go_sem] theorem mu142 : T 1000142 = ⟨.no, 0, .any 0⟩ := rfl
@[go_sem] theorem mu143 : T 1000143 = ⟨.no, 0, .any 0⟩ := rfl
@[go_sem] theorem mu144 : T 1000144 = ⟨.no, 0, .any 0⟩ := rfl
@[go_sem] theorem mu145 : T 1000145 = ⟨.no, 0, .any 0⟩ := rfl
@[go_sem] theorem mu146 : T 1000146 = ⟨.no, 0, .any 0⟩ := rfl
@[go_sem] theorem mu147 : T 1000147 = ⟨.no, 0, .any 0⟩ := rfl
@[go_sem] theorem mu148 : T 1000148 = ⟨.no, 0, .any 0⟩ := rfl
@[go_sem] theorem mu149 : T 1000149 = ⟨.no, 0, .any 0⟩ := rfl
@[go_sem] theorem mu150 : T 1000150 = ⟨.no, 0, .any 0⟩ := rfl
@[go_sem] theorem mu151 : T 1000151 = ⟨.no, 0, .any 0⟩ := rfl
@[go_sem] theorem mu152 : T 1000152 = ⟨.no, 0, .any 0⟩ := rfl
@[go_sem] theorem mu153 : T 1000153 = ⟨.no, 0, .any 0⟩ := rfl
@[go_sem] theorem mu154 : T 1000154 = ⟨.no, 0, .any 0⟩ := rfl
@[go_sem] theorem mu155 : T 1000155 = ⟨.no, 0, .any 0⟩ := rfl
@[go_sem] theorem mu156 : T 1000156 = ⟨.no, 0, .any 0⟩ := rfl
@[go_sem] theorem mu157 : T 1000157 = ⟨.no, 0, .any 0⟩ := rfl
@[go_sem] theorem mu158 : T 1000158 = ⟨.no, 0, .any 0⟩ := rfl
@[go_sem] theorem mu159 : T 1000159 = ⟨.no, 0, .any 0⟩ := rfl
@[go_sem] theorem mu160 : T 1000160 = ⟨.no, 0, .any 0⟩ := rfl
@[go_sem] theorem mu161 : T 1000161 = ⟨.no, 0, .any 0⟩ := rfl
@[go_sem] theorem mu162 : T 1000162 = ⟨.no, 0, .any 0⟩ := rfl
@[go_sem] theorem mu163 : T 1000163 = ⟨.no, 0, .any 0⟩ := rfl
@[go_sem] theorem mu164 : T 1000164 = ⟨.no, 0, .any 0⟩ := rfl
@[go_sem] theorem mu165 : T 1000165 = ⟨.no, 0, .any 0⟩ := rfl
@[go_sem] theorem mu166 : T 1000166 = ⟨.no, 1, .any 0⟩ := rfl
@[go_sem] theorem mu167 : T 1000167 = ⟨.no, 1, .any 0⟩ := rfl
@[go_sem] theorem mu168 : T 1000168 = ⟨.no, 0, .any 0⟩ := rfl
@[go_sem] theorem mu169 : T 1000169 = ⟨.no, 0, .any 0⟩ := rfl
@[go_sem] theorem mu170 : T 1000170 = ⟨.no, 0, .any 0⟩ := rfl
@[go_sem] theorem mu171 : T 1000171 = ⟨.no, 0, .any 0⟩ := rfl
@[go_sem] theorem mu172 : T 1000172 = ⟨.no, 0, .any 0⟩ := rfl
@[go_sem] theorem mu173 : T 1000173 = ⟨.no, 0, .any 0⟩ := rfl
@[go_sem] theorem mu174 : T 1000174 = ⟨.no, 0, .any 0⟩ := rfl
@[go_sem] theorem mu177 : T 1000177 = ⟨.no, 0, .any 0⟩ := rfl
@[go_sem] theorem mu178 : T 1000178 = ⟨.no, 0, .any 0⟩ := rfl
@[go_sem] theorem mu179 : T 1000179 = ⟨.no, 0, .any 0⟩ := rfl
@[go_sem] theorem mu180 : T 1000180 = ⟨.no, 0, .any 0⟩ := rfl
@[go_sem] theorem mu181 : T 1000181 = ⟨.no, 0, .any 0⟩ := rfl
@[go_sem] theorem mu183 : T 1000183 = ⟨.no, 0, .any 0⟩ := rfl
@[go_sem] theorem mu184 : T 1000184 = ⟨.no, 0, .any 0⟩ := rfl
@[go_sem] theorem mu185 : T 1000185 = ⟨.no, 0, .any 0⟩ := rfl
@[go_sem] theorem mu186 : T 1000186 = ⟨.no, 0, .any 0⟩ := rfl
@[go_sem] theorem mu187 : T 1000187 = ⟨.no, 0, .any 0⟩ := rfl
@[go_sem] theorem mu188 : T 1000188 = ⟨.no, 0, .any 0⟩ := rfl
@[go_sem] theorem mu189 : T 1000189 = ⟨.no, 0, .any 0⟩ := rfl
@[go_sem] theorem mu190 : T 1000190 = ⟨.no, 0, .any 0⟩ := rfl
@[go_sem] theorem mu191 : T 1000191 = ⟨.no, 0, .any 0⟩ := rfl
@[go_sem] theorem mu192 : T 1000192 = ⟨.no, 0, .any 0⟩ := rfl
@[go_sem] theorem mu193 : T 1000193 = ⟨.no, 0, .any 0⟩ := rfl
@[go_sem] theorem mu194 : T 1000194 = ⟨.no, 0, .any 0⟩ := rfl
@[go_sem] theorem mu195 : T 1000195 = ⟨.no, 0, .any 0⟩ := rfl
@[go_sem] theorem mu196 : T 1000196 = ⟨.no, 0, .any 0⟩ := rfl
@[go_sem] theorem mu197 : T 1000197 = ⟨.no, 0, .any 0⟩ := rfl
@[go_sem] theorem mu199 : T 1000199 = ⟨.no, 0, .any 0⟩ := rfl
@[go_sem] theorem mu200 : T 1000200 = ⟨.no, 0, .any 0⟩ := rfl
@[go_sem] theorem mu201 : T 1000201 = ⟨.no, 0, .any 0⟩ := rfl
@[go_sem] theorem mu202 : T 1000202 = ⟨.no, 0, .any 0⟩ := rfl
@[go_sem] theorem mu203 : T 1000203 = ⟨.no, 0, .any 0⟩ := rfl
@[go_sem] theorem mu204 : T 1000204 = ⟨.no, 0, .any 0⟩ := rfl
@[go_sem] theorem mu234 : T 1000234 = ⟨.no, 0, .any 0⟩ := rfl
end Go.Proofs.YtfhfidecmdhkoaaGreatDoor

end
section
namespace Go.Dv
open Go.RowKit
variable [Glob]
def Agr (xs : List Operand) (s σ : St) : Prop := ∀ x ∈ xs, evS σ x = evS s x ∧ ∀ r, (evS s x).root = some r → σ r = s r
def RootOf (xs : List Operand) (s : St) (y : S) : Prop := ∀ r, y.root = some r → ∃ x ∈ xs, (evS s x).root = some r ∨ (slotOf x = r ∧ (evS s x).isOwn = true)
def Reads (P : Program) (T : TypeId → TyE) (n : Nat) (op : Op) (xs : List Operand) (u : Nat) (s : St) (K : St → Prop) : Prop :=
  ∃ y : S, K (s.set u y) ∧ RootOf xs s y ∧ ∀ σ, Agr xs s σ → ∀ G : St → Prop, G (σ.set u y) → stepOp P T n op (some u) σ G
theorem root_none {xs : List Operand} {s : St} {y : S} (h : y.root = none) : RootOf xs s y := fun r hr => by rw [h] at hr; cases hr
theorem rootOf_of {xs : List Operand} {s : St} {y : S} {r : Nat} (hy : y.root = some r) (h : ∃ x ∈ xs, (evS s x).root = some r ∨ (slotOf x = r ∧ (evS s x).isOwn = true)) : RootOf xs s y := fun r' hr' => by
  rw [hy] at hr'
  obtain rfl := Option.some.inj hr'
  exact h
theorem Agr.own {xs : List Operand} {s σ : St} {x : Operand} (h : Agr xs s σ) (hx : x ∈ xs) (ho : (evS s x).isOwn = true) : σ (slotOf x) = s (slotOf x) := by
  have h1 := (h x hx).1
  cases he : evS s x with
  | own d => rw [slotOf_own he (.inl rfl), slotOf_own (h1.trans he) (.inl rfl)]
  | _ => rw [he] at ho; cases ho
section
variable {P : Program} {T : TypeId → TyE} {n : Nat} {s : St} {K : St → Prop} {u : Nat} {xs : List Operand}
def qmove (s : St) (x : Operand) : Bool := match evS s x with
  | .own (.agg _) => false
  | .tup _ => false
  | _ => true
theorem dmove_reads {x : Operand} (hx : x ∈ xs) (hq : qmove s x = true) (h : dmove u x s K) : ∃ y, K (s.set u y) ∧ RootOf xs s y ∧ ∀ σ, Agr xs s σ → ∀ G : St → Prop, G (σ.set u y) → dmove u x σ G := by
  unfold dmove at h
  unfold qmove at hq
  cases he : evS s x with
  | un => rw [he] at h; exact h.elim
  | tup l => rw [he] at hq; cases hq
  | val d => rw [he] at h; exact ⟨.val d, h, root_none rfl, fun σ ha G hG => by unfold dmove; rw [(ha x hx).1, he]; exact hG⟩
  | rp d => rw [he] at h; exact ⟨.rp d, h, root_none rfl, fun σ ha G hG => by unfold dmove; rw [(ha x hx).1, he]; exact hG⟩
  | al r p => rw [he] at h; exact ⟨.al r p, h.2, fun r' hr' => ⟨x, hx, .inl (by rw [he]; exact hr')⟩, fun σ ha G hG => by unfold dmove; rw [(ha x hx).1, he]; exact ⟨h.1, hG⟩⟩
  | rf r p => rw [he] at h; exact ⟨.rf r p, h.2, fun r' hr' => ⟨x, hx, .inl (by rw [he]; exact hr')⟩, fun σ ha G hG => by unfold dmove; rw [(ha x hx).1, he]; exact ⟨h.1, hG⟩⟩
  | ag r p => rw [he] at h; exact ⟨.ag r p, h.2, fun r' hr' => ⟨x, hx, .inl (by rw [he]; exact hr')⟩, fun σ ha G hG => by unfold dmove; rw [(ha x hx).1, he]; exact ⟨h.1, hG⟩⟩
  | own d =>
    rw [he] at h hq
    have key : (∀ xs, d ≠ .agg xs) → ∃ y, K (s.set u y) ∧ RootOf xs s y ∧ ∀ σ, Agr xs s σ → ∀ G : St → Prop, G (σ.set u y) → dmove u x σ G := by
      intro hd
      refine ⟨.al (slotOf x) [], ?_, fun r hr => ⟨x, hx, .inr ⟨by simpa [S.root] using hr, by rw [he]; rfl⟩⟩, fun σ ha G hG => ?_⟩
      · cases d with
        | agg ys => exact absurd rfl (hd ys)
        | _ => exact h.2
      · unfold dmove
        rw [(ha x hx).1, he]
        refine ⟨h.1, ?_⟩
        cases d with
        | agg ys => exact absurd rfl (hd ys)
        | _ => exact hG
    cases d with
    | agg ys => cases hq
    | one _ => exact key (by intro xs e; cases e)
    | sl _ _ => exact key (by intro xs e; cases e)
    | bx _ _ => exact key (by intro xs e; cases e)
    | any _ => exact key (by intro xs e; cases e)
theorem asPtr_agr {x : Operand} (hx : x ∈ xs) {σ : St} (ha : Agr xs s σ) : asPtr σ (slotOf x) (evS σ x) = asPtr s (slotOf x) (evS s x) := by
  obtain ⟨h1, h2⟩ := ha x hx
  rw [h1]
  unfold asPtr
  cases he : evS s x with
  | al r p =>
    rw [he] at h2
    simp only [h2 r rfl]
  | val d => cases d <;> rfl
  | own d => cases d <;> rfl
  | _ => rfl
theorem asPtr_root {x : Operand} (hx : x ∈ xs) {r : Nat} {p : List Nat} (h : asPtr s (slotOf x) (evS s x) = .rf r p) : (∃ x ∈ xs, (evS s x).root = some r ∨ (slotOf x = r ∧ (evS s x).isOwn = true)) ∧ ∀ σ, Agr xs s σ → σ r = s r := by
  have key : ((evS s x).root = some r ∨ (slotOf x = r ∧ (evS s x).isOwn = true)) := by
    revert h
    unfold asPtr
    cases he : evS s x with
    | al r' p' =>
      intro h
      left
      simp only at h
      split at h
      · split at h
        · injection h with h1 h2; rw [h1]; rfl
        · cases h
      · cases h
    | rf r' p' => intro h; left; injection h with h1 h2; rw [h1]; rfl
    | own d =>
      intro h
      right
      cases d with
      | bx o y => injection h with h1 h2; exact ⟨h1, rfl⟩
      | _ => cases h
    | val d =>
      intro h
      cases d with
      | bx o y => cases h
      | _ => cases h
    | _ => intro h; cases h
  refine ⟨⟨x, hx, key⟩, fun σ ha => ?_⟩
  rcases key with key | ⟨key, ho⟩
  · exact (ha x hx).2 r key
  · rw [← key]; exact ha.own hx ho
theorem asSl_same {σ : St} {i : Nat} {X : S} (h : ∀ r, X.root = some r → σ r = s r) : asSl σ i X = asSl s i X := by
  by_cases hal : ∃ r p, X = .al r p
  · obtain ⟨r, p, rfl⟩ := hal
    simp only [asSl, h r rfl]
  · unfold asSl
    split
    · rfl
    · rfl
    · rfl
    · rfl
    · exact absurd ⟨_, _, rfl⟩ hal
    · rfl
theorem asSl_agr {x : Operand} (hx : x ∈ xs) {σ : St} (ha : Agr xs s σ) : asSl σ (slotOf x) (evS σ x) = asSl s (slotOf x) (evS s x) := by
  obtain ⟨h1, h2⟩ := ha x hx
  rw [h1]
  exact asSl_same h2
theorem asSl_root {x : Operand} (hx : x ∈ xs) {r : Nat} {p : List Nat} {ys : List D} (h : asSl s (slotOf x) (evS s x) = .nd r p ys) : ∃ x ∈ xs, (evS s x).root = some r ∨ (slotOf x = r ∧ (evS s x).isOwn = true) := by
  refine ⟨x, hx, ?_⟩
  unfold asSl at h
  split at h
  · cases h
  · cases h
  · rename_i he; injection h with h1 h2 h3; exact .inr ⟨h1, by rw [he]; rfl⟩
  · cases h
  · rename_i r' p' he
    split at h
    · split at h
      · injection h with h1 h2 h3; exact .inl (by rw [he, ← h1]; rfl)
      · cases h
      · cases h
    · cases h
  · cases h
theorem dload_reads {e : TyE} {x : Operand} (hx : x ∈ xs) (h : dload e u (asPtr s (slotOf x) (evS s x)) s K) :
    ∃ y, K (s.set u y) ∧ RootOf xs s y ∧ ∀ σ, Agr xs s σ → ∀ G : St → Prop, G (σ.set u y) → dload e u (asPtr σ (slotOf x) (evS σ x)) σ G := by
  cases hp : asPtr s (slotOf x) (evS s x) with
  | rp d =>
    rw [hp] at h
    exact ⟨.val d, h.2, root_none rfl, fun σ ha G hG => by rw [asPtr_agr hx ha, hp]; exact ⟨h.1, hG⟩⟩
  | rf r p =>
    rw [hp] at h
    obtain ⟨hroot, hσ⟩ := asPtr_root hx hp
    unfold dload at h
    simp only at h
    cases hs : s r with
    | own d =>
      rw [hs] at h
      simp only at h
      cases hm : D.sub p d with
      | none => rw [hm] at h; exact h.elim
      | some m =>
        rw [hm] at h
        obtain ⟨hty, h⟩ := h
        have hr : ∀ y, y.root = some r → RootOf xs s y := fun y hy r' hr' => by rw [hy] at hr'; obtain rfl := Option.some.inj hr'; exact hroot
        have key : ∀ (y : S), (K (s.set u y)) → (y.root = none ∨ y.root = some r) → (∀ σ, s r = σ r → ∀ G : St → Prop, G (σ.set u y) → dload e u (.rf r p) σ G) → ∃ y, K (s.set u y) ∧ RootOf xs s y ∧ ∀ σ, Agr xs s σ → ∀ G : St → Prop, G (σ.set u y) → dload e u (asPtr σ (slotOf x) (evS σ x)) σ G := fun y h1 h2 h3 =>
          ⟨y, h1, h2.elim root_none (hr y), fun σ ha G hG => by rw [asPtr_agr hx ha, hp]; exact h3 σ (hσ σ ha).symm G hG⟩
        cases m with
        | any k => exact h.elim
        | one v => exact key _ h (.inl rfl) fun σ e' G hG => by unfold dload; simp only; rw [← e', hs]; simp only [hm]; exact ⟨hty, hG⟩
        | bx o y => exact key _ h.2 (.inr rfl) fun σ e' G hG => by unfold dload; simp only; rw [← e', hs]; simp only [hm]; exact ⟨hty, h.1, hG⟩
        | agg ys =>
          simp only at h
          by_cases hf : D.frzs ys = true
          · rw [if_pos hf] at h
            exact key _ h (.inl rfl) fun σ e' G hG => by unfold dload; simp only; rw [← e', hs]; simp only [hm, hf, if_true]; exact ⟨hty, hG⟩
          · rw [if_neg hf] at h
            exact key _ h.2 (.inr rfl) fun σ e' G hG => by unfold dload; simp only; rw [← e', hs]; simp only [hm, hf]; exact ⟨hty, h.1, hG⟩
        | sl o ys =>
          cases o with
          | some e1 => exact key _ h.2 (.inr rfl) fun σ e' G hG => by unfold dload; simp only; rw [← e', hs]; simp only [hm]; exact ⟨hty, h.1, hG⟩
          | none =>
            simp only at h
            by_cases hf : D.frzs ys = true
            · rw [if_pos hf] at h
              exact key _ h (.inl rfl) fun σ e' G hG => by unfold dload; simp only; rw [← e', hs]; simp only [hm, hf, if_true]; exact ⟨hty, hG⟩
            · rw [if_neg hf] at h
              exact key _ h.2 (.inr rfl) fun σ e' G hG => by unfold dload; simp only; rw [← e', hs]; simp only [hm, hf]; exact ⟨hty, h.1, hG⟩
    | _ => rw [hs] at h; exact h.elim
  | _ => rw [hp] at h; exact h.elim
theorem dindex_reads {x : Operand} {ew i : Nat} (hx : x ∈ xs) (h : dindex ew u (asSl s (slotOf x) (evS s x)) i s K) :
    ∃ y, K (s.set u y) ∧ RootOf xs s y ∧ ∀ σ, Agr xs s σ → ∀ G : St → Prop, G (σ.set u y) → dindex ew u (asSl σ (slotOf x) (evS σ x)) i σ G := by
  cases hp : asSl s (slotOf x) (evS s x) with
  | no => rw [hp] at h; exact h.elim
  | fr ys =>
    rw [hp] at h
    unfold dindex at h
    simp only at h
    cases hy : ys[i]? with
    | none => rw [hy] at h; exact h.elim
    | some y =>
      rw [hy] at h
      exact ⟨.rp y, h.2, root_none rfl, fun σ ha G hG => by rw [asSl_agr hx ha, hp]; unfold dindex; simp only [hy]; exact ⟨h.1, hG⟩⟩
  | nd r p ys =>
    rw [hp] at h
    have hroot := asSl_root hx hp
    unfold dindex at h
    simp only at h
    cases hy : ys[i]? with
    | none => rw [hy] at h; exact h.elim
    | some y =>
      rw [hy] at h
      exact ⟨.rf r (p ++ [i]), h.2.2, rootOf_of rfl hroot, fun σ ha G hG => by rw [asSl_agr hx ha, hp]; unfold dindex; simp only [hy]; exact ⟨h.1, h.2.1, hG⟩⟩
theorem dfield_reads {x : Operand} {off f : Nat} (hx : x ∈ xs) (h : dfield off f u (asPtr s (slotOf x) (evS s x)) s K) :
    ∃ y, K (s.set u y) ∧ RootOf xs s y ∧ ∀ σ, Agr xs s σ → ∀ G : St → Prop, G (σ.set u y) → dfield off f u (asPtr σ (slotOf x) (evS σ x)) σ G := by
  cases hp : asPtr s (slotOf x) (evS s x) with
  | rp d =>
    rw [hp] at h
    unfold dfield at h
    cases d with
    | agg ys =>
      simp only at h
      cases hy : ys[f]? with
      | none => rw [hy] at h; exact h.elim
      | some y => rw [hy] at h; exact ⟨.rp y, h.2, root_none rfl, fun σ ha G hG => by rw [asPtr_agr hx ha, hp]; unfold dfield; simp only [hy]; exact ⟨h.1, hG⟩⟩
    | _ => exact h.elim
  | rf r p =>
    rw [hp] at h
    obtain ⟨hroot, hσ⟩ := asPtr_root hx hp
    unfold dfield at h
    simp only at h
    cases hs : s r with
    | own d =>
      rw [hs] at h
      simp only at h
      cases hm : D.sub p d with
      | none => rw [hm] at h; exact h.elim
      | some m =>
        rw [hm] at h
        cases m with
        | agg ys =>
          simp only at h
          cases hy : ys[f]? with
          | none => rw [hy] at h; exact h.elim
          | some y =>
            rw [hy] at h
            exact ⟨.rf r (p ++ [f]), h.2.2, rootOf_of rfl hroot, fun σ ha G hG => by rw [asPtr_agr hx ha, hp]; unfold dfield; simp only; rw [hσ σ ha, hs]; simp only [hm, hy]; exact ⟨h.1, h.2.1, hG⟩⟩
        | _ => exact h.elim
    | _ => rw [hs] at h; exact h.elim
  | _ => rw [hp] at h; exact h.elim
end
end Go.Dv

end
section
namespace Go.Dv
open Go.RowKit
variable [Glob]
theorem arithK_out {op : BinOp} {k : IntKind} {a b : Int} {K : Value → Prop} (h : arithK op k a b K) : ∃ r, K r ∧ ∀ G : Value → Prop, G r → arithK op k a b G := by
  cases op <;> simp only [arithK] at h ⊢ <;> first | exact ⟨_, h, fun G hG => hG⟩ | exact ⟨_, h.2, fun G hG => ⟨h.1, hG⟩⟩ | exact ⟨_, h.2.2, fun G hG => ⟨h.1, h.2.1, hG⟩⟩ | exact h.elim
theorem strK_out {op : BinOp} {a b : ByteArray} {K : Value → Prop} (h : strK op a b K) : ∃ r, K r ∧ ∀ G : Value → Prop, G r → strK op a b G := by
  cases op <;> simp only [strK] at h ⊢ <;> first | exact ⟨_, h, fun G hG => hG⟩ | exact ⟨_, h.2, fun G hG => ⟨h.1, hG⟩⟩ | exact h.elim
theorem binV_out {op : BinOp} {u v : Value} {K : Value → Prop} (h : binV op u v K) : ∃ r, K r ∧ ∀ G : Value → Prop, G r → binV op u v G := by
  unfold binV at h ⊢
  split at h
  · split at h
    · exact ⟨_, h.2, fun G hG => ⟨h.1, hG⟩⟩
    · exact ⟨_, h.2, fun G hG => ⟨h.1, hG⟩⟩
    · rename_i h1 h2
      obtain ⟨hk, h⟩ := h
      obtain ⟨r, g1, g2⟩ := arithK_out h
      refine ⟨r, g1, fun G hG => ?_⟩
      cases op <;> first | exact ⟨hk, g2 G hG⟩ | exact absurd rfl h1 | exact absurd rfl h2
  · exact strK_out h
  · exact h.elim
theorem unV_out {op : UnOp} {u : Value} {K : Value → Prop} (h : unV op u K) : ∃ r, K r ∧ ∀ G : Value → Prop, G r → unV op u G := by
  unfold unV at h ⊢
  split at h <;> first | exact ⟨_, h, fun G hG => hG⟩ | exact ⟨_, h.2, fun G hG => ⟨h.1, hG⟩⟩ | exact h.elim
theorem eqB_out {op : BinOp} {u v : Value} {K : Value → Prop} (h : eqB op u v K) : ∃ r, K r ∧ ∀ G : Value → Prop, G r → eqB op u v G := by
  unfold eqB at h ⊢
  split at h <;> first | exact ⟨_, h, fun G hG => hG⟩ | exact h.elim
section
variable {P : Program} {T : TypeId → TyE} {n : Nat} {s : St} {K : St → Prop} {u : Nat} {xs : List Operand}
theorem argK_out : ∀ (args : List Operand) {F : List D → List Nat → Prop}, (∀ x ∈ args, x ∈ xs) → argK s args F → ∃ ds rs, F ds rs ∧ ∀ σ, Agr xs s σ → ∀ G : List D → List Nat → Prop, G ds rs → argK σ args G
  | [], F, _, h => ⟨[], [], h, fun σ _ G hG => hG⟩
  | x :: args, F, hx, h => by
    have hxx := hx x (by simp)
    have hrest := fun y hy => hx y (List.mem_cons_of_mem x hy)
    have go : ∀ (d : D) (rr : List Nat), (argK s args fun ds rs => F (d :: ds) (rr ++ rs)) → (∀ σ, Agr xs s σ → ∀ G : List D → List Nat → Prop, (argK σ args fun ds rs => G (d :: ds) (rr ++ rs)) → argK σ (x :: args) G) →
        ∃ ds rs, F ds rs ∧ ∀ σ, Agr xs s σ → ∀ G : List D → List Nat → Prop, G ds rs → argK σ (x :: args) G := by
      intro d rr h1 h2
      obtain ⟨ds, rs, g1, g2⟩ := argK_out args hrest h1
      exact ⟨d :: ds, rr ++ rs, g1, fun σ ha G hG => h2 σ ha G (g2 σ ha _ hG)⟩
    unfold argK at h
    cases he : evS s x with
    | un => rw [he] at h; exact h.elim
    | tup l => rw [he] at h; exact h.elim
    | val d => rw [he] at h; exact go d [] h fun σ ha G hG => by unfold argK; rw [(ha x hxx).1, he]; exact hG
    | rp d => rw [he] at h; exact go (.bx false d) [] h fun σ ha G hG => by unfold argK; rw [(ha x hxx).1, he]; exact hG
    | own d => rw [he] at h; exact go d [slotOf x] h fun σ ha G hG => by unfold argK; rw [(ha x hxx).1, he]; exact hG
    | al r p =>
      rw [he] at h
      simp only at h
      cases hs : s r with
      | own d =>
        rw [hs] at h
        simp only at h
        cases hm : D.sub p d with
        | none => rw [hm] at h; exact h.elim
        | some m => rw [hm] at h; exact go m [r] h fun σ ha G hG => by unfold argK; rw [(ha x hxx).1, he]; simp only; rw [(ha x hxx).2 r (by rw [he]; rfl), hs]; simp only [hm]; exact hG
      | _ => rw [hs] at h; exact h.elim
    | ag r p =>
      rw [he] at h
      simp only at h
      cases hs : s r with
      | own d =>
        rw [hs] at h
        simp only at h
        cases hm : D.sub p d with
        | none => rw [hm] at h; exact h.elim
        | some m => rw [hm] at h; exact go m [r] h fun σ ha G hG => by unfold argK; rw [(ha x hxx).1, he]; simp only; rw [(ha x hxx).2 r (by rw [he]; rfl), hs]; simp only [hm]; exact hG
      | _ => rw [hs] at h; exact h.elim
    | rf r p =>
      rw [he] at h
      simp only at h
      cases hs : s r with
      | own d =>
        rw [hs] at h
        simp only at h
        cases hm : D.sub p d with
        | none => rw [hm] at h; exact h.elim
        | some m => rw [hm] at h; exact go (.bx false m) [r] h fun σ ha G hG => by unfold argK; rw [(ha x hxx).1, he]; simp only; rw [(ha x hxx).2 r (by rw [he]; rfl), hs]; simp only [hm]; exact hG
      | _ => rw [hs] at h; exact h.elim
theorem reads_one {op : Op} {y : S} (hK : K (s.set u y)) (hr : RootOf xs s y) (h : ∀ σ, Agr xs s σ → ∀ G : St → Prop, G (σ.set u y) → stepOp P T n op (some u) σ G) : Reads P T n op xs u s K :=
  ⟨y, hK, hr, h⟩
def quietOp (op : Op) (s : St) : Bool := match op with
  | .move x => qmove s x
  | .assign x => match evS s x with
    | .val _ => true
    | _ => false
  | .pick c x y => (match evS s c with
    | .val (.one (.bool true)) => qmove s x
    | .val (.one (.bool false)) => qmove s y
    | _ => false)
  | .nilCheck x => qmove s x
  | .load _ _ => true
  | .slice _ _ _ _ none => true
  | .extract (.tmp r) k => match s r with
    | .tup l => match l[k]? with
      | some (.val _) => true
      | _ => false
    | _ => false
  | .binOp _ _ _ _ _ => true
  | .unOp _ _ _ => true
  | .convert _ _ x => match evS s x with
    | .val (.one (.string _)) => false
    | _ => true
  | .indexAddr _ _ _ => true
  | .index _ _ _ => true
  | .fieldAddr _ _ _ => true
  | .call c => match c.callee with
    | .builtin .len => true
    | .builtin .min => true
    | .builtin .max => true
    | _ => false
  | _ => false
theorem capsOf_agr {σ : St} : ∀ {l : List Operand}, (∀ x ∈ l, x ∈ xs) → Agr xs s σ → capsOf σ l = capsOf s l
  | [], _, _ => rfl
  | x :: l, hl, ha => by
    unfold capsOf
    rw [(ha x (hl x (by simp))).1, capsOf_agr (fun y hy => hl y (by simp [hy])) ha]
theorem bndK_out {x : Option Operand} {z : Nat} {K : Nat → Prop} (hx : ∀ y, x = some y → y ∈ xs) (h : bndK s x z K) : ∃ j, K j ∧ ∀ σ, Agr xs s σ → ∀ G : Nat → Prop, G j → bndK σ x z G := by
  cases x with
  | none => exact ⟨z, h, fun σ _ G hG => hG⟩
  | some x =>
    obtain ⟨v, hv, h1⟩ := oneK_of h
    split at h1
    · refine ⟨_, h1.2, fun σ ha G hG => ?_⟩
      unfold bndK
      simp only [(ha x (hx x rfl)).1, hv, oneK]
      exact ⟨h1.1, hG⟩
    · exact h1.elim
theorem flatS_agr {x : Operand} (hx : x ∈ xs) {σ : St} (ha : Agr xs s σ) : flatS σ x = flatS s x := by
  unfold flatS
  rw [(ha x hx).1]
  cases he : evS s x with
  | ag r p => simp only; rw [(ha x hx).2 r (by rw [he]; rfl)]
  | val d => cases d <;> rfl
  | own d => cases d <;> rfl
  | _ => rfl
theorem eqSK_out {op : BinOp} {t : TypeId} {a b : Option (List Value)} {K : Value → Prop} (h : eqSK P op t a b K) : ∃ r, K r ∧ ∀ G : Value → Prop, G r → eqSK P op t a b G := by
  unfold eqSK at h ⊢
  split at h
  · obtain ⟨r, h1, h2⟩ := h; exact ⟨_, h2, fun G hG => ⟨r, h1, hG⟩⟩
  · obtain ⟨r, h1, h2⟩ := h; exact ⟨_, h2, fun G hG => ⟨r, h1, hG⟩⟩
  · exact h.elim
theorem nilK_out {op : BinOp} {x : S} {z : SLv} {K : Value → Prop} (h : nilK op x z K) : ∃ r, K r ∧ ∀ G : Value → Prop, G r → nilK op x z G := by
  unfold nilK at h ⊢
  split at h
  · rcases h with ⟨h1, h2⟩ | ⟨h1, h2, h3⟩
    · exact ⟨_, h2, fun G hG => .inl ⟨h1, hG⟩⟩
    · exact ⟨_, h3, fun G hG => .inr ⟨h1, h2, hG⟩⟩
  · rcases h with ⟨h1, h2⟩ | ⟨h1, h2, h3⟩
    · exact ⟨_, h2, fun G hG => .inl ⟨h1, hG⟩⟩
    · exact ⟨_, h3, fun G hG => .inr ⟨h1, h2, hG⟩⟩
  · exact h.elim
theorem ifcK_out {op : BinOp} {v : Value} {K : Value → Prop} (h : ifcK op v K) : ∃ r, K r ∧ ∀ G : Value → Prop, G r → ifcK op v G := by
  unfold ifcK at h ⊢
  split at h <;> first | exact ⟨_, h, fun G hG => hG⟩ | exact h.elim
theorem mmK3_out {mx : Bool} {u v w : Value} {K : Value → Prop} (h : mmK3 mx u v w K) : ∃ r, K r ∧ ∀ G : Value → Prop, G r → mmK3 mx u v w G := by
  unfold mmK3 at h ⊢
  split at h
  · exact ⟨_, h, fun G hG => hG⟩
  · exact h.elim
theorem mm_out {mx : Bool} {l : List Operand} {ts : List TypeId} (h : stepCall P T n (.builtin (if mx then .max else .min)) l ts (some u) s K) :
    (∃ x y, l = [x, y] ∧ (∀ u', some u = some u' → u' < n) ∧ @mmH mx (evS s x) (evS s y) ⟨fun r => K (s.setd (some u) (.val (.one r)))⟩) ∨
    (∃ x y z, l = [x, y, z] ∧ (∀ u', some u = some u' → u' < n) ∧ @mmH3 mx (evS s x) (evS s y) (evS s z) ⟨fun r => K (s.setd (some u) (.val (.one r)))⟩) := by
  cases mx
  · match l, h with
    | [x, y], h => exact .inl ⟨x, y, rfl, h⟩
    | [x, y, z], h => exact .inr ⟨x, y, z, rfl, h⟩
    | [], h => exact absurd h (by simp [stepCall])
    | [x], h => exact absurd h (by simp [stepCall])
    | x :: y :: z :: q :: r, h => exact absurd h (by simp [stepCall])
  · match l, h with
    | [x, y], h => exact .inl ⟨x, y, rfl, h⟩
    | [x, y, z], h => exact .inr ⟨x, y, z, rfl, h⟩
    | [], h => exact absurd h (by simp [stepCall])
    | [x], h => exact absurd h (by simp [stepCall])
    | x :: y :: z :: q :: r, h => exact absurd h (by simp [stepCall])
theorem mmK_out {mx : Bool} {u v : Value} {K : Value → Prop} (h : mmK mx u v K) : ∃ r, K r ∧ ∀ G : Value → Prop, G r → mmK mx u v G := by
  unfold mmK at h ⊢
  split at h
  · exact ⟨_, h, fun G hG => hG⟩
  · exact h.elim
theorem mm_reads {mx : Bool} {args : Array Operand} {ts : Array TypeId} (hxs : ∀ x ∈ args.toList, x ∈ xs) (h : stepCall P T n (.builtin (if mx then .max else .min)) args.toList ts.toList (some u) s K) :
    Reads P T n (.call ⟨.builtin (if mx then .max else .min), args, ts⟩) xs u s K := by
  rcases mm_out h with ⟨x, y, hl, hu, h⟩ | ⟨x, y, z, hl, hu, h⟩
  rotate_left
  · have hx : x ∈ xs := hxs x (by rw [hl]; simp)
    have hy : y ∈ xs := hxs y (by rw [hl]; simp)
    have hz : z ∈ xs := hxs z (by rw [hl]; simp)
    obtain ⟨a, ha, h⟩ := oneK_of h
    obtain ⟨b, hb, h⟩ := oneK_of h
    obtain ⟨c, hc, h⟩ := oneK_of h
    obtain ⟨r, h1, h2⟩ := mmK3_out h
    refine reads_one (y := .val (.one r)) h1 (root_none rfl) fun σ hag G hG => ?_
    show stepCall P T n (.builtin (if mx then .max else .min)) args.toList ts.toList (some u) σ G
    rw [hl]
    cases mx
    · exact ⟨hu, by simp only [mmH3, (hag x hx).1, (hag y hy).1, (hag z hz).1, ha, hb, hc, oneK]; exact h2 _ hG⟩
    · exact ⟨hu, by simp only [mmH3, (hag x hx).1, (hag y hy).1, (hag z hz).1, ha, hb, hc, oneK]; exact h2 _ hG⟩
  have hx : x ∈ xs := hxs x (by rw [hl]; simp)
  have hy : y ∈ xs := hxs y (by rw [hl]; simp)
  obtain ⟨a, ha, h⟩ := oneK_of h
  obtain ⟨b, hb, h⟩ := oneK_of h
  obtain ⟨r, h1, h2⟩ := mmK_out h
  refine reads_one (y := .val (.one r)) h1 (root_none rfl) fun σ hag G hG => ?_
  show stepCall P T n (.builtin (if mx then .max else .min)) args.toList ts.toList (some u) σ G
  rw [hl]
  cases mx
  · exact ⟨hu, by simp only [mmH, (hag x hx).1, (hag y hy).1, ha, hb, oneK]; exact h2 _ hG⟩
  · exact ⟨hu, by simp only [mmH, (hag x hx).1, (hag y hy).1, ha, hb, oneK]; exact h2 _ hG⟩
theorem step_reads {op : Op} (hq : quietOp op s = true) (hxs : ∀ x ∈ op.operands.toList, x ∈ xs) (h : stepOp P T n op (some u) s K) : Reads P T n op xs u s K := by
  cases op <;> simp only [quietOp] at hq <;> first | (cases hq; done) | skip
  case move x =>
    have hx := hxs x (by simp [Op.operands])
    obtain ⟨hu, h⟩ := h
    obtain ⟨y, h1, h2, h3⟩ := dmove_reads hx hq h
    exact reads_one h1 h2 fun σ ha G hG => ⟨hu, h3 σ ha G hG⟩
  case assign x =>
    have hx := hxs x (by simp [Op.operands])
    obtain ⟨hu, h⟩ := h
    cases he : evS s x with
    | val d =>
      have h' : K (s.set u (.val d)) := by
        unfold dassign dmove at h
        rw [he] at h
        exact h
      refine reads_one h' (root_none rfl) fun σ ha G hG => ⟨hu, ?_⟩
      unfold dassign dmove
      rw [(ha x hx).1, he]
      exact hG
    | _ => rw [he] at hq; cases hq
  case pick c x y =>
    have hc := hxs c (by simp [Op.operands])
    have hx := hxs x (by simp [Op.operands])
    have hy := hxs y (by simp [Op.operands])
    obtain ⟨hu, h⟩ := h
    obtain ⟨v, hv, h⟩ := oneK_of h
    simp only [hv] at hq
    split at h
    · obtain ⟨z, h1, h2, h3⟩ := dmove_reads hx hq h
      exact reads_one h1 h2 fun σ ha G hG => ⟨hu, by unfold dpick; rw [(ha c hc).1, hv]; exact h3 σ ha G hG⟩
    · obtain ⟨z, h1, h2, h3⟩ := dmove_reads hy hq h
      exact reads_one h1 h2 fun σ ha G hG => ⟨hu, by unfold dpick; rw [(ha c hc).1, hv]; exact h3 σ ha G hG⟩
    · exact h.elim
  case load t x =>
    have hx := hxs x (by simp [Op.operands])
    obtain ⟨hu, h⟩ := h
    obtain ⟨y, h1, h2, h3⟩ := dload_reads hx h
    exact reads_one h1 h2 fun σ ha G hG => ⟨hu, h3 σ ha G hG⟩
  case nilCheck x =>
    have hx := hxs x (by simp [Op.operands])
    obtain ⟨hu, hp, h⟩ := h
    obtain ⟨y, h1, h2, h3⟩ := dmove_reads hx hq h
    exact reads_one h1 h2 fun σ ha G hG => ⟨hu, by rw [asPtr_agr hx ha]; exact hp, h3 σ ha G hG⟩
  case slice t x lo hi mx =>
    cases mx with
    | some m => cases hq
    | none =>
    have hx := hxs x (by simp [Op.operands])
    have hlo : ∀ y, lo = some y → y ∈ xs := fun y hy => hxs y (by subst hy; simp [Op.operands])
    have hhi : ∀ y, hi = some y → y ∈ xs := fun y hy => hxs y (by subst hy; simp [Op.operands])
    obtain ⟨hu, h⟩ := h
    split at h
    · rename_i ht
      obtain ⟨v, hv, h⟩ := oneK_of h
      split at h
      · rename_i z
        obtain ⟨j, h1, hj⟩ := bndK_out hhi h
        obtain ⟨i, h2, hi'⟩ := bndK_out hlo h1
        obtain ⟨g1, g2, g3⟩ := h2
        refine reads_one (y := .val (.one _)) g3 (root_none rfl) fun σ hag G hG => ⟨hu, ?_⟩
        rw [ht]
        simp only [(hag x hx).1, hv, oneK]
        exact hj σ hag _ (hi' σ hag _ ⟨g1, g2, hG⟩)
      · exact h.elim
    · rename_i e ht
      obtain ⟨hok, h⟩ := h
      split at h
      · rename_i ys hys
        obtain ⟨hw, h⟩ := h
        obtain ⟨j, h1, hj⟩ := bndK_out hhi h
        obtain ⟨i, h2, hi'⟩ := bndK_out hlo h1
        obtain ⟨g1, g2, g3⟩ := h2
        refine reads_one (y := .val _) g3 (root_none rfl) fun σ hag G hG => ⟨hu, ?_⟩
        rw [ht]
        simp only
        refine ⟨hok, ?_⟩
        rw [asSl_agr hx hag, hys]
        exact ⟨hw, hj σ hag _ (hi' σ hag _ ⟨g1, g2, hG⟩)⟩
      · exact h.elim
    · exact h.elim
  case extract x k =>
    cases x with
    | tmp r =>
      have hx := hxs (.tmp r) (by simp [Op.operands])
      obtain ⟨hr, hu, hur, h⟩ := h
      simp only at hq
      cases hs : s r with
      | tup l =>
        rw [hs] at hq h
        simp only at hq h
        cases hl : l[k]? with
        | none => rw [hl] at hq; cases hq
        | some y =>
          rw [hl] at hq h
          cases y with
          | val d =>
            refine reads_one (y := .val d) h (root_none rfl) fun σ ha G hG => ⟨hr, hu, hur, ?_⟩
            have he := (ha (.tmp r) hx).1
            simp only [evS, if_pos hr] at he
            rw [he, hs]
            simp only [hl]
            exact hG
          | _ => cases hq
      | _ => rw [hs] at hq; cases hq
    | _ => cases hq
  case binOp op t x y t' =>
    have hx := hxs x (by simp [Op.operands])
    have hy := hxs y (by simp [Op.operands])
    obtain ⟨hu, h⟩ := h
    split at h
    · rename_i hb
      obtain ⟨a, ha, h⟩ := oneK_of h
      obtain ⟨b, hb', h⟩ := oneK_of h
      obtain ⟨r, h1, h2⟩ := eqB_out h
      exact reads_one (y := .val (.one r)) h1 (root_none rfl) fun σ hag G hG => ⟨hu, by rw [hb]; simp only [(hag x hx).1, (hag y hy).1, ha, hb', oneK]; exact h2 _ hG⟩
    · rename_i fs hb
      obtain ⟨r, h1, h2⟩ := eqSK_out h
      exact reads_one (y := .val (.one r)) h1 (root_none rfl) fun σ hag G hG => ⟨hu, by rw [hb]; simp only [flatS_agr hx hag, flatS_agr hy hag]; exact h2 _ hG⟩
    · rename_i e hb
      split at h
      · obtain ⟨r, h1, h2⟩ := nilK_out h
        exact reads_one (y := .val (.one r)) h1 (root_none rfl) fun σ hag G hG => ⟨hu, by rw [hb]; simp only [(hag x hx).1]; rw [← (hag x hx).1, asSl_agr hx hag, (hag x hx).1]; exact h2 _ hG⟩
      · exact h.elim
    · rename_i hb
      split at h
      · obtain ⟨a, ha, h⟩ := oneK_of h
        obtain ⟨r, h1, h2⟩ := ifcK_out h
        exact reads_one (y := .val (.one r)) h1 (root_none rfl) fun σ hag G hG => ⟨hu, by rw [hb]; simp only [(hag x hx).1, ha, oneK]; exact h2 _ hG⟩
      · exact h.elim
    · rename_i n1 n2 n3 n4
      obtain ⟨a, ha, h⟩ := oneK_of h
      obtain ⟨b, hb', h⟩ := oneK_of h
      obtain ⟨r, h1, h2⟩ := binV_out h
      refine reads_one (y := .val (.one r)) h1 (root_none rfl) fun σ hag G hG => ⟨hu, ?_⟩
      split
      · rename_i hb'; exact absurd hb' n1
      · rename_i fs hb'; exact absurd hb' (n2 _)
      · rename_i e hb'; exact absurd hb' (n3 _)
      · rename_i hb'; exact absurd hb' n4
      · simp only [dbin, (hag x hx).1, (hag y hy).1, ha, hb', oneK]; exact h2 _ hG
  case unOp op t x =>
    have hx := hxs x (by simp [Op.operands])
    obtain ⟨hu, h⟩ := h
    obtain ⟨a, ha, h⟩ := oneK_of h
    obtain ⟨r, h1, h2⟩ := unV_out h
    exact reads_one (y := .val (.one r)) h1 (root_none rfl) fun σ hag G hG => ⟨hu, by simp only [(hag x hx).1, ha, oneK]; exact h2 _ hG⟩
  case convert src t x =>
    have hx := hxs x (by simp [Op.operands])
    obtain ⟨hu, hok, h⟩ := h
    split at h
    · rename_i hs ht
      obtain ⟨a, ha, h⟩ := oneK_of h
      split at h
      · refine reads_one (y := .val (.one _)) h (root_none rfl) fun σ hag G hG => ⟨hu, hok, ?_⟩
        rw [hs, ht]
        simp only [dconvI, (hag x hx).1, ha, oneK]
        exact hG
      · exact h.elim
    · rename_i e hs ht
      obtain ⟨h4, h5, h6⟩ := h
      split at h6
      · rename_i l hl
        refine reads_one (y := .val (.one _)) h6 (root_none rfl) fun σ hag G hG => ⟨hu, hok, ?_⟩
        rw [hs, ht]
        simp only
        rw [asSl_agr hx hag]
        refine ⟨h4, h5, ?_⟩
        rw [hl]
        exact hG
      · exact h6.elim
    · obtain ⟨_, _, _, h7⟩ := h
      obtain ⟨v, hv, h8⟩ := oneK_of h7
      split at h8
      · rw [hv] at hq; cases hq
      · exact h8.elim
    · exact h.elim
  case indexAddr t x y =>
    have hx := hxs x (by simp [Op.operands])
    have hy := hxs y (by simp [Op.operands])
    unfold stepOp at h
    simp only at h
    split at h
    · rename_i e he
      obtain ⟨hu, hok, h⟩ := h
      obtain ⟨k, j, hj, h0, h⟩ := intK_of h
      obtain ⟨z, h1, h2, h3⟩ := dindex_reads hx h
      refine reads_one h1 h2 fun σ ha G hG => ?_
      unfold stepOp
      simp only [he]
      exact ⟨hu, hok, by rw [(ha y hy).1, hj]; exact ⟨h0, h3 σ ha G hG⟩⟩
    · rename_i len e he
      obtain ⟨hu, hok, h⟩ := h
      obtain ⟨k, j, hj, h0, hj2, h⟩ := intK_of h
      obtain ⟨z, h1, h2, h3⟩ := dfield_reads hx h
      refine reads_one h1 h2 fun σ ha G hG => ?_
      unfold stepOp
      simp only [he]
      exact ⟨hu, hok, by rw [(ha y hy).1, hj]; exact ⟨h0, hj2, h3 σ ha G hG⟩⟩
    · exact h.elim
  case index t x y =>
    have hx := hxs x (by simp [Op.operands])
    have hy := hxs y (by simp [Op.operands])
    obtain ⟨hu, h⟩ := h
    split at h
    · rename_i ht
      obtain ⟨a, ha, h⟩ := oneK_of h
      split at h
      · obtain ⟨k, j, hj, h0, c, hc, h⟩ := intK_of h
        refine reads_one (y := .val (.one _)) h (root_none rfl) fun σ hag G hG => ⟨hu, ?_⟩
        rw [ht]
        simp only [idxH, (hag x hx).1, (hag y hy).1, ha, hj, oneK, intK]
        exact ⟨h0, c, hc, hG⟩
      · exact h.elim
    · rename_i len e ht
      obtain ⟨hok, h⟩ := h
      split at h
      · rename_i ys hxe
        obtain ⟨g1, g2, h⟩ := h
        obtain ⟨k, j, hj, h0, hj2, h⟩ := intK_of h
        split at h
        · rename_i d hget
          refine reads_one (y := .val d) h.2 (root_none rfl) fun σ hag G hG => ⟨hu, ?_⟩
          rw [ht]
          simp only [(hag x hx).1, (hag y hy).1, hxe, hj, oneK, intK, hget]
          exact ⟨hok, g1, g2, h0, hj2, h.1, hG⟩
        · exact h.elim
      · exact h.elim
    · exact h.elim
  case fieldAddr t x f =>
    have hx := hxs x (by simp [Op.operands])
    unfold stepOp at h
    simp only at h
    split at h
    · rename_i fs ht
      split at h
      · rename_i off ft hf
        obtain ⟨hu, h⟩ := h
        obtain ⟨z, h1, h2, h3⟩ := dfield_reads hx h
        refine reads_one h1 h2 fun σ ha G hG => ?_
        unfold stepOp
        simp only [ht, hf]
        exact ⟨hu, h3 σ ha G hG⟩
      · exact h.elim
    · exact h.elim
  case call c =>
    obtain ⟨cal, args, ts⟩ := c
    have h : stepCall P T n cal args.toList ts.toList (some u) s K := h
    simp only at hq
    split at hq
    · unfold stepCall at h
      split at h
      · rename_i hcal; cases hcal
      · rename_i hcal; cases hcal
      · rename_i x t hcal ha ht
        have hx : x ∈ xs := hxs x (by simp only [Op.operands, Call.operands]; simp; rw [← Array.mem_toList_iff, ha]; simp)
        obtain ⟨hu, h⟩ := h
        have back : ∀ σ (G : St → Prop), stepCall P T n (.builtin .len) [x] [t] (some u) σ G → stepOp P T n (.call ⟨.builtin .len, args, ts⟩) (some u) σ G := fun σ G hg => by
          show stepCall P T n (.builtin .len) args.toList ts.toList (some u) σ G
          rw [ha, ht]; exact hg
        split at h
        · rename_i e hty
          cases hs : asSl s (slotOf x) (evS s x) with
          | no => rw [hs] at h; exact h.elim
          | fr ys => rw [hs] at h; exact reads_one (y := .val (.one _)) h (root_none rfl) fun σ hag G hG => back σ G ⟨hu, by rw [hty]; simp only; rw [asSl_agr hx hag, hs]; exact hG⟩
          | nd r p ys => rw [hs] at h; exact reads_one (y := .val (.one _)) h (root_none rfl) fun σ hag G hG => back σ G ⟨hu, by rw [hty]; simp only; rw [asSl_agr hx hag, hs]; exact hG⟩
        · rename_i hty
          obtain ⟨v, hv, h⟩ := oneK_of h
          split at h
          · exact reads_one (y := .val (.one _)) h (root_none rfl) fun σ hag G hG => back σ G ⟨hu, by rw [hty]; simp only [(hag x hx).1, hv, oneK]; exact hG⟩
          · exact h.elim
        · exact h.elim
      all_goals first | exact h.elim | (rename_i hcal _ _; cases hcal; done) | (rename_i hcal _; cases hcal; done)
    · exact mm_reads (mx := false) (fun x hx => hxs x (by simp only [Op.operands, Call.operands]; simp; simpa using hx)) h
    · exact mm_reads (mx := true) (fun x hx => hxs x (by simp only [Op.operands, Call.operands]; simp; simpa using hx)) h
    · cases hq
def callD (P : Program) (f : FuncId) (ds : List D) (rs : List Nat) [k : Hid1 S] : Prop := ∃ r, FnOk P f ds (fun r' => r' = r) ∧ (rs = [] ∨ r.closed = true) ∧ S.plain r = true ∧ k.K r
theorem callD_of {f : FuncId} {ds : List D} {rs : List Nat} {K : S → Prop} {r : S} (h : FnOk P f ds (fun r' => r' = r)) (hc : rs = [] ∨ r.closed = true) (hp : S.plain r = true) (hK : K r) : (callD (k := ⟨K⟩) P f ds rs) := ⟨r, h, hc, hp, hK⟩
def stepD (P : Program) (T : TypeId → TyE) (n : Nat) (op : Op) (u : Nat) (s : St) (K : St → Prop) : Prop :=
  match op with
  | .call ⟨.value (.func f), args, _⟩ => Enters P f ∧ u < n ∧ (T (1000000 + f)).w = 0 ∧ capsOf s args.toList = [] ∧ argK s args.toList fun ds rs => (callD (k := ⟨fun r => K (s.set u r)⟩) P f (D.fzs ds) rs)
  | op => quietOp op s = true ∧ stepOp P T n op (some u) s K
theorem stepD_reads {op : Op} (hxs : ∀ x ∈ op.operands.toList, x ∈ xs) (h : stepD P T n op u s K) : Reads P T n op xs u s K := by
  unfold stepD at h
  split at h
  · rename_i f args ts
    have hargs : ∀ x ∈ args.toList, x ∈ xs := fun x hx => hxs x (by simp only [Op.operands, Call.operands]; simp; right; simpa using hx)
    obtain ⟨he, hu, hT, hcaps, h⟩ := h
    obtain ⟨ds, rs, ⟨r, hf, hc, hp, hK⟩, hout⟩ := argK_out args.toList hargs h
    refine ⟨r, hK, root_none (by cases r <;> first | rfl | cases hp), fun σ ha G hG => ?_⟩
    show stepCall P T n (.value (.func f)) args.toList ts.toList (some u) σ G
    refine ⟨he, fun u' e => by obtain rfl := Option.some.inj e; exact hu, ?_⟩
    rw [hT, capsOf_agr hargs ha]
    simp only [hcaps]
    exact hout σ ha (fun ds rs => callK (k := ⟨fun r => G (σ.setd (some u) r)⟩) P f (D.fzs ds) rs) ⟨_, hf, fun r' e => by subst e; exact ⟨hc, hG⟩⟩
  · exact step_reads h.1 hxs h.2
end
end Go.Dv

end
section
namespace Go.Dv
open Go.RowKit
variable [Glob]
abbrev xsOf (o : Oper) : List Operand := o.op.operands.toList
def DQ (P : Program) (n : Nat) (o : Oper) (u : Nat) (s : St) (y : S) : Prop :=
  ∀ w0 ow0 σ, Agr (xsOf o) s σ → (σ u).isOwn = false → Ok P n w0 ow0 o σ (fun s' => s' = σ.put u y)
def gSlot (ops : Array Oper) (o : Oper) : Option (Nat × Bool) := match o.guard with
  | none => none
  | some (j, b) => ((ops[j]?).bind (·.dst)).map fun t => (t, b)
def Knows (ops : Array Oper) (o : Oper) (s : St) : Prop := ∀ t b, gSlot ops o = some (t, b) → (∃ l, s t = .tup l) ∨ ∃ v, s t = .val (.one v)
def Wants (ops : Array Oper) (o : Oper) (s : St) : Prop := o.guard = none ∨ ∃ t b, gSlot ops o = some (t, b) ∧ s t = .val (.one (.bool b))
def Yield (P : Program) (n : Nat) (ops : Array Oper) (o : Oper) (u : Nat) (s : St) (y : S) : Prop :=
  Knows ops o s ∧ RootOf (xsOf o) s y ∧ (Wants ops o s → DQ P n o u s y) ∧ (¬ Wants ops o s → y = .tup [])
def Cons (s : St) : Prop := ∀ i r, (s i).root = some r → (s r).isOwn = true
theorem Fits.cons {P : Program} {n : Nat} {w0 w : World} {ow0 ow : Own} {s : St} {a : Act} (h : Fits P n w0 ow0 ow s a w) : Cons s := fun i r hr => (h.slot i).root hr
theorem put_comm {s : St} {u v : Nat} {y z : S} (h : u ≠ v) : (s.put u y).put v z = (s.put v z).put u y := by
  funext j
  simp only [St.put]
  by_cases h1 : j = v <;> by_cases h2 : j = u <;> simp_all
theorem put_ne {s : St} {u j : Nat} {y : S} (h : j ≠ u) : (s.put u y) j = s j := by simp [St.put, h]
theorem put_eq {s : St} {u : Nat} {y : S} : (s.put u y) u = y := by simp [St.put]
theorem evS_put {s : St} {u : Nat} {y : S} {x : Operand} (hu : u < 1000000) (h : x ≠ .tmp u) : evS (s.put u y) x = evS s x := by
  cases x with
  | tmp t =>
    have : t ≠ u := fun e => h (by rw [e])
    simp only [evS, put_ne this]
  | global g => simp only [evS]; exact put_ne (by omega)
  | const v => rfl
  | func f => rfl
theorem evS_root {s : St} (hc : Cons s) {x : Operand} {r : Nat} (h : (evS s x).root = some r) : (s r).isOwn = true := by
  cases x with
  | tmp t =>
    simp only [evS] at h
    split at h
    · exact hc _ _ h
    · cases h
  | global g => exact hc _ _ h
  | const v => simp only [evS] at h; split at h <;> cases h
  | func f => cases h
theorem agr_put {xs : List Operand} {s σ : St} {u : Nat} {z : S} (hc : Cons s) (hu : u < 1000000) (ho : (s u).isOwn = false) (hx : ∀ x ∈ xs, x ≠ .tmp u) : Agr xs (s.put u z) σ ↔ Agr xs s σ := by
  have h1 : ∀ x ∈ xs, evS (s.put u z) x = evS s x := fun x h => evS_put hu (hx x h)
  have h2 : ∀ x ∈ xs, ∀ r, (evS s x).root = some r → (s.put u z) r = s r := fun x h r hr => put_ne (by rintro rfl; rw [evS_root hc hr] at ho; cases ho)
  constructor
  · intro h x hxx
    obtain ⟨g1, g2⟩ := h x hxx
    rw [h1 x hxx] at g1 g2
    exact ⟨g1, fun r hr => (g2 r hr).trans (h2 x hxx r hr)⟩
  · intro h x hxx
    obtain ⟨g1, g2⟩ := h x hxx
    rw [h1 x hxx]
    exact ⟨g1, fun r hr => (g2 r hr).trans (h2 x hxx r hr).symm⟩
theorem rootOf_put {xs : List Operand} {s : St} {u : Nat} {y z : S} (hu : u < 1000000) (hx : ∀ x ∈ xs, x ≠ .tmp u) : RootOf xs (s.put u z) y ↔ RootOf xs s y := by
  have h1 : ∀ x ∈ xs, evS (s.put u z) x = evS s x := fun x h => evS_put hu (hx x h)
  constructor
  · intro h r hr
    obtain ⟨x, hxx, h⟩ := h r hr
    rw [h1 x hxx] at h
    exact ⟨x, hxx, h⟩
  · intro h r hr
    obtain ⟨x, hxx, h⟩ := h r hr
    refine ⟨x, hxx, ?_⟩
    rw [h1 x hxx]
    exact h
theorem Cons.put {xs : List Operand} {s : St} {u : Nat} {y : S} (hc : Cons s) (ho : (s u).isOwn = false) (hr : RootOf xs s y) : Cons (s.put u y) := by
  have own : ∀ r, (s r).isOwn = true → ((s.put u y) r).isOwn = true := fun r h => by
    have : r ≠ u := by rintro rfl; rw [h] at ho; cases ho
    rw [put_ne this]; exact h
  intro i r h
  by_cases hi : i = u
  · subst hi
    rw [put_eq] at h
    obtain ⟨x, _, h1 | ⟨h1, h2⟩⟩ := hr r h
    · exact own r (evS_root hc h1)
    · apply own
      rw [← h1]
      cases he : evS s x with
      | own d => rw [slotOf_own he (.inl rfl)]; rfl
      | _ => rw [he] at h2; cases h2
  · rw [put_ne hi] at h
    exact own r (hc i r h)
section
variable {P : Program} {n : Nat} {ops : Array Oper} {md : Region.Mode}
theorem looks_ops {o : Oper} {u : Nat} (h : u ∉ o.looksAt ops) : ∀ x ∈ xsOf o, x ≠ .tmp u := by
  rintro x hx rfl
  apply h
  unfold Oper.looksAt
  apply List.mem_append_left
  rw [List.mem_filterMap]
  exact ⟨_, hx, rfl⟩
theorem looks_guard {o : Oper} {u t : Nat} {b : Bool} (h : u ∉ o.looksAt ops) (hg : gSlot ops o = some (t, b)) : t ≠ u := by
  rintro rfl
  apply h
  unfold Oper.looksAt
  apply List.mem_append_right
  unfold gSlot at hg
  cases hgd : o.guard with
  | none => rw [hgd] at hg; cases hg
  | some g =>
    obtain ⟨j, b'⟩ := g
    rw [hgd] at hg
    simp only [Option.map_eq_some_iff] at hg
    obtain ⟨t', h1, h2⟩ := hg
    obtain ⟨rfl, rfl⟩ := Prod.mk.inj h2
    simp only [h1, Option.toList_some, List.mem_singleton]
theorem yield_put {o : Oper} {u v : Nat} {s : St} {y z : S} (hc : Cons s) (hv : v < 1000000) (ho : (s v).isOwn = false) (h : v ∉ o.looksAt ops) : Yield P n ops o u (s.put v z) y ↔ Yield P n ops o u s y := by
  have hk : Knows ops o (s.put v z) ↔ Knows ops o s := by
    constructor <;> intro g t b hg
    · have := g t b hg; rwa [put_ne (looks_guard h hg)] at this
    · rw [put_ne (looks_guard h hg)]; exact g t b hg
  have hw : Wants ops o (s.put v z) ↔ Wants ops o s := by
    constructor
    · rintro (g | ⟨t, b, g1, g2⟩)
      · exact .inl g
      · rw [put_ne (looks_guard h g1)] at g2; exact .inr ⟨t, b, g1, g2⟩
    · rintro (g | ⟨t, b, g1, g2⟩)
      · exact .inl g
      · exact .inr ⟨t, b, g1, by rw [put_ne (looks_guard h g1)]; exact g2⟩
  have hd : DQ P n o u (s.put v z) y ↔ DQ P n o u s y := by
    constructor <;> intro g w0 ow0 σ ha
    · exact g w0 ow0 σ ((agr_put hc hv ho (looks_ops h)).2 ha)
    · exact g w0 ow0 σ ((agr_put hc hv ho (looks_ops h)).1 ha)
  unfold Yield
  rw [hk, hw, hd, rootOf_put hv (looks_ops h)]
def qD (P : Program) (n : Nat) (ops : Array Oper) (i : Nat) (K : St → Prop) (s : St) : Prop := match ops[i]? with
  | none => K s
  | some o => ∃ u y, o.dst = some u ∧ u < n ∧ (s u).isOwn = false ∧ Yield P n ops o u s y ∧ K (s.put u y)
theorem qD_mono {i : Nat} {s : St} {K K' : St → Prop} (h : ∀ s, K s → K' s) (hh : qD P n ops i K s) : qD P n ops i K' s := by
  unfold qD at *
  split
  · rename_i ho; simp only [ho] at hh; exact h _ hh
  · rename_i o ho
    simp only [ho] at hh
    obtain ⟨u, y, h1, h2, h3, h4, h5⟩ := hh
    exact ⟨u, y, h1, h2, h3, h4, h _ h5⟩
theorem qD_put {j : Nat} {oi oj : Oper} {ui : Nat} {yi : S} {K : St → Prop} {s : St} (hn : n ≤ 1000000) (hj : ops[j]? = some oj) (hap : oi.apart ops oj = true) (hdi : oi.dst = some ui) (hui : ui < n) (hc : Cons s) (ho : (s ui).isOwn = false)
    (hy : Yield P n ops oi ui s yi) (h : qD P n ops j K (s.put ui yi)) : qD P n ops j (fun s' => Cons s' ∧ (s' ui).isOwn = false ∧ Yield P n ops oi ui s' yi ∧ K (s'.put ui yi)) s := by
  obtain ⟨h1, h2, h3⟩ := Oper.apart_spec hap
  unfold qD at h ⊢
  simp only [hj] at h ⊢
  obtain ⟨uj, yj, g1, g2, g3, g4, g5⟩ := h
  have hne : uj ≠ ui := fun e => h2 ui hdi (by rw [g1, e])
  rw [put_ne hne] at g3
  rw [yield_put hc (Nat.lt_of_lt_of_le hui hn) ho (h1 ui hdi)] at g4
  refine ⟨uj, yj, g1, g2, g3, g4, hc.put g3 g4.2.1, by rw [put_ne hne.symm]; exact ho, (yield_put hc (Nat.lt_of_lt_of_le g2 hn) g3 (h3 uj g1)).2 hy, ?_⟩
  rw [put_comm hne]
  exact g5
def anyD (P : Program) (n : Nat) (md : Region.Mode) (ops : Array Oper) (K : St → Prop) : Nat → Array Bool → St → Prop
  | 0, listed, s => Region.ready md ops listed = [] ∧ K s
  | fuel + 1, listed, s => (Region.ready md ops listed = [] → K s) ∧ ∀ i ∈ Region.ready md ops listed, qD P n ops i (anyD P n md ops K fuel (listed.setIfInBounds i true)) s
theorem anyD_first {K : St → Prop} {i : Nat} {oi : Oper} {ui : Nat} {yi : S} (hn : n ≤ 1000000) (hi : ops[i]? = some oi) (hdi : oi.dst = some ui) (hui : ui < n) :
    ∀ (fuel : Nat) (listed : Array Bool) (s : St),
      (∀ j oj, ops[j]? = some oj → j ≠ i → listed.getD j true = false → (∀ e ∈ oj.after, Region.binds md e = true → e.on ≠ i) → oi.apart ops oj = true) →
      i ∈ Region.ready md ops listed → Cons s → (s ui).isOwn = false → Yield P n ops oi ui s yi →
      anyD P n md ops K fuel (listed.setIfInBounds i true) (s.put ui yi) → anyD P n md ops K (fuel + 1) listed s := by
  intro fuel
  induction fuel with
  | zero =>
    intro listed s _ hr hc ho hy H
    refine ⟨fun h => (by rw [h] at hr; cases hr), fun j hj => ?_⟩
    by_cases hji : j = i
    · subst hji; unfold qD; simp only [hi]; exact ⟨ui, yi, hdi, hui, ho, hy, H⟩
    · have := ready_mono hj hji
      rw [H.1] at this
      cases this
  | succ fuel ih =>
    intro listed s hfree hr hc ho hy H
    refine ⟨fun h => (by rw [h] at hr; cases hr), fun j hj => ?_⟩
    by_cases hji : j = i
    · subst hji; unfold qD; simp only [hi]; exact ⟨ui, yi, hdi, hui, ho, hy, H⟩
    · have h1 := H.2 j (ready_mono hj hji)
      obtain ⟨hjun, oj, hoj, hall⟩ := mem_ready.1 hj
      have hnot : ∀ e ∈ oj.after, Region.binds md e = true → e.on ≠ i := fun e he hb heq => by
        have h1 := hall e he hb
        have h0 := (mem_ready.1 hr).1
        rw [heq] at h1
        rcases Nat.lt_or_ge i listed.size with h' | h'
        · simp [h'] at h0 h1; rw [h0] at h1; cases h1
        · simp [Array.getElem?_eq_none h'] at h1
      have h2 := qD_put hn hoj (hfree j oj hoj hji hjun hnot) hdi hui hc ho hy h1
      have hfree' : ∀ k ok, ops[k]? = some ok → k ≠ i → (listed.setIfInBounds j true).getD k true = false →
          (∀ e ∈ ok.after, Region.binds md e = true → e.on ≠ i) → oi.apart ops ok = true := fun k ok hk hki hun hno => by
        refine hfree k ok hk hki ?_ hno
        by_cases hjk : j = k
        · subst hjk; exact hjun
        · rw [getD_set_ne true hjk] at hun; exact hun
      refine qD_mono (fun s' h3 => ih (listed.setIfInBounds j true) s' hfree' (ready_mono hr (Ne.symm hji)) h3.1 h3.2.1 h3.2.2.1 ?_) h2
      rw [Array.setIfInBounds_comm _ _ hji]
      exact h3.2.2.2
theorem gK_parts {o : Oper} {s : St} {A B : Prop} (h : gK ops o s A B) : Knows ops o s ∧ (Wants ops o s → A) ∧ (¬ Wants ops o s → B) := by
  unfold gK at h
  cases hg : o.guard with
  | none =>
    rw [hg] at h
    have : gSlot ops o = none := by simp [gSlot, hg]
    exact ⟨fun t b e => (by rw [this] at e; cases e), fun _ => h, fun hw => absurd (.inl hg) hw⟩
  | some g =>
    obtain ⟨j, b⟩ := g
    rw [hg] at h
    simp only at h
    cases ht : (ops[j]?).bind (·.dst) with
    | none =>
      rw [ht] at h
      have : gSlot ops o = none := by simp [gSlot, hg, ht]
      refine ⟨fun t b e => (by rw [this] at e; cases e), fun hw => ?_, fun _ => h⟩
      rcases hw with hw | ⟨t, b', e, _⟩
      · rw [hg] at hw; cases hw
      · rw [this] at e; cases e
    | some t =>
      rw [ht] at h
      have hgs : gSlot ops o = some (t, b) := by simp [gSlot, hg, ht]
      rcases gS_of h with ⟨l, h1, h2⟩ | ⟨v, h1, h2, h3⟩
      · refine ⟨fun t' b' e => ?_, fun hw => ?_, fun _ => h2⟩
        · rw [hgs] at e
          obtain ⟨rfl, rfl⟩ := Prod.mk.inj (Option.some.inj e)
          exact .inl ⟨l, h1⟩
        · rcases hw with hw | ⟨t', b', e, e2⟩
          · rw [hg] at hw; cases hw
          · rw [hgs] at e
            obtain ⟨rfl, rfl⟩ := Prod.mk.inj (Option.some.inj e)
            rw [h1] at e2; cases e2
      refine ⟨fun t' b' e => ?_, fun hw => h2 ?_, fun hw => h3 fun e => hw (.inr ⟨t, b, hgs, by rw [h1, e]⟩)⟩
      · rw [hgs] at e
        obtain ⟨rfl, rfl⟩ := Prod.mk.inj (Option.some.inj e)
        exact .inr ⟨v, h1⟩
      · rcases hw with hw | ⟨t', b', e, e2⟩
        · rw [hg] at hw; cases hw
        · rw [hgs] at e
          obtain ⟨rfl, rfl⟩ := Prod.mk.inj (Option.some.inj e)
          rw [h1] at e2
          simpa using e2
theorem knows_gK {o : Oper} {s : St} (hk : Knows ops o s) : gK ops o s (Wants ops o s) (¬ Wants ops o s) := by
  unfold gK
  cases hg : o.guard with
  | none => exact .inl hg
  | some g =>
    obtain ⟨j, b⟩ := g
    simp only
    cases ht : (ops[j]?).bind (·.dst) with
    | none =>
      have : gSlot ops o = none := by simp [gSlot, hg, ht]
      rintro (hw | ⟨t, b', e, _⟩)
      · rw [hg] at hw; cases hw
      · rw [this] at e; cases e
    | some t =>
      have hgs : gSlot ops o = some (t, b) := by simp [gSlot, hg, ht]
      rcases hk t b hgs with ⟨l, hv⟩ | ⟨v, hv⟩
      · simp only [hv, gS]
        rintro (hw | ⟨t', b', e, e2⟩)
        · rw [hg] at hw; cases hw
        · rw [hgs] at e
          obtain ⟨rfl, rfl⟩ := Prod.mk.inj (Option.some.inj e)
          rw [hv] at e2; cases e2
      simp only [hv, gS, oneK]
      refine ⟨fun e => .inr ⟨t, b, hgs, by rw [hv, e]⟩, fun hne hw => ?_⟩
      rcases hw with hw | ⟨t', b', e, e2⟩
      · rw [hg] at hw; cases hw
      · rw [hgs] at e
        obtain ⟨rfl, rfl⟩ := Prod.mk.inj (Option.some.inj e)
        rw [hv] at e2
        exact hne (by simpa using e2)
theorem set_put {s : St} {u : Nat} {y : S} (h : (s u).isOwn = false) : s.set u y = s.put u y := by simp [St.set, St.free, h]
theorem wpOp_of_qD {p : Pin} (hdst : ∀ o ∈ ops.toList, noDst1 p o = true) {i : Nat} {s : St} {a : Act} {w : World} {w0 : World} {ow0 : Own} {K : St → Prop} {K' : Act → World → Prop} {Q' : Exit → Act → World → Prop} (hR : Rel P n w0 ow0 s a w) (hp : Pinned p a) (h : ∀ s' a' w', K s' → Rel P n w0 ow0 s' a' w' → Pinned p a' → K' a' w') (hh : qD P n ops i K s) : wpOp P ops Q' i K' a w := by
  unfold qD at hh
  unfold wpOp
  split
  · rename_i ho; simp only [ho] at hh; exact h _ _ _ hh hR hp
  · rename_i o ho
    have hdo : noDst1 p o = true := hdst o (by rw [Array.mem_toList_iff]; exact Array.mem_of_getElem? ho)
    simp only [ho] at hh
    obtain ⟨u, y, hd, hu, hown, ⟨hk, hroot, hyes, hno⟩, hK⟩ := hh
    have hw := gK_wanted hR (knows_gK hk)
    split
    · rename_i hwa
      rw [if_pos hwa] at hw
      have h1 := hyes hw w0 ow0 s (fun x _ => ⟨rfl, fun r _ => rfl⟩) hown a w hR (fun a' w' => Rel P n w0 ow0 (s.put u y) a' w') Q' fun s' a' w' e hR' => by subst e; exact hR'
      exact .inl (Oper.wp_mono (fun a' w' hh => h _ _ _ hK hh.1 hh.2) (wp_pin hp hdo h1))
    · rename_i hwa
      rw [if_neg hwa] at hw
      have := hno hw
      subst this
      obtain ⟨ow, hf⟩ := hR
      refine h _ _ _ hK ⟨ow, ?_⟩ (hp.put hdo)
      rw [hd]
      exact hf.put hu hown ⟨#[], rfl, rfl, fun k x hx => by simp at hx⟩
theorem anyD_sound {p : Pin} (hdst : ∀ o ∈ ops.toList, noDst1 p o = true) {w0 : World} {ow0 : Own} {K : St → Prop} {Q' : Exit → Act → World → Prop} (hQ : ∀ s a w, K s → Rel P n w0 ow0 s a w → Pinned p a → Q' .normal a w) : ∀ (fuel : Nat) (listed : Array Bool) (s : St) (a : Act) (w : World), Rel P n w0 ow0 s a w → Pinned p a → anyD P n md ops K fuel listed s → wpAny P md ops Q' fuel listed a w
  | 0, _, _, _, _, hR, hp, h => ⟨h.1, hQ _ _ _ h.2 hR hp⟩
  | fuel + 1, _, _, _, _, hR, hp, h => ⟨fun h0 => hQ _ _ _ (h.1 h0) hR hp, fun i hi => wpOp_of_qD hdst hR hp (fun s' a' w' hK hR' hp' => anyD_sound hdst hQ fuel _ s' a' w' hR' hp' hK) (h.2 i hi)⟩
def QL (P : Program) (T : TypeId → TyE) (n : Nat) (ops : Array Oper) : List Oper → St → (St → Prop) → Prop
  | [], s, K => K s
  | o :: l, s, K => match o.dst with
    | none => False
    | some u => u < n ∧ (s u).isOwn = false ∧ gK ops o s (stepD P T n o.op u s fun s' => QL P T n ops l s' K) (QL P T n ops l (s.put u (.tup [])) K)
theorem QL_yield {T : TypeId → TyE} (hG : ∀ t, Good P T t) {o : Oper} {l : List Oper} {s : St} {K : St → Prop} (h : QL P T n ops (o :: l) s K) : ∃ u y, o.dst = some u ∧ u < n ∧ (s u).isOwn = false ∧ Yield P n ops o u s y ∧ QL P T n ops l (s.put u y) K := by
  unfold QL at h
  cases hd : o.dst with
  | none => rw [hd] at h; exact h.elim
  | some u =>
    rw [hd] at h
    obtain ⟨hu, ho, h⟩ := h
    obtain ⟨hk, hA, hB⟩ := gK_parts h
    by_cases hw : Wants ops o s
    · obtain ⟨y, h1, h2, h3⟩ := stepD_reads (xs := xsOf o) (fun x hx => hx) (hA hw)
      rw [set_put ho] at h1
      refine ⟨u, y, rfl, hu, ho, ⟨hk, h2, fun _ w0 ow0 σ ha hσ => ?_, fun hn => absurd hw hn⟩, h1⟩
      refine step_ok hG ?_
      rw [hd]
      exact h3 σ ha _ (set_put hσ)
    · exact ⟨u, .tup [], rfl, hu, ho, ⟨hk, root_none rfl, fun h => absurd h hw, fun _ => rfl⟩, hB hw⟩
theorem anyD_lex {T : TypeId → TyE} (hG : ∀ t, Good P T t) (hn : n ≤ 1000000) {K : St → Prop} : ∀ (l : List Oper) (k : Nat) (listed : Array Bool) (s : St), (∀ j, l[j]? = ops[k + j]?) → Cons s →
    Region.lexFrom md ops l.length k listed = true → QL P T n ops l s K → anyD P n md ops K l.length listed s
  | [], _, _, _, _, _, hB, h => ⟨by simpa [Region.lexFrom] using hB, h⟩
  | o :: l, k, listed, s, hl, hc, hB, h => by
    have h0 : ops[k]? = some o := by simpa using (hl 0).symm
    simp only [List.length_cons, Region.lexFrom, Bool.and_eq_true] at hB
    obtain ⟨⟨hr, hf⟩, hB'⟩ := hB
    obtain ⟨u, y, hd, hu, ho, hy, hrest⟩ := QL_yield hG h
    exact anyD_first hn h0 hd hu l.length listed s (Region.free_spec h0 hf) (by simpa using hr) hc ho hy
      (anyD_lex hG hn l (k + 1) _ _ (fun j => by have := hl (j + 1); simpa [Nat.add_assoc, Nat.add_comm 1 j] using this) (hc.put ho hy.2.1) hB' hrest)
theorem okC_draw {T : TypeId → TyE} (hG : ∀ t, Good P T t) {p : Pin} {w0 : World} {ow0 : Own} {s : St} {K : Exit → St → Prop} {id : Nat} (hm : P.follows .mixedOrders = true) (hn : n ≤ 1000000) (hB : Region.lexB .any ops = true)
    (h : QL P T n ops ops.toList s (fun s' => K .normal s')) (hd : noDst p ops.toList = true) : OkC P n w0 ow0 p (.region id ops true) s K := by
  intro a w hR hp Q hQ
  simp only [Region.lexB, Bool.and_eq_true] at hB
  have hR2 : Rel P n w0 ow0 s a { w with drawn := w.drawn + 1 } := by obtain ⟨ow, hf⟩ := hR; exact ⟨ow, hf.drew⟩
  have hc : Cons s := by obtain ⟨ow, hf⟩ := hR; exact hf.cons
  refine wp_region_any hm (anyD_sound (noDst.one hd) (K := fun s' => K .normal s') (fun s' a' w' hK hR' hp' => hQ _ _ _ _ hK hR' hp') _ _ s _ _ hR2 hp ?_)
  have := anyD_lex (md := .any) hG hn ops.toList 0 (Array.replicate ops.size false) s (by simp) hc (by simpa using hB.2) h
  simpa using this
end
end Go.Dv

end
