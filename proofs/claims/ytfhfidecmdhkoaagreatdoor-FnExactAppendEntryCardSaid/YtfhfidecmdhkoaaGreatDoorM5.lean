/- General lemmas (data by value) and the walks on which the law's proof leans, part 5. No condition. -/
import Derived.Test.YtfhfidecmdhkoaaGreatDoorM4
set_option linter.unusedVariables false
set_option linter.unusedSimpArgs false
section
set_option linter.unusedVariables false
namespace Go.Dv
open Go.RowKit
set_option linter.unusedSectionVars false
variable [Glob]
def Det (F : (St → Prop) → Prop) : Prop := ∀ K, F K → ∃ s', K s' ∧ F (fun s => s = s')
theorem det_K (s : St) : Det fun K => K s := fun K h => ⟨s, h, rfl⟩
theorem det_false : Det fun _ => False := fun K h => h.elim
theorem det_and {A : Prop} {F : (St → Prop) → Prop} (h : Det F) : Det fun K => A ∧ F K := fun K ⟨ha, hf⟩ => by
  obtain ⟨s, h1, h2⟩ := h K hf
  exact ⟨s, h1, ha, h2⟩
theorem det_dst {n : Nat} {dst : Option Nat} {F : Nat → (St → Prop) → Prop} (h : ∀ u, Det (F u)) : Det fun K => dstK n dst fun u => F u K := by
  cases dst with
  | none => exact det_false
  | some u => exact det_and (h u)
theorem det_int {x : S} {F : Int → (St → Prop) → Prop} (h : ∀ u, Det (F u)) : Det fun K => intK x fun j => F j K := by
  unfold intK oneK
  cases x with
  | val d => cases d with
    | one v => cases v with
      | int k j => exact h j
      | _ => exact det_false
    | _ => exact det_false
  | _ => exact det_false
theorem det_move (u : Nat) (x : Operand) (s : St) : Det (dmove u x s) := by
  unfold dmove
  cases evS s x with
  | un => exact det_false
  | val d => exact det_K _
  | rp d => exact det_K _
  | al r p => exact det_and (det_K _)
  | rf r p => exact det_and (det_K _)
  | ag r p => exact det_and (det_K _)
  | own d => cases d <;> exact det_and (det_K _)
  | tup l => exact det_and (det_K _)
theorem det_assign (u : Nat) (x : Operand) (s : St) : Det (dassign u x s) := by
  have hm := det_move u x s
  unfold dassign
  cases hx : evS s x with
  | own d => exact det_and (det_K _)
  | al r p =>
    cases p with
    | nil =>
      simp only
      by_cases h : u = r
      · simp only [h, if_true]; exact det_K _
      · simp only [h, if_false]
        cases s r <;> first | exact det_K _ | exact det_false
    | cons _ _ => exact hm
  | _ => exact hm
theorem det_append (e : TypeId) (ew u : Nat) (x y : Operand) (s : St) : Det (dappend e ew u x y s) := by
  unfold dappend
  refine det_and ?_
  cases rowOf e (srcOf s (slotOf x) (evS s x)).data with
  | none => exact det_false
  | some xs =>
    simp only
    generalize (srcOf s (slotOf x) (evS s x)).st s = s1
    have fr : Det fun K => match asSl s1 (slotOf y) (evS s1 y) with
      | .fr ys => ys.all (fun d => d.w == ew) = true ∧ xs.length + ys.length ≤ 1073741824 ∧ K ((s1.kill u).put u (.own (.sl (some e) (xs ++ D.fzs ys))))
      | .nd _ _ ys => D.frzs ys = true ∧ ys.all (fun d => d.w == ew) = true ∧ xs.length + ys.length ≤ 1073741824 ∧ K ((s1.kill u).put u (.own (.sl (some e) (xs ++ ys))))
      | .no => False := by
      cases asSl s1 (slotOf y) (evS s1 y) with
      | fr ys => exact det_and (det_and (det_K _))
      | nd _ _ ys => exact det_and (det_and (det_and (det_K _)))
      | no => exact det_false
    cases hy : evS s1 y with
    | own d =>
      rw [hy] at fr
      cases d with
      | sl o ys => cases o with
        | none => exact fr
        | some e' => exact det_and (det_and (det_and (det_K _)))
      | _ => exact fr
    | _ => rw [hy] at fr; exact fr
theorem det_take {F : List (Nat × D × Bool) → St → (St → Prop) → Prop} (hF : ∀ ds s, Det (F ds s)) (u : Nat) : ∀ (parts : List (Nat × Operand)) (s : St), Det fun K => takeK u parts s fun ds s' => F ds s' K := by
  intro parts
  induction parts generalizing F with
  | nil => intro s; exact hF _ _
  | cons p parts ih =>
    obtain ⟨i, x⟩ := p
    intro s
    exact det_and (det_and (ih (F := fun ds s' K => F ((i, (srcOf s (slotOf x) (evS s x)).data, (srcOf s (slotOf x) (evS s x)).from.isNone) :: ds) s' K) (fun ds s' => hF _ _) _))
theorem det_buildS (T : TypeId → TyE) (e : TypeId) (len u : Nat) (parts : List (Nat × Operand)) (s : St) : Det (dbuildS T e len u parts s) :=
  det_take (F := fun ds s' K => partsOk (fun i => some (i * (T e).w, (T e).w)) (List.replicate len (T e).z) ds ∧ K (s'.set u (.own (.sl (some e) (setParts (List.replicate len (T e).z) ds))))) (fun ds s => det_and (det_K _)) u parts s
theorem det_build (T : TypeId → TyE) (fs : List (Nat × TypeId)) (zs : List D) (u : Nat) (parts : List (Nat × Operand)) (s : St) : Det (dbuild T fs zs u parts s) :=
  det_take (F := fun ds s' K => partsOk (places T fs) zs ds ∧ if ds.all (fun x => x.2.2) && D.frzs (setParts zs ds) then K (s'.set u (.val (.agg (setParts zs ds)))) else K (s'.set u (.own (.agg (setParts zs ds))))) (fun ds s => det_and (by
    by_cases h : (ds.all (fun x => x.2.2) && D.frzs (setParts zs ds)) = true
    · simp only [h, if_true]; exact det_K _
    · simp only [h]; exact det_K _)) u parts s
theorem det_store (e : TyE) (x : S) (z : Src) (s : St) : Det (dstore e x z s) := by
  unfold dstore
  cases x with
  | rf r p =>
    simp only
    cases s r with
    | own d =>
      simp only
      cases D.sub p d with
      | none => exact det_false
      | some m =>
        refine det_and (det_and (det_and ?_))
        have rest : Det fun K => (match z with | .no => False | _ => True) ∧ z.data.w = m.w ∧ z.from ≠ some r ∧ K (((z.st s).kill r).put r (.own (D.upd p d z.data))) := det_and (det_and (det_and (det_K _)))
        cases z with
        | fr d' =>
          cases d' with
          | one u => cases m with
            | one _ => exact det_K _
            | _ => exact rest
          | _ => exact rest
        | _ => exact rest
    | _ => exact det_false
  | _ => exact det_false
def detOp : Op → Bool
  | .assign _ => true
  | .store _ _ _ => true
  | .alloc _ => true
  | .box _ _ => true
  | .build _ _ => true
  | .buildSlice _ _ _ => true
  | .makeSlice _ _ _ => true
  | .call ⟨.builtin .append, _, _⟩ => true
  | _ => false
theorem det_step {P : Program} {T : TypeId → TyE} {n : Nat} {op : Op} {dst : Option Nat} {s : St} (h : detOp op = true) : Det (stepOp P T n op dst s) := by
  unfold detOp at h
  unfold stepOp
  split at h
  · exact det_dst fun u => det_assign u _ s
  · exact det_and (det_and (det_store _ _ _ s))
  · exact det_and (det_dst fun u => det_K _)
  · rename_i t x
    simp only
    refine det_dst fun u => ?_
    cases srcOf s (slotOf x) (evS s x) <;> first | exact det_false | exact det_K _
  · rename_i t parts
    simp only
    cases (T t).ty with
    | agg fs => cases (T t).z with
      | agg zs => exact det_and (det_dst fun u => det_build T fs zs u _ s)
      | _ => exact det_false
    | _ => exact det_false
  · rename_i t len parts
    simp only
    cases (T t).ty with
    | sl e => exact det_and (det_and (det_and (det_and (det_dst fun u => det_buildS T e len u _ s))))
    | _ => exact det_false
  · rename_i t x y
    simp only
    cases (T t).ty with
    | sl e => exact det_and (det_int fun l => det_int fun c => det_and (det_and (det_and (det_dst fun u => det_K _))))
    | _ => exact det_false
  · rename_i args ts
    simp only
    unfold stepCall
    split
    all_goals first
      | exact det_false
      | (exfalso; simp_all; done)
      | (refine det_and ?_; split <;> first | exact det_false | exact det_dst fun u => det_and (det_and (det_append _ _ u _ _ s)))
  · cases h
end Go.Dv
end
section
set_option linter.unusedVariables false
namespace Go.Dv
open Go.RowKit
set_option linter.unusedSectionVars false
variable [Glob]
def putAll : List Nat → St → St → St
  | [], _, s => s
  | t :: Y, f, s => (putAll Y f s).put t (f t)
theorem putAll_at (f s : St) (i : Nat) : ∀ Y : List Nat, putAll Y f s i = if i ∈ Y then f i else s i
  | [] => by simp [putAll]
  | t :: Y => by
    simp only [putAll, St.put, putAll_at f s i Y, List.mem_cons]
    by_cases h : i = t
    · subst h; simp
    · simp [h]
theorem lst_only (s : St) : ∀ Y : List Nat, lst (Y.map fun t => (t, s t)) = s.only Y
  | [] => by funext i; simp [lst, St.only]
  | t :: Y => by
    funext i
    simp only [List.map_cons, lst, St.put, lst_only s Y, St.only, List.mem_cons]
    by_cases h : i = t
    · subst h; simp
    · simp [h]
def rootIn (Y : List Nat) (x : S) : Prop := match x.root with
  | some r => r ∈ Y
  | none => True
def rootOut (Y : List Nat) (x : S) : Prop := match x.root with
  | some r => r ∉ Y
  | none => True
def rootOwn (Y : List Nat) (s : St) (x : S) : Prop := match x.root with
  | some r => r ∈ Y ∧ (s r).isOwn = true
  | none => True
theorem tells_only {P : Program} {n : Nat} {s : St} {Y : List Nat} (h : ∀ t ∈ Y, rootOwn Y s (s t)) : Tells P n s (s.only Y) := by
  refine tells_of fun i => ?_
  by_cases hi : i ∈ Y
  · simp only [St.only, if_pos hi]
    refine .inr (.inl ⟨rfl, ?_⟩)
    have := h i hi
    unfold rootOwn at this
    cases hr : (s i).root with
    | none => trivial
    | some r =>
      rw [hr] at this
      have h2 : r ∈ Y := this.1
      simp [St.only, h2]
  · simp only [St.only, if_neg hi]; exact .inl rfl
class HidF where
  F : St → Prop
def frK (s : St) [h : HidF] : Prop := h.F s
section
variable {P : Program} {T : TypeId → TyE} {n : Nat} {ops : Array Oper} {md : Region.Mode} {ft : List (Nat × List Nat)}
def QF (P : Program) (T : TypeId → TyE) (n : Nat) (ft : List (Nat × List Nat)) (ops : Array Oper) : List Oper → Nat → List Nat → St → (St → Prop) → Prop
  | [], _, _, s, K => K s
  | o :: l, k, Ks, s, K => match ft.lookup k with
    | none => match o.dst with
      | none => False
      | some u => u < n ∧ (s u).isOwn = false ∧ (s u).root = none ∧ @gH ops o s ⟨stepD P T n o.op u s fun s' => QF P T n ft ops l (k + 1) (u :: Ks) s' K⟩ ⟨QF P T n ft ops l (k + 1) (u :: Ks) (s.put u (.tup [])) K⟩
    | some Y => o.guard = none ∧ detOp o.op = true ∧ (∀ t ∈ Y, t < 1000000) ∧ (∀ u, o.dst = some u → u ∈ Y) ∧ (∀ t ∈ Y, rootIn Y (s t)) ∧ (∀ t ∈ Ks, t ∈ Y ∨ rootOut Y (s t)) ∧
      stepOp P T n o.op o.dst (lst (Y.map fun t => (t, s t))) fun s' => @frK s' ⟨fun s' => (∀ t ∈ Y, rootOwn Y s' (s' t)) ∧ QF P T n ft ops l (k + 1) (Y ++ Ks) (putAll Y s' s) K⟩
theorem QF_did (hG : ∀ t, Good P T t) {o : Oper} {l : List Oper} {k : Nat} {Ks : List Nat} {s : St} {K : St → Prop} (hk : ∀ i, i ∉ Ks → s i = .un) (h : QF P T n ft ops (o :: l) k Ks s K) :
    ∃ s' Ks', Did P n ft ops k o s s' ∧ (∀ i, i ∉ Ks' → s' i = .un) ∧ QF P T n ft ops l (k + 1) Ks' s' K := by
  unfold QF at h
  cases hl : ft.lookup k with
  | none =>
    simp only [hl] at h
    cases hd : o.dst with
    | none => rw [hd] at h; exact h.elim
    | some u =>
      rw [hd] at h
      obtain ⟨hu, ho, hr, h⟩ := h
      obtain ⟨hkn, hA, hB⟩ := gK_parts h
      have key : ∀ y, ∀ i, i ∉ u :: Ks → (s.put u y) i = .un := fun y i hi => by
        simp only [List.mem_cons, not_or] at hi
        rw [put_ne hi.1]; exact hk i hi.2
      by_cases hw : Wants ops o s
      · obtain ⟨y, h1, h2, h3⟩ := stepD_reads (xs := xsOf o) (fun x hx => hx) (hA hw)
        rw [set_put ho] at h1
        refine ⟨s.put u y, u :: Ks, ?_, key y, h1⟩
        unfold Did
        simp only [hl]
        refine ⟨u, y, hd, hu, ho, hr, ⟨hkn, h2, fun _ w0 ow0 σ ha hσ => ?_, fun hn => absurd hw hn⟩, rfl⟩
        refine step_ok hG ?_
        rw [hd]
        exact h3 σ ha _ (set_put hσ)
      · refine ⟨s.put u (.tup []), u :: Ks, ?_, key _, hB hw⟩
        unfold Did
        simp only [hl]
        exact ⟨u, .tup [], hd, hu, ho, hr, ⟨hkn, root_none rfl, fun h => absurd h hw, fun _ => rfl⟩, rfl⟩
  | some Y =>
    simp only [hl] at h
    obtain ⟨h1, h2, h3, h4, h5, h6, h7⟩ := h
    obtain ⟨s1, ⟨g1, g2⟩, g3⟩ := det_step h2 _ h7
    rw [lst_only] at g3
    have hm : putAll Y s1 s = s.merge Y (s1.only Y) := by
      funext i
      rw [putAll_at]
      simp only [St.merge, St.only]
      by_cases hi : i ∈ Y <;> simp [hi]
    refine ⟨s.merge Y (s1.only Y), Y ++ Ks, ?_, fun i hi => ?_, by rw [← hm]; exact g2⟩
    · unfold Did
      simp only [hl]
      refine ⟨s1.only Y, ⟨h1, h3, h4, fun i hi r hr => ?_, fun i hi r hr => ?_, fun i hi => by simp [St.only, hi], fun i r hr => ?_, fun w0 ow0 => ?_⟩, rfl⟩
      · have := h5 i hi; unfold rootIn at this; rw [hr] at this; exact this
      · by_cases hik : i ∈ Ks
        · rcases h6 i hik with h | h
          · exact absurd h hi
          · unfold rootOut at h; rw [hr] at h; exact h
        · rw [hk i hik] at hr; cases hr
      · by_cases hi : i ∈ Y
        · simp only [St.only, if_pos hi] at hr
          have := g1 i hi
          unfold rootOwn at this
          rw [hr] at this
          simpa [St.only, this.1] using this.2
        · simp only [St.only, if_neg hi] at hr; cases hr
      · exact fun a w hR next Q hn => (step_ok hG g3 : Ok P n w0 ow0 o (s.only Y) _) a w hR next Q fun s' a' w' e hR' => hn s' a' w' (by subst e; exact tells_only g1) hR'
    · simp only [List.mem_append, not_or] at hi
      simp only [St.merge, if_neg hi.1]
      exact hk i hi.2
def freeF (ft : List (Nat × List Nat)) (md : Region.Mode) (ops : Array Oper) (listed : Array Bool) (i : Nat) : Bool := match ops[i]? with
  | none => false
  | some oi => (List.range ops.size).all fun j => j == i || listed.getD j true || match ops[j]? with
      | some oj => oj.after.any (fun e => Region.binds md e && e.on == i) || apF ft ops i j oi oj
      | none => true
theorem freeF_spec {i : Nat} {oi : Oper} {listed : Array Bool} (hi : ops[i]? = some oi) (h : freeF ft md ops listed i = true) (j : Nat) (oj : Oper)
    (hj : ops[j]? = some oj) (hne : j ≠ i) (hun : listed.getD j true = false) (hno : ∀ e ∈ oj.after, Region.binds md e = true → e.on ≠ i) : apF ft ops i j oi oj = true := by
  simp only [freeF, hi, List.all_eq_true, List.mem_range] at h
  have h1 := h j (Array.getElem?_eq_some_iff.1 hj).1
  simp only [hj, Bool.or_eq_true, beq_iff_eq, hne, false_or, hun, Bool.false_eq_true] at h1
  rcases h1 with h1 | h1
  · obtain ⟨e, he, hb⟩ := Array.any_eq_true'.1 h1
    simp only [Bool.and_eq_true, beq_iff_eq] at hb
    exact absurd hb.2 (hno e he hb.1)
  · exact h1
def lexFF (ft : List (Nat × List Nat)) (md : Region.Mode) (ops : Array Oper) : Nat → Nat → Array Bool → Bool
  | 0, _, listed => (Region.ready md ops listed).isEmpty
  | fuel + 1, k, listed => (Region.ready md ops listed).contains k && freeF ft md ops listed k && lexFF ft md ops fuel (k + 1) (listed.setIfInBounds k true)
def lexBF (ft : List (Nat × List Nat)) (md : Region.Mode) (ops : Array Oper) : Bool := Region.noSelect ops && lexFF ft md ops ops.size 0 (Array.replicate ops.size false)
theorem anyG_lex (hG : ∀ t, Good P T t) (hn : n ≤ 1000000) {K : St → Prop} : ∀ (l : List Oper) (k : Nat) (listed : Array Bool) (Ks : List Nat) (s : St), (∀ j, l[j]? = ops[k + j]?) → Cons s → (∀ i, i ∉ Ks → s i = .un) →
    lexFF ft md ops l.length k listed = true → QF P T n ft ops l k Ks s K → anyG P n ft md ops K l.length listed s
  | [], _, _, _, _, _, _, _, hB, h => ⟨by simpa [lexFF] using hB, h⟩
  | o :: l, k, listed, Ks, s, hl, hc, hk, hB, h => by
    have h0 : ops[k]? = some o := by simpa using (hl 0).symm
    simp only [List.length_cons, lexFF, Bool.and_eq_true] at hB
    obtain ⟨⟨hr, hf⟩, hB'⟩ := hB
    obtain ⟨s', Ks', hd, hk', hrest⟩ := QF_did hG hk h
    exact anyG_first hn h0 l.length listed s s' (freeF_spec h0 hf) (by simpa using hr) hc hd
      (anyG_lex hG hn l (k + 1) _ Ks' s' (fun j => by have := hl (j + 1); simpa [Nat.add_assoc, Nat.add_comm 1 j] using this) (hd.cons hc) hk' hB' hrest)
theorem okC_frames (hG : ∀ t, Good P T t) {p : Pin} {w0 : World} {ow0 : Own} {s : St} {K : Exit → St → Prop} {id : Nat} {M : List (Nat × S)} {ts : List Nat} (hm : P.follows .mixedOrders = true) (hn : n ≤ 1000000) (hB : lexBF ft .any ops = true) (h0 : lessL (s.cools ts) M M)
    (h : QF P T n ft ops ops.toList 0 (M.map Prod.fst) (lst M) (fun s' => K .normal s')) (hd : noDst p ops.toList = true) : OkC P n w0 ow0 p (.region id ops true) s K := by
  refine okC_tells ?_ (tells_list ts h0)
  intro a w hR hp Q hQ
  simp only [lexBF, Bool.and_eq_true] at hB
  have hR2 : Rel P n w0 ow0 (lst M) a { w with drawn := w.drawn + 1 } := by obtain ⟨ow, hf⟩ := hR; exact ⟨ow, hf.drew⟩
  have hc : Cons (lst M) := by obtain ⟨ow, hf⟩ := hR; exact hf.cons
  refine wp_region_any hm (anyG_sound (ft := ft) (noDst.one hd) (K := fun s' => K .normal s') (fun s' a' w' hK hR' hp' => hQ _ _ _ _ hK hR' hp') _ _ (lst M) _ _ hR2 hp ?_)
  have := anyG_lex (md := .any) hG hn ops.toList 0 (Array.replicate ops.size false) _ (lst M) (by simp) hc (fun i hi => lst_un hi) (by simpa using hB.2) h
  simpa using this
theorem okC_df (hG : ∀ t, Good P T t) {p : Pin} {w0 : World} {ow0 : Own} {s : St} {K : Exit → St → Prop} {id : Nat} {y : Code} (ft : List (Nat × List Nat)) (M : List (Nat × S)) (ts : List Nat) (hm : P.follows .mixedOrders = true) (hn : n ≤ 1000000) (hB : lexBF ft .any ops = true) (h0 : lessL (s.cools ts) M M)
    (h : QF P T n ft ops ops.toList 0 (M.map Prod.fst) (lst M) (fun s' => @blk St s' ⟨fun s' => OkC P n w0 ow0 p y s' K⟩)) (hd : noDst p ops.toList = true := by rfl) : OkC P n w0 ow0 p (.seq (.region id ops true) y) s K := okC_seq (okC_frames hG hm hn hB h0 h hd)
theorem okC_df1 (hG : ∀ t, Good P T t) {p : Pin} {w0 : World} {ow0 : Own} {s : St} {K : Exit → St → Prop} {id : Nat} (ft : List (Nat × List Nat)) (M : List (Nat × S)) (ts : List Nat) (hm : P.follows .mixedOrders = true) (hn : n ≤ 1000000) (hB : lexBF ft .any ops = true) (h0 : lessL (s.cools ts) M M)
    (h : QF P T n ft ops ops.toList 0 (M.map Prod.fst) (lst M) (fun s' => @blk St s' ⟨fun s' => K .normal s'⟩)) (hd : noDst p ops.toList = true := by rfl) : OkC P n w0 ow0 p (.region id ops true) s K := okC_frames hG hm hn hB h0 h hd
theorem frK_put {s : St} {t : Nat} {x : S} {F : St → Prop} : @frK (s.put t x) ⟨F⟩ = F (s.put t x) := rfl
theorem QF_nil {k : Nat} {Ks : List Nat} {s : St} {K : St → Prop} : QF P T n ft ops [] k Ks s K = K s := rfl
theorem QF_put {o : Oper} {l : List Oper} {k t : Nat} {Ks : List Nat} {s : St} {x : S} {K : St → Prop} : QF P T n ft ops (o :: l) k Ks (s.put t x) K = (match ft.lookup k with
    | none => match o.dst with
      | none => False
      | some u => u < n ∧ ((s.put t x) u).isOwn = false ∧ ((s.put t x) u).root = none ∧ @gH ops o (s.put t x) ⟨stepD P T n o.op u (s.put t x) fun s' => QF P T n ft ops l (k + 1) (u :: Ks) s' K⟩ ⟨QF P T n ft ops l (k + 1) (u :: Ks) ((s.put t x).put u (.tup [])) K⟩
    | some Y => o.guard = none ∧ detOp o.op = true ∧ (∀ t ∈ Y, t < 1000000) ∧ (∀ u, o.dst = some u → u ∈ Y) ∧ (∀ t' ∈ Y, rootIn Y ((s.put t x) t')) ∧ (∀ t' ∈ Ks, t' ∈ Y ∨ rootOut Y ((s.put t x) t')) ∧
      stepOp P T n o.op o.dst (lst (Y.map fun t' => (t', (s.put t x) t'))) fun s' => @frK s' ⟨fun s' => (∀ t ∈ Y, rootOwn Y s' (s' t)) ∧ QF P T n ft ops l (k + 1) (Y ++ Ks) (putAll Y s' (s.put t x)) K⟩) := rfl
theorem QF_lst {o : Oper} {l : List Oper} {k : Nat} {Ks : List Nat} {L : List (Nat × S)} {K : St → Prop} : QF P T n ft ops (o :: l) k Ks (lst L) K = (match ft.lookup k with
    | none => match o.dst with
      | none => False
      | some u => u < n ∧ ((lst L) u).isOwn = false ∧ ((lst L) u).root = none ∧ @gH ops o (lst L) ⟨stepD P T n o.op u (lst L) fun s' => QF P T n ft ops l (k + 1) (u :: Ks) s' K⟩ ⟨QF P T n ft ops l (k + 1) (u :: Ks) ((lst L).put u (.tup [])) K⟩
    | some Y => o.guard = none ∧ detOp o.op = true ∧ (∀ t ∈ Y, t < 1000000) ∧ (∀ u, o.dst = some u → u ∈ Y) ∧ (∀ t' ∈ Y, rootIn Y ((lst L) t')) ∧ (∀ t' ∈ Ks, t' ∈ Y ∨ rootOut Y ((lst L) t')) ∧
      stepOp P T n o.op o.dst (lst (Y.map fun t' => (t', (lst L) t'))) fun s' => @frK s' ⟨fun s' => (∀ t ∈ Y, rootOwn Y s' (s' t)) ∧ QF P T n ft ops l (k + 1) (Y ++ Ks) (putAll Y s' (lst L)) K⟩) := rfl
end
theorem fzs_take (xs : List D) (i : Nat) : D.fzs (xs.take i) = (D.fzs xs).take i := by simp [D.fzs_map]
theorem fzs_drop (xs : List D) (i : Nat) : D.fzs (xs.drop i) = (D.fzs xs).drop i := by simp [D.fzs_map]
theorem all_take {α : Type} (f : α → D) (l : List α) (i k : Nat) : (∀ x ∈ (l.map f).take i, x.w = k) ↔ ∀ a ∈ l.take i, (f a).w = k := by rw [← List.map_take]; simp only [List.mem_map, forall_exists_index, and_imp, forall_apply_eq_imp_iff₂]
theorem all_take_drop {α : Type} (f : α → D) (l : List α) (i j k : Nat) : (∀ x ∈ ((l.map f).drop j).take i, x.w = k) ↔ ∀ a ∈ (l.drop j).take i, (f a).w = k := by rw [← List.map_drop, ← List.map_take]; simp only [List.mem_map, forall_exists_index, and_imp, forall_apply_eq_imp_iff₂]
theorem take_drop_map {α β : Type} (f : α → β) (l : List α) (a : Nat) : ((l.map f).drop a).take (l.length - a) = (l.map f).drop a := List.take_of_length_le (by simp)
theorem all_drop {α : Type} (f : α → D) (l : List α) (j k : Nat) : (∀ x ∈ (l.map f).drop j, x.w = k) ↔ ∀ a ∈ l.drop j, (f a).w = k := by rw [← List.map_drop]; simp only [List.mem_map, forall_exists_index, and_imp, forall_apply_eq_imp_iff₂]
attribute [go_sem] all_drop
attribute [go_sem] take_drop_map
attribute [go_sem] fzs_take fzs_drop all_take all_take_drop
attribute [go_sem] QF_nil QF_put QF_lst frK_put putAll rootIn rootOut rootOwn detOp List.lookup
end Go.Dv
end
section
namespace Go.Pl
open Go.Dv
section
variable {α : Type} {l : List α} {P : α → Bool} {i : Nat} {c : α}
theorem all_no (h : l[i]? = some c) (hp : P c = false) : l.all P = false := List.all_eq_false.2 ⟨c, List.mem_of_getElem? h, by simp [hp]⟩
theorem all_step (h : l[i]? = some c) (h2 : (l.take i).all P = true) (hp : P c = true) : (l.take (i + 1)).all P = true := by rw [take_snoc h]; simp [List.all_append, h2, hp]
theorem all_fin (h2 : (l.take i).all P = true) (h : l.length ≤ i) : l.all P = true := by rwa [take_all h] at h2
theorem any_yes (h : l[i]? = some c) (hp : P c = true) : l.any P = true := List.any_eq_true.2 ⟨c, List.mem_of_getElem? h, hp⟩
theorem any_step (h : l[i]? = some c) (h2 : (l.take i).any P = false) (hp : P c = false) : (l.take (i + 1)).any P = false := by rw [take_snoc h]; simp [List.any_append, h2, hp]
theorem any_fin (h2 : (l.take i).any P = false) (h : l.length ≤ i) : l.any P = false := by rwa [take_all h] at h2
def ix (P : α → Bool) (l : List α) : Int := match l.findIdx? P with | some i => i | none => -1
theorem ix_none (h : l.any P = false) : ix P l = -1 := by
  unfold ix
  rw [List.findIdx?_eq_none_iff.2 (by simpa using h)]
theorem ix_at (h : l[i]? = some c) (h2 : (l.take i).any P = false) (hp : P c = true) : ix P l = i := by
  have hlt := getElem?_lt h
  unfold ix
  have : l.findIdx? P = some i := by
    rw [List.findIdx?_eq_some_iff_getElem]
    refine ⟨hlt, ?_, fun j hj => ?_⟩
    · rw [List.getElem?_eq_getElem hlt] at h; rw [Option.some.inj h]; exact hp
    · have : (l.take i)[j]? = some (l[j]'(by omega)) := by rw [List.getElem?_take, if_pos hj, List.getElem?_eq_getElem (by omega)]
      have h3 := List.any_eq_false.1 h2 _ (List.mem_of_getElem? this)
      simpa using h3
  rw [this]
theorem ix_lt (P : α → Bool) (l : List α) : -1 ≤ ix P l ∧ ix P l < l.length ∨ l.length = 0 ∧ ix P l = -1 := by
  unfold ix
  cases h : l.findIdx? P with
  | none => simp only; omega
  | some i =>
    have := (List.findIdx?_eq_some_iff_getElem.1 h).1
    left; simp only; omega
theorem ix_nonneg : 0 ≤ ix P l ↔ l.any P = true := by
  unfold ix
  cases h : l.findIdx? P with
  | none => have := List.findIdx?_eq_none_iff.1 h; simp; intro x hx; simpa using this x hx
  | some i =>
    obtain ⟨h1, h2, _⟩ := List.findIdx?_eq_some_iff_getElem.1 h
    simp only [Int.natCast_nonneg, true_iff, List.any_eq_true]
    exact ⟨_, List.getElem_mem h1, h2⟩
end
structure Ver where
  a : Int
  b : Int
  same : Bool
  time : Int
structure Tst where
  feature : Int
  threshold : Int
  below : Bool
structure Rec where
  source : Int
  key : Int
  version : Int
  fields : List Str
structure Sco where
  weights : List Int
  bias : Int
structure Cfg where
  rules : List (List Tst)
  sco : Sco
  surv : List Int
structure Sto where
  version : Int
  recs : List Rec
  vers : List Ver
structure Con where
  a : Int
  b : Int
  same : Bool
deriving DecidableEq, Inhabited
structure Tri where
  a : Int
  b : Int
  c : Int
  w : Int
structure Clu where
  labels : List Int
  cost : Int
  exact : Bool
  gap : Int
structure Mov where
  item : Int
  block : Int
  gain : Int
deriving instance DecidableEq, Inhabited for Ver
deriving instance DecidableEq, Inhabited for Tst
deriving instance DecidableEq, Inhabited for Rec
deriving instance DecidableEq, Inhabited for Tri
deriving instance DecidableEq, Inhabited for Mov
def textB (c : UInt8) : Bool := inR c.toNat 32 126
def isText (s : Str) : Bool := s.all textB && decide (s.length ≤ 40)
def fieldB (c : UInt8) : Bool := !(decide (c.toNat = 124) || decide (c.toNat = 59))
def isField (s : Str) : Bool := s.all fieldB && isText s
def validVer (v : Ver) : Bool := inR v.a 1 399 && inR v.b 1 399 && decide (v.a < v.b) && inR v.time 1 999
def validRec (r : Rec) : Bool := r.fields.all isField && inR r.source 0 3 && inR r.key 1 99 && inR r.version 1 999 && decide (r.fields.length = 4)
def recId (r : Rec) : Int := 100 * r.source + r.key
def scoreB (x : Int) : Bool := inR x 0 1000
def isVector (f : List Int) : Bool := f.all scoreB && decide (f.length = 6)
def weightB (x : Int) : Bool := inR x 0 9
def validSco (s : Sco) : Bool := s.weights.all weightB && decide (s.weights.length = 6) && decide (s.weights.sum > 0) && inR s.bias 0 1000
def survB (x : Int) : Bool := inR x 1 4
def validSurv (l : List Int) : Bool := l.all survB && decide (l.length = 4)
def cmpI (a b : Int) : Int := if a < b then -1 else if a > b then 1 else 0
def cmpVer (a b : Ver) : Int :=
  if cmpI a.a b.a ≠ 0 then cmpI a.a b.a else if cmpI a.b b.b ≠ 0 then cmpI a.b b.b else if cmpI a.time b.time ≠ 0 then cmpI a.time b.time else if a.same = b.same then 0 else if b.same then -1 else 1
def adj {α : Type} (R : α → α → Bool) : List α → Bool
  | [] => true
  | [_] => true
  | a :: b :: l => R a b && adj R (b :: l)
@[simp] theorem adj_nil {α : Type} (R : α → α → Bool) : adj R [] = true := rfl
def areVers (l : List Ver) : Bool := l.all validVer && adj (fun a b => decide (cmpVer a b < 0)) l && decide (l.length ≤ 8)
def testB (t : Tst) : Bool := inR t.feature 0 5 && inR t.threshold 1 1000
def validRule (l : List Tst) : Bool := l.all testB && adj (fun a b => decide (a.feature < b.feature)) l && inR l.length 1 3
def validRules (r : List (List Tst)) : Bool := r.all validRule && inR r.length 1 3
def validCfg (c : Cfg) : Bool := validRules c.rules && validSco c.sco && validSurv c.surv
def validSto (s : Sto) : Bool := s.recs.all validRec && adj (fun a b => decide (recId a < recId b)) s.recs && inR s.version 0 999 && decide (s.recs.length ≤ 8) && areVers s.vers
def smallS (s : Str) : Prop := s.length ≤ 1048576
def smallR (r : Rec) : Prop := r.fields.length ≤ 1048576 ∧ ∀ f ∈ r.fields, smallS f
theorem adj_iff {α : Type} {R : α → α → Bool} : ∀ {l : List α}, adj R l = true ↔ ∀ (i : Nat) (a b : α), l[i]? = some a → l[i + 1]? = some b → R a b = true
  | [] => by simp [adj]
  | [x] => by simp [adj]
  | x :: y :: l => by
    simp only [adj, Bool.and_eq_true, adj_iff (l := y :: l)]
    constructor
    · rintro ⟨h1, h2⟩ i a b ha hb
      cases i with
      | zero => simp at ha hb; subst ha; subst hb; exact h1
      | succ i => exact h2 i a b (by simpa using ha) (by simpa using hb)
    · intro h
      exact ⟨h 0 x y rfl rfl, fun i a b ha hb => h (i + 1) a b (by simpa using ha) (by simpa using hb)⟩
theorem adj_no {α : Type} {R : α → α → Bool} {l : List α} {i : Nat} {a b : α} (ha : l[i]? = some a) (hb : l[i + 1]? = some b) (h : R a b = false) : adj R l = false := by
  rw [Bool.eq_false_iff]
  intro h'
  rw [adj_iff.1 h' i a b ha hb] at h
  cases h
theorem adj_step0 {α : Type} {R : α → α → Bool} {l : List α} : adj R (l.take 1) = true := by
  cases l <;> simp [adj]
theorem adj_step {α : Type} {R : α → α → Bool} {l : List α} {i : Nat} {a b : α} (h : adj R (l.take (i + 1)) = true) (ha : l[i]? = some a) (hb : l[i + 1]? = some b) (hr : R a b = true) : adj R (l.take (i + 1 + 1)) = true := by
  rw [adj_iff] at h ⊢
  intro j x y hx hy
  rw [List.getElem?_take] at hx hy
  split at hy
  rotate_left
  · cases hy
  rw [if_pos (by omega)] at hx
  by_cases hj : j = i
  · subst hj
    rw [ha] at hx; rw [hb] at hy
    obtain rfl := Option.some.inj hx
    obtain rfl := Option.some.inj hy
    exact hr
  · exact h j x y (by rw [List.getElem?_take, if_pos (by omega)]; exact hx) (by rw [List.getElem?_take, if_pos (by omega)]; exact hy)
end Go.Pl
namespace Go.Pl
open Go.Dv
def curStep (out : List Ver) (v : Ver) : List Ver := match out[out.length - 1]? with
  | none => out ++ [v]
  | some u => if u.a ≠ v.a ∨ u.b ≠ v.b then out ++ [v] else if u.time < v.time then out.set (out.length - 1) v else out
def curVers (l : List Ver) : List Ver := l.foldl curStep []
theorem foldl_snoc {α β : Type} (f : β → α → β) (b : β) {l : List α} {i : Nat} {c : α} (h : l[i]? = some c) : (l.take (i + 1)).foldl f b = f ((l.take i).foldl f b) c := by
  rw [take_snoc h, List.foldl_append]; rfl
theorem filterMap_snoc {α β : Type} (f : α → Option β) {l : List α} {i : Nat} {c : α} (h : l[i]? = some c) : (l.take (i + 1)).filterMap f = (l.take i).filterMap f ++ (f c).toList := by
  rw [take_snoc h, List.filterMap_append]
  cases hf : f c <;> simp [hf]
theorem map_snoc {α β : Type} (f : α → β) {l : List α} {i : Nat} {c : α} (h : l[i]? = some c) : (l.take (i + 1)).map f = (l.take i).map f ++ [f c] := by
  rw [take_snoc h, List.map_append]; rfl
theorem filter_snoc {α : Type} (p : α → Bool) {l : List α} {i : Nat} {c : α} (h : l[i]? = some c) : (l.take (i + 1)).filter p = (l.take i).filter p ++ (if p c then [c] else []) := by
  rw [take_snoc h, List.filter_append]
  cases hf : p c <;> simp [hf]
def grp (x : Int) (g : List Int) : Bool := g.any fun y => decide (y = x)
def grpIx (g : List (List Int)) (x : Int) : Int := ix (grp x) g
def apartB (g : List (List Int)) (v : Ver) : Bool := !(decide (grpIx g v.a ≥ 0) && decide (grpIx g v.a = grpIx g v.b))
abbrev place (items : List Int) (x : Int) : Int := ix (fun y => decide (y = x)) items
def verCon (items : List Int) (v : Ver) : Option Con := if 0 ≤ place items v.a ∧ place items v.a < place items v.b then some ⟨place items v.a, place items v.b, v.same⟩ else none
def verCons (l : List Ver) (items : List Int) : List Con := l.filterMap (verCon items)
end Go.Pl
end
section
namespace Go.Pl
open Go.Dv
def loopN {σ : Type} (n : Nat) (s : σ) (f : Nat → σ → σ) : σ := (List.range n).foldl (fun s i => f i s) s
theorem loopN_zero {σ : Type} (s : σ) (f : Nat → σ → σ) : loopN 0 s f = s := rfl
theorem loopN_succ {σ : Type} (n : Nat) (s : σ) (f : Nat → σ → σ) : loopN (n + 1) s f = f n (loopN n s f) := by simp [loopN, List.range_succ]
theorem loopN_inv {σ : Type} (p : Nat → σ → Prop) {n : Nat} {s : σ} {f : Nat → σ → σ} (h0 : p 0 s) (hs : ∀ i x, i < n → p i x → p (i + 1) (f i x)) : p n (loopN n s f) := by
  induction n with
  | zero => exact h0
  | succ n ih => rw [loopN_succ]; exact hs n _ (Nat.lt_succ_self n) (ih fun i x hi => hs i x (by omega))
theorem range_no {P : Nat → Bool} {n i : Nat} (h : i < n) (hp : P i = false) : (List.range n).all P = false := List.all_eq_false.2 ⟨i, List.mem_range.2 h, by simp [hp]⟩
theorem range_step {P : Nat → Bool} {i : Nat} (h : (List.range i).all P = true) (hp : P i = true) : (List.range (i + 1)).all P = true := by rw [List.range_succ]; simp [List.all_append, hp]; simpa using h
theorem range_fin {P : Nat → Bool} {n i : Nat} (h : (List.range i).all P = true) (h1 : n ≤ i) (h2 : i ≤ n) : (List.range n).all P = true := by obtain rfl : i = n := (by omega); exact h
def at1 (l : List Int) (i : Nat) : Int := l.getD i 0
def at2 (m : List (List Int)) (i k : Nat) : Int := (m.getD i []).getD k 0
def atB (m : List (List Bool)) (i k : Nat) : Bool := (m.getD i []).getD k false
theorem at1_of {l : List Int} {i : Nat} {c : Int} (h : l[i]? = some c) : at1 l i = c := by simp [at1, List.getD_eq_getElem?_getD, h]
theorem at2_of {m : List (List Int)} {i k : Nat} {r : List Int} {c : Int} (h : m[i]? = some r) (h2 : r[k]? = some c) : at2 m i k = c := by simp [at2, List.getD_eq_getElem?_getD, h, h2]
theorem atB_of {m : List (List Bool)} {i k : Nat} {r : List Bool} {c : Bool} (h : m[i]? = some r) (h2 : r[k]? = some c) : atB m i k = c := by simp [atB, List.getD_eq_getElem?_getD, h, h2]
def matB (m : List (List Int)) (i k : Nat) : Bool := inR (at2 m i k) (-1000) 1000 && decide (at2 m i k = at2 m k i) && (decide (i ≠ k) || decide (at2 m i k = 0))
def isMat (m : List (List Int)) : Bool := m.all (fun r => decide (r.length = m.length)) && (List.range m.length).all (fun i => (List.range m.length).all (matB m i)) && inR m.length 1 8
def partGo (top : Int) : List Int → Bool
  | [] => true
  | x :: l => inR x 0 (top + 1) && partGo (max top x) l
def isPart (l : List Int) : Bool := partGo (-1) l && inR l.length 1 8
def conB (n : Int) (c : Con) : Bool := inR c.a 0 (n - 1) && inR c.b 0 (n - 1) && decide (c.a < c.b)
def areCons (n : Int) (l : List Con) : Bool := l.all (conB n) && inR n 1 8 && decide (l.length ≤ 10)
def keepB (l : List Int) (c : Con) : Bool := inR c.a 0 (l.length - 1) && inR c.b 0 (l.length - 1) && (decide (at1 l c.a.toNat = at1 l c.b.toNat) == c.same)
def costB (m : List (List Int)) (l : List Int) (i k : Nat) : Int := if at2 m i k > 0 ∧ at1 l i ≠ at1 l k then at2 m i k else if at2 m i k < 0 ∧ at1 l i = at1 l k then - at2 m i k else 0
def costRow (m : List (List Int)) (l : List Int) (i : Nat) (s : Int) : Int := loopN i s fun k s => s + costB m l i k
def partCost (m : List (List Int)) (l : List Int) : Int := loopN l.length 0 (costRow m l)
def setB (m : List (List Bool)) (i k : Nat) (v : Bool) : List (List Bool) := m.set i ((m.getD i []).set k v)
def noLinks (n : Nat) : List (List Bool) := List.replicate n (List.replicate n false)
def spB (M : List (List Bool)) (x : Int) (a b : Nat) (o : List Int) : List Int := if at1 o a = x ∧ atB M a b = true then o.set b x else o
def spA (n : Nat) (M : List (List Bool)) (x : Int) (a : Nat) (o : List Int) : List Int := loopN n o (spB M x a)
def spS (n : Nat) (M : List (List Bool)) (x : Int) (_ : Nat) (o : List Int) : List Int := loopN n o (spA n M x)
def spread (n : Nat) (M : List (List Bool)) (x : Int) (o : List Int) : List Int := loopN n o (spS n M x)
def labStep (n : Nat) (M : List (List Bool)) (i : Nat) (s : List Int × Int) : List Int × Int := if 0 ≤ at1 s.1 i then s else (spread n M s.2 (s.1.set i s.2), s.2 + 1)
def labs (n : Nat) (M : List (List Bool)) : List Int × Int := loopN n (List.replicate n (-1), 0) (labStep n M)
def mustStep (M : List (List Bool)) (c : Con) : List (List Bool) := if c.same then setB (setB M c.a.toNat c.b.toNat true) c.b.toNat c.a.toNat true else M
def mustLinks (n : Nat) (l : List Con) : List (List Bool) := l.foldl mustStep (noLinks n)
def mustLabs (n : Nat) (l : List Con) : List Int := (labs n (mustLinks n l)).1
def confB (lab : List Int) (c : Con) : Bool := !c.same && decide (at1 lab c.a.toNat = at1 lab c.b.toNat)
def findConf (n : Nat) (l : List Con) : Int := if areCons n l then ix (confB (mustLabs n l)) l else -1
def consistent (n : Nat) (l : List Con) : Bool := areCons n l && decide (findConf n l < 0)
def posRow (m : List (List Int)) (i k : Nat) (M : List (List Bool)) : List (List Bool) := setB M i k (decide (at2 m i k > 0))
def posLinks (m : List (List Int)) : List (List Bool) := loopN m.length (noLinks m.length) fun i M => loopN m.length M (posRow m i)
def posLabs (m : List (List Int)) : List Int := (labs m.length (posLinks m)).1
def joinRow (a b : List Int) (i k : Nat) (M : List (List Bool)) : List (List Bool) := setB M i k (decide (at1 a i = at1 a k) || decide (at1 b i = at1 b k))
def joinLinks (a b : List Int) : List (List Bool) := loopN a.length (noLinks a.length) fun i M => loopN a.length M (joinRow a b i)
def joinLabs (a b : List Int) : List Int := (labs a.length (joinLinks a b)).1
def resCon (items : List Int) (c : Con) : Option Con := if 0 ≤ place items c.a ∧ 0 ≤ place items c.b then some ⟨place items c.a, place items c.b, c.same⟩ else none
def resCons (l : List Con) (items : List Int) : List Con := l.filterMap (resCon items)
def sqB (n : Nat) (M : List (List Bool)) : Prop := M.length = n ∧ ∀ r ∈ M, r.length = n
theorem sqB_no (n : Nat) : sqB n (noLinks n) := ⟨by simp [noLinks], fun r hr => by obtain ⟨_, rfl⟩ := List.mem_replicate.1 hr; simp⟩
theorem sqB_set {n i k : Nat} {M : List (List Bool)} {v : Bool} (h : sqB n M) : sqB n (setB M i k v) := by
  refine ⟨by simp [setB, h.1], fun r hr => ?_⟩
  rcases List.mem_or_eq_of_mem_set hr with h1 | rfl
  · exact h.2 r h1
  · by_cases hi : i < M.length
    · simp [List.getD_eq_getElem?_getD, hi]; exact h.2 _ (List.getElem_mem hi)
    · rw [setB, List.set_eq_of_length_le (by omega)] at hr
      exact h.2 _ hr
theorem sqB_row {n a : Nat} {M : List (List Bool)} (h : sqB n M) (ha : a < n) : ∃ r, M[a]? = some r ∧ r.length = n := by
  obtain ⟨r, hr⟩ := at_of (l := M) (i := a) (by rw [h.1]; exact ha)
  exact ⟨r, hr, h.2 r (List.mem_of_getElem? hr)⟩
theorem isMat_row {m : List (List Int)} {a : Nat} (h : isMat m = true) (ha : a < m.length) : ∃ r, m[a]? = some r ∧ r.length = m.length := by
  obtain ⟨r, hr⟩ := at_of (l := m) (i := a) ha
  simp only [isMat, Bool.and_eq_true, List.all_eq_true, decide_eq_true_eq] at h
  exact ⟨r, hr, h.1.1 r (List.mem_of_getElem? hr)⟩
theorem isMat_len {m : List (List Int)} (h : isMat m = true) : 1 ≤ m.length ∧ m.length ≤ 8 := by
  simp only [isMat, Bool.and_eq_true, decide_eq_true_eq] at h
  omega
theorem isMat_at {m : List (List Int)} (h : isMat m = true) (i k : Nat) : -1000 ≤ at2 m i k ∧ at2 m i k ≤ 1000 := by
  by_cases hi : i < m.length
  · by_cases hk : k < m.length
    · simp only [isMat, Bool.and_eq_true, List.all_eq_true, List.mem_range] at h
      have := h.1.2 i hi k hk
      simp only [matB, Bool.and_eq_true, decide_eq_true_eq] at this
      exact this.1.1
    · obtain ⟨r, h1, h2⟩ := isMat_row h hi
      simp [at2, List.getD_eq_getElem?_getD, h1, List.getElem?_eq_none (show r.length ≤ k by omega)]
  · simp [at2, List.getD_eq_getElem?_getD, List.getElem?_eq_none (show m.length ≤ i by omega)]
end Go.Pl
end
section
namespace Go.Pl
open Go.Dv
def partsPair (a b : List Int) : Bool := isPart a && isPart b && decide (a.length = b.length)
def joinP (a b : List Int) : List Int := if partsPair a b = true then joinLabs a b else []
def searchParts (m : List (List Int)) (cs : List Con) : List Int := if isMat m = true ∧ areCons m.length cs = true then joinP (posLabs m) (mustLabs m.length cs) else []
def lastIx (x : Int) (s : List Int) (n : Nat) : Int := loopN n (-1) fun j a => if at1 s j = x then (j : Int) else a
def canonStep (s : List Int × List Int) (x : Int) : List Int × List Int := if lastIx x s.2 s.2.length < 0 then (s.1 ++ [(s.2.length : Int)], s.2 ++ [x]) else (s.1 ++ [lastIx x s.2 s.2.length], s.2)
def canon (l : List Int) : List Int := (l.foldl canonStep ([], [])).1
theorem lastIx_le (x : Int) (s : List Int) (n : Nat) : -1 ≤ lastIx x s n ∧ lastIx x s n < n := by
  refine loopN_inv (fun n a => -1 ≤ a ∧ a < (n : Int)) (by omega) fun i a _ ha => ?_
  split <;> omega
theorem at2_get {m : List (List Int)} {i k : Nat} (h : isMat m = true) (hi : i < m.length) (hk : k < m.length) : ∃ r, m[i]? = some r ∧ r[k]? = some (at2 m i k) := by
  obtain ⟨r, h1, h2⟩ := isMat_row h hi
  obtain ⟨c, hc⟩ := at_of (l := r) (i := k) (by omega)
  exact ⟨r, h1, by rw [at2_of h1 hc]; exact hc⟩
theorem at1_get {l : List Int} {i : Nat} (hi : i < l.length) : l[i]? = some (at1 l i) := by
  obtain ⟨c, hc⟩ := at_of hi
  rw [at1_of hc]; exact hc
theorem setB_of {M : List (List Bool)} {i k : Nat} {v : Bool} {r : List Bool} (h : M[i]? = some r) : setB M i k v = M.set i (r.set k v) := by simp [setB, List.getD_eq_getElem?_getD, h]
theorem sqB_get {n a b : Nat} {M : List (List Bool)} (h : sqB n M) (ha : a < n) (hb : b < n) : ∃ r, M[a]? = some r ∧ r.length = n ∧ r[b]? = some (atB M a b) := by
  obtain ⟨r, h1, h2⟩ := sqB_row h ha
  obtain ⟨c, hc⟩ := at_of (l := r) (i := b) (by omega)
  exact ⟨r, h1, h2, by rw [atB_of h1 hc]; exact hc⟩
theorem areCons_n {n : Int} {l : List Con} (h : areCons n l = true) : 1 ≤ n ∧ n ≤ 8 ∧ l.length ≤ 10 ∧ ∀ c ∈ l, 0 ≤ c.a ∧ c.a < c.b ∧ c.b < n := by
  simp only [areCons, Bool.and_eq_true, decide_eq_true_eq, List.all_eq_true] at h
  refine ⟨h.1.2.1, h.1.2.2, h.2, fun c hc => ?_⟩
  have := h.1.1 c hc
  simp only [conB, Bool.and_eq_true, decide_eq_true_eq] at this
  omega
theorem spread_len {n : Nat} {M : List (List Bool)} {x : Int} {o : List Int} (h : o.length = n) : (spread n M x o).length = n := by
  refine loopN_inv (fun _ (o : List Int) => o.length = n) h fun a o _ ho => ?_
  refine loopN_inv (fun _ (o : List Int) => o.length = n) ho fun b o _ ho => ?_
  refine loopN_inv (fun _ (o : List Int) => o.length = n) ho fun c o _ ho => ?_
  unfold spB
  split <;> simp [ho]
theorem labs_len (n : Nat) (M : List (List Bool)) : (labs n M).1.length = n := by
  refine loopN_inv (fun _ (s : List Int × Int) => s.1.length = n) (by simp) fun i s _ hs => ?_
  unfold labStep
  split
  · exact hs
  · exact spread_len (by simp [hs])
theorem isPart_len {l : List Int} (h : isPart l = true) : 1 ≤ l.length ∧ l.length ≤ 8 := by
  simp only [isPart, Bool.and_eq_true, decide_eq_true_eq] at h
  omega
theorem partsPair_of {a b : List Int} (h : partsPair a b = true) : isPart a = true ∧ isPart b = true ∧ a.length = b.length := by
  simp only [partsPair, Bool.and_eq_true, decide_eq_true_eq] at h
  exact ⟨h.1.1, h.1.2, h.2⟩
end Go.Pl
end
section
namespace Go.Pl
open Go.Dv
theorem inI_tdiv {a b : Int} (ha : 0 ≤ a) (hb : 0 ≤ b) (h : a ≤ 9000000000000000000) : inI .i64 (a.tdiv b) := by
  rw [Int.tdiv_eq_ediv_of_nonneg ha]
  have h1 := Int.ediv_nonneg ha hb
  have h2 := Int.ediv_le_self b ha
  simp only [inI]
  omega
def ratio (n d : Int) : Int := if d = 0 then 1000 else (1000 * n).tdiv d
def combB (l w : List Int) (i : Nat) : Bool := inR (at1 l i) 0 1000 && inR (at1 w i) 0 1000
def combNum (l w : List Int) (n : Nat) : Int := loopN n 0 fun i s => s + at1 l i * at1 w i
def combDen (w : List Int) (n : Nat) : Int := loopN n 0 fun i s => s + at1 w i
def combine (l w : List Int) : Int := if l.length = w.length ∧ (List.range l.length).all (combB l w) = true then (if combDen w l.length = 0 then 0 else (combNum l w l.length).tdiv (combDen w l.length)) else 0
def pairScore (s : Sco) (f : List Int) : Int := if validSco s = true ∧ isVector f = true then combine f s.weights else 0
def testHolds (f : List Int) (t : Tst) : Bool := isVector f && inR t.feature 0 5 && (decide (t.threshold ≤ at1 f t.feature.toNat) != t.below)
def ruleHolds (f : List Int) (r : List Tst) : Bool := r.all (testHolds f) && isVector f
def firstRule (rs : List (List Tst)) (f : List Int) : Int := if validRules rs = true then ix (ruleHolds f) rs else -1
def pairWeight (rs : List (List Tst)) (s : Sco) (f : List Int) : Int := if validRules rs = true ∧ validSco s = true ∧ isVector f = true then (if 0 ≤ firstRule rs f then max 1 (pairScore s f - s.bias) else min (-1) (pairScore s f - s.bias)) else 0
theorem combNum_le {l w : List Int} (n : Nat) (h : ∀ i < n, combB l w i = true) : 0 ≤ combNum l w n ∧ combNum l w n ≤ 1000000 * n := by
  refine loopN_inv (fun n s => 0 ≤ s ∧ s ≤ 1000000 * (n : Int)) (by omega) fun i s hi hs => ?_
  have := h i hi
  simp only [combB, Bool.and_eq_true, decide_eq_true_eq] at this
  have h1 : 0 ≤ at1 l i * at1 w i := Int.mul_nonneg this.1.1 this.2.1
  have h2 : at1 l i * at1 w i ≤ 1000 * 1000 := Int.mul_le_mul this.1.2 this.2.2 this.2.1 (by omega)
  omega
theorem combDen_le {l w : List Int} (n : Nat) (h : ∀ i < n, combB l w i = true) : 0 ≤ combDen w n ∧ combDen w n ≤ 1000 * n := by
  refine loopN_inv (fun n s => 0 ≤ s ∧ s ≤ 1000 * (n : Int)) (by omega) fun i s hi hs => ?_
  have := h i hi
  simp only [combB, Bool.and_eq_true, decide_eq_true_eq] at this
  omega
theorem combine_le (l w : List Int) (hl : l.length ≤ 1048576) : 0 ≤ combine l w ∧ combine l w ≤ 1000000 * 1048576 := by
  unfold combine
  split
  · next h =>
    have h1 : ∀ i < l.length, combB l w i = true := fun i hi => List.all_eq_true.1 h.2 i (List.mem_range.2 hi)
    have a := combNum_le l.length h1
    have b := combDen_le l.length h1
    split
    · omega
    · rw [Int.tdiv_eq_ediv_of_nonneg a.1]
      refine ⟨Int.ediv_nonneg a.1 b.1, ?_⟩
      have := Int.ediv_le_self (combDen w l.length) a.1
      omega
  · omega
theorem pairScore_le (s : Sco) (f : List Int) (hl : f.length ≤ 1048576) : 0 ≤ pairScore s f ∧ pairScore s f ≤ 1000000 * 1048576 := by
  unfold pairScore
  split
  · exact combine_le _ _ hl
  · omega
def gat (g : List (List Int)) (i : Nat) : List Int := g.getD i []
theorem gat_of {g : List (List Int)} {i : Nat} {r : List Int} (h : g[i]? = some r) : gat g i = r := by simp [gat, List.getD_eq_getElem?_getD, h]
def joinRest (g : List (List Int)) (a b : Int) : List (List Int) := loopN g.length [] fun i o => if (i : Int) ≠ a ∧ (i : Int) ≠ b then o ++ [gat g i] else o
def joinG (g : List (List Int)) (x y : Int) : List (List Int) :=
  if 0 ≤ grpIx g x ∧ grpIx g x = grpIx g y then joinRest g (grpIx g x) (grpIx g y) ++ [gat g (grpIx g x).toNat]
  else joinRest g (grpIx g x) (grpIx g y) ++ [(if 0 ≤ grpIx g x then gat g (grpIx g x).toNat else [x]) ++ (if 0 ≤ grpIx g y then gat g (grpIx g y).toNat else [y])]
def sames (l : List Ver) : List Ver := l.filter fun v => v.same
def apart (l : List Ver) : List Ver := l.filter fun v => !v.same
def joined (l : List Ver) : List (List Int) := (sames l).foldl (fun g v => joinG g v.a v.b) []
end Go.Pl
end
section
namespace Go.Pl
open Go.Dv
def lowB (c : UInt8) : UInt8 := if 65 ≤ c.toNat ∧ c.toNat ≤ 90 then c + 32 else c
def foldS (s : Str) : Str := s.map lowB
def wordB (c : UInt8) : Bool := (decide (97 ≤ c.toNat) && decide (c.toNat ≤ 122)) || (decide (65 ≤ c.toNat) && decide (c.toNat ≤ 90)) || (decide (48 ≤ c.toNat) && decide (c.toNat ≤ 57))
def stripB (c : UInt8) : Str := if wordB c = true ∨ c.toNat = 32 then [c] else if c.toNat ≠ 39 then [32] else []
def stripS (s : Str) : Str := s.flatMap stripB
def colStep (s : Str) (i : Nat) (o : Str) : Str := if (s.getD i 0).toNat = 32 then o else (if 0 < o.length ∧ (s.getD (i - 1) 0).toNat = 32 then o ++ [32] else o) ++ [s.getD i 0]
def collapse (s : Str) : Str := loopN s.length [] (colStep s)
def normal (s : Str) : Str := collapse (stripS (foldS s))
theorem lowB_up {c : UInt8} (h1 : 65 ≤ c.toNat) (h2 : c.toNat ≤ 90) : (lowB c).toNat = c.toNat + 32 := by
  unfold lowB
  rw [if_pos ⟨h1, h2⟩, UInt8.toNat_add]
  simp; omega
theorem lowB_no {c : UInt8} (h : ¬ (65 ≤ c.toNat ∧ c.toNat ≤ 90)) : lowB c = c := if_neg h
theorem foldS_len (s : Str) : (foldS s).length = s.length := by simp [foldS]
theorem stripB_len (c : UInt8) : (stripB c).length ≤ 1 := by
  unfold stripB
  split <;> simp
  split <;> simp
theorem stripS_len (s : Str) : (stripS s).length ≤ s.length := by
  unfold stripS
  induction s with
  | nil => simp
  | cons c s ih => have := stripB_len c; simp only [List.flatMap_cons, List.length_append, List.length_cons]; omega
theorem collapse_len (s : Str) : (collapse s).length ≤ 2 * s.length := by
  refine loopN_inv (fun i (o : Str) => o.length ≤ 2 * i) (by simp) fun i o _ ho => ?_
  unfold colStep
  split
  · omega
  · split <;> simp <;> omega
theorem flatMap_snoc {α β : Type} (f : α → List β) {l : List α} {i : Nat} {c : α} (h : l[i]? = some c) : (l.take (i + 1)).flatMap f = (l.take i).flatMap f ++ f c := by rw [take_snoc h]; simp
theorem getD_of {s : Str} {i : Nat} {c : UInt8} (h : s[i]? = some c) : s.getD i 0 = c := by simp [List.getD_eq_getElem?_getD, h]
end Go.Pl
namespace Go.Pl
open Go.Dv
def cutA (c : UInt8) (p : Str) : Str → List Str
  | [] => [p]
  | d :: s => if d = c then p :: cutA c [] s else cutA c (p ++ [d]) s
def cutS (c : UInt8) (s : Str) : List Str := cutA c [] s
theorem cutA_len (c : UInt8) : ∀ (s p : Str), (cutA c p s).length ≤ s.length + 1 ∧ ∀ x ∈ cutA c p s, x.length ≤ p.length + s.length
  | [], p => by simp [cutA]
  | d :: s, p => by
    unfold cutA
    split
    · have ⟨h1, h2⟩ := cutA_len c s []
      refine ⟨by simp; omega, fun x hx => ?_⟩
      rcases List.mem_cons.1 hx with rfl | hx
      · omega
      · have := h2 x hx; simp at this ⊢; omega
    · have ⟨h1, h2⟩ := cutA_len c s (p ++ [d])
      refine ⟨by simp; omega, fun x hx => ?_⟩
      have := h2 x hx; simp at this ⊢; omega
theorem cutS_len (c : UInt8) (s : Str) : (cutS c s).length ≤ s.length + 1 ∧ ∀ x ∈ cutS c s, x.length ≤ s.length := by
  have ⟨h1, h2⟩ := cutA_len c s []
  exact ⟨h1, fun x hx => by have := h2 x hx; simpa using this⟩
def codeOf (d : Nat) : Int := if d = 98 ∨ d = 102 ∨ d = 112 ∨ d = 118 then 1 else if d = 99 ∨ d = 103 ∨ d = 106 ∨ d = 107 ∨ d = 113 ∨ d = 115 ∨ d = 120 ∨ d = 122 then 2 else if d = 100 ∨ d = 116 then 3 else if d = 108 then 4 else if d = 109 ∨ d = 110 then 5 else if d = 114 then 6 else if d = 97 ∨ d = 101 ∨ d = 105 ∨ d = 111 ∨ d = 117 ∨ d = 121 then 0 else if d = 104 ∨ d = 119 then -1 else -2
def soundCode (c : UInt8) : Int := codeOf (lowB c).toNat
theorem soundCode_le (c : UInt8) : -2 ≤ soundCode c ∧ soundCode c ≤ 6 := by
  unfold soundCode codeOf
  repeat (first | omega | split)
def sxStep (s : Str × Int) (c : UInt8) : Str × Int := if s.1 = [] then ([lowB c], soundCode c) else (if soundCode c > 0 ∧ soundCode c ≠ s.2 ∧ s.1.length < 4 then s.1 ++ [UInt8.ofNat (48 + soundCode c).toNat] else s.1, if 0 ≤ soundCode c then soundCode c else s.2)
def pad4 (o : Str) : Str := o ++ List.replicate (4 - o.length) 48
def soundex (s : Str) : Str := if s = [] ∨ s.all (fun c => decide (soundCode c ≠ -2)) = false then [] else pad4 (s.foldl sxStep ([], 0)).1
end Go.Pl
end
section
namespace Go.Pl
open Go.Dv
def tokAt (l : List Str) (x : Str) : Nat := (l.takeWhile fun y => ltL y x).length
def tokPut (l : List Str) (x : Str) (again : Bool) : List Str := if !again && decide (l[tokAt l x]? = some x) then l else l.take (tokAt l x) ++ [x] ++ l.drop (tokAt l x)
theorem tok_le (l : List Str) (x : Str) : tokAt l x ≤ l.length := by
  unfold tokAt
  exact (List.takeWhile_prefix _).length_le
theorem tokPut_len (l : List Str) (x : Str) (b : Bool) : (tokPut l x b).length ≤ l.length + 1 := by
  have := tok_le l x
  unfold tokPut
  split
  · omega
  · simp; omega
def tokStep (t : List Str) (x : Str) : List Str := if x ≠ [] then tokPut t x false else t
def tokens (s : Str) : List Str := (cutS 32 (normal s)).foldl tokStep []
theorem tokStep_len (t : List Str) (x : Str) : (tokStep t x).length ≤ t.length + 1 := by
  unfold tokStep
  split
  · exact tokPut_len _ _ _
  · omega
def keyStep (t : List Str) (x : Str) : List Str := if soundex x ≠ [] then tokPut t (soundex x) false else t
def soundKeys (s : Str) : List Str := (tokens s).foldl keyStep []
def tokB (c : Str) : Bool := decide (c ≠ []) && c.all wordB && decide (foldS c = c)
def isTokSet (l : List Str) : Bool := l.all tokB && adj ltL l
def tokSets (a b : List Str) : Bool := isTokSet a && isTokSet b
def comStep (b : List Str) (t : List Str) (x : Str) : List Str := if b.any (fun y => decide (y = x)) = true then tokPut t x false else t
def common (a b : List Str) : List Str := a.foldl (comStep b) []
def uniStep (t : List Str) (x : Str) : List Str := tokPut t x false
def unite (a b : List Str) : List Str := b.foldl uniStep (a.foldl uniStep [])
def jaccard (a b : List Str) : Int := if tokSets a b = true then ratio (common a b).length (unite a b).length else 0
def setScore (a b : List Str) : Int := if a = [] ∨ b = [] then 0 else jaccard a b
def numScore (a b c : Int) : Int := if inR a 0 9999 = true ∧ inR b 0 9999 = true ∧ inR c 1 9999 = true then (if max a b - min a b ≥ c then 0 else (1000 * (c - (max a b - min a b))).tdiv c) else 0
def digits (s : Str) : Str := s.filter fun c => decide (48 ≤ c.toNat ∧ c.toNat ≤ 57)
theorem foldl_len {α β : Type} (f : List α → β → List α) (h : ∀ t x, (f t x).length ≤ t.length + 1) : ∀ (l : List β) (t : List α), (l.foldl f t).length ≤ t.length + l.length
  | [], t => by simp
  | x :: l, t => by have := foldl_len f h l (f t x); have := h t x; simp only [List.foldl_cons, List.length_cons]; omega
end Go.Pl
end
section
namespace Go.Pl
open Go.Dv
def chr (s : Str) (i : Nat) : UInt8 := s.getD i 0
theorem chr_get {s : Str} {i : Nat} (h : i < s.length) : s[i]? = some (chr s i) := by
  obtain ⟨c, hc⟩ := at_of h
  rw [chr, getD_of hc]; exact hc
def edOne (x y : Str) (T : List (List Int)) (i : Nat) (r : List Int) (j : Nat) : Int :=
  if i = 0 then j else if j = 0 then i else if chr x (i - 1) = chr y (j - 1) then at2 T (i - 1) (j - 1) else 1 + min (min (at2 T (i - 1) j) (at1 r (j - 1))) (at2 T (i - 1) (j - 1))
def swapB (x y : Str) (tr : Bool) (i j : Nat) : Bool := tr && decide (i > 1) && decide (j > 1) && decide (chr x (i - 1) = chr y (j - 2)) && decide (chr x (i - 2) = chr y (j - 1))
def edTwo (x y : Str) (tr : Bool) (T : List (List Int)) (i j : Nat) (r : List Int) : List Int := if swapB x y tr i j = true then r.set j (min (at1 r j) (at2 T (i - 2) (j - 2) + 1)) else r
def edStep (x y : Str) (tr : Bool) (T : List (List Int)) (i j : Nat) (r : List Int) : List Int := edTwo x y tr T i j (r.set j (edOne x y T i r j))
def edRow (x y : Str) (tr : Bool) (i : Nat) (T : List (List Int)) : List Int := loopN (y.length + 1) (List.replicate (y.length + 1) 0) (edStep x y tr T i)
def edTable (x y : Str) (tr : Bool) : List (List Int) := loopN (x.length + 1) [] fun i T => T ++ [edRow x y tr i T]
def edOk (n k i : Nat) (r : List Int) : Prop := r.length = n ∧ ∀ j < k, 0 ≤ at1 r j ∧ at1 r j ≤ i + j
def tabOk (n : Nat) (T : List (List Int)) : Prop := ∀ i < T.length, edOk n n i (T.getD i [])
theorem tabOk_at {n : Nat} {T : List (List Int)} (h : tabOk n T) {i j : Nat} (hi : i < T.length) (hj : j < n) : ∃ r, T[i]? = some r ∧ r[j]? = some (at2 T i j) ∧ 0 ≤ at2 T i j ∧ at2 T i j ≤ i + j := by
  obtain ⟨r, hr⟩ := at_of hi
  have h1 := h i hi
  rw [List.getD_eq_getElem?_getD, hr] at h1
  obtain ⟨h2, h3⟩ := h1
  simp only [Option.getD_some] at h2 h3
  have h4 := at1_get (l := r) (i := j) (by omega)
  have h5 : at2 T i j = at1 r j := by simp [at2, at1, List.getD_eq_getElem?_getD, hr]
  exact ⟨r, hr, by rw [h5]; exact h4, by rw [h5]; exact (h3 j hj).1, by rw [h5]; exact (h3 j hj).2⟩
theorem at1_set {r : List Int} {j : Nat} {v : Int} (k : Nat) (hj : j < r.length) : at1 (r.set j v) k = if j = k then v else at1 r k := by
  simp only [at1, List.getD_eq_getElem?_getD, List.getElem?_set]
  by_cases h : j = k
  · subst h; simp [hj]
  · simp [h]
theorem edOk_set {n k i : Nat} {r : List Int} {v : Int} (h : edOk n k i r) (hk : k < n) (h1 : 0 ≤ v) (h2 : v ≤ i + k) : edOk n (k + 1) i (r.set k v) := by
  refine ⟨by simp [h.1], fun j hj => ?_⟩
  rw [at1_set _ (by rw [h.1]; exact hk)]
  split
  · omega
  · exact h.2 j (by omega)
theorem tabOk_snoc {n : Nat} {T : List (List Int)} {r : List Int} (h : tabOk n T) (hr : edOk n n T.length r) : tabOk n (T ++ [r]) := by
  intro i hi
  simp only [List.length_append, List.length_singleton] at hi
  rw [List.getD_eq_getElem?_getD]
  by_cases h1 : i < T.length
  · rw [List.getElem?_append_left h1]
    have := h i h1
    rwa [List.getD_eq_getElem?_getD] at this
  · obtain rfl : i = T.length := by omega
    simp; exact hr
theorem ed_le {x y : Str} {T : List (List Int)} {r : List Int} {i j n : Nat} (hT : T.length = i) (h4 : tabOk n T) (hr : edOk n j i r) (hj : j < n) (hi : 0 ≤ (i : Int)) : 0 ≤ edOne x y T i r j ∧ edOne x y T i r j ≤ i + j := by
  unfold edOne
  split
  · omega
  · split
    · omega
    · obtain ⟨q, hq, hqj, hb1, hb2⟩ := tabOk_at h4 (i := i - 1) (j := j - 1) (by omega) (by omega)
      obtain ⟨q', hq', hqk, hb3, hb4⟩ := tabOk_at h4 (i := i - 1) (j := j) (by omega) (by omega)
      have hb5 := hr.2 (j - 1) (by omega)
      split
      · omega
      · omega
theorem edStep_ok {x y : Str} {tr : Bool} {T : List (List Int)} {r : List Int} {i j n : Nat} (hT : T.length = i) (h4 : tabOk n T) (hr : edOk n j i r) (hj : j < n) : edOk n (j + 1) i (edStep x y tr T i j r) := by
  have hve := ed_le (x := x) (y := y) hT h4 hr hj (by omega)
  have h1 := edOk_set hr hj hve.1 hve.2
  unfold edStep edTwo
  generalize r.set j (edOne x y T i r j) = r' at h1 ⊢
  split
  · next hw =>
    simp only [swapB, Bool.and_eq_true, decide_eq_true_eq] at hw
    obtain ⟨q, hq, hqj, hb1, hb2⟩ := tabOk_at h4 (i := i - 2) (j := j - 2) (by omega) (by omega)
    have hb3 := h1.2 j (by omega)
    exact edOk_set ⟨h1.1, fun j' hj' => h1.2 j' (by omega)⟩ hj (by omega) (by omega)
  · exact h1
theorem edTable_ok (x y : Str) (tr : Bool) : (edTable x y tr).length = x.length + 1 ∧ tabOk (y.length + 1) (edTable x y tr) := by
  refine loopN_inv (fun i (T : List (List Int)) => T.length = i ∧ tabOk (y.length + 1) T) ⟨rfl, fun i hi => by simp at hi⟩ fun i T hi ⟨h1, h2⟩ => ⟨by simp [h1], tabOk_snoc h2 ?_⟩
  rw [h1]
  exact loopN_inv (fun j r => edOk (y.length + 1) j i r) ⟨by simp, by omega⟩ fun j r hj hr => edStep_ok h1 h2 hr hj
def edFits (x y : Str) : Bool := decide (x.length ≤ 40) && decide (y.length ≤ 40)
def edDist (x y : Str) : Int := if edFits x y = true then at2 (edTable x y false) x.length y.length else -1
theorem edDist_le (x y : Str) : -1 ≤ edDist x y ∧ edDist x y ≤ 80 := by
  unfold edDist
  split
  · next h =>
    simp only [edFits, Bool.and_eq_true, decide_eq_true_eq] at h
    have h1 := edTable_ok x y false
    obtain ⟨q, hq, hqj, hb1, hb2⟩ := tabOk_at h1.2 (i := x.length) (j := y.length) (by omega) (by omega)
    omega
  · omega
def edScore (x y : Str) : Int := if edDist x y < 0 then 0 else if max (x.length : Int) y.length = 0 then 1000 else (1000 * (max (x.length : Int) y.length - edDist x y)).tdiv (max (x.length : Int) y.length)
def textScore (x y : Str) : Int := if normal x = [] ∨ normal y = [] then 0 else edScore (normal x) (normal y)
theorem inI_tdivs {a b : Int} (h1 : -9000000000000000000 ≤ a) (h : a ≤ 9000000000000000000) : inI .i64 (a.tdiv b) := by
  have := Int.natAbs_tdiv_le_natAbs a b
  simp only [inI]
  omega
end Go.Pl
namespace Go.Pl
open Go.Dv
def natDec (m : Nat) : Str := if h : m = 0 then [] else natDec (m / 10) ++ [UInt8.ofNat (48 + m % 10)]
termination_by m
decreasing_by omega
theorem natDec_pos {m : Nat} (h : m ≠ 0) : natDec m = natDec (m / 10) ++ [UInt8.ofNat (48 + m % 10)] := by rw [natDec, dif_neg h]
theorem natDec_zero : natDec 0 = [] := by rw [natDec]; simp
def fmtI (n : Int) : Str := if n = 0 then [48] else (if n < 0 then [45] else []) ++ natDec n.natAbs
theorem natDec_len (m k : Nat) (h : m < 10 ^ k) : (natDec m).length ≤ k := by
  induction k generalizing m with
  | zero =>
    have : m = 0 := by simpa using h
    subst this; simp [natDec_zero]
  | succ k ih =>
    by_cases h0 : m = 0
    · subst h0; simp [natDec_zero]
    · rw [natDec_pos h0]
      have := ih (m / 10) (by rw [Nat.pow_succ] at h; omega)
      simp; omega
end Go.Pl
namespace Go.Pl
open Go.Dv
def pStep (st : Int × Int) (c : UInt8) : Int × Int := if 48 ≤ c.toNat ∧ c.toNat ≤ 57 then (st.1 * 10 + (c.toNat - 48), st.2 + 1) else st
def parseN (s : Str) : Int × Int := (s.take 11).foldl pStep (0, 0)
def parseV (s : Str) : Int := if s[0]? = some 45 then - (parseN s).1 else (parseN s).1
def parseB (s : Str) : Bool := decide ((parseN s).2 ≤ 9) && decide (s.length ≤ 10) && decide (fmtI (parseV s) = s)
def parseYear (s : Str) : Int := if parseB s = true ∧ inR (parseV s) 1000 9999 = true then parseV s else 0
end Go.Pl
namespace Go.Pl
open Go.Dv
def shared : Str → Str → Nat
  | a :: s, b :: t => if a = b then shared s t + 1 else 0
  | _, _ => 0
def phoneOf (p q : Str) : Int :=
  if p.length < 4 ∨ q.length < 4 ∨ shared p.reverse q.reverse < 4 then 0
  else if shared p.reverse q.reverse = p.length ∧ shared p.reverse q.reverse = q.length then 1000
  else if shared p.reverse q.reverse ≥ 7 ∨ shared p.reverse q.reverse = p.length ∨ shared p.reverse q.reverse = q.length then 800 else 400
def phoneScore (x y : Str) : Int := phoneOf (digits x) (digits y)
theorem rev_get {s : Str} {i : Nat} (h : i < s.length) : s[s.length - 1 - i]? = some (chr s.reverse i) := by
  have h1 := chr_get (s := s.reverse) (i := i) (by simpa using h)
  rw [← h1, List.getElem?_reverse h]
theorem shared_step {p q : Str} {i : Nat} (hp : i < p.length) (hq : i < q.length) : shared (p.drop i) (q.drop i) = if chr p i = chr q i then shared (p.drop (i + 1)) (q.drop (i + 1)) + 1 else 0 := by
  rw [List.drop_eq_getElem_cons hp, List.drop_eq_getElem_cons hq, shared]
  have h1 := chr_get hp
  have h2 := chr_get hq
  rw [List.getElem?_eq_getElem hp] at h1
  rw [List.getElem?_eq_getElem hq] at h2
  rw [Option.some.inj h1, Option.some.inj h2]
theorem shared_nil {p q : Str} {i : Nat} (h : p.length ≤ i ∨ q.length ≤ i) : shared (p.drop i) (q.drop i) = 0 := by
  rcases h with h | h
  · rw [List.drop_eq_nil_of_le h]; unfold shared; rfl
  · rw [List.drop_eq_nil_of_le h]; cases p.drop i <;> rfl
end Go.Pl
end
section
namespace Go.Pl
open Go.Dv
def fld (r : Rec) (i : Nat) : Str := r.fields.getD i []
def yearScore (x y : Str) : Int := if 0 < parseYear x ∧ 0 < parseYear y then numScore (parseYear x) (parseYear y) 10 else 0
def feats (a b : Rec) : List Int := [textScore (fld a 0) (fld b 0), setScore (tokens (fld a 0)) (tokens (fld b 0)), setScore (soundKeys (fld a 0)) (soundKeys (fld b 0)), textScore (fld a 1) (fld b 1), yearScore (fld a 2) (fld b 2), phoneScore (fld a 3) (fld b 3)]
def recAt (l : List Rec) (i : Nat) : Rec := l.getD i default
theorem recAt_get {l : List Rec} {i : Nat} (h : i < l.length) : l[i]? = some (recAt l i) := by simp [recAt, List.getD_eq_getElem?_getD, h]
def weightAt (l : List Rec) (rs : List (List Tst)) (s : Sco) (i k : Nat) : Int := if i = k then 0 else pairWeight rs s (feats (recAt l (min i k)) (recAt l (max i k)))
def weightRow (l : List Rec) (rs : List (List Tst)) (s : Sco) (i : Nat) : List Int := (List.range l.length).map (weightAt l rs s i)
def weights (l : List Rec) (rs : List (List Tst)) (s : Sco) : List (List Int) := (List.range l.length).map (weightRow l rs s)
theorem range_map {α : Type} (f : Nat → α) (k : Nat) : (List.range (k + 1)).map f = (List.range k).map f ++ [f k] := by simp [List.range_succ]
theorem validRec_fld {r : Rec} (h : validRec r = true) : r.fields.length = 4 ∧ ∀ i, i < 4 → r.fields[i]? = some (fld r i) ∧ (fld r i).length ≤ 40 := by
  simp only [validRec, Bool.and_eq_true, decide_eq_true_eq, List.all_eq_true] at h
  refine ⟨h.2, fun i hi => ?_⟩
  have h1 : r.fields[i]? = some (fld r i) := by simp [fld, List.getD_eq_getElem?_getD, h.2, hi]
  refine ⟨h1, ?_⟩
  have h2 := h.1.1.1.1 _ (List.mem_of_getElem? h1)
  simp only [isField, isText, Bool.and_eq_true, decide_eq_true_eq] at h2
  exact h2.2.2
def backs {α : Type} (p : α → Bool) (l : List α) : Nat := (l.reverse.takeWhile p).length
def insBack {α : Type} (p : α → Bool) (l : List α) (v : α) : List α := l.take (l.length - backs p l) ++ [v] ++ l.drop (l.length - backs p l)
theorem backs_le {α : Type} (p : α → Bool) (l : List α) : backs p l ≤ l.length := by
  have := (List.takeWhile_prefix (p := p) (l := l.reverse)).length_le
  simpa [backs] using this
theorem insBack_len {α : Type} (p : α → Bool) (l : List α) (v : α) : (insBack p l v).length = l.length + 1 := by
  have := backs_le p l
  simp [insBack]; omega
theorem backs_at {α : Type} {p : α → Bool} {l : List α} {k : Nat} (hk : k ≤ l.length) (h1 : ∀ j, k ≤ j → (h : j < l.length) → p l[j] = true) (h2 : k = 0 ∨ ∃ c, l[k - 1]? = some c ∧ p c = false) : l.length - backs p l = k := by
  have h3 : l = l.take k ++ l.drop k := (List.take_append_drop k l).symm
  have h4 : l.reverse = (l.drop k).reverse ++ (l.take k).reverse := by rw [← List.reverse_append, ← h3]
  have h5 : ∀ x ∈ (l.drop k).reverse, p x = true := by
    intro x hx
    rw [List.mem_reverse] at hx
    obtain ⟨j, hj⟩ := List.getElem?_of_mem hx
    rw [List.getElem?_drop] at hj
    have hlt := (List.getElem?_eq_some_iff.1 hj).1
    have := h1 (k + j) (by omega) hlt
    rw [List.getElem?_eq_getElem hlt] at hj
    rwa [Option.some.inj hj] at this
  have h6 : ((l.take k).reverse).takeWhile p = [] := by
    rcases h2 with rfl | ⟨c, hc, hp⟩
    · simp
    · by_cases hk0 : k = 0
      · subst hk0; simp
      · have h7 : l.take k = l.take (k - 1) ++ [c] := by
          have := take_snoc hc
          rwa [show k - 1 + 1 = k by omega] at this
        rw [h7]
        simp [List.takeWhile_cons, hp]
  have h8 : backs p l = (l.drop k).length := by
    unfold backs
    rw [h4, List.takeWhile_append_of_pos h5, h6]
    simp
  rw [h8]
  simp
  omega
def laterB (v u : Ver) : Bool := decide (0 < cmpVer u v)
def sortVer (l : List Ver) : List Ver := l.foldl (fun out v => insBack (laterB v) out v) []
def olderB (v u : Ver) : Bool := decide (u.time < v.time)
def byTime (l : List Ver) : List Ver := l.foldl (fun out v => insBack (olderB v) out v) []
theorem foldl_ins_len {α : Type} (p : α → α → Bool) : ∀ (l t : List α), (l.foldl (fun out v => insBack (p v) out v) t).length = t.length + l.length
  | [], t => by simp
  | x :: l, t => by rw [List.foldl_cons, foldl_ins_len p l, insBack_len]; simp; omega
def addAt (l : List Ver) (v : Ver) : Nat := (l.takeWhile fun u => decide (cmpVer u v < 0)).length
def addOk (l : List Ver) (v : Ver) : Bool := areVers l && validVer v && !(l.any fun y => decide (y = v)) && decide (l.length ≠ 8)
def addVer (l : List Ver) (v : Ver) : List Ver := if addOk l v = true then l.take (addAt l v) ++ [v] ++ l.drop (addAt l v) else l
theorem addAt_le (l : List Ver) (v : Ver) : addAt l v ≤ l.length := (List.takeWhile_prefix _).length_le
theorem takeWhile_at {α : Type} {p : α → Bool} {l : List α} {k : Nat} (hk : k ≤ l.length) (h1 : (l.take k).all p = true) (h2 : k = l.length ∨ ∃ c, l[k]? = some c ∧ p c = false) : (l.takeWhile p).length = k := by
  have h3 : l = l.take k ++ l.drop k := (List.take_append_drop k l).symm
  have h5 : ∀ x ∈ l.take k, p x = true := List.all_eq_true.1 h1
  have h6 : (l.drop k).takeWhile p = [] := by
    rcases h2 with rfl | ⟨c, hc, hp⟩
    · simp
    · have hlt := (List.getElem?_eq_some_iff.1 hc).1
      rw [List.drop_eq_getElem_cons hlt]
      rw [List.getElem?_eq_getElem hlt] at hc
      rw [Option.some.inj hc]
      simp [List.takeWhile_cons, hp]
  rw [h3, List.takeWhile_append_of_pos h5, h6]
  simp; omega
def takeMust (cannot : List Ver) (st : List (List Int) × List Ver × List Ver) (v : Ver) : List (List Int) × List Ver × List Ver :=
  if cannot.all (apartB (joinG st.1 v.a v.b)) = true then (joinG st.1 v.a v.b, addVer (sortVer st.2.1) v, st.2.2) else (st.1, st.2.1, st.2.2 ++ [v])
def splitSt (l : List Ver) : List (List Int) × List Ver × List Ver := (byTime (sames (curVers l))).foldl (takeMust (apart (curVers l))) ([], apart (curVers l), [])
def keptOf (l : List Ver) : List Ver := sortVer (splitSt l).2.1
def refusedOf (l : List Ver) : List Ver := sortVer (splitSt l).2.2
def nextIx (g : List (List Int)) (items : List Int) (i : Nat) : Option Nat := (List.range items.length).find? fun k => decide (i < k) && decide (grpIx g (at1 items k) = grpIx g (at1 items i))
def sameCon (g : List (List Int)) (items : List Int) (i : Nat) : List Con := if 0 ≤ grpIx g (at1 items i) then (match nextIx g items i with | some k => [⟨i, k, true⟩] | none => []) else []
def sameCons (g : List (List Int)) (items : List Int) : List Con := (List.range items.length).flatMap (sameCon g items)
def storeCons (kept : List Ver) (items : List Int) : List Con := sameCons (joined kept) items ++ verCons (apart kept) items
theorem sameCon_len (g : List (List Int)) (items : List Int) (i : Nat) : (sameCon g items i).length ≤ 1 := by
  unfold sameCon
  split
  · split <;> simp
  · simp
end Go.Pl
end
section
namespace Go.Pl
open Go.Dv
def digB (c : UInt8) : Prop := 48 ≤ c.toNat ∧ c.toNat ≤ 57
theorem digB_of (m : Nat) : digB (UInt8.ofNat (48 + m % 10)) ∧ (UInt8.ofNat (48 + m % 10)).toNat = 48 + m % 10 := by
  have h : (UInt8.ofNat (48 + m % 10)).toNat = 48 + m % 10 := by rw [UInt8.toNat_ofNat']; omega
  exact ⟨⟨by omega, by omega⟩, h⟩
theorem natDec_dig : ∀ (m : Nat), ∀ c ∈ natDec m, digB c := by
  intro m
  induction m using Nat.strongRecOn with
  | ind m ih =>
    intro c hc
    by_cases h0 : m = 0
    · subst h0; rw [natDec_zero] at hc; cases hc
    · rw [natDec_pos h0] at hc
      rcases List.mem_append.1 hc with hc | hc
      · exact ih (m / 10) (by omega) c hc
      · obtain rfl := List.mem_singleton.1 hc
        exact (digB_of m).1
theorem fmtI_dig {n : Int} {c : UInt8} (hc : c ∈ fmtI n) : c = 45 ∨ digB c := by
  unfold fmtI at hc
  split at hc
  · obtain rfl := List.mem_singleton.1 hc
    exact .inr ⟨by decide, by decide⟩
  · rcases List.mem_append.1 hc with hc | hc
    · split at hc
      · exact .inl (List.mem_singleton.1 hc)
      · cases hc
    · exact .inr (natDec_dig _ _ hc)
theorem fmtI_no {n : Int} {c : UInt8} (h1 : c ≠ 45) (h2 : ¬ digB c) : c ∉ fmtI n := fun h => (fmtI_dig h).elim h1 h2
theorem pStep_dig {st : Int × Int} {c : UInt8} (h : digB c) : pStep st c = (st.1 * 10 + (c.toNat - 48), st.2 + 1) := if_pos h
theorem natDec_fold (m : Nat) : (natDec m).foldl pStep (0, 0) = ((m : Int), ((natDec m).length : Int)) := by
  induction m using Nat.strongRecOn with
  | ind m ih =>
    by_cases h0 : m = 0
    · subst h0; rw [natDec_zero]; rfl
    · rw [natDec_pos h0, List.foldl_append, ih (m / 10) (by omega), List.foldl_cons, List.foldl_nil, pStep_dig (digB_of m).1, (digB_of m).2]
      simp only [List.length_append, List.length_cons, List.length_nil]
      congr 1
      · omega
theorem natDec_ne {m : Nat} (h : m ≠ 0) : natDec m ≠ [] := by rw [natDec_pos h]; simp
theorem fmtI_ne (n : Int) : fmtI n ≠ [] := by
  unfold fmtI
  split
  · simp
  · have := natDec_ne (m := n.natAbs) (by omega)
    simp [this]
theorem parse_fmt {n : Int} (h : -999999999 ≤ n ∧ n ≤ 999999999) : parseB (fmtI n) = true ∧ parseV (fmtI n) = n := by
  have hl := natDec_len n.natAbs 9 (by omega)
  have key : parseV (fmtI n) = n ∧ (parseN (fmtI n)).2 ≤ 9 ∧ (fmtI n).length ≤ 10 := by
    by_cases h0 : n = 0
    · subst h0; decide
    · by_cases hn : n < 0
      · have hf : fmtI n = 45 :: natDec n.natAbs := by rw [fmtI, if_neg h0, if_pos hn]; rfl
        have hp : parseN (fmtI n) = ((n.natAbs : Int), ((natDec n.natAbs).length : Int)) := by
          rw [parseN, hf, List.take_of_length_le (by simp; omega), List.foldl_cons, show pStep (0, 0) 45 = (0, 0) from if_neg (by decide), natDec_fold]
        refine ⟨?_, by rw [hp]; simp; omega, by rw [hf]; simp; omega⟩
        rw [parseV, if_pos (by rw [hf]; rfl), hp]
        simp only
        omega
      · have hf : fmtI n = natDec n.natAbs := by rw [fmtI, if_neg h0, if_neg hn]; rfl
        have hp : parseN (fmtI n) = ((n.natAbs : Int), ((natDec n.natAbs).length : Int)) := by
          rw [parseN, hf, List.take_of_length_le (by omega), natDec_fold]
        refine ⟨?_, by rw [hp]; simp; omega, by rw [hf]; omega⟩
        rw [parseV, if_neg, hp]
        · simp only
          omega
        · rw [hf]
          intro h1
          have := natDec_dig _ _ (List.mem_of_getElem? h1)
          exact absurd this.1 (by decide)
  refine ⟨?_, key.1⟩
  simp only [parseB, Bool.and_eq_true, decide_eq_true_eq]
  exact ⟨⟨key.2.1, key.2.2⟩, by rw [key.1]⟩
def readI (s : Str) : Option Int := if parseB s = true then some (parseV s) else none
theorem readI_fmt {n : Int} (h : -999999999 ≤ n ∧ n ≤ 999999999) : readI (fmtI n) = some n := by
  rw [readI, if_pos (parse_fmt h).1, (parse_fmt h).2]
theorem readI_some {s : Str} {n : Int} (h : readI s = some n) : fmtI n = s := by
  unfold readI at h
  split at h
  · rename_i hb
    obtain rfl := Option.some.inj h
    simp only [parseB, Bool.and_eq_true, decide_eq_true_eq] at hb
    exact hb.2
  · cases h
theorem readI_nil : readI [] = none := by
  rw [readI, if_neg]
  intro h
  simp only [parseB, Bool.and_eq_true, decide_eq_true_eq] at h
  exact fmtI_ne _ h.2
theorem foldl_pStep_pos : ∀ (s : Str) (st : Int × Int), 0 ≤ st.1 → st.1 < 10 ^ st.2.toNat → 0 ≤ st.2 → 0 ≤ (s.foldl pStep st).1 ∧ (s.foldl pStep st).1 < 10 ^ (s.foldl pStep st).2.toNat ∧ 0 ≤ (s.foldl pStep st).2
  | [], st, h1, h2, h3 => ⟨h1, h2, h3⟩
  | c :: s, st, h1, h2, h3 => by
    rw [List.foldl_cons]
    by_cases hc : digB c
    · rw [pStep_dig hc]
      refine foldl_pStep_pos s _ ?_ ?_ ?_
      · have := hc.1; simp only; omega
      · have := hc.2
        simp only
        rw [show (st.2 + 1).toNat = st.2.toNat + 1 by omega, Int.pow_succ]
        have := hc.1
        omega
      · simp only; omega
    · rw [show pStep st c = st from if_neg hc]
      exact foldl_pStep_pos s st h1 h2 h3
theorem parseB_in {s : Str} (h : parseB s = true) : -999999999 ≤ parseV s ∧ parseV s ≤ 999999999 := by
  simp only [parseB, Bool.and_eq_true, decide_eq_true_eq] at h
  have hp := foldl_pStep_pos (s.take 11) (0, 0) (by simp) (by simp) (by simp)
  have hk : (parseN s).2.toNat ≤ 9 := by omega
  have h10 : (10 : Int) ^ (parseN s).2.toNat ≤ 1000000000 := by
    have h1 : (10 : Nat) ^ (parseN s).2.toNat ≤ 10 ^ 9 := Nat.pow_le_pow_right (by omega) hk
    have h2 : ((10 ^ (parseN s).2.toNat : Nat) : Int) ≤ ((10 ^ 9 : Nat) : Int) := by exact_mod_cast h1
    simpa using h2
  have h5 : 0 ≤ (parseN s).1 ∧ (parseN s).1 < 10 ^ (parseN s).2.toNat := ⟨hp.1, hp.2.1⟩
  unfold parseV
  split <;> omega
def bef (c : UInt8) (s : Str) : Str := s.takeWhile fun d => decide (d ≠ c)
def aft (c : UInt8) (s : Str) : Str := (s.dropWhile fun d => decide (d ≠ c)).drop 1
theorem bef_at {c : UInt8} {b : Str} : ∀ {a : Str}, c ∉ a → bef c (a ++ c :: b) = a ∧ aft c (a ++ c :: b) = b
  | [], _ => by simp [bef, aft]
  | d :: a, h => by
    have hd : d ≠ c := fun e => h (by simp [e])
    have ih := bef_at (b := b) (a := a) (fun e => h (List.mem_cons_of_mem _ e))
    unfold bef aft at ih ⊢
    simp only [List.cons_append]
    rw [List.takeWhile_cons_of_pos (by simpa using hd), List.dropWhile_cons_of_pos (by simpa using hd), ih.1]
    exact ⟨rfl, ih.2⟩
theorem bef_no {c : UInt8} : ∀ {a : Str}, c ∉ a → bef c a = a ∧ aft c a = []
  | [], _ => by simp [bef, aft]
  | d :: a, h => by
    have hd : d ≠ c := fun e => h (by simp [e])
    have ih := bef_no (a := a) (fun e => h (List.mem_cons_of_mem _ e))
    unfold bef aft at ih ⊢
    rw [List.takeWhile_cons_of_pos (by simpa using hd), List.dropWhile_cons_of_pos (by simpa using hd), ih.1]
    exact ⟨rfl, ih.2⟩
theorem cutA_no {c : UInt8} : ∀ {s p : Str}, c ∉ s → cutA c p s = [p ++ s]
  | [], p, _ => by simp [cutA]
  | d :: s, p, h => by
    have hd : d ≠ c := fun e => h (by simp [e])
    rw [cutA, if_neg hd, cutA_no (fun e => h (List.mem_cons_of_mem _ e))]
    simp
theorem cutA_at {c : UInt8} {b : Str} : ∀ {a p : Str}, c ∉ a → cutA c p (a ++ c :: b) = (p ++ a) :: cutS c b
  | [], p, _ => by simp [cutA, cutS]
  | d :: a, p, h => by
    have hd : d ≠ c := fun e => h (by simp [e])
    rw [List.cons_append, cutA, if_neg hd, cutA_at (fun e => h (List.mem_cons_of_mem _ e))]
    simp
theorem cutS_no {c : UInt8} {s : Str} (h : c ∉ s) : cutS c s = [s] := by rw [cutS, cutA_no h]; rfl
theorem cutS_at {c : UInt8} {a b : Str} (h : c ∉ a) : cutS c (a ++ c :: b) = a :: cutS c b := by rw [cutS, cutA_at h]; rfl
def joinC (c : UInt8) : List Str → Str
  | [] => []
  | [x] => x
  | x :: y :: l => x ++ c :: joinC c (y :: l)
theorem joinC_cons {c : UInt8} {x : Str} {l : List Str} (h : l ≠ []) : joinC c (x :: l) = x ++ c :: joinC c l := by
  cases l with
  | nil => exact absurd rfl h
  | cons y l => rfl
theorem cut_join {c : UInt8} : ∀ {l : List Str}, l ≠ [] → (∀ x ∈ l, c ∉ x) → cutS c (joinC c l) = l
  | [], h, _ => absurd rfl h
  | [x], _, h => cutS_no (h x (by simp))
  | x :: y :: l, _, h => by
    rw [joinC_cons (by simp), cutS_at (h x (by simp)), cut_join (by simp) (fun z hz => h z (by simp at hz ⊢; exact .inr hz))]
theorem flat_join (c : UInt8) : ∀ (l : List Str), l ≠ [] → (l.flatMap fun f => c :: f) = c :: joinC c l
  | [], h => absurd rfl h
  | [x], _ => by simp [joinC]
  | x :: y :: l, _ => by rw [List.flatMap_cons, flat_join c (y :: l) (by simp), joinC_cons (l := y :: l) (by simp)]; simp
theorem join_cut (c : UInt8) : ∀ (s p : Str), joinC c (cutA c p s) = p ++ s ∧ cutA c p s ≠ []
  | [], p => by simp [cutA, joinC]
  | d :: s, p => by
    unfold cutA
    split
    · rename_i h
      subst h
      have ih := join_cut d s []
      exact ⟨by rw [joinC_cons ih.2, ih.1]; simp, by simp⟩
    · have ih := join_cut c s (p ++ [d])
      exact ⟨by rw [ih.1]; simp, ih.2⟩
theorem mem_joinC {c d : UInt8} : ∀ {l : List Str}, d ∈ joinC c l → d = c ∨ ∃ x ∈ l, d ∈ x
  | [], h => by cases h
  | [x], h => .inr ⟨x, by simp, h⟩
  | x :: y :: l, h => by
    rw [joinC_cons (by simp)] at h
    rcases List.mem_append.1 h with h | h
    · exact .inr ⟨x, by simp, h⟩
    · rcases List.mem_cons.1 h with h | h
      · exact .inl h
      · rcases mem_joinC h with h | ⟨z, hz, h⟩
        · exact .inl h
        · exact .inr ⟨z, by simp at hz ⊢; exact .inr hz, h⟩
section
open Classical
noncomputable def inv? {α : Type} (P : α → Bool) (f : α → Str) (s : Str) : Option α := if h : ∃ a, P a = true ∧ f a = s then some h.choose else none
theorem inv_some {α : Type} {P : α → Bool} {f : α → Str} {s : Str} {a : α} (h : inv? P f s = some a) : P a = true ∧ f a = s := by
  unfold inv? at h
  split at h
  · rename_i hx
    obtain rfl := Option.some.inj h
    exact hx.choose_spec
  · cases h
theorem inv_of {α : Type} {P : α → Bool} {f : α → Str} (hf : ∀ a b, P a = true → P b = true → f a = f b → a = b) {a : α} (h : P a = true) : inv? P f (f a) = some a := by
  have hx : ∃ b, P b = true ∧ f b = f a := ⟨a, h, rfl⟩
  unfold inv?
  rw [dif_pos hx, hf _ a hx.choose_spec.1 h hx.choose_spec.2]
theorem inv_cand {α : Type} {P : α → Bool} {f : α → Str} (cand : Str → Option α) (hc : ∀ a, P a = true → cand (f a) = some a) (s : Str) :
    inv? P f s = (cand s).bind fun a => if P a = true ∧ f a = s then some a else none := by
  have hinj : ∀ a b, P a = true → P b = true → f a = f b → a = b := fun a b ha hb e => by
    have := hc a ha
    rw [e, hc b hb] at this
    exact (Option.some.inj this).symm
  cases hi : inv? P f s with
  | some a =>
    obtain ⟨h1, rfl⟩ := inv_some hi
    rw [hc a h1]
    simp [h1]
  | none =>
    cases hs : cand s with
    | none => rfl
    | some a =>
      simp only [Option.bind_some]
      rw [if_neg]
      rintro ⟨h1, rfl⟩
      rw [inv_of hinj h1] at hi
      cases hi
end
end Go.Pl
end
section
namespace Go.Pl
open Go.Dv
structure Opn where
  kind : Int
  rc : Rec
  ver : Ver
deriving instance DecidableEq, Inhabited for Opn
def ver0 : Ver := ⟨0, 0, false, 0⟩
def rec0 : Rec := ⟨0, 0, 0, []⟩
def op0 : Opn := ⟨0, rec0, ver0⟩
def goneRec (r : Rec) : Bool := inR r.source 0 3 && inR r.key 1 99 && inR r.version 1 999 && decide (r.fields.length = 0)
def zeroRec (r : Rec) : Bool := decide (r.source = 0) && decide (r.key = 0) && decide (r.version = 0) && decide (r.fields.length = 0)
def validOp (o : Opn) : Bool :=
  if o.kind = 1 then validRec o.rc && decide (o.ver = ver0) else if o.kind = 2 then goneRec o.rc && decide (o.ver = ver0) else if o.kind = 3 ∨ o.kind = 4 then validVer o.ver && zeroRec o.rc else false
def validBat (l : List Opn) : Bool := l.all validOp && decide (l.length ≤ 6)
def signB (b : Bool) : UInt8 := if b then 61 else 33
def verTxt (v : Ver) : Str := fmtI v.a ++ signB v.same :: (fmtI v.b ++ 64 :: fmtI v.time)
def srcB (s : Int) : UInt8 := UInt8.ofNat (97 + s.toNat)
def nameStr (s k : Int) : Str := srcB s :: fmtI k
def goneTxt (r : Rec) : Str := nameStr r.source r.key ++ 46 :: fmtI r.version
def barF (l : List Str) : Str := l.flatMap fun f => 124 :: f
def recTxt (r : Rec) : Str := goneTxt r ++ barF r.fields
def wPut : Str := [112, 117, 116]
def wDel : Str := [100, 101, 108, 101, 116, 101]
def wVer : Str := [118, 101, 114, 100, 105, 99, 116]
def wRet : Str := [114, 101, 116, 114, 97, 99, 116]
def opTxt (o : Opn) : Str := if o.kind = 1 then wPut ++ 32 :: recTxt o.rc else if o.kind = 2 then wDel ++ 32 :: goneTxt o.rc else if o.kind = 3 then wVer ++ 32 :: verTxt o.ver else wRet ++ 32 :: verTxt o.ver
def batTxt (l : List Opn) : Str := 91 :: (joinC 59 (l.map opTxt) ++ [93])
def verStr (v : Ver) : Str := if validVer v = true then verTxt v else []
def recStr (r : Rec) : Str := if validRec r = true then recTxt r else []
def opStr (o : Opn) : Str := if validOp o = true then opTxt o else []
def batStr (l : List Opn) : Str := if validBat l = true then batTxt l else []
noncomputable def readVer : Str → Option Ver := inv? validVer verTxt
noncomputable def readRec : Str → Option Rec := inv? validRec recTxt
noncomputable def readOp : Str → Option Opn := inv? validOp opTxt
noncomputable def readBat : Str → Option (List Opn) := inv? validBat batTxt
theorem inR_iff {x a b : Int} : inR x a b = true ↔ a ≤ x ∧ x ≤ b := by simp
theorem validVer_iff {v : Ver} : validVer v = true ↔ (1 ≤ v.a ∧ v.a ≤ 399) ∧ (1 ≤ v.b ∧ v.b ≤ 399) ∧ v.a < v.b ∧ 1 ≤ v.time ∧ v.time ≤ 999 := by
  simp only [validVer, Bool.and_eq_true, decide_eq_true_eq]
  constructor <;> intro h <;> omega
theorem goneRec_iff {r : Rec} : goneRec r = true ↔ (0 ≤ r.source ∧ r.source ≤ 3) ∧ (1 ≤ r.key ∧ r.key ≤ 99) ∧ (1 ≤ r.version ∧ r.version ≤ 999) ∧ r.fields = [] := by
  simp only [goneRec, Bool.and_eq_true, decide_eq_true_eq, List.length_eq_zero_iff, and_assoc]
theorem zeroRec_iff {r : Rec} : zeroRec r = true ↔ r = rec0 := by
  obtain ⟨a, b, c, d⟩ := r
  simp [zeroRec, rec0, and_assoc]
theorem validRec_iff {r : Rec} : validRec r = true ↔ (0 ≤ r.source ∧ r.source ≤ 3) ∧ (1 ≤ r.key ∧ r.key ≤ 99) ∧ (1 ≤ r.version ∧ r.version ≤ 999) ∧ r.fields.length = 4 ∧ ∀ f ∈ r.fields, isField f = true := by
  simp only [validRec, Bool.and_eq_true, decide_eq_true_eq, List.all_eq_true]
  constructor
  · rintro ⟨⟨⟨⟨h1, h2⟩, h3⟩, h4⟩, h5⟩
    exact ⟨h2, h3, h4, h5, h1⟩
  · rintro ⟨h2, h3, h4, h5, h1⟩
    exact ⟨⟨⟨⟨h1, h2⟩, h3⟩, h4⟩, h5⟩
theorem field_no {f : Str} (h : isField f = true) : (124 : UInt8) ∉ f ∧ (59 : UInt8) ∉ f ∧ (10 : UInt8) ∉ f ∧ f.length ≤ 40 := by
  simp only [isField, isText, Bool.and_eq_true, List.all_eq_true, decide_eq_true_eq] at h
  refine ⟨fun hm => ?_, fun hm => ?_, fun hm => ?_, h.2.2⟩
  · exact absurd (h.1 _ hm) (by decide)
  · exact absurd (h.1 _ hm) (by decide)
  · exact absurd (h.2.1 _ hm) (by decide)
theorem dig_no {n : Int} : (33 : UInt8) ∉ fmtI n ∧ (61 : UInt8) ∉ fmtI n ∧ (64 : UInt8) ∉ fmtI n ∧ (46 : UInt8) ∉ fmtI n ∧ (124 : UInt8) ∉ fmtI n ∧ (59 : UInt8) ∉ fmtI n ∧ (10 : UInt8) ∉ fmtI n ∧ (32 : UInt8) ∉ fmtI n ∧ (91 : UInt8) ∉ fmtI n ∧ (93 : UInt8) ∉ fmtI n := by
  refine ⟨?_, ?_, ?_, ?_, ?_, ?_, ?_, ?_, ?_, ?_⟩ <;> exact fmtI_no (by decide) (by unfold digB; decide)
theorem src_no {s : Int} (h : 0 ≤ s ∧ s ≤ 3) : (srcB s).toNat = 97 + s.toNat := by
  unfold srcB; rw [UInt8.toNat_ofNat']; omega
theorem src_ne {s : Int} (h : 0 ≤ s ∧ s ≤ 3) {c : UInt8} (hc : c.toNat < 97 ∨ 100 < c.toNat) : c ≠ srcB s := fun e => by
  have := src_no h
  rw [← e] at this
  omega
theorem name_no {s k : Int} (h : 0 ≤ s ∧ s ≤ 3) {c : UInt8} (hc : c.toNat < 97 ∨ 100 < c.toNat) (h1 : c ≠ 45) (h2 : ¬ digB c) : c ∉ nameStr s k := by
  intro hm
  rcases List.mem_cons.1 hm with hm | hm
  · exact src_ne h hc hm
  · exact fmtI_no h1 h2 hm
theorem gone_no {r : Rec} (h : 0 ≤ r.source ∧ r.source ≤ 3) {c : UInt8} (hc : c.toNat < 97 ∨ 100 < c.toNat) (h1 : c ≠ 45) (h2 : ¬ digB c) (h3 : c ≠ 46) : c ∉ goneTxt r := by
  intro hm
  rcases List.mem_append.1 hm with hm | hm
  · exact name_no h hc h1 h2 hm
  · rcases List.mem_cons.1 hm with hm | hm
    · exact h3 hm
    · exact fmtI_no h1 h2 hm
theorem verTxt_no {v : Ver} {c : UInt8} (h1 : c ≠ 45) (h2 : ¬ digB c) (h3 : c ≠ 61) (h4 : c ≠ 33) (h5 : c ≠ 64) : c ∉ verTxt v := by
  intro hm
  rcases List.mem_append.1 hm with hm | hm
  · exact fmtI_no h1 h2 hm
  · rcases List.mem_cons.1 hm with hm | hm
    · unfold signB at hm; split at hm
      · exact h3 hm
      · exact h4 hm
    · rcases List.mem_append.1 hm with hm | hm
      · exact fmtI_no h1 h2 hm
      · rcases List.mem_cons.1 hm with hm | hm
        · exact h5 hm
        · exact fmtI_no h1 h2 hm
theorem recTxt_no {r : Rec} (h : validRec r = true) {c : UInt8} (hc : c = 59 ∨ c = 10) : c ∉ recTxt r := by
  have hv := validRec_iff.1 h
  intro hm
  rcases List.mem_append.1 hm with hm | hm
  · rcases hc with rfl | rfl <;> exact gone_no hv.1 (by decide) (by decide) (by unfold digB; decide) (by decide) hm
  · unfold barF at hm
    obtain ⟨f, hf, hm⟩ := List.mem_flatMap.1 hm
    have hn := field_no (hv.2.2.2.2 f hf)
    rcases List.mem_cons.1 hm with hm | hm
    · subst hm; rcases hc with hc | hc <;> exact absurd hc (by decide)
    · rcases hc with rfl | rfl
      · exact hn.2.1 hm
      · exact hn.2.2.1 hm
theorem opTxt_no {o : Opn} (h : validOp o = true) {c : UInt8} (hc : c = 59 ∨ c = 10) : c ∉ opTxt o := by
  unfold validOp at h
  unfold opTxt
  intro hm
  have hw : ∀ {w : Str} {t : Str}, c ∉ w → c ∉ t → c ∉ w ++ 32 :: t := fun h1 h2 hm => by
    rcases List.mem_append.1 hm with hm | hm
    · exact h1 hm
    · rcases List.mem_cons.1 hm with hm | hm
      · subst hm; rcases hc with hc | hc <;> exact absurd hc (by decide)
      · exact h2 hm
  have hv : c ∉ verTxt o.ver := by
    rcases hc with rfl | rfl <;> exact verTxt_no (by decide) (by unfold digB; decide) (by decide) (by decide) (by decide)
  split at hm
  · rename_i hk
    rw [if_pos hk] at h
    simp only [Bool.and_eq_true] at h
    exact hw (by rcases hc with rfl | rfl <;> decide) (recTxt_no h.1 hc) hm
  · rename_i hk1
    rw [if_neg hk1] at h
    split at hm
    · rename_i hk
      rw [if_pos hk] at h
      simp only [Bool.and_eq_true] at h
      have hg := (goneRec_iff.1 h.1).1
      refine hw (by rcases hc with rfl | rfl <;> decide) ?_ hm
      rcases hc with rfl | rfl <;> exact gone_no hg (by decide) (by decide) (by unfold digB; decide) (by decide)
    · split at hm
      · exact hw (by rcases hc with rfl | rfl <;> decide) hv hm
      · exact hw (by rcases hc with rfl | rfl <;> decide) hv hm
def signAt (s : Str) : Nat := (s.takeWhile fun c => decide (c ≠ 61 ∧ c ≠ 33)).length
def candVerI (s : Str) : Option Ver :=
  if signAt s < s.length then
    let r := s.drop (signAt s + 1)
    (readI (s.take (signAt s))).bind fun a => (readI (bef 64 r)).bind fun b => (readI (aft 64 r)).bind fun t => some ⟨a, b, decide (s[signAt s]? = some 61), t⟩
  else none
def getI (s : Str) : Int := (readI s).getD 0
def candVerS (s : Str) : Option Ver :=
  match cutS 64 s with
  | [h, t] => match cutS 61 h with
    | [a, b] => some ⟨getI a, getI b, true, getI t⟩
    | _ => match cutS 33 h with
      | [a, b] => some ⟨getI a, getI b, false, getI t⟩
      | _ => none
  | _ => none
theorem sign_take {a : Str} {b : Bool} {r : Str} (h1 : (61 : UInt8) ∉ a) (h2 : (33 : UInt8) ∉ a) : signAt (a ++ signB b :: r) = a.length := by
  unfold signAt
  rw [List.takeWhile_append_of_pos]
  · rw [List.takeWhile_cons_of_neg (by cases b <;> decide)]; simp
  · intro x hx
    simp only [decide_eq_true_eq]
    exact ⟨fun e => h1 (e ▸ hx), fun e => h2 (e ▸ hx)⟩
theorem candVerI_ok (v : Ver) (h : validVer v = true) : candVerI (verTxt v) = some v := by
  have hv := validVer_iff.1 h
  have hs : signAt (verTxt v) = (fmtI v.a).length := sign_take dig_no.2.1 dig_no.1
  have hcut := bef_at (c := 64) (a := fmtI v.b) (b := fmtI v.time) dig_no.2.2.1
  unfold candVerI
  rw [hs, if_pos (by simp [verTxt])]
  have hd : (verTxt v).drop ((fmtI v.a).length + 1) = fmtI v.b ++ 64 :: fmtI v.time := by
    unfold verTxt
    rw [List.drop_append, List.drop_of_length_le (by omega), show (fmtI v.a).length + 1 - (fmtI v.a).length = 1 by omega]; simp
  have ht : (verTxt v).take (fmtI v.a).length = fmtI v.a := by unfold verTxt; simp
  have hg : (verTxt v)[(fmtI v.a).length]? = some (signB v.same) := by unfold verTxt; simp
  simp only [hd, ht, hg, hcut.1, hcut.2]
  rw [readI_fmt (by omega), readI_fmt (by omega), readI_fmt (by omega)]
  obtain ⟨a, b, s, t⟩ := v
  cases s <;> simp [signB]
theorem candVerS_ok (v : Ver) (h : validVer v = true) : candVerS (verTxt v) = some v := by
  have hv := validVer_iff.1 h
  have h1 : (64 : UInt8) ∉ fmtI v.a ++ signB v.same :: fmtI v.b := fun hm => by
    rcases List.mem_append.1 hm with hm | hm
    · exact dig_no.2.2.1 hm
    · rcases List.mem_cons.1 hm with hm | hm
      · cases hs : v.same <;> rw [hs] at hm <;> exact absurd hm (by decide)
      · exact dig_no.2.2.1 hm
  have h2 : verTxt v = (fmtI v.a ++ signB v.same :: fmtI v.b) ++ 64 :: fmtI v.time := by simp [verTxt]
  unfold candVerS
  rw [h2, cutS_at h1, cutS_no dig_no.2.2.1]
  simp only
  have hg : ∀ n : Int, -999999999 ≤ n ∧ n ≤ 999999999 → getI (fmtI n) = n := fun n hn => by rw [getI, readI_fmt hn]; rfl
  obtain ⟨a, b, s, t⟩ := v
  simp only at hv
  cases s with
  | true =>
    simp only [signB, if_true]
    rw [cutS_at dig_no.2.1, cutS_no dig_no.2.1]
    simp only [hg a (by omega), hg b (by omega), hg t (by omega)]
  | false =>
    simp only [signB, Bool.false_eq_true, if_false]
    have h3 : (61 : UInt8) ∉ fmtI a ++ 33 :: fmtI b := fun hm => by
      rcases List.mem_append.1 hm with hm | hm
      · exact dig_no.2.1 hm
      · rcases List.mem_cons.1 hm with hm | hm
        · exact absurd hm (by decide)
        · exact dig_no.2.1 hm
    rw [cutS_no h3, cutS_at dig_no.1, cutS_no dig_no.1]
    simp only [hg a (by omega), hg b (by omega), hg t (by omega)]
theorem readVer_I (s : Str) : readVer s = (candVerI s).bind fun a => if validVer a = true ∧ verTxt a = s then some a else none := inv_cand _ candVerI_ok s
theorem readVer_S (s : Str) : readVer s = (candVerS s).bind fun a => if validVer a = true ∧ verTxt a = s then some a else none := inv_cand _ candVerS_ok s
theorem verStr_eq {v : Ver} {s : Str} (h : s ≠ []) : (validVer v = true ∧ verTxt v = s) ↔ verStr v = s := by
  unfold verStr
  split
  · simp [*]
  · constructor
    · rintro ⟨h1, _⟩; contradiction
    · intro e; exact absurd e.symm h
end Go.Pl
end
section
namespace Go.Pl
open Go.Dv
def idx4 (c : UInt8) : Int := if 97 ≤ c.toNat ∧ c.toNat ≤ 100 then (c.toNat : Int) - 97 else -1
def origin? (s : Str) : Option (Int × Int) := match s with
  | [] => none
  | c :: t => if 0 ≤ idx4 c ∧ parseB t = true ∧ inR (parseV t) 1 99 = true then some (idx4 c, parseV t) else none
def candRecI (s : Str) : Option Rec :=
  (origin? (bef 46 (bef 124 s))).bind fun o => (readI (aft 46 (bef 124 s))).bind fun n => some ⟨o.1, o.2, n, cutS 124 (aft 124 s)⟩
def candRecS (s : Str) : Option Rec :=
  match cutS 124 s with
  | [] => none
  | l0 :: ls => match cutS 46 l0 with
    | [a, b] => match a with
      | c :: d :: t => some ⟨(c.toNat : Int) - 97, getI (d :: t), getI b, ls⟩
      | _ => none
    | _ => none
theorem src_idx {s : Int} (h : 0 ≤ s ∧ s ≤ 3) : idx4 (srcB s) = s := by
  have := src_no h
  unfold idx4
  rw [if_pos (by omega)]; omega
theorem origin_ok {s k : Int} (hs : 0 ≤ s ∧ s ≤ 3) (hk : 1 ≤ k ∧ k ≤ 99) : origin? (nameStr s k) = some (s, k) := by
  have hp := parse_fmt (n := k) (by omega)
  unfold nameStr origin?
  simp only
  rw [if_pos ⟨by rw [src_idx hs]; exact hs.1, hp.1, by rw [hp.2]; exact inR_iff.2 hk⟩, src_idx hs, hp.2]
theorem getI_fmt {n : Int} (hn : -999999999 ≤ n ∧ n ≤ 999999999) : getI (fmtI n) = n := by rw [getI, readI_fmt hn]; rfl
theorem gone124 {r : Rec} (h : 0 ≤ r.source ∧ r.source ≤ 3) : (124 : UInt8) ∉ goneTxt r := by
  intro hm
  rcases List.mem_append.1 hm with hm | hm
  · rcases List.mem_cons.1 hm with hm | hm
    · exact src_ne h (c := 124) (.inr (by decide)) hm
    · exact dig_no.2.2.2.2.1 hm
  · rcases List.mem_cons.1 hm with hm | hm
    · exact absurd hm (by decide)
    · exact dig_no.2.2.2.2.1 hm
theorem name46 {s k : Int} (h : 0 ≤ s ∧ s ≤ 3) : (46 : UInt8) ∉ nameStr s k := by
  intro hm
  rcases List.mem_cons.1 hm with hm | hm
  · exact src_ne h (c := 46) (.inl (by decide)) hm
  · exact dig_no.2.2.2.1 hm
theorem rec_shape {r : Rec} (h : validRec r = true) : recTxt r = goneTxt r ++ 124 :: joinC 124 r.fields := by
  have hv := validRec_iff.1 h
  unfold recTxt barF
  rw [flat_join 124 r.fields (by intro e; rw [e] at hv; simp at hv)]
theorem candRecI_ok (r : Rec) (h : validRec r = true) : candRecI (recTxt r) = some r := by
  have hv := validRec_iff.1 h
  have h1 := bef_at (b := joinC 124 r.fields) (gone124 hv.1)
  have h2 := bef_at (b := fmtI r.version) (name46 (k := r.key) hv.1)
  unfold candRecI
  rw [rec_shape h, h1.1, h1.2]
  unfold goneTxt
  rw [h2.1, h2.2, origin_ok hv.1 hv.2.1, readI_fmt (by omega), cut_join (by intro e; rw [e] at hv; simp at hv) (fun x hx => (field_no (hv.2.2.2.2 x hx)).1)]
  rfl
theorem candRecS_ok (r : Rec) (h : validRec r = true) : candRecS (recTxt r) = some r := by
  have hv := validRec_iff.1 h
  unfold candRecS
  rw [rec_shape h, cutS_at (gone124 hv.1), cut_join (by intro e; rw [e] at hv; simp at hv) (fun x hx => (field_no (hv.2.2.2.2 x hx)).1)]
  simp only
  unfold goneTxt
  rw [cutS_at (name46 hv.1), cutS_no dig_no.2.2.2.1]
  simp only [nameStr]
  cases hf : fmtI r.key with
  | nil => exact absurd hf (fmtI_ne _)
  | cons d t =>
    simp only
    rw [← hf, getI_fmt (by omega), getI_fmt (by omega), src_no hv.1]
    obtain ⟨a, b, c, d⟩ := r
    simp only at hv
    simp only [Option.some.injEq, Rec.mk.injEq, and_true]
    omega
theorem readRec_I (s : Str) : readRec s = (candRecI s).bind fun a => if validRec a = true ∧ recTxt a = s then some a else none := inv_cand _ candRecI_ok s
theorem readRec_S (s : Str) : readRec s = (candRecS s).bind fun a => if validRec a = true ∧ recTxt a = s then some a else none := inv_cand _ candRecS_ok s
theorem recStr_eq {v : Rec} {s : Str} (h : s ≠ []) : (validRec v = true ∧ recTxt v = s) ↔ recStr v = s := by
  unfold recStr
  split
  · simp [*]
  · constructor
    · rintro ⟨h1, _⟩; contradiction
    · intro e; exact absurd e.symm h
theorem readRec_of {r : Rec} (h : validRec r = true) : readRec (recTxt r) = some r := by rw [readRec_I, candRecI_ok r h]; simp [h]
theorem readVer_of {v : Ver} (h : validVer v = true) : readVer (verTxt v) = some v := by rw [readVer_I, candVerI_ok v h]; simp [h]
theorem readRec_nil : readRec [] = none := by rw [readRec_I]; rfl
theorem readVer_nil : readVer [] = none := by rw [readVer_I]; rfl
noncomputable def candOpI (s : Str) : Option Opn :=
  if bef 32 s = wPut then (readRec (aft 32 s)).map fun r => ⟨1, r, ver0⟩
  else if bef 32 s = wDel then (origin? (bef 46 (aft 32 s))).map fun o => ⟨2, ⟨o.1, o.2, getI (aft 46 (aft 32 s)), []⟩, ver0⟩
  else if bef 32 s = wVer then (readVer (aft 32 s)).map fun v => ⟨3, rec0, v⟩
  else if bef 32 s = wRet then (readVer (aft 32 s)).map fun v => ⟨4, rec0, v⟩
  else none
noncomputable def recOr (s : Str) : Rec := (readRec s).getD rec0
noncomputable def verOr (s : Str) : Ver := (readVer s).getD ver0
def bars : Str := [124, 124, 124, 124]
noncomputable def candOpS (s : Str) : Option Opn :=
  if (32 : UInt8) ∈ s then some (
    if bef 32 s = wPut then ⟨1, recOr (aft 32 s), ver0⟩
    else if bef 32 s = wDel then ⟨2, ⟨(recOr (aft 32 s ++ bars)).source, (recOr (aft 32 s ++ bars)).key, (recOr (aft 32 s ++ bars)).version, []⟩, ver0⟩
    else if bef 32 s = wVer then ⟨3, rec0, verOr (aft 32 s)⟩
    else if bef 32 s = wRet then ⟨4, rec0, verOr (aft 32 s)⟩
    else op0)
  else none
theorem wPut_no : (32 : UInt8) ∉ wPut ∧ (32 : UInt8) ∉ wDel ∧ (32 : UInt8) ∉ wVer ∧ (32 : UInt8) ∉ wRet := by decide
theorem words_ne : wDel ≠ wPut ∧ wVer ≠ wPut ∧ wRet ≠ wPut ∧ wVer ≠ wDel ∧ wRet ≠ wDel ∧ wRet ≠ wVer := by decide
theorem op_cases {o : Opn} (h : validOp o = true) : (∃ r, validRec r = true ∧ o = ⟨1, r, ver0⟩ ∧ opTxt o = wPut ++ 32 :: recTxt r) ∨ (∃ r, goneRec r = true ∧ o = ⟨2, r, ver0⟩ ∧ opTxt o = wDel ++ 32 :: goneTxt r) ∨
    (∃ v, validVer v = true ∧ o = ⟨3, rec0, v⟩ ∧ opTxt o = wVer ++ 32 :: verTxt v) ∨ (∃ v, validVer v = true ∧ o = ⟨4, rec0, v⟩ ∧ opTxt o = wRet ++ 32 :: verTxt v) := by
  obtain ⟨k, r, v⟩ := o
  unfold validOp at h
  simp only at h
  unfold opTxt
  simp only
  split at h
  · rename_i hk
    simp only [Bool.and_eq_true, decide_eq_true_eq] at h
    subst hk
    exact .inl ⟨r, h.1, by rw [h.2], by simp⟩
  · split at h
    · rename_i hk
      simp only [Bool.and_eq_true, decide_eq_true_eq] at h
      subst hk
      exact .inr (.inl ⟨r, h.1, by rw [h.2], by simp⟩)
    · split at h
      · rename_i hk
        simp only [Bool.and_eq_true] at h
        have hz := zeroRec_iff.1 h.2
        subst hz
        rcases hk with rfl | rfl
        · exact .inr (.inr (.inl ⟨v, h.1, rfl, by simp⟩))
        · exact .inr (.inr (.inr ⟨v, h.1, rfl, by simp⟩))
      · cases h
theorem goneTxt_of (r : Rec) (f : List Str) : goneTxt { r with fields := f } = goneTxt r := rfl
theorem gone_valid {r : Rec} (h : goneRec r = true) : validRec { r with fields := [[], [], [], []] } = true ∧ recTxt { r with fields := [[], [], [], []] } = goneTxt r ++ bars := by
  have hv := goneRec_iff.1 h
  refine ⟨validRec_iff.2 ⟨hv.1, hv.2.1, hv.2.2.1, rfl, fun f hf => ?_⟩, ?_⟩
  · have : f = [] := by simpa using hf
    subst this; rfl
  · unfold recTxt bars; rw [goneTxt_of]; rfl
theorem candOpI_ok (o : Opn) (h : validOp o = true) : candOpI (opTxt o) = some o := by
  have hw := words_ne
  unfold candOpI
  rcases op_cases h with ⟨r, hr, rfl, ht⟩ | ⟨r, hr, rfl, ht⟩ | ⟨v, hv, rfl, ht⟩ | ⟨v, hv, rfl, ht⟩
  · have hb := bef_at (b := recTxt r) wPut_no.1
    rw [ht, hb.1, hb.2, if_pos rfl, readRec_of hr]; rfl
  · have hb := bef_at (b := goneTxt r) wPut_no.2.1
    have hg := goneRec_iff.1 hr
    have hc := bef_at (b := fmtI r.version) (name46 (k := r.key) hg.1)
    rw [ht, hb.1, hb.2, if_neg hw.1, if_pos rfl, show goneTxt r = nameStr r.source r.key ++ 46 :: fmtI r.version from rfl, hc.1, hc.2, origin_ok hg.1 hg.2.1, getI_fmt (by omega)]
    obtain ⟨a, b, c, d⟩ := r
    simp only at hg
    simp [hg.2.2.2]
  · have hb := bef_at (b := verTxt v) wPut_no.2.2.1
    rw [ht, hb.1, hb.2, if_neg hw.2.1, if_neg hw.2.2.2.1, if_pos rfl, readVer_of hv]; rfl
  · have hb := bef_at (b := verTxt v) wPut_no.2.2.2
    rw [ht, hb.1, hb.2, if_neg hw.2.2.1, if_neg hw.2.2.2.2.1, if_neg hw.2.2.2.2.2, if_pos rfl, readVer_of hv]; rfl
theorem candOpS_ok (o : Opn) (h : validOp o = true) : candOpS (opTxt o) = some o := by
  have hw := words_ne
  unfold candOpS
  rcases op_cases h with ⟨r, hr, rfl, ht⟩ | ⟨r, hr, rfl, ht⟩ | ⟨v, hv, rfl, ht⟩ | ⟨v, hv, rfl, ht⟩
  · have hb := bef_at (b := recTxt r) wPut_no.1
    rw [if_pos (by rw [ht]; simp), ht, hb.1, hb.2, if_pos rfl, recOr, readRec_of hr]; rfl
  · have hb := bef_at (b := goneTxt r) wPut_no.2.1
    have hg := goneRec_iff.1 hr
    have hv := gone_valid hr
    rw [if_pos (by rw [ht]; simp), ht, hb.1, hb.2, if_neg hw.1, if_pos rfl, recOr, ← hv.2, readRec_of hv.1]
    obtain ⟨a, b, c, d⟩ := r
    simp only at hg
    simp [hg.2.2.2]
  · have hb := bef_at (b := verTxt v) wPut_no.2.2.1
    rw [if_pos (by rw [ht]; simp), ht, hb.1, hb.2, if_neg hw.2.1, if_neg hw.2.2.2.1, if_pos rfl, verOr, readVer_of hv]; rfl
  · have hb := bef_at (b := verTxt v) wPut_no.2.2.2
    rw [if_pos (by rw [ht]; simp), ht, hb.1, hb.2, if_neg hw.2.2.1, if_neg hw.2.2.2.2.1, if_neg hw.2.2.2.2.2, if_pos rfl, verOr, readVer_of hv]; rfl
theorem readOp_I (s : Str) : readOp s = (candOpI s).bind fun a => if validOp a = true ∧ opTxt a = s then some a else none := inv_cand _ candOpI_ok s
theorem readOp_S (s : Str) : readOp s = (candOpS s).bind fun a => if validOp a = true ∧ opTxt a = s then some a else none := inv_cand _ candOpS_ok s
theorem opStr_eq {v : Opn} {s : Str} (h : s ≠ []) : (validOp v = true ∧ opTxt v = s) ↔ opStr v = s := by
  unfold opStr
  split
  · simp [*]
  · constructor
    · rintro ⟨h1, _⟩; contradiction
    · intro e; exact absurd e.symm h
theorem readOp_of {o : Opn} (h : validOp o = true) : readOp (opTxt o) = some o := by rw [readOp_I, candOpI_ok o h]; simp [h]
theorem readOp_nil : readOp [] = none := by rw [readOp_S]; rfl
noncomputable def readOps : List Str → Option (List Opn)
  | [] => some []
  | x :: l => (readOp x).bind fun o => (readOps l).bind fun r => some (o :: r)
theorem readOps_ok : ∀ {l : List Opn}, (∀ o ∈ l, validOp o = true) → readOps (l.map opTxt) = some l
  | [], _ => rfl
  | o :: l, h => by simp only [List.map_cons, readOps, readOp_of (h o (by simp)), readOps_ok fun o ho => h o (List.mem_cons_of_mem _ ho), Option.bind_some]
theorem readOps_snoc : ∀ {l : List Str} {x : Str} {r : List Opn}, readOps l = some r → readOps (l ++ [x]) = (readOp x).map fun o => r ++ [o]
  | [], x, r, h => by
    obtain rfl := Option.some.inj h
    simp only [List.nil_append, readOps]
    cases readOp x <;> rfl
  | y :: l, x, r, h => by
    simp only [List.cons_append, readOps] at h ⊢
    cases hy : readOp y with
    | none => rw [hy] at h; cases h
    | some o =>
      rw [hy] at h
      simp only [Option.bind_some] at h ⊢
      cases hl : readOps l with
      | none => rw [hl] at h; cases h
      | some r' =>
        rw [hl] at h
        obtain rfl := Option.some.inj h
        rw [readOps_snoc hl]
        cases readOp x <;> rfl
theorem readOps_none : ∀ {l : List Str} {x : Str}, x ∈ l → readOp x = none → readOps l = none
  | y :: l, x, h, hx => by
    simp only [readOps]
    rcases List.mem_cons.1 h with rfl | h
    · rw [hx]; rfl
    · rw [readOps_none h hx]; cases readOp y <;> rfl
theorem readOps_len : ∀ {l : List Str} {r : List Opn}, readOps l = some r → r.length = l.length
  | [], r, h => by obtain rfl := Option.some.inj h; rfl
  | x :: l, r, h => by
    simp only [readOps] at h
    cases hx : readOp x with
    | none => rw [hx] at h; cases h
    | some o =>
      cases hl : readOps l with
      | none => rw [hx, hl] at h; cases h
      | some r' => rw [hx, hl] at h; obtain rfl := Option.some.inj h; simp [readOps_len hl]
def trimL (c : UInt8) (s : Str) : Str := if s[0]? = some c then s.drop 1 else s
def trimR (c : UInt8) (s : Str) : Str := if s.getLast? = some c then s.dropLast else s
noncomputable def candBatI (s : Str) : Option (List Opn) := if s = [91, 93] then some [] else readOps (cutS 59 (trimR 93 (trimL 91 s)))
noncomputable def candBatS (s : Str) : Option (List Opn) := if s = [91, 93] then some [] else if s.length < 2 then none else readOps ((cutS 59 ((s.drop 1).take (s.length - 2))).take 7)
theorem validBat_iff {l : List Opn} : validBat l = true ↔ (∀ o ∈ l, validOp o = true) ∧ l.length ≤ 6 := by
  simp only [validBat, Bool.and_eq_true, List.all_eq_true, decide_eq_true_eq]
theorem opTxt_ne {o : Opn} (h : validOp o = true) : opTxt o ≠ [] := by
  intro e
  have := readOp_of h
  rw [e, readOp_nil] at this
  cases this
theorem joinC_ne {c : UInt8} {l : List Str} (h : l ≠ []) (hx : ∀ x ∈ l, x ≠ []) : joinC c l ≠ [] := by
  cases l with
  | nil => exact absurd rfl h
  | cons x l =>
    cases l with
    | nil => exact hx x (by simp)
    | cons y l => rw [joinC_cons (by simp)]; simp
theorem batTxt_two {l : List Opn} (h : l ≠ []) (hv : ∀ o ∈ l, validOp o = true) : batTxt l ≠ [91, 93] := by
  intro e
  have := joinC_ne (c := 59) (l := l.map opTxt) (by simpa using h) (fun x hx => by obtain ⟨o, ho, rfl⟩ := List.mem_map.1 hx; exact opTxt_ne (hv o ho))
  unfold batTxt at e
  simp only [List.cons.injEq, true_and] at e
  have h2 := congrArg List.length e
  simp only [List.length_append, List.length_cons, List.length_nil] at h2
  exact this (List.length_eq_zero_iff.1 (by omega))
theorem bat_cut {l : List Opn} (h : l ≠ []) (hv : ∀ o ∈ l, validOp o = true) : cutS 59 (joinC 59 (l.map opTxt)) = l.map opTxt :=
  cut_join (by simpa using h) fun x hx => by obtain ⟨o, ho, rfl⟩ := List.mem_map.1 hx; exact opTxt_no (hv o ho) (.inl rfl)
theorem candBatI_ok (l : List Opn) (h : validBat l = true) : candBatI (batTxt l) = some l := by
  have hv := validBat_iff.1 h
  by_cases hl : l = []
  · subst hl; rfl
  · unfold candBatI
    rw [if_neg (batTxt_two hl hv.1)]
    have h1 : trimL 91 (batTxt l) = joinC 59 (l.map opTxt) ++ [93] := by unfold trimL batTxt; simp
    have h2 : trimR 93 (joinC 59 (l.map opTxt) ++ [93]) = joinC 59 (l.map opTxt) := by unfold trimR; simp
    rw [h1, h2, bat_cut hl hv.1, readOps_ok hv.1]
theorem candBatS_ok (l : List Opn) (h : validBat l = true) : candBatS (batTxt l) = some l := by
  have hv := validBat_iff.1 h
  by_cases hl : l = []
  · subst hl; rfl
  · unfold candBatS
    have h1 : ((batTxt l).drop 1).take ((batTxt l).length - 2) = joinC 59 (l.map opTxt) := by
      unfold batTxt
      simp only [List.drop_succ_cons, List.drop_zero, List.length_cons, List.length_append, List.length_nil]
      rw [show (joinC 59 (l.map opTxt)).length + (0 + 1) + 1 - 2 = (joinC 59 (l.map opTxt)).length by omega]
      simp
    rw [if_neg (batTxt_two hl hv.1), if_neg (by unfold batTxt; simp), h1, bat_cut hl hv.1, List.take_of_length_le (by simp; omega), readOps_ok hv.1]
theorem readBat_I (s : Str) : readBat s = (candBatI s).bind fun a => if validBat a = true ∧ batTxt a = s then some a else none := inv_cand _ candBatI_ok s
theorem readBat_S (s : Str) : readBat s = (candBatS s).bind fun a => if validBat a = true ∧ batTxt a = s then some a else none := inv_cand _ candBatS_ok s
theorem batStr_eq {v : List Opn} {s : Str} (h : s ≠ []) : (validBat v = true ∧ batTxt v = s) ↔ batStr v = s := by
  unfold batStr
  split
  · simp [*]
  · constructor
    · rintro ⟨h1, _⟩; contradiction
    · intro e; exact absurd e.symm h
theorem readBat_of {l : List Opn} (h : validBat l = true) : readBat (batTxt l) = some l := by rw [readBat_I, candBatI_ok l h]; simp [h]
theorem readBat_nil : readBat [] = none := by
  rw [readBat_S]; rfl
end Go.Pl
end
section
set_option linter.unusedVariables false
set_option linter.unusedSimpArgs false
set_option maxRecDepth 10000
namespace Go.Proofs.YtfhfidecmdhkoaaGreatDoor
open Go.Dv Go.Pl
abbrev nStrs (l : List Str) : D := .sl none (l.map dS)
abbrev oStrs (l : List Str) : D := .sl (some 9) (l.map dS)
abbrev oInts (l : List Int) : D := .sl (some 3) (l.map dI)
abbrev dVer (v : Ver) : D := .agg [dI v.a, dI v.b, dB v.same, dI v.time]
abbrev nRec (r : Rec) : D := .agg [dI r.source, dI r.key, dI r.version, nStrs r.fields]
abbrev oRec (r : Rec) : D := .agg [dI r.source, dI r.key, dI r.version, oStrs r.fields]
abbrev nOp (o : Opn) : D := .agg [dI o.kind, nRec o.rc, dVer o.ver]
abbrev oOp (o : Opn) : D := .agg [dI o.kind, oRec o.rc, dVer o.ver]
abbrev nOps (l : List Opn) : D := .sl none (l.map nOp)
abbrev oOps (l : List Opn) : D := .sl (some 81) (l.map oOp)
abbrev nBat (l : List Opn) : D := .agg [nOps l]
abbrev oBat (l : List Opn) : D := .agg [oOps l]
abbrev nBats (l : List (List Opn)) : D := .sl none (l.map nBat)
abbrev oBats (l : List (List Opn)) : D := .sl (some 30) (l.map oBat)
def smallO (o : Opn) : Prop := smallR o.rc
def smallB (l : List Opn) : Prop := l.length ≤ 1048576 ∧ ∀ o ∈ l, smallO o
theorem eqVer_at (a b c d : Int) (s t : Bool) (a' b' : Int) : Dv.EqAt Tryz.prog 79 [.int .i64 a, .int .i64 b, .bool s, .int .i64 c] [.int .i64 a', .int .i64 b', .bool t, .int .i64 d] (decide (a = a' ∧ b = b' ∧ s = t ∧ c = d)) := by
  refine ⟨by kernel_rfl, fun w => ?_⟩
  have u3 := Tryz.underlying3
  have a3 := Tryz.isAgg3
  have z3 := Tryz.sizeOf3
  have u4 := Tryz.underlying4
  have a4 := Tryz.isAgg4
  have z4 := Tryz.sizeOf4
  have hS : Tryz.prog.underlying 79 = some (.struct (Tryz.prog.fieldsOf 79)) := by kernel_rfl
  have hp : Tryz.prog.stoodInHeld 79 = false := by kernel_rfl
  rw [show (10000 : Nat) = 9999 + 1 from rfl, run_equalIn_agg w 9999 79 _ _ hS hp]
  simp only [Program.fieldsOf, Tryz.underlying79]
  go_simp
  by_cases h1 : a = a' <;> by_cases h2 : b = b' <;> by_cases h3 : s = t <;> by_cases h4 : c = d <;> simp [h1, h2, h3, h4]
@[go_sem] theorem eqVer_iff (a b c d : Int) (s t : Bool) (a' b' : Int) (r : Bool) : Dv.EqAt Tryz.prog 79 [.int .i64 a, .int .i64 b, .bool s, .int .i64 c] [.int .i64 a', .int .i64 b', .bool t, .int .i64 d] r ↔ r = (decide (a = a' ∧ b = b' ∧ s = t ∧ c = d)) := (eqVer_at a b c d s t a' b').iff
theorem fn_impl_within (x a b : Int) : FnOk Tryz.prog 38 [dI x, dI a, dI b] (fun res' => res' = .val (dB (inR x a b))) := by
  refine fn_of good (rs := [.tmp 6]) Tryz.func38 rfl Tryz.ntmps38 (by decide) (by simp) rfl fun w0 ow0 => ?_
  refine okC_rg good ?_
  simp [go_sem]
  repeat (with_reducible refine And.intro ?_ ?_; first | omega | assumption | (simp only [inI]; omega))
  refine okC_rg good ?_
  simp [go_sem]
  repeat (with_reducible refine And.intro ?_ ?_; first | omega | assumption | (simp only [inI]; omega))
  first | refine gI_dec (fun g1 => ?_) (fun g1 => ?_) | refine gI_ndec (fun g1 => ?_) (fun g1 => ?_) | refine gI_of (fun g1 => ?_) (fun g1 => ?_)
  · have g1' := g1; try simp at g1'
    simp [go_sem, g1]
    repeat (with_reducible refine And.intro ?_ ?_; first | omega | assumption | (simp only [inI]; omega))
    refine okC_ret ?_
    simp [go_sem, g1]
    all_goals first | done | omega | grind | (simp; omega) | (simp_all; done) | (simp_all; omega)
  · have g1' := g1; try simp at g1'
    simp [go_sem, g1]
    repeat (with_reducible refine And.intro ?_ ?_; first | omega | assumption | (simp only [inI]; omega))
    refine okC_ret ?_
    simp [go_sem, g1]
    all_goals first | done | omega | grind | (simp; omega) | (simp_all; done) | (simp_all; omega)
theorem fn_spec_l1In (x a b : Int) : FnOk Tryz.prog 46 [dI x, dI a, dI b] (fun res' => res' = .val (dB (inR x a b))) := by
  refine fn_of good (rs := [.tmp 6]) Tryz.func46 rfl Tryz.ntmps46 (by decide) (by simp) rfl fun w0 ow0 => ?_
  refine okC_rg good ?_
  simp [go_sem]
  repeat (with_reducible refine And.intro ?_ ?_; first | omega | assumption | (simp only [inI]; omega))
  refine okC_rg good ?_
  simp [go_sem]
  repeat (with_reducible refine And.intro ?_ ?_; first | omega | assumption | (simp only [inI]; omega))
  first | refine gI_dec (fun g1 => ?_) (fun g1 => ?_) | refine gI_ndec (fun g1 => ?_) (fun g1 => ?_) | refine gI_of (fun g1 => ?_) (fun g1 => ?_)
  · have g1' := g1; try simp at g1'
    simp [go_sem, g1]
    repeat (with_reducible refine And.intro ?_ ?_; first | omega | assumption | (simp only [inI]; omega))
    refine okC_ret ?_
    simp [go_sem, g1]
    all_goals first | done | omega | grind | (simp; omega) | (simp_all; done) | (simp_all; omega)
  · have g1' := g1; try simp at g1'
    simp [go_sem, g1]
    repeat (with_reducible refine And.intro ?_ ?_; first | omega | assumption | (simp only [inI]; omega))
    refine okC_ret ?_
    simp [go_sem, g1]
    all_goals first | done | omega | grind | (simp; omega) | (simp_all; done) | (simp_all; omega)
theorem fn_impl_isMember (x : Int) : FnOk Tryz.prog 144 [dI x] (fun res' => res' = .val (dB (inR x 1 399))) := by
  refine fn_of good (rs := [.tmp 2]) Tryz.func144 rfl Tryz.ntmps144 (by decide) (by simp) rfl fun w0 ow0 => ?_
  refine okC_rg good ?_
  simp [go_sem]
  repeat (with_reducible refine And.intro ?_ ?_; first | omega | assumption | (simp only [inI]; omega))
  refine okC_rg good ?_
  simp [go_sem]
  repeat (with_reducible refine And.intro ?_ ?_; first | omega | assumption | (simp only [inI]; omega))
  first | refine callK_of (fn_impl_within _ _ _) (by simp [go_sem]) ?_ | refine callK_fz (fn_impl_within _ _ _) (by simp [go_sem]) (by simp [go_sem]) ?_
  simp [go_sem]
  repeat (with_reducible refine And.intro ?_ ?_; first | omega | assumption | (simp only [inI]; omega))
  refine okC_ret ?_
  simp [go_sem]
  all_goals first | done | omega | grind | (simp; omega) | (simp_all; done) | (simp_all; omega)
theorem fn_impl_IsValidVerdict (v : Ver) : FnOk Tryz.prog 103 [dVer v] (fun res' => res' = .val (dB (validVer v))) := by
  refine fn_of good (rs := [.tmp 2]) Tryz.func103 rfl Tryz.ntmps103 (by decide) (by simp) rfl fun w0 ow0 => ?_
  refine okC_rg good ?_
  simp [go_sem]
  repeat (with_reducible refine And.intro ?_ ?_; first | omega | assumption | (simp only [inI]; omega))
  refine okC_rg good ?_
  simp [go_sem]
  repeat (with_reducible refine And.intro ?_ ?_; first | omega | assumption | (simp only [inI]; omega))
  first | refine callK_of (fn_impl_isMember _) (by simp [go_sem]) ?_ | refine callK_fz (fn_impl_isMember _) (by simp [go_sem]) (by simp [go_sem]) ?_
  simp [go_sem]
  repeat (with_reducible refine And.intro ?_ ?_; first | omega | assumption | (simp only [inI]; omega))
  first | refine gI_dec (fun g1 => ?_) (fun g1 => ?_) | refine gI_ndec (fun g1 => ?_) (fun g1 => ?_) | refine gI_of (fun g1 => ?_) (fun g1 => ?_)
  · have g1' := g1; try simp at g1'
    simp [go_sem, g1]
    repeat (with_reducible refine And.intro ?_ ?_; first | omega | assumption | (simp only [inI]; omega))
    first | refine callK_of (fn_impl_isMember _) (by simp [go_sem]) ?_ | refine callK_fz (fn_impl_isMember _) (by simp [go_sem]) (by simp [go_sem]) ?_
    simp [go_sem, g1]
    repeat (with_reducible refine And.intro ?_ ?_; first | omega | assumption | (simp only [inI]; omega))
    first | refine gI_dec (fun g2 => ?_) (fun g2 => ?_) | refine gI_ndec (fun g2 => ?_) (fun g2 => ?_) | refine gI_of (fun g2 => ?_) (fun g2 => ?_)
    · have g2' := g2; try simp at g2'
      simp [go_sem, g1, g2]
      repeat (with_reducible refine And.intro ?_ ?_; first | omega | assumption | (simp only [inI]; omega))
      first | refine gI_dec (fun g3 => ?_) (fun g3 => ?_) | refine gI_ndec (fun g3 => ?_) (fun g3 => ?_) | refine gI_of (fun g3 => ?_) (fun g3 => ?_)
      · have g3' := g3; try simp at g3'
        simp [go_sem, g1, g2, g3]
        repeat (with_reducible refine And.intro ?_ ?_; first | omega | assumption | (simp only [inI]; omega))
        first | refine callK_of (fn_impl_within _ _ _) (by simp [go_sem]) ?_ | refine callK_fz (fn_impl_within _ _ _) (by simp [go_sem]) (by simp [go_sem]) ?_
        simp [go_sem, g1, g2, g3]
        repeat (with_reducible refine And.intro ?_ ?_; first | omega | assumption | (simp only [inI]; omega))
        refine okC_ret ?_
        simp [go_sem, g1, g2, g3]
        all_goals first | done | omega | grind [validVer] | (simp; omega) | (simp_all [validVer]; done) | (simp_all [validVer]; omega)
      · have g3' := g3; try simp at g3'
        simp [go_sem, g1, g2, g3]
        repeat (with_reducible refine And.intro ?_ ?_; first | omega | assumption | (simp only [inI]; omega))
        refine okC_ret ?_
        simp [go_sem, g1, g2, g3]
        all_goals first | done | omega | grind [validVer] | (simp; omega) | (simp_all [validVer]; done) | (simp_all [validVer]; omega)
    · have g2' := g2; try simp at g2'
      simp [go_sem, g1, g2]
      repeat (with_reducible refine And.intro ?_ ?_; first | omega | assumption | (simp only [inI]; omega))
      refine okC_ret ?_
      simp [go_sem, g1, g2]
      all_goals first | done | omega | grind [validVer] | (simp; omega) | (simp_all [validVer]; done) | (simp_all [validVer]; omega)
  · have g1' := g1; try simp at g1'
    simp [go_sem, g1]
    repeat (with_reducible refine And.intro ?_ ?_; first | omega | assumption | (simp only [inI]; omega))
    refine okC_ret ?_
    simp [go_sem, g1]
    all_goals first | done | omega | grind [validVer] | (simp; omega) | (simp_all [validVer]; done) | (simp_all [validVer]; omega)
theorem fn_spec_IsValidVerdict (v : Ver) : FnOk Tryz.prog 124 [dVer v] (fun res' => res' = .val (dB (validVer v))) := by
  refine fn_of good (rs := [.tmp 2]) Tryz.func124 rfl Tryz.ntmps124 (by decide) (by simp) rfl fun w0 ow0 => ?_
  refine okC_rg good ?_
  simp [go_sem]
  repeat (with_reducible refine And.intro ?_ ?_; first | omega | assumption | (simp only [inI]; omega))
  refine okC_rg good ?_
  simp [go_sem]
  repeat (with_reducible refine And.intro ?_ ?_; first | omega | assumption | (simp only [inI]; omega))
  first | refine callK_of (fn_spec_l1In _ _ _) (by simp [go_sem]) ?_ | refine callK_fz (fn_spec_l1In _ _ _) (by simp [go_sem]) (by simp [go_sem]) ?_
  simp [go_sem]
  repeat (with_reducible refine And.intro ?_ ?_; first | omega | assumption | (simp only [inI]; omega))
  first | refine gI_dec (fun g1 => ?_) (fun g1 => ?_) | refine gI_ndec (fun g1 => ?_) (fun g1 => ?_) | refine gI_of (fun g1 => ?_) (fun g1 => ?_)
  · have g1' := g1; try simp at g1'
    simp [go_sem, g1]
    repeat (with_reducible refine And.intro ?_ ?_; first | omega | assumption | (simp only [inI]; omega))
    first | refine callK_of (fn_spec_l1In _ _ _) (by simp [go_sem]) ?_ | refine callK_fz (fn_spec_l1In _ _ _) (by simp [go_sem]) (by simp [go_sem]) ?_
    simp [go_sem, g1]
    repeat (with_reducible refine And.intro ?_ ?_; first | omega | assumption | (simp only [inI]; omega))
    first | refine gI_dec (fun g2 => ?_) (fun g2 => ?_) | refine gI_ndec (fun g2 => ?_) (fun g2 => ?_) | refine gI_of (fun g2 => ?_) (fun g2 => ?_)
    · have g2' := g2; try simp at g2'
      simp [go_sem, g1, g2]
      repeat (with_reducible refine And.intro ?_ ?_; first | omega | assumption | (simp only [inI]; omega))
      first | refine gI_dec (fun g3 => ?_) (fun g3 => ?_) | refine gI_ndec (fun g3 => ?_) (fun g3 => ?_) | refine gI_of (fun g3 => ?_) (fun g3 => ?_)
      · have g3' := g3; try simp at g3'
        simp [go_sem, g1, g2, g3]
        repeat (with_reducible refine And.intro ?_ ?_; first | omega | assumption | (simp only [inI]; omega))
        first | refine callK_of (fn_spec_l1In _ _ _) (by simp [go_sem]) ?_ | refine callK_fz (fn_spec_l1In _ _ _) (by simp [go_sem]) (by simp [go_sem]) ?_
        simp [go_sem, g1, g2, g3]
        repeat (with_reducible refine And.intro ?_ ?_; first | omega | assumption | (simp only [inI]; omega))
        refine okC_ret ?_
        simp [go_sem, g1, g2, g3]
        all_goals first | done | omega | grind [validVer] | (simp; omega) | (simp_all [validVer]; done) | (simp_all [validVer]; omega)
      · have g3' := g3; try simp at g3'
        simp [go_sem, g1, g2, g3]
        repeat (with_reducible refine And.intro ?_ ?_; first | omega | assumption | (simp only [inI]; omega))
        refine okC_ret ?_
        simp [go_sem, g1, g2, g3]
        all_goals first | done | omega | grind [validVer] | (simp; omega) | (simp_all [validVer]; done) | (simp_all [validVer]; omega)
    · have g2' := g2; try simp at g2'
      simp [go_sem, g1, g2]
      repeat (with_reducible refine And.intro ?_ ?_; first | omega | assumption | (simp only [inI]; omega))
      refine okC_ret ?_
      simp [go_sem, g1, g2]
      all_goals first | done | omega | grind [validVer] | (simp; omega) | (simp_all [validVer]; done) | (simp_all [validVer]; omega)
  · have g1' := g1; try simp at g1'
    simp [go_sem, g1]
    repeat (with_reducible refine And.intro ?_ ?_; first | omega | assumption | (simp only [inI]; omega))
    refine okC_ret ?_
    simp [go_sem, g1]
    all_goals first | done | omega | grind [validVer] | (simp; omega) | (simp_all [validVer]; done) | (simp_all [validVer]; omega)
theorem fn_spec_IsText (s : Str) (hs : s.length ≤ 1048576) : FnOk Tryz.prog 188 [dS s] (fun res' => res' = .val (dB (isText s))) := by
  refine fn_of good (rs := [.tmp 2]) Tryz.func188 rfl Tryz.ntmps188 (by decide) (by simp) rfl fun w0 ow0 => ?_
  refine okC_rg good ?_
  simp [go_sem]
  repeat (with_reducible refine And.intro ?_ ?_; first | omega | assumption | (simp only [inI]; omega))
  refine okC_seq ?_
  refine okC_rg good ?_
  simp [go_sem]
  repeat (with_reducible refine And.intro ?_ ?_; first | omega | assumption | (simp only [inI]; omega))
  refine okC_block ?_
  refine okC_rounds (fun (i : Nat) => [(0, .val (dS s)), (3, .val (dI i))]) (fun (i : Nat) => (s).length - i) (fun (i : Nat) => (i ≤ (s).length) ∧ (((s).take i).all textB = true)) (0) [] ⟨(by first | omega | rfl | (simp; done) | (simp; omega) | simp), (by first | omega | rfl | (simp; done) | (simp; omega) | simp)⟩ (by simp [go_sem]) ?_
  rintro i ⟨h1, h2⟩ K1 hK1
  refine okC_seq ?_
  refine okC_rg good ?_
  simp [go_sem]
  repeat (with_reducible refine And.intro ?_ ?_; first | omega | assumption | (simp only [inI]; omega))
  refine okC_if ?_
  simp [go_sem]
  first | refine gC_dec (fun a => ?_) (fun a => ?_) | refine gC_ndec (fun a => ?_) (fun a => ?_) | refine gC_of (fun a => ?_) (fun a => ?_)
  · try simp at a
    refine okC_skip ?_
    refine okC_seq ?_
    refine okC_block ?_
    obtain ⟨c, hc⟩ := at_of (l := s) (i := i) (by omega)
    refine okC_rg good ?_
    simp [go_sem, hc]
    repeat (with_reducible refine And.intro ?_ ?_; first | omega | assumption | (simp only [inI]; omega))
    first | refine gI_dec (fun g => ?_) (fun g => ?_) | refine gI_ndec (fun g => ?_) (fun g => ?_) | refine gI_of (fun g => ?_) (fun g => ?_)
    · have g' := g; try simp at g'
      simp [go_sem, hc, g]
      repeat (with_reducible refine And.intro ?_ ?_; first | omega | assumption | (simp only [inI]; omega))
      refine okC_if ?_
      simp [go_sem, hc, g]
      have hn := all_no hc (P := textB) (by first | assumption | (simp; omega) | (simp [*]; done) | (simp [textB, *]; done) | grind [textB] | (simp [textB]; omega))
      refine okC_rg good ?_
      simp [go_sem, hc, g, hn]
      repeat (with_reducible refine And.intro ?_ ?_; first | omega | assumption | (simp only [inI]; omega))
      refine okC_ret (show K1 _ _ from retE hK1 ?_)
      simp [go_sem, hc, g, hn]
      all_goals first | done | omega | grind [isText] | (simp; omega) | (simp_all [isText]; done) | (simp_all [isText]; omega)
    · have g' := g; try simp at g'
      simp [go_sem, hc, g]
      repeat (with_reducible refine And.intro ?_ ?_; first | omega | assumption | (simp only [inI]; omega))
      refine okC_if ?_
      simp [go_sem, hc, g]
      first | refine gC_dec (fun b => ?_) (fun b => ?_) | refine gC_ndec (fun b => ?_) (fun b => ?_) | refine gC_of (fun b => ?_) (fun b => ?_)
      · try simp at b
        have hn := all_no hc (P := textB) (by first | assumption | (simp; omega) | (simp [*]; done) | (simp [textB, *]; done) | grind [textB] | (simp [textB]; omega))
        refine okC_rg good ?_
        simp [go_sem, hc, g, hn]
        repeat (with_reducible refine And.intro ?_ ?_; first | omega | assumption | (simp only [inI]; omega))
        refine okC_ret (show K1 _ _ from retE hK1 ?_)
        simp [go_sem, hc, g, hn]
        all_goals first | done | omega | grind [isText] | (simp; omega) | (simp_all [isText]; done) | (simp_all [isText]; omega)
      · try simp at b
        refine okC_skip ?_
        refine okC_rg1 good ?_
        simp [go_sem, hc, g]
        repeat (with_reducible refine And.intro ?_ ?_; first | omega | assumption | (simp only [inI]; omega))
        refine normalE hK1 ⟨i + 1, [], ⟨(by omega), (all_step hc h2 (by first | assumption | (simp; omega) | (simp [*]; done) | (simp [textB, *]; done) | grind [textB] | (simp [textB]; omega)))⟩, (by show _ < _; first | omega | simp; omega), (by simp [go_sem, hc, g])⟩
  · try simp at a
    refine okC_exit (show K1 _ _ from exitE hK1 ?_)
    have hf := all_fin h2 a
    refine okC_rg good ?_
    simp [go_sem, hf]
    repeat (with_reducible refine And.intro ?_ ?_; first | omega | assumption | (simp only [inI]; omega))
    refine okC_ret ?_
    simp [go_sem, hf]
    all_goals first | done | omega | grind [isText] | (simp; omega) | (simp_all [isText]; done) | (simp_all [isText]; omega)
theorem fn_spec_l8Field (s : Str) (hs : s.length ≤ 1048576) : FnOk Tryz.prog 162 [dS s] (fun res' => res' = .val (dB (isField s))) := by
  refine fn_of good (rs := [.tmp 2]) Tryz.func162 rfl Tryz.ntmps162 (by decide) (by simp) rfl fun w0 ow0 => ?_
  refine okC_rg good ?_
  simp [go_sem]
  repeat (with_reducible refine And.intro ?_ ?_; first | omega | assumption | (simp only [inI]; omega))
  refine okC_seq ?_
  refine okC_rg good ?_
  simp [go_sem]
  repeat (with_reducible refine And.intro ?_ ?_; first | omega | assumption | (simp only [inI]; omega))
  refine okC_block ?_
  refine okC_rounds (fun (i : Nat) => [(0, .val (dS s)), (3, .val (dI i))]) (fun (i : Nat) => (s).length - i) (fun (i : Nat) => (i ≤ (s).length) ∧ (((s).take i).all fieldB = true)) (0) [] ⟨(by first | omega | rfl | (simp; done) | (simp; omega) | simp), (by first | omega | rfl | (simp; done) | (simp; omega) | simp)⟩ (by simp [go_sem]) ?_
  rintro i ⟨h1, h2⟩ K1 hK1
  refine okC_seq ?_
  refine okC_rg good ?_
  simp [go_sem]
  repeat (with_reducible refine And.intro ?_ ?_; first | omega | assumption | (simp only [inI]; omega))
  refine okC_if ?_
  simp [go_sem]
  first | refine gC_dec (fun a => ?_) (fun a => ?_) | refine gC_ndec (fun a => ?_) (fun a => ?_) | refine gC_of (fun a => ?_) (fun a => ?_)
  · try simp at a
    refine okC_skip ?_
    refine okC_seq ?_
    refine okC_block ?_
    obtain ⟨c, hc⟩ := at_of (l := s) (i := i) (by omega)
    refine okC_rg good ?_
    simp [go_sem, hc]
    repeat (with_reducible refine And.intro ?_ ?_; first | omega | assumption | (simp only [inI]; omega))
    first | refine gI_dec (fun g => ?_) (fun g => ?_) | refine gI_ndec (fun g => ?_) (fun g => ?_) | refine gI_of (fun g => ?_) (fun g => ?_)
    · have g' := g; try simp at g'
      simp [go_sem, hc, g]
      repeat (with_reducible refine And.intro ?_ ?_; first | omega | assumption | (simp only [inI]; omega))
      refine okC_if ?_
      simp [go_sem, hc, g]
      have hn := all_no hc (P := fieldB) (by first | assumption | (simp; omega) | (simp [*]; done) | (simp [fieldB, *]; done) | grind [fieldB] | (simp [fieldB]; omega))
      refine okC_rg good ?_
      simp [go_sem, hc, g, hn]
      repeat (with_reducible refine And.intro ?_ ?_; first | omega | assumption | (simp only [inI]; omega))
      refine okC_ret (show K1 _ _ from retE hK1 ?_)
      simp [go_sem, hc, g, hn]
      all_goals first | done | omega | grind [isField] | (simp; omega) | (simp_all [isField]; done) | (simp_all [isField]; omega)
    · have g' := g; try simp at g'
      simp [go_sem, hc, g]
      repeat (with_reducible refine And.intro ?_ ?_; first | omega | assumption | (simp only [inI]; omega))
      refine okC_if ?_
      simp [go_sem, hc, g]
      first | refine gC_dec (fun b => ?_) (fun b => ?_) | refine gC_ndec (fun b => ?_) (fun b => ?_) | refine gC_of (fun b => ?_) (fun b => ?_)
      · try simp at b
        have hn := all_no hc (P := fieldB) (by first | assumption | (simp; omega) | (simp [*]; done) | (simp [fieldB, *]; done) | grind [fieldB] | (simp [fieldB]; omega))
        refine okC_rg good ?_
        simp [go_sem, hc, g, hn]
        repeat (with_reducible refine And.intro ?_ ?_; first | omega | assumption | (simp only [inI]; omega))
        refine okC_ret (show K1 _ _ from retE hK1 ?_)
        simp [go_sem, hc, g, hn]
        all_goals first | done | omega | grind [isField] | (simp; omega) | (simp_all [isField]; done) | (simp_all [isField]; omega)
      · try simp at b
        refine okC_skip ?_
        refine okC_rg1 good ?_
        simp [go_sem, hc, g]
        repeat (with_reducible refine And.intro ?_ ?_; first | omega | assumption | (simp only [inI]; omega))
        refine normalE hK1 ⟨i + 1, [], ⟨(by omega), (all_step hc h2 (by first | assumption | (simp; omega) | (simp [*]; done) | (simp [fieldB, *]; done) | grind [fieldB] | (simp [fieldB]; omega)))⟩, (by show _ < _; first | omega | simp; omega), (by simp [go_sem, hc, g])⟩
  · try simp at a
    refine okC_exit (show K1 _ _ from exitE hK1 ?_)
    have hf := all_fin h2 a
    refine okC_rg good ?_
    simp [go_sem, hf]
    repeat (with_reducible refine And.intro ?_ ?_; first | omega | assumption | (simp only [inI]; omega))
    first | refine callK_of (fn_spec_IsText _ (by first | assumption | omega | (simp; omega) | grind)) (by simp [go_sem]) ?_ | refine callK_fz (fn_spec_IsText _ (by first | assumption | omega | (simp; omega) | grind)) (by simp [go_sem]) (by simp [go_sem]) ?_
    simp [go_sem, hf]
    repeat (with_reducible refine And.intro ?_ ?_; first | omega | assumption | (simp only [inI]; omega))
    refine okC_ret ?_
    simp [go_sem, hf]
    all_goals first | done | omega | grind [isField] | (simp; omega) | (simp_all [isField]; done) | (simp_all [isField]; omega)
theorem fn_spec_IsValidRecord (r : Rec) (hs : smallR r) : FnOk Tryz.prog 122 [nRec r] (fun res' => res' = .val (dB (validRec r))) := by
  refine fn_of good (rs := [.tmp 2]) Tryz.func122 rfl Tryz.ntmps122 (by decide) (by simp) rfl fun w0 ow0 => ?_
  obtain ⟨hs1, hs2⟩ := hs
  refine okC_rg good ?_
  simp [go_sem]
  repeat (with_reducible refine And.intro ?_ ?_; first | omega | assumption | (simp only [inI]; omega))
  refine okC_seq ?_
  refine okC_rg good ?_
  simp [go_sem]
  repeat (with_reducible refine And.intro ?_ ?_; first | omega | assumption | (simp only [inI]; omega))
  refine okC_block ?_
  refine okC_rounds (fun (i : Nat) => [(1, .own (.bx true (nRec r))), (3, .val (dI i))]) (fun (i : Nat) => (r.fields).length - i) (fun (i : Nat) => (i ≤ (r.fields).length) ∧ (((r.fields).take i).all isField = true)) (0) [] ⟨(by first | omega | rfl | (simp; done) | (simp; omega) | simp), (by first | omega | rfl | (simp; done) | (simp; omega) | simp)⟩ (by simp [go_sem]) ?_
  rintro i ⟨h1, h2⟩ K1 hK1
  refine okC_seq ?_
  refine okC_rg good ?_
  simp [go_sem]
  repeat (with_reducible refine And.intro ?_ ?_; first | omega | assumption | (simp only [inI]; omega))
  refine okC_if ?_
  simp [go_sem]
  first | refine gC_dec (fun a => ?_) (fun a => ?_) | refine gC_ndec (fun a => ?_) (fun a => ?_) | refine gC_of (fun a => ?_) (fun a => ?_)
  · try simp at a
    refine okC_skip ?_
    refine okC_seq ?_
    refine okC_block ?_
    obtain ⟨c, hc⟩ := at_of (l := r.fields) (i := i) (by omega)
    refine okC_rg good ?_
    simp [go_sem, hc]
    repeat (with_reducible refine And.intro ?_ ?_; first | omega | assumption | (simp only [inI]; omega))
    first | refine callK_of (fn_spec_l8Field _ (hs2 c (List.mem_of_getElem? hc))) (by simp [go_sem]) ?_ | refine callK_fz (fn_spec_l8Field _ (hs2 c (List.mem_of_getElem? hc))) (by simp [go_sem]) (by simp [go_sem]) ?_
    simp [go_sem, hc]
    repeat (with_reducible refine And.intro ?_ ?_; first | omega | assumption | (simp only [inI]; omega))
    refine okC_if ?_
    simp [go_sem, hc]
    first | refine gC_dec (fun b => ?_) (fun b => ?_) | refine gC_ndec (fun b => ?_) (fun b => ?_) | refine gC_of (fun b => ?_) (fun b => ?_)
    · try simp at b
      have hn := all_no hc (P := isField) (by first | assumption | (simp; omega) | (simp [*]; done) | (simp [isField, *]; done) | grind [isField] | (simp [isField]; omega))
      refine okC_rg good ?_
      simp [go_sem, hc, hn]
      repeat (with_reducible refine And.intro ?_ ?_; first | omega | assumption | (simp only [inI]; omega))
      refine okC_ret (show K1 _ _ from retE hK1 ?_)
      simp [go_sem, hc, hn]
      all_goals first | done | omega | grind [validRec] | (simp; omega) | (simp_all [validRec]; done) | (simp_all [validRec]; omega)
    · try simp at b
      refine okC_skip ?_
      refine okC_rg1 good ?_
      simp [go_sem, hc]
      repeat (with_reducible refine And.intro ?_ ?_; first | omega | assumption | (simp only [inI]; omega))
      refine normalE hK1 ⟨i + 1, [], ⟨(by omega), (all_step hc h2 (by first | assumption | (simp; omega) | (simp [*]; done) | (simp [isField, *]; done) | grind [isField] | (simp [isField]; omega)))⟩, (by show _ < _; first | omega | simp; omega), (by simp [go_sem, hc])⟩
  · try simp at a
    refine okC_exit (show K1 _ _ from exitE hK1 ?_)
    have hf := all_fin h2 a
    refine okC_rg good ?_
    simp [go_sem, hf]
    repeat (with_reducible refine And.intro ?_ ?_; first | omega | assumption | (simp only [inI]; omega))
    first | refine callK_of (fn_spec_l1In _ _ _) (by simp [go_sem]) ?_ | refine callK_fz (fn_spec_l1In _ _ _) (by simp [go_sem]) (by simp [go_sem]) ?_
    simp [go_sem, hf]
    repeat (with_reducible refine And.intro ?_ ?_; first | omega | assumption | (simp only [inI]; omega))
    first | refine gI_dec (fun g1 => ?_) (fun g1 => ?_) | refine gI_ndec (fun g1 => ?_) (fun g1 => ?_) | refine gI_of (fun g1 => ?_) (fun g1 => ?_)
    · have g1' := g1; try simp at g1'
      simp [go_sem, hf, g1]
      repeat (with_reducible refine And.intro ?_ ?_; first | omega | assumption | (simp only [inI]; omega))
      first | refine callK_of (fn_spec_l1In _ _ _) (by simp [go_sem]) ?_ | refine callK_fz (fn_spec_l1In _ _ _) (by simp [go_sem]) (by simp [go_sem]) ?_
      simp [go_sem, hf, g1]
      repeat (with_reducible refine And.intro ?_ ?_; first | omega | assumption | (simp only [inI]; omega))
      first | refine gI_dec (fun g2 => ?_) (fun g2 => ?_) | refine gI_ndec (fun g2 => ?_) (fun g2 => ?_) | refine gI_of (fun g2 => ?_) (fun g2 => ?_)
      · have g2' := g2; try simp at g2'
        simp [go_sem, hf, g1, g2]
        repeat (with_reducible refine And.intro ?_ ?_; first | omega | assumption | (simp only [inI]; omega))
        first | refine callK_of (fn_spec_l1In _ _ _) (by simp [go_sem]) ?_ | refine callK_fz (fn_spec_l1In _ _ _) (by simp [go_sem]) (by simp [go_sem]) ?_
        simp [go_sem, hf, g1, g2]
        repeat (with_reducible refine And.intro ?_ ?_; first | omega | assumption | (simp only [inI]; omega))
        first | refine gI_dec (fun g3 => ?_) (fun g3 => ?_) | refine gI_ndec (fun g3 => ?_) (fun g3 => ?_) | refine gI_of (fun g3 => ?_) (fun g3 => ?_)
        · have g3' := g3; try simp at g3'
          simp [go_sem, hf, g1, g2, g3]
          repeat (with_reducible refine And.intro ?_ ?_; first | omega | assumption | (simp only [inI]; omega))
          refine okC_ret ?_
          simp [go_sem, hf, g1, g2, g3]
          all_goals first | done | omega | grind [validRec] | (simp; omega) | (simp_all [validRec]; done) | (simp_all [validRec]; omega)
        · have g3' := g3; try simp at g3'
          simp [go_sem, hf, g1, g2, g3]
          repeat (with_reducible refine And.intro ?_ ?_; first | omega | assumption | (simp only [inI]; omega))
          refine okC_ret ?_
          simp [go_sem, hf, g1, g2, g3]
          all_goals first | done | omega | grind [validRec] | (simp; omega) | (simp_all [validRec]; done) | (simp_all [validRec]; omega)
      · have g2' := g2; try simp at g2'
        simp [go_sem, hf, g1, g2]
        repeat (with_reducible refine And.intro ?_ ?_; first | omega | assumption | (simp only [inI]; omega))
        refine okC_ret ?_
        simp [go_sem, hf, g1, g2]
        all_goals first | done | omega | grind [validRec] | (simp; omega) | (simp_all [validRec]; done) | (simp_all [validRec]; omega)
    · have g1' := g1; try simp at g1'
      simp [go_sem, hf, g1]
      repeat (with_reducible refine And.intro ?_ ?_; first | omega | assumption | (simp only [inI]; omega))
      refine okC_ret ?_
      simp [go_sem, hf, g1]
      all_goals first | done | omega | grind [validRec] | (simp; omega) | (simp_all [validRec]; done) | (simp_all [validRec]; omega)
theorem fn_spec_l29Gone (r : Rec) (hs : r.fields.length ≤ 1048576) : FnOk Tryz.prog 123 [nRec r] (fun res' => res' = .val (dB (goneRec r))) := by
  refine fn_of good (rs := [.tmp 2]) Tryz.func123 rfl Tryz.ntmps123 (by decide) (by simp) rfl fun w0 ow0 => ?_
  refine okC_rg good ?_
  simp [go_sem]
  repeat (with_reducible refine And.intro ?_ ?_; first | omega | assumption | (simp only [inI]; omega))
  refine okC_rg good ?_
  simp [go_sem]
  repeat (with_reducible refine And.intro ?_ ?_; first | omega | assumption | (simp only [inI]; omega))
  first | refine callK_of (fn_spec_l1In _ _ _) (by simp [go_sem]) ?_ | refine callK_fz (fn_spec_l1In _ _ _) (by simp [go_sem]) (by simp [go_sem]) ?_
  simp [go_sem]
  repeat (with_reducible refine And.intro ?_ ?_; first | omega | assumption | (simp only [inI]; omega))
  first | refine gI_dec (fun g1 => ?_) (fun g1 => ?_) | refine gI_ndec (fun g1 => ?_) (fun g1 => ?_) | refine gI_of (fun g1 => ?_) (fun g1 => ?_)
  · have g1' := g1; try simp at g1'
    simp [go_sem, g1]
    repeat (with_reducible refine And.intro ?_ ?_; first | omega | assumption | (simp only [inI]; omega))
    first | refine callK_of (fn_spec_l1In _ _ _) (by simp [go_sem]) ?_ | refine callK_fz (fn_spec_l1In _ _ _) (by simp [go_sem]) (by simp [go_sem]) ?_
    simp [go_sem, g1]
    repeat (with_reducible refine And.intro ?_ ?_; first | omega | assumption | (simp only [inI]; omega))
    first | refine gI_dec (fun g2 => ?_) (fun g2 => ?_) | refine gI_ndec (fun g2 => ?_) (fun g2 => ?_) | refine gI_of (fun g2 => ?_) (fun g2 => ?_)
    · have g2' := g2; try simp at g2'
      simp [go_sem, g1, g2]
      repeat (with_reducible refine And.intro ?_ ?_; first | omega | assumption | (simp only [inI]; omega))
      first | refine callK_of (fn_spec_l1In _ _ _) (by simp [go_sem]) ?_ | refine callK_fz (fn_spec_l1In _ _ _) (by simp [go_sem]) (by simp [go_sem]) ?_
      simp [go_sem, g1, g2]
      repeat (with_reducible refine And.intro ?_ ?_; first | omega | assumption | (simp only [inI]; omega))
      first | refine gI_dec (fun g3 => ?_) (fun g3 => ?_) | refine gI_ndec (fun g3 => ?_) (fun g3 => ?_) | refine gI_of (fun g3 => ?_) (fun g3 => ?_)
      · have g3' := g3; try simp at g3'
        simp [go_sem, g1, g2, g3]
        repeat (with_reducible refine And.intro ?_ ?_; first | omega | assumption | (simp only [inI]; omega))
        refine okC_ret ?_
        simp [go_sem, g1, g2, g3]
        all_goals first | done | omega | grind [goneRec] | (simp; omega) | (simp_all [goneRec]; done) | (simp_all [goneRec]; omega)
      · have g3' := g3; try simp at g3'
        simp [go_sem, g1, g2, g3]
        repeat (with_reducible refine And.intro ?_ ?_; first | omega | assumption | (simp only [inI]; omega))
        refine okC_ret ?_
        simp [go_sem, g1, g2, g3]
        all_goals first | done | omega | grind [goneRec] | (simp; omega) | (simp_all [goneRec]; done) | (simp_all [goneRec]; omega)
    · have g2' := g2; try simp at g2'
      simp [go_sem, g1, g2]
      repeat (with_reducible refine And.intro ?_ ?_; first | omega | assumption | (simp only [inI]; omega))
      refine okC_ret ?_
      simp [go_sem, g1, g2]
      all_goals first | done | omega | grind [goneRec] | (simp; omega) | (simp_all [goneRec]; done) | (simp_all [goneRec]; omega)
  · have g1' := g1; try simp at g1'
    simp [go_sem, g1]
    repeat (with_reducible refine And.intro ?_ ?_; first | omega | assumption | (simp only [inI]; omega))
    refine okC_ret ?_
    simp [go_sem, g1]
    all_goals first | done | omega | grind [goneRec] | (simp; omega) | (simp_all [goneRec]; done) | (simp_all [goneRec]; omega)
theorem fn_spec_l29Zero (r : Rec) (hs : r.fields.length ≤ 1048576) : FnOk Tryz.prog 125 [nRec r] (fun res' => res' = .val (dB (zeroRec r))) := by
  refine fn_of good (rs := [.tmp 2]) Tryz.func125 rfl Tryz.ntmps125 (by decide) (by simp) rfl fun w0 ow0 => ?_
  refine okC_rg good ?_
  simp [go_sem]
  repeat (with_reducible refine And.intro ?_ ?_; first | omega | assumption | (simp only [inI]; omega))
  refine okC_rg good ?_
  simp [go_sem]
  repeat (with_reducible refine And.intro ?_ ?_; first | omega | assumption | (simp only [inI]; omega))
  first | refine gI_dec (fun g1 => ?_) (fun g1 => ?_) | refine gI_ndec (fun g1 => ?_) (fun g1 => ?_) | refine gI_of (fun g1 => ?_) (fun g1 => ?_)
  · have g1' := g1; try simp at g1'
    simp [go_sem, g1]
    repeat (with_reducible refine And.intro ?_ ?_; first | omega | assumption | (simp only [inI]; omega))
    first | refine gI_dec (fun g2 => ?_) (fun g2 => ?_) | refine gI_ndec (fun g2 => ?_) (fun g2 => ?_) | refine gI_of (fun g2 => ?_) (fun g2 => ?_)
    · have g2' := g2; try simp at g2'
      simp [go_sem, g1, g2]
      repeat (with_reducible refine And.intro ?_ ?_; first | omega | assumption | (simp only [inI]; omega))
      first | refine gI_dec (fun g3 => ?_) (fun g3 => ?_) | refine gI_ndec (fun g3 => ?_) (fun g3 => ?_) | refine gI_of (fun g3 => ?_) (fun g3 => ?_)
      · have g3' := g3; try simp at g3'
        simp [go_sem, g1, g2, g3]
        repeat (with_reducible refine And.intro ?_ ?_; first | omega | assumption | (simp only [inI]; omega))
        refine okC_ret ?_
        simp [go_sem, g1, g2, g3]
        all_goals first | done | omega | grind [zeroRec] | (simp; omega) | (simp_all [zeroRec]; done) | (simp_all [zeroRec]; omega)
      · have g3' := g3; try simp at g3'
        simp [go_sem, g1, g2, g3]
        repeat (with_reducible refine And.intro ?_ ?_; first | omega | assumption | (simp only [inI]; omega))
        refine okC_ret ?_
        simp [go_sem, g1, g2, g3]
        all_goals first | done | omega | grind [zeroRec] | (simp; omega) | (simp_all [zeroRec]; done) | (simp_all [zeroRec]; omega)
    · have g2' := g2; try simp at g2'
      simp [go_sem, g1, g2]
      repeat (with_reducible refine And.intro ?_ ?_; first | omega | assumption | (simp only [inI]; omega))
      refine okC_ret ?_
      simp [go_sem, g1, g2]
      all_goals first | done | omega | grind [zeroRec] | (simp; omega) | (simp_all [zeroRec]; done) | (simp_all [zeroRec]; omega)
  · have g1' := g1; try simp at g1'
    simp [go_sem, g1]
    repeat (with_reducible refine And.intro ?_ ?_; first | omega | assumption | (simp only [inI]; omega))
    refine okC_ret ?_
    simp [go_sem, g1]
    all_goals first | done | omega | grind [zeroRec] | (simp; omega) | (simp_all [zeroRec]; done) | (simp_all [zeroRec]; omega)
theorem ver0_eq {v : Ver} : (v = ver0) = (v.a = 0 ∧ v.b = 0 ∧ v.same = false ∧ v.time = 0) := by cases v; simp [ver0]
theorem fn_spec_IsValidOp (o : Opn) (hs : smallO o) : FnOk Tryz.prog 82 [nOp o] (fun res' => res' = .val (dB (validOp o))) := by
  refine fn_of good (rs := [.tmp 2]) Tryz.func82 rfl Tryz.ntmps82 (by decide) (by simp) rfl fun w0 ow0 => ?_
  have hs1 := hs.1
  refine okC_rg good ?_
  simp [go_sem]
  repeat (with_reducible refine And.intro ?_ ?_; first | omega | assumption | (simp only [inI]; omega))
  refine okC_rg good ?_
  simp [go_sem]
  repeat (with_reducible refine And.intro ?_ ?_; first | omega | assumption | (simp only [inI]; omega))
  refine okC_seq ?_
  refine okC_rg good ?_
  simp [go_sem]
  repeat (with_reducible refine And.intro ?_ ?_; first | omega | assumption | (simp only [inI]; omega))
  refine okC_block ?_
  refine okC_rg good ?_
  simp [go_sem]
  repeat (with_reducible refine And.intro ?_ ?_; first | omega | assumption | (simp only [inI]; omega))
  refine okC_if ?_
  simp [go_sem]
  first | refine gC_dec (fun k1 => ?_) (fun k1 => ?_) | refine gC_ndec (fun k1 => ?_) (fun k1 => ?_) | refine gC_of (fun k1 => ?_) (fun k1 => ?_)
  · try simp at k1
    refine okC_rg good ?_
    simp [go_sem]
    repeat (with_reducible refine And.intro ?_ ?_; first | omega | assumption | (simp only [inI]; omega))
    first | refine callK_of (fn_spec_IsValidRecord o.rc hs) (by simp [go_sem]) ?_ | refine callK_fz (fn_spec_IsValidRecord o.rc hs) (by simp [go_sem]) (by simp [go_sem]) ?_
    simp [go_sem]
    repeat (with_reducible refine And.intro ?_ ?_; first | omega | assumption | (simp only [inI]; omega))
    first | refine gI_dec (fun e => ?_) (fun e => ?_) | refine gI_ndec (fun e => ?_) (fun e => ?_) | refine gI_of (fun e => ?_) (fun e => ?_)
    · have e' := e; try simp at e'
      simp [go_sem, e]
      repeat (with_reducible refine And.intro ?_ ?_; first | omega | assumption | (simp only [inI]; omega))
      refine okC_ret ?_
      simp [go_sem, e]
      simp [validOp, k1, e, ver0_eq]
    · have e' := e; try simp at e'
      simp [go_sem, e]
      repeat (with_reducible refine And.intro ?_ ?_; first | omega | assumption | (simp only [inI]; omega))
      refine okC_ret ?_
      simp [go_sem, e]
      simp [validOp, k1, e]
  · try simp at k1
    refine okC_rg good ?_
    simp [go_sem]
    repeat (with_reducible refine And.intro ?_ ?_; first | omega | assumption | (simp only [inI]; omega))
    refine okC_if ?_
    simp [go_sem]
    first | refine gC_dec (fun k2 => ?_) (fun k2 => ?_) | refine gC_ndec (fun k2 => ?_) (fun k2 => ?_) | refine gC_of (fun k2 => ?_) (fun k2 => ?_)
    · try simp at k2
      refine okC_rg good ?_
      simp [go_sem]
      repeat (with_reducible refine And.intro ?_ ?_; first | omega | assumption | (simp only [inI]; omega))
      first | refine callK_of (fn_spec_l29Gone o.rc hs1) (by simp [go_sem]) ?_ | refine callK_fz (fn_spec_l29Gone o.rc hs1) (by simp [go_sem]) (by simp [go_sem]) ?_
      simp [go_sem]
      repeat (with_reducible refine And.intro ?_ ?_; first | omega | assumption | (simp only [inI]; omega))
      first | refine gI_dec (fun e => ?_) (fun e => ?_) | refine gI_ndec (fun e => ?_) (fun e => ?_) | refine gI_of (fun e => ?_) (fun e => ?_)
      · have e' := e; try simp at e'
        simp [go_sem, e]
        repeat (with_reducible refine And.intro ?_ ?_; first | omega | assumption | (simp only [inI]; omega))
        refine okC_ret ?_
        simp [go_sem, e]
        simp [validOp, k1, k2, e, ver0_eq]
      · have e' := e; try simp at e'
        simp [go_sem, e]
        repeat (with_reducible refine And.intro ?_ ?_; first | omega | assumption | (simp only [inI]; omega))
        refine okC_ret ?_
        simp [go_sem, e]
        simp [validOp, k1, k2, e]
    · try simp at k2
      refine okC_seq ?_
      refine okC_rg good ?_
      simp [go_sem]
      repeat (with_reducible refine And.intro ?_ ?_; first | omega | assumption | (simp only [inI]; omega))
      refine okC_if ?_
      simp [go_sem]
      first | refine gC_dec (fun k3 => ?_) (fun k3 => ?_) | refine gC_ndec (fun k3 => ?_) (fun k3 => ?_) | refine gC_of (fun k3 => ?_) (fun k3 => ?_)
      · try simp at k3
        refine okC_skip ?_
        refine okC_if ?_
        simp [go_sem, k3]
        refine okC_rg good ?_
        simp [go_sem, k3]
        repeat (with_reducible refine And.intro ?_ ?_; first | omega | assumption | (simp only [inI]; omega))
        first | refine callK_of (fn_spec_IsValidVerdict _) (by simp [go_sem]) ?_ | refine callK_fz (fn_spec_IsValidVerdict _) (by simp [go_sem]) (by simp [go_sem]) ?_
        simp [go_sem, k3]
        repeat (with_reducible refine And.intro ?_ ?_; first | omega | assumption | (simp only [inI]; omega))
        first | refine gI_dec (fun e => ?_) (fun e => ?_) | refine gI_ndec (fun e => ?_) (fun e => ?_) | refine gI_of (fun e => ?_) (fun e => ?_)
        · have e' := e; try simp at e'
          simp [go_sem, k3, e]
          repeat (with_reducible refine And.intro ?_ ?_; first | omega | assumption | (simp only [inI]; omega))
          first | refine callK_of (fn_spec_l29Zero o.rc hs1) (by simp [go_sem]) ?_ | refine callK_fz (fn_spec_l29Zero o.rc hs1) (by simp [go_sem]) (by simp [go_sem]) ?_
          simp [go_sem, k3, e]
          repeat (with_reducible refine And.intro ?_ ?_; first | omega | assumption | (simp only [inI]; omega))
          refine okC_ret ?_
          simp [go_sem, k3, e]
          simp [validOp, k1, k2, k3, e]
        · have e' := e; try simp at e'
          simp [go_sem, k3, e]
          repeat (with_reducible refine And.intro ?_ ?_; first | omega | assumption | (simp only [inI]; omega))
          refine okC_ret ?_
          simp [go_sem, k3, e]
          simp [validOp, k1, k2, k3, e]
      · try simp at k3
        refine okC_rg1 good ?_
        simp [go_sem]
        repeat (with_reducible refine And.intro ?_ ?_; first | omega | assumption | (simp only [inI]; omega))
        refine okC_if ?_
        simp [go_sem]
        first | refine gC_dec (fun k4 => ?_) (fun k4 => ?_) | refine gC_ndec (fun k4 => ?_) (fun k4 => ?_) | refine gC_of (fun k4 => ?_) (fun k4 => ?_)
        · try simp at k4
          refine okC_rg good ?_
          simp [go_sem, k4]
          repeat (with_reducible refine And.intro ?_ ?_; first | omega | assumption | (simp only [inI]; omega))
          first | refine callK_of (fn_spec_IsValidVerdict _) (by simp [go_sem]) ?_ | refine callK_fz (fn_spec_IsValidVerdict _) (by simp [go_sem]) (by simp [go_sem]) ?_
          simp [go_sem, k4]
          repeat (with_reducible refine And.intro ?_ ?_; first | omega | assumption | (simp only [inI]; omega))
          first | refine gI_dec (fun e => ?_) (fun e => ?_) | refine gI_ndec (fun e => ?_) (fun e => ?_) | refine gI_of (fun e => ?_) (fun e => ?_)
          · have e' := e; try simp at e'
            simp [go_sem, k4, e]
            repeat (with_reducible refine And.intro ?_ ?_; first | omega | assumption | (simp only [inI]; omega))
            first | refine callK_of (fn_spec_l29Zero o.rc hs1) (by simp [go_sem]) ?_ | refine callK_fz (fn_spec_l29Zero o.rc hs1) (by simp [go_sem]) (by simp [go_sem]) ?_
            simp [go_sem, k4, e]
            repeat (with_reducible refine And.intro ?_ ?_; first | omega | assumption | (simp only [inI]; omega))
            refine okC_ret ?_
            simp [go_sem, k4, e]
            simp [validOp, k1, k2, k3, k4, e]
          · have e' := e; try simp at e'
            simp [go_sem, k4, e]
            repeat (with_reducible refine And.intro ?_ ?_; first | omega | assumption | (simp only [inI]; omega))
            refine okC_ret ?_
            simp [go_sem, k4, e]
            simp [validOp, k1, k2, k3, k4, e]
        · try simp at k4
          refine okC_skip ?_
          refine okC_rg good ?_
          simp [go_sem]
          repeat (with_reducible refine And.intro ?_ ?_; first | omega | assumption | (simp only [inI]; omega))
          refine okC_ret ?_
          simp [go_sem]
          simp [validOp, k1, k2, k3, k4]
theorem fn_spec_IsValidBatch (l : List Opn) (hs : smallB l) : FnOk Tryz.prog 47 [nBat l] (fun res' => res' = .val (dB (validBat l))) := by
  refine fn_of good (rs := [.tmp 2]) Tryz.func47 rfl Tryz.ntmps47 (by decide) (by simp) rfl fun w0 ow0 => ?_
  obtain ⟨hs1, hs2⟩ := hs
  refine okC_rg good ?_
  simp [go_sem]
  repeat (with_reducible refine And.intro ?_ ?_; first | omega | assumption | (simp only [inI]; omega))
  refine okC_seq ?_
  refine okC_rg good ?_
  simp [go_sem]
  repeat (with_reducible refine And.intro ?_ ?_; first | omega | assumption | (simp only [inI]; omega))
  refine okC_block ?_
  refine okC_rounds (fun (i : Nat) => [(1, .own (.bx true (nBat l))), (3, .val (dI i))]) (fun (i : Nat) => (l).length - i) (fun (i : Nat) => (i ≤ (l).length) ∧ (((l).take i).all validOp = true)) (0) [] ⟨(by first | omega | rfl | (simp; done) | (simp; omega) | simp), (by first | omega | rfl | (simp; done) | (simp; omega) | simp)⟩ (by simp [go_sem]) ?_
  rintro i ⟨h1, h2⟩ K1 hK1
  refine okC_seq ?_
  refine okC_rg good ?_
  simp [go_sem]
  repeat (with_reducible refine And.intro ?_ ?_; first | omega | assumption | (simp only [inI]; omega))
  refine okC_if ?_
  simp [go_sem]
  first | refine gC_dec (fun a => ?_) (fun a => ?_) | refine gC_ndec (fun a => ?_) (fun a => ?_) | refine gC_of (fun a => ?_) (fun a => ?_)
  · try simp at a
    refine okC_skip ?_
    refine okC_seq ?_
    refine okC_block ?_
    obtain ⟨c, hc⟩ := at_of (l := l) (i := i) (by omega)
    refine okC_rg good ?_
    simp [go_sem, hc]
    repeat (with_reducible refine And.intro ?_ ?_; first | omega | assumption | (simp only [inI]; omega))
    first | refine callK_of (fn_spec_IsValidOp _ (hs2 c (List.mem_of_getElem? hc))) (by simp [go_sem]) ?_ | refine callK_fz (fn_spec_IsValidOp _ (hs2 c (List.mem_of_getElem? hc))) (by simp [go_sem]) (by simp [go_sem]) ?_
    simp [go_sem, hc]
    repeat (with_reducible refine And.intro ?_ ?_; first | omega | assumption | (simp only [inI]; omega))
    refine okC_if ?_
    simp [go_sem, hc]
    first | refine gC_dec (fun b => ?_) (fun b => ?_) | refine gC_ndec (fun b => ?_) (fun b => ?_) | refine gC_of (fun b => ?_) (fun b => ?_)
    · try simp at b
      have hn := all_no hc (P := validOp) (by first | assumption | (simp; omega) | (simp [*]; done) | (simp [validOp, *]; done) | grind [validOp] | (simp [validOp]; omega))
      refine okC_rg good ?_
      simp [go_sem, hc, hn]
      repeat (with_reducible refine And.intro ?_ ?_; first | omega | assumption | (simp only [inI]; omega))
      refine okC_ret (show K1 _ _ from retE hK1 ?_)
      simp [go_sem, hc, hn]
      all_goals first | done | omega | grind [validBat] | (simp; omega) | (simp_all [validBat]; done) | (simp_all [validBat]; omega)
    · try simp at b
      refine okC_skip ?_
      refine okC_rg1 good ?_
      simp [go_sem, hc]
      repeat (with_reducible refine And.intro ?_ ?_; first | omega | assumption | (simp only [inI]; omega))
      refine normalE hK1 ⟨i + 1, [], ⟨(by omega), (all_step hc h2 (by first | assumption | (simp; omega) | (simp [*]; done) | (simp [validOp, *]; done) | grind [validOp] | (simp [validOp]; omega)))⟩, (by show _ < _; first | omega | simp; omega), (by simp [go_sem, hc])⟩
  · try simp at a
    refine okC_exit (show K1 _ _ from exitE hK1 ?_)
    have hf := all_fin h2 a
    refine okC_rg good ?_
    simp [go_sem, hf]
    repeat (with_reducible refine And.intro ?_ ?_; first | omega | assumption | (simp only [inI]; omega))
    refine okC_ret ?_
    simp [go_sem, hf]
    all_goals first | done | omega | grind [validBat] | (simp; omega) | (simp_all [validBat]; done) | (simp_all [validBat]; omega)
end Go.Proofs.YtfhfidecmdhkoaaGreatDoor
end
section
set_option linter.unusedVariables false
set_option linter.unusedSimpArgs false
set_option maxRecDepth 10000
namespace Go.Proofs.YtfhfidecmdhkoaaGreatDoor
open Go.Dv Go.Pl
theorem fn_spec_FormatInt (n : Int) (hn : -9000000000000000000 ≤ n ∧ n ≤ 9000000000000000000) : FnOk Tryz.prog 48 [dI n] (fun res' => res' = .val (dS (fmtI n))) := by
  refine fn_of good (rs := [.tmp 2]) Tryz.func48 rfl Tryz.ntmps48 (by decide) (by simp) rfl fun w0 ow0 => ?_
  refine okC_rg good ?_
  simp [go_sem]
  repeat (with_reducible refine And.intro ?_ ?_; first | omega | assumption | (simp only [inI]; omega))
  refine okC_seq ?_
  refine okC_rg good ?_
  simp [go_sem]
  repeat (with_reducible refine And.intro ?_ ?_; first | omega | assumption | (simp only [inI]; omega))
  refine okC_if ?_
  simp [go_sem]
  first | refine gC_dec (fun e => ?_) (fun e => ?_) | refine gC_ndec (fun e => ?_) (fun e => ?_) | refine gC_of (fun e => ?_) (fun e => ?_)
  · try simp at e
    have hr : fmtI n = [48] := if_pos e
    refine okC_rg good ?_
    simp [go_sem, hr]
    repeat (with_reducible refine And.intro ?_ ?_; first | omega | assumption | (simp only [inI]; omega))
    refine okC_ret ?_
    simp [go_sem, hr]
    all_goals first | done | omega | grind | (simp; omega) | (simp_all; done) | (simp_all; omega)
  · try simp at e
    refine okC_skip ?_
    refine okC_rg good ?_
    simp [go_sem]
    repeat (with_reducible refine And.intro ?_ ?_; first | omega | assumption | (simp only [inI]; omega))
    refine okC_rg good ?_
    simp [go_sem]
    repeat (with_reducible refine And.intro ?_ ?_; first | omega | assumption | (simp only [inI]; omega))
    refine okC_seq ?_
    refine okC_block ?_
    refine okC_rounds (fun (x' : (Int) × (Str)) => match x' with | (k, s) => [(0, .val (dI k)), (3, .val (dS s)), (4, .val (dB (decide (n < 0))))]) (fun (x' : (Int) × (Str)) => match x' with | (k, s) => k.natAbs) (fun (x' : (Int) × (Str)) => match x' with | (k, s) => (natDec k.natAbs ++ s = natDec n.natAbs) ∧ (k.natAbs ≤ n.natAbs)) ((n, [])) [] ⟨(by simp), (by simp)⟩ (by simp [go_sem]) ?_
    rintro ⟨k, s⟩ ⟨h1, h2⟩ K1 hK1
    simp only at h1 h2 ⊢
    refine okC_seq ?_
    have hlen : s.length ≤ 19 := by have h3 := congrArg List.length h1; have h4 := natDec_len n.natAbs 19 (by rw [show (10:Nat)^19 = 10000000000000000000 by rfl]; omega); simp only [List.length_append] at h3; omega
    refine okC_rg good ?_
    simp [go_sem]
    repeat (with_reducible refine And.intro ?_ ?_; first | omega | assumption | (simp only [inI]; omega))
    refine okC_if ?_
    simp [go_sem]
    first | refine gC_dec (fun a => ?_) (fun a => ?_) | refine gC_ndec (fun a => ?_) (fun a => ?_) | refine gC_of (fun a => ?_) (fun a => ?_)
    · try simp at a
      refine okC_skip ?_
      refine okC_block ?_
      have ht : (k.tmod 10).natAbs = k.natAbs % 10 := Int.natAbs_tmod k 10
      have hq : (k.tdiv 10).natAbs = k.natAbs / 10 := Int.natAbs_tdiv k 10
      have hqi := inI_tdivs (a := k) (b := 10) (by omega) (by omega)
      have hdec := natDec_pos (m := k.natAbs) (by omega)
      generalize hT : k.tmod 10 = t at ht ⊢
      generalize hQ : k.tdiv 10 = q at hq hqi ⊢
      refine okC_rg good ?_
      simp [go_sem, hT, hQ, hqi]
      repeat (with_reducible refine And.intro ?_ ?_; first | omega | assumption | (simp only [inI]; omega))
      refine okC_cut (fun (_ : Unit) => [(0, .val (dI k)), (3, .val (dS s)), (4, .val (dB (decide (n < 0)))), (5, .val (dI (k.natAbs % 10 : Nat)))]) (fun (_ : Unit) => True) ?_ ?_
      rotate_left
      · rintro K2 hK2
        refine okC_rg good ?_
        simp [go_sem, hT, hQ, hqi]
        repeat (with_reducible refine And.intro ?_ ?_; first | omega | assumption | (simp only [inI]; omega))
        refine okC_if ?_
        simp [go_sem, hT, hQ, hqi]
        first | refine gC_dec (fun b => ?_) (fun b => ?_) | refine gC_ndec (fun b => ?_) (fun b => ?_) | refine gC_of (fun b => ?_) (fun b => ?_)
        · try simp at b
          have hj : -t = (k.natAbs : Int) % 10 := by omega
          refine okC_rg1 good ?_
          simp [go_sem, hT, hQ, hqi, hj]
          repeat (with_reducible refine And.intro ?_ ?_; first | omega | assumption | (simp only [inI]; omega))
          refine normalE hK2 ⟨(), [], trivial, (by simp [go_sem, hT, hQ, hqi, hj])⟩
        · try simp at b
          refine okC_skip ?_
          have hj : t = (k.natAbs : Int) % 10 := by omega
          refine normalE hK2 ⟨(), [], trivial, (by simp [go_sem, hT, hQ, hqi, hj])⟩
      rintro ⟨⟩ -
      try simp only
      obtain ⟨c, hc⟩ : ∃ c : UInt8, c = UInt8.ofNat (48 + k.natAbs % 10) := ⟨_, rfl⟩
      have hu8 : (48 + (k.natAbs : Int) % 10) % 256 = (c.toNat : Int) := by rw [hc, UInt8.toNat_ofNat']; omega
      have hu9 : IntKind.u8.wrap (48 + (k.natAbs : Int) % 10) = (c.toNat : Int) := by rw [← hu8]; simp [IntKind.wrap, IntKind.bits, IntKind.signed]
      refine okC_rg good ?_
      simp [go_sem, hT, hQ, hqi, hu9]
      repeat (with_reducible refine And.intro ?_ ?_; first | omega | assumption | (simp only [inI]; omega))
      refine okC_rg1 good ?_
      simp [go_sem, hT, hQ, hqi, hu9]
      repeat (with_reducible refine And.intro ?_ ?_; first | omega | assumption | (simp only [inI]; omega))
      refine show K1 .normal _ from normalE hK1 ⟨(q, c :: s), [], ⟨(by rw [hq, ← h1, hdec, hc]; simp), (by omega)⟩, (by show _ < _; first | omega | simp; omega), (by simp [go_sem, hT, hQ, hqi, hu9])⟩
    · try simp at a
      refine okC_exit (show K1 _ _ from exitE hK1 ?_)
      refine okC_seq ?_
      have hk : k = 0 := by omega
      rw [hk] at h1
      have hs : s = natDec n.natAbs := by simpa [natDec_zero] using h1
      refine okC_rg good ?_
      simp [go_sem]
      repeat (with_reducible refine And.intro ?_ ?_; first | omega | assumption | (simp only [inI]; omega))
      refine okC_if ?_
      simp [go_sem]
      first | refine gC_dec (fun b => ?_) (fun b => ?_) | refine gC_ndec (fun b => ?_) (fun b => ?_) | refine gC_of (fun b => ?_) (fun b => ?_)
      · try simp at b
        have hr : fmtI n = 45 :: s := by rw [fmtI, if_neg e, if_pos (by omega), hs]; rfl
        refine okC_rg good ?_
        simp [go_sem, hr]
        repeat (with_reducible refine And.intro ?_ ?_; first | omega | assumption | (simp only [inI]; omega))
        refine okC_ret ?_
        simp [go_sem, hr]
        all_goals first | done | omega | grind | (simp; omega) | (simp_all; done) | (simp_all; omega)
      · try simp at b
        refine okC_skip ?_
        have hr : fmtI n = s := by rw [fmtI, if_neg e, if_neg (by omega), hs]; rfl
        refine okC_rg good ?_
        simp [go_sem, hr]
        repeat (with_reducible refine And.intro ?_ ?_; first | omega | assumption | (simp only [inI]; omega))
        refine okC_ret ?_
        simp [go_sem, hr]
        all_goals first | done | omega | grind | (simp; omega) | (simp_all; done) | (simp_all; omega)
theorem pow_le {i : Nat} (h : i ≤ 11) : (10 : Int) ^ i ≤ 100000000000 := by
  have h1 : (10 : Nat) ^ i ≤ 10 ^ 11 := Nat.pow_le_pow_right (by omega) h
  have h2 : ((10 ^ i : Nat) : Int) ≤ ((10 ^ 11 : Nat) : Int) := by exact_mod_cast h1
  simpa using h2
theorem getI_eq (s : Str) : getI s = if parseB s = true then parseV s else 0 := by unfold getI readI; split <;> rfl
theorem fn_spec_ParseInt (s : Str) (hs : s.length ≤ 1048576) : FnOk Tryz.prog 60 [dS s] (fun res' => res' = .tup [.val (dI (getI s)), .val (dB (parseB s))]) := by
  rw [getI_eq]
  refine fn_of good (rs := [.tmp 2, .tmp 3]) Tryz.func60 rfl Tryz.ntmps60 (by decide) (by simp) rfl fun w0 ow0 => ?_
  refine okC_rg good ?_
  simp [go_sem]
  repeat (with_reducible refine And.intro ?_ ?_; first | omega | assumption | (simp only [inI]; omega))
  refine okC_rg good ?_
  simp [go_sem]
  repeat (with_reducible refine And.intro ?_ ?_; first | omega | assumption | (simp only [inI]; omega))
  refine okC_rg good ?_
  simp [go_sem]
  repeat (with_reducible refine And.intro ?_ ?_; first | omega | assumption | (simp only [inI]; omega))
  refine okC_cut (fun (x' : (Int) × (Int)) => match x' with | (v, d) => [(0, .val (dS s)), (4, .val (dI v)), (5, .val (dI d))]) (fun (x' : (Int) × (Int)) => match x' with | (v, d) => ((v, d) = parseN s) ∧ (0 ≤ v ∧ v ≤ 100000000000) ∧ (0 ≤ d ∧ d ≤ 11)) ?_ ?_
  rotate_left
  · rintro K1 hK1
    refine okC_rg good ?_
    simp [go_sem]
    repeat (with_reducible refine And.intro ?_ ?_; first | omega | assumption | (simp only [inI]; omega))
    refine okC_block ?_
    refine okC_rounds (fun (x' : (Nat) × (Int) × (Int)) => match x' with | (i, v, d) => [(0, .val (dS s)), (4, .val (dI v)), (5, .val (dI d)), (6, .val (dI i))]) (fun (x' : (Nat) × (Int) × (Int)) => match x' with | (i, v, d) => s.length - i) (fun (x' : (Nat) × (Int) × (Int)) => match x' with | (i, v, d) => (i ≤ s.length ∧ i ≤ 11) ∧ ((v, d) = (s.take i).foldl pStep (0, 0)) ∧ (0 ≤ v ∧ v < 10 ^ i) ∧ (0 ≤ d ∧ d ≤ i)) ((0, 0, 0)) [] ⟨(by simp), (rfl), (by simp), (by simp)⟩ (by simp [go_sem]) ?_
    rintro ⟨i, v, d⟩ ⟨h1, h2, h3, h4⟩ K2 hK2
    simp only at h1 h2 h3 h4 ⊢
    refine okC_seq ?_
    have hp11 : (10 : Int) ^ i ≤ 100000000000 := pow_le (by omega)
    refine okC_rg good ?_
    simp [go_sem]
    repeat (with_reducible refine And.intro ?_ ?_; first | omega | assumption | (simp only [inI]; omega))
    first | refine gI_dec (fun a => ?_) (fun a => ?_) | refine gI_ndec (fun a => ?_) (fun a => ?_) | refine gI_of (fun a => ?_) (fun a => ?_)
    · have a' := a; try simp at a'
      simp [go_sem, a]
      repeat (with_reducible refine And.intro ?_ ?_; first | omega | assumption | (simp only [inI]; omega))
      refine okC_if ?_
      simp [go_sem, a]
      first | refine gC_dec (fun b => ?_) (fun b => ?_) | refine gC_ndec (fun b => ?_) (fun b => ?_) | refine gC_of (fun b => ?_) (fun b => ?_)
      · try simp at b
        refine okC_skip ?_
        refine okC_seq ?_
        refine okC_block ?_
        obtain ⟨c, hc⟩ := at_of (l := s) (i := i) (by omega)
        have hm := foldl_snoc pStep (0, 0) hc
        rw [← h2] at hm
        refine okC_rg good ?_
        simp [go_sem, hc]
        repeat (with_reducible refine And.intro ?_ ?_; first | omega | assumption | (simp only [inI]; omega))
        first | refine gI_dec (fun e => ?_) (fun e => ?_) | refine gI_ndec (fun e => ?_) (fun e => ?_) | refine gI_of (fun e => ?_) (fun e => ?_)
        · have e' := e; try simp at e'
          simp [go_sem, hc, e]
          repeat (with_reducible refine And.intro ?_ ?_; first | omega | assumption | (simp only [inI]; omega))
          refine okC_if ?_
          simp [go_sem, hc, e]
          first | refine gC_dec (fun f => ?_) (fun f => ?_) | refine gC_ndec (fun f => ?_) (fun f => ?_) | refine gC_of (fun f => ?_) (fun f => ?_)
          · try simp at f
            have hu : pStep (v, d) c = (v * 10 + (c.toNat - 48), d + 1) := if_pos ⟨by omega, by omega⟩
            have hw : IntKind.i64.wrap ((c.toNat : Int) - 48) = c.toNat - 48 := by simp [IntKind.wrap, IntKind.bits, IntKind.signed]; omega
            have hps : (10 : Int) ^ (i + 1) = 10 ^ i * 10 := Int.pow_succ 10 i
            refine okC_rg good ?_
            simp [go_sem, hc, e, hw]
            repeat (with_reducible refine And.intro ?_ ?_; first | omega | assumption | (simp only [inI]; omega))
            refine okC_rg1 good ?_
            simp [go_sem, hc, e, hw]
            repeat (with_reducible refine And.intro ?_ ?_; first | omega | assumption | (simp only [inI]; omega))
            refine okC_rg1 good ?_
            simp [go_sem, hc, e, hw]
            repeat (with_reducible refine And.intro ?_ ?_; first | omega | assumption | (simp only [inI]; omega))
            refine normalE hK2 ⟨(i + 1, v * 10 + (c.toNat - 48), d + 1), [], ⟨(by omega), (by rw [hm, hu]), (by rw [hps]; omega), (by omega)⟩, (by show _ < _; first | omega | simp; omega), (by simp [go_sem, hc, e, hw])⟩
          · try simp at f
            refine okC_skip ?_
            have hu : pStep (v, d) c = (v, d) := if_neg (by omega)
            have hps : (10 : Int) ^ (i + 1) = 10 ^ i * 10 := Int.pow_succ 10 i
            refine okC_rg1 good ?_
            simp [go_sem, hc, e]
            repeat (with_reducible refine And.intro ?_ ?_; first | omega | assumption | (simp only [inI]; omega))
            refine normalE hK2 ⟨(i + 1, v, d), [], ⟨(by omega), (by rw [hm, hu]), (by rw [hps]; omega), (by omega)⟩, (by show _ < _; first | omega | simp; omega), (by simp [go_sem, hc, e])⟩
        · have e' := e; try simp at e'
          simp [go_sem, hc, e]
          repeat (with_reducible refine And.intro ?_ ?_; first | omega | assumption | (simp only [inI]; omega))
          refine okC_if ?_
          simp [go_sem, hc, e]
          refine okC_skip ?_
          have hu : pStep (v, d) c = (v, d) := if_neg (by omega)
          have hps : (10 : Int) ^ (i + 1) = 10 ^ i * 10 := Int.pow_succ 10 i
          refine okC_rg1 good ?_
          simp [go_sem, hc, e]
          repeat (with_reducible refine And.intro ?_ ?_; first | omega | assumption | (simp only [inI]; omega))
          refine normalE hK2 ⟨(i + 1, v, d), [], ⟨(by omega), (by rw [hm, hu]), (by rw [hps]; omega), (by omega)⟩, (by show _ < _; first | omega | simp; omega), (by simp [go_sem, hc, e])⟩
      · try simp at b
        refine okC_exit (show K2 _ _ from exitE hK2 ?_)
        refine normalE hK1 ⟨(v, d), [], ⟨(by rw [h2, parseN, show i = 11 by omega]), (by omega), (by omega)⟩, (by simp [go_sem, a])⟩
    · have a' := a; try simp at a'
      simp [go_sem, a]
      repeat (with_reducible refine And.intro ?_ ?_; first | omega | assumption | (simp only [inI]; omega))
      refine okC_if ?_
      simp [go_sem, a]
      refine okC_exit (show K2 _ _ from exitE hK2 ?_)
      refine normalE hK1 ⟨(v, d), [], ⟨(by rw [h2, parseN, List.take_of_length_le (show s.length ≤ i by omega), List.take_of_length_le (show s.length ≤ 11 by omega)]), (by omega), (by omega)⟩, (by simp [go_sem, a])⟩
  rintro ⟨v, d⟩ ⟨h5, h6, h7⟩
  simp only at h5 h6 h7 ⊢
  have hv : (parseN s).1 = v := by rw [← h5]
  have hd : (parseN s).2 = d := by rw [← h5]
  refine okC_cut (fun (z : Int) => [(0, .val (dS s)), (4, .val (dI z)), (5, .val (dI d))]) (fun (z : Int) => (z = parseV s) ∧ (-100000000000 ≤ z ∧ z ≤ 100000000000)) ?_ ?_
  rotate_left
  · rintro K3 hK3
    refine okC_rg good ?_
    simp [go_sem]
    repeat (with_reducible refine And.intro ?_ ?_; first | omega | assumption | (simp only [inI]; omega))
    first | refine gI_dec (fun e => ?_) (fun e => ?_) | refine gI_ndec (fun e => ?_) (fun e => ?_) | refine gI_of (fun e => ?_) (fun e => ?_)
    · have e' := e; try simp at e'
      obtain ⟨c, hc⟩ := at_of (l := s) (i := 0) (by simpa using e)
      have hcz : ∀ h, (⟨s.toArray⟩ : ByteArray)[0]'h = c := fun h => by have := ba_get s 0; rw [hc] at this; exact Option.some.inj ((getElem?_pos (⟨s.toArray⟩ : ByteArray) 0 h).symm.trans this)
      simp [go_sem, e, hcz]
      repeat (with_reducible refine And.intro ?_ ?_; first | omega | assumption | (simp only [inI]; omega))
      refine okC_if ?_
      simp [go_sem, e, hcz]
      first | refine gC_dec (fun f => ?_) (fun f => ?_) | refine gC_ndec (fun f => ?_) (fun f => ?_) | refine gC_of (fun f => ?_) (fun f => ?_)
      · try simp at f
        have hpv : parseV s = -v := by rw [parseV, if_pos (by rw [hc]; congr 1; exact UInt8.toNat_inj.1 (by show c.toNat = 45; omega)), hv]
        refine okC_rg1 good ?_
        simp [go_sem, e, hcz]
        repeat (with_reducible refine And.intro ?_ ?_; first | omega | assumption | (simp only [inI]; omega))
        refine normalE hK3 ⟨-v, [], ⟨(hpv.symm), (by omega)⟩, (by simp [go_sem, e, hcz])⟩
      · try simp at f
        refine okC_skip ?_
        have hpv : parseV s = v := by rw [parseV, if_neg (by rw [hc]; intro h; have := Option.some.inj h; subst this; exact f rfl), hv]
        refine normalE hK3 ⟨v, [], ⟨(hpv.symm), (by omega)⟩, (by simp [go_sem, e, hcz])⟩
    · have e' := e; try simp at e'
      simp [go_sem, e]
      repeat (with_reducible refine And.intro ?_ ?_; first | omega | assumption | (simp only [inI]; omega))
      refine okC_if ?_
      simp [go_sem, e]
      refine okC_skip ?_
      have hpv : parseV s = v := by rw [parseV, if_neg (by rw [show s = [] from List.eq_nil_of_length_eq_zero (by simpa using e)]; simp), hv]
      refine normalE hK3 ⟨v, [], ⟨(hpv.symm), (by omega)⟩, (by simp [go_sem, e])⟩
  rintro z ⟨h8, h9⟩
  refine okC_seq ?_
  refine okC_rg good ?_
  simp [go_sem]
  repeat (with_reducible refine And.intro ?_ ?_; first | omega | assumption | (simp only [inI]; omega))
  first | refine gI_dec (fun e => ?_) (fun e => ?_) | refine gI_ndec (fun e => ?_) (fun e => ?_) | refine gI_of (fun e => ?_) (fun e => ?_)
  · have e' := e; try simp at e'
    simp [go_sem, e]
    repeat (with_reducible refine And.intro ?_ ?_; first | omega | assumption | (simp only [inI]; omega))
    refine okC_if ?_
    simp [go_sem, e]
    have hb : parseB s = false := by simp only [parseB, hd]; rw [decide_eq_false (by omega)]; rfl
    refine okC_rg good ?_
    simp [go_sem, e]
    repeat (with_reducible refine And.intro ?_ ?_; first | omega | assumption | (simp only [inI]; omega))
    refine okC_ret ?_
    simp [go_sem, e]
    all_goals simp [hb]
  · have e' := e; try simp at e'
    simp [go_sem, e]
    repeat (with_reducible refine And.intro ?_ ?_; first | omega | assumption | (simp only [inI]; omega))
    first | refine gI_dec (fun g => ?_) (fun g => ?_) | refine gI_ndec (fun g => ?_) (fun g => ?_) | refine gI_of (fun g => ?_) (fun g => ?_)
    · have g' := g; try simp at g'
      simp [go_sem, e, g]
      repeat (with_reducible refine And.intro ?_ ?_; first | omega | assumption | (simp only [inI]; omega))
      refine okC_if ?_
      simp [go_sem, e, g]
      have hb : parseB s = false := by simp only [parseB, hd]; rw [decide_eq_false (p := s.length ≤ 10) (by omega)]; simp
      refine okC_rg good ?_
      simp [go_sem, e, g]
      repeat (with_reducible refine And.intro ?_ ?_; first | omega | assumption | (simp only [inI]; omega))
      refine okC_ret ?_
      simp [go_sem, e, g]
      all_goals simp [hb]
    · have g' := g; try simp at g'
      simp [go_sem, e, g]
      repeat (with_reducible refine And.intro ?_ ?_; first | omega | assumption | (simp only [inI]; omega))
      first | refine callK_of (fn_spec_FormatInt z (by omega)) (by simp [go_sem]) ?_ | refine callK_fz (fn_spec_FormatInt z (by omega)) (by simp [go_sem]) (by simp [go_sem]) ?_
      simp [go_sem, e, g]
      repeat (with_reducible refine And.intro ?_ ?_; first | omega | assumption | (simp only [inI]; omega))
      refine okC_if ?_
      simp [go_sem, e, g]
      first | refine gC_dec (fun b => ?_) (fun b => ?_) | refine gC_ndec (fun b => ?_) (fun b => ?_) | refine gC_of (fun b => ?_) (fun b => ?_)
      · try simp at b
        have hb : parseB s = false := by simp only [parseB, hd, ← h8]; rw [decide_eq_false (p := fmtI z = s) b]; simp
        refine okC_rg good ?_
        simp [go_sem, e, g]
        repeat (with_reducible refine And.intro ?_ ?_; first | omega | assumption | (simp only [inI]; omega))
        refine okC_ret ?_
        simp [go_sem, e, g]
        all_goals simp [hb]
      · try simp at b
        refine okC_skip ?_
        have hb : parseB s = true := by simp only [parseB, hd, ← h8]; simp [b]; omega
        refine okC_rg good ?_
        simp [go_sem, e, g]
        repeat (with_reducible refine And.intro ?_ ?_; first | omega | assumption | (simp only [inI]; omega))
        refine okC_ret ?_
        simp [go_sem, e, g]
        all_goals simp [hb, h8]
abbrev dC (c : UInt8) : D := .one (.int .u8 c.toNat)
theorem drop_at {α : Type} {l : List α} {i : Nat} {c : α} (h : l[i]? = some c) : l.drop i = c :: l.drop (i + 1) := by
  have hi := getElem?_lt h
  rw [List.drop_eq_getElem_cons hi]; congr 1; simpa [List.getElem?_eq_getElem hi] using h
theorem drop_atS {l : Str} {i : Nat} {c : UInt8} (h : l[i]? = some c) : l.drop i = c :: l.drop (i + 1) := drop_at h
theorem fn_spec_l2Cut (s : Str) (c : UInt8) (hs : s.length ≤ 1048576) : FnOk Tryz.prog 93 [dS s, dC c] (fun res' => res' = .own (oStrs (cutS c s))) := by
  refine fn_of good (rs := [.tmp 4]) Tryz.func93 rfl Tryz.ntmps93 (by decide) (by simp) rfl fun w0 ow0 => ?_
  refine okC_rg good ?_
  simp [go_sem]
  repeat (with_reducible refine And.intro ?_ ?_; first | omega | assumption | (simp only [inI]; omega))
  refine okC_rg good ?_
  simp [go_sem]
  repeat (with_reducible refine And.intro ?_ ?_; first | omega | assumption | (simp only [inI]; omega))
  refine okC_rg good ?_
  simp [go_sem]
  repeat (with_reducible refine And.intro ?_ ?_; first | omega | assumption | (simp only [inI]; omega))
  refine okC_seq ?_
  refine okC_rg good ?_
  simp [go_sem]
  repeat (with_reducible refine And.intro ?_ ?_; first | omega | assumption | (simp only [inI]; omega))
  refine okC_block ?_
  refine okC_rounds (fun (x' : (Nat) × (Nat) × (List Str)) => match x' with | (i, f, o) => [(0, .val (dS s)), (1, .val (dC c)), (5, .own (oStrs o)), (6, .val (dI f)), (7, .val (dI i))]) (fun (x' : (Nat) × (Nat) × (List Str)) => match x' with | (i, f, o) => s.length - i) (fun (x' : (Nat) × (Nat) × (List Str)) => match x' with | (i, f, o) => (i ≤ s.length) ∧ (f ≤ i) ∧ (o.length ≤ i) ∧ (o ++ cutA c ((s.drop f).take (i - f)) (s.drop i) = cutS c s)) ((0, 0, [])) [] ⟨(by simp), (by simp), (by simp), (by simp [cutS])⟩ (by simp [go_sem]) ?_
  rintro ⟨i, f, o⟩ ⟨h1, h2, h3, h4⟩ K1 hK1
  simp only at h1 h2 h3 h4 ⊢
  refine okC_seq ?_
  refine okC_rg good ?_
  simp [go_sem]
  repeat (with_reducible refine And.intro ?_ ?_; first | omega | assumption | (simp only [inI]; omega))
  refine okC_if ?_
  simp [go_sem]
  first | refine gC_dec (fun a => ?_) (fun a => ?_) | refine gC_ndec (fun a => ?_) (fun a => ?_) | refine gC_of (fun a => ?_) (fun a => ?_)
  · try simp at a
    refine okC_skip ?_
    refine okC_seq ?_
    refine okC_block ?_
    obtain ⟨d, hd⟩ := at_of (l := s) (i := i) (by omega)
    rw [drop_atS hd] at h4
    refine okC_rg good ?_
    simp [go_sem, hd]
    repeat (with_reducible refine And.intro ?_ ?_; first | omega | assumption | (simp only [inI]; omega))
    refine okC_if ?_
    simp [go_sem, hd]
    first | refine gC_dec (fun b => ?_) (fun b => ?_) | refine gC_ndec (fun b => ?_) (fun b => ?_) | refine gC_of (fun b => ?_) (fun b => ?_)
    · try simp at b
      refine okC_rg good ?_
      simp [go_sem, hd]
      repeat (with_reducible refine And.intro ?_ ?_; first | omega | assumption | (simp only [inI]; omega))
      refine okC_rg1 good ?_
      simp [go_sem, hd]
      repeat (with_reducible refine And.intro ?_ ?_; first | omega | assumption | (simp only [inI]; omega))
      refine okC_rg1 good ?_
      simp [go_sem, hd]
      repeat (with_reducible refine And.intro ?_ ?_; first | omega | assumption | (simp only [inI]; omega))
      refine normalE hK1 ⟨(i + 1, i + 1, o ++ [(s.drop f).take (i - f)]), [], ⟨(by omega), (by omega), (by simp; omega), (by simpa [cutA, b] using h4)⟩, (by show _ < _; first | omega | simp; omega), (by simp [go_sem, hd])⟩
    · try simp at b
      refine okC_skip ?_
      have he : (s.drop f).take (i + 1 - f) = (s.drop f).take (i - f) ++ [d] := by rw [show i + 1 - f = (i - f) + 1 by omega]; exact take_snoc (by rw [List.getElem?_drop, show f + (i - f) = i by omega]; exact hd)
      refine okC_rg1 good ?_
      simp [go_sem, hd]
      repeat (with_reducible refine And.intro ?_ ?_; first | omega | assumption | (simp only [inI]; omega))
      refine normalE hK1 ⟨(i + 1, f, o), [], ⟨(by omega), (by omega), (by omega), (by rw [he]; simpa [cutA, b] using h4)⟩, (by show _ < _; first | omega | simp; omega), (by simp [go_sem, hd])⟩
  · try simp at a
    refine okC_exit (show K1 _ _ from exitE hK1 ?_)
    have : i = s.length := by omega
    subst this
    rw [List.drop_length, take_drop_len] at h4
    refine okC_rg good ?_
    simp [go_sem]
    repeat (with_reducible refine And.intro ?_ ?_; first | omega | assumption | (simp only [inI]; omega))
    refine okC_ret ?_
    simp [go_sem]
    rw [← h4]; simp [cutA]
end Go.Proofs.YtfhfidecmdhkoaaGreatDoor
end
