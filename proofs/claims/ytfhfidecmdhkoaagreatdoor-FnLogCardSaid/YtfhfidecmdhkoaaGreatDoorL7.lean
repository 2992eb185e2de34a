/- General lemmas (data by value) and the walks on which the law's proof leans, part 7. No condition. -/
import Derived.Test.YtfhfidecmdhkoaaGreatDoorL6
import Derived.Test.YtfhfidecmdhkoaaGreatDoorL4
import Derived.RangeFuncIn
import Derived.RangeFuncRecord
import Derived.RangeFuncCalls
import Derived.TacticsIn
import Derived.RangeFuncNested
import Derived.RangeFuncBound
import Derived.RangeFuncLeaves
import Derived.Shelf.Abstract
import Derived.Shelf.RegionOpen
import Derived.WalkKit
import Derived.OwnWalkIn
import Derived.TacticsInMore
import Derived.LoopNIn
import Derived.LoopIn
import Derived.StillTail
import Derived.StillTailTactics
set_option linter.unusedVariables false
set_option linter.unusedSimpArgs false
set_option linter.unusedSectionVars false
section
set_option maxRecDepth 10000
namespace Go.Proofs.YtfhfidecmdhkoaaGreatDoor
open Go.Dv Go.Pl
section
variable {α : Type} {f : α → D} {z : D} {l : List α} {i : Nat} {c : α}
end
end Go.Proofs.YtfhfidecmdhkoaaGreatDoor

end
section
set_option maxRecDepth 10000
namespace Go.Proofs.YtfhfidecmdhkoaaGreatDoor
open Go.Dv Go.Pl
end Go.Proofs.YtfhfidecmdhkoaaGreatDoor

end
section
set_option maxRecDepth 10000
namespace Go.Proofs.YtfhfidecmdhkoaaGreatDoor
open Go.Dv Go.Pl
end Go.Proofs.YtfhfidecmdhkoaaGreatDoor

end
section
namespace Go.Dv
open Go.RowKit
variable [Glob]
abbrev rnd (l : Nat) : Fence := Fence.wide.inRound l
def noDefer1 (o : Oper) : Bool := match o.op with
  | .defer _ => false
  | _ => true
theorem Rows.inRnd {P : Program} {l m : Nat} {row : String} {args : Array Value} {w : World} {R : Value → World → Prop} (h : Rows P row args w R) : RowsIn (rnd l) m P row args w R := fun c cs _ => by
  obtain ⟨v, w', r, s⟩ := h c cs
  exact ⟨v, w', r, stepsIn_wide.2 s⟩
theorem Calls.inRnd {P : Program} {l m : Nat} {f : FuncId} {args : Array Value} {w : World} {R : Ending → World → Prop} (h : Calls P f args w R) : CallsIn (rnd l) m P f args w R := CallsIn.inRound l (callsIn_wide.2 h)
theorem wp_inRnd {P : Program} {l m : Nat} {o : Oper} {a : Act} {w : World} {next : Act → World → Prop} {Q : Exit → Act → World → Prop} (hd : noDefer1 o = true) (h : o.wp P a w next Q) : o.wpIn (rnd l) m P a w next Q := by
  have hs : o.semAt (rnd l).round a.eval = execOp a.eval o := Oper.semAt_some l _ _ fun c e => by simp [noDefer1, e] at hd
  unfold Oper.wpIn
  rw [hs]
  refine ⟨fun _ _ => trivial, ?_⟩
  unfold Oper.wp at h
  generalize (execOp a.eval o).run P w = r at h
  cases r with
  | ok nx w' =>
    cases nx with
    | enter f args => exact ⟨fun h0 => (by cases h0), Calls.inRnd h⟩
    | row f args => exact ⟨fun h0 => (by cases h0), Rows.inRnd h⟩
    | value v => exact h
    | skip => exact h
    | defer d => exact h
    | _ => exact h.elim
  | halt x w' => cases x <;> first | exact h | exact h.elim
theorem wpIn_nextMono {F : Fence} {P : Program} {m : Nat} {o : Oper} {a : Act} {w : World} {next next' : Act → World → Prop} {Q : Exit → Act → World → Prop} (hn : ∀ a w, next a w → next' a w) (h : o.wpIn F m P a w next Q) : o.wpIn F m P a w next' Q := by
  unfold Oper.wpIn at *
  refine ⟨h.1, ?_⟩
  have h := h.2
  generalize (o.semAt F.round a.eval).run P w = r at h
  cases r with
  | ok nx w' =>
    cases nx with
    | enter f args => exact ⟨h.1, h.2.mono fun e w'' he => by cases e <;> first | exact hn _ _ he | exact he⟩
    | row f args => exact ⟨h.1, h.2.mono fun v w'' he => hn _ _ he⟩
    | round a1 a2 a3 a4 a5 => exact ⟨h.1, h.2.mono fun e w'' he => by cases e <;> first | exact hn _ _ he | exact he⟩
    | value v => exact hn _ _ h
    | skip => exact hn _ _ h
    | defer d => exact hn _ _ h
    | _ => exact h.elim
  | halt x w' => cases x <;> first | exact h | exact h.elim
def PinnedL (ps : List (Nat × Value)) (a : Act) : Prop := ∀ q ∈ ps, Pinned (some q) a
def noDstL (ps : List Nat) (ops : List Oper) : Bool := ops.all fun o => noDefer1 o && ps.all fun m => o.dst != some m
theorem PinnedL.put {ps : List (Nat × Value)} {a : Act} {o : Oper} {v : Value} (h : PinnedL ps a) (hd : (ps.map fun q => q.1).all (fun m => o.dst != some m) = true) : PinnedL ps (a.put o.dst v) := by
  intro q hq
  refine (h q hq).put ?_
  simp only [noDst1]
  exact List.all_eq_true.1 hd q.1 (List.mem_map_of_mem hq)
theorem wp_pinL {P : Program} {ps : List (Nat × Value)} {o : Oper} {a : Act} {w : World} {next : Act → World → Prop} {Q : Exit → Act → World → Prop} (hp : PinnedL ps a) (hd : (ps.map fun q => q.1).all (fun m => o.dst != some m) = true) (h : o.wp P a w next Q) : o.wp P a w (fun a' w' => next a' w' ∧ PinnedL ps a') Q := by
  unfold Oper.wp at *
  generalize (execOp a.eval o).run P w = r at *
  cases r with
  | ok nx w' =>
    cases nx <;> simp only [Oper.upon] at h ⊢ <;>
      first
        | exact ⟨h, hp.put hd⟩
        | exact ⟨h, PinnedL.put (a := { a with defers := _ }) hp hd⟩
        | exact Calls.mono h (fun e w'' he => by cases e <;> first | exact ⟨he, hp.put hd⟩ | exact he)
        | exact Rows.mono h (fun _ _ he => ⟨he, hp.put hd⟩)
  | halt x w' => cases x <;> simp only [Oper.upon] at h ⊢ <;> exact h
def OkR (P : Program) (l m n : Nat) (w0 : World) (ow0 : Own) (ps : List (Nat × Value)) (c : Code) (s : St) (K : Exit → St → Prop) : Prop :=
  ∀ a w, Rel P n w0 ow0 s a w → PinnedL ps a → ∀ Q : Exit → Act → World → Prop, (∀ e s' a' w', K e s' → Rel P n w0 ow0 s' a' w' → PinnedL ps a' → Q e a' w') → c.wpIn (rnd l) m P Q a w
section
variable {P : Program} {l m n : Nat} {w0 : World} {ow0 : Own} {ps : List (Nat × Value)} {s : St} {K : Exit → St → Prop}
theorem okR_skip (h : K .normal s) : OkR P l m n w0 ow0 ps .skip s K := fun a w hR hp Q hQ => wpIn_skip (hQ _ _ _ _ h hR hp)
theorem okR_exit {id : Nat} (h : K (.exit id) s) : OkR P l m n w0 ow0 ps (.exit id) s K := fun a w hR hp Q hQ => wpIn_exit (hQ _ _ _ _ h hR hp)
theorem okR_seq {x y : Code} (h : OkR P l m n w0 ow0 ps x s (thenK (fun s' => OkR P l m n w0 ow0 ps y s' K) K)) : OkR P l m n w0 ow0 ps (.seq x y) s K := fun a w hR hp Q hQ =>
  wpIn_seq (h a w hR hp _ fun e s' a' w' hK hR' hp' => by cases e <;> first | exact hK a' w' hR' hp' Q hQ | exact hQ _ _ _ _ hK hR' hp')
theorem okR_block {id : Nat} {c : Code} (h : OkR P l m n w0 ow0 ps c s (blockK id K)) : OkR P l m n w0 ow0 ps (.block id c) s K := fun a w hR hp Q hQ =>
  wpIn_block (h a w hR hp _ fun e s' a' w' hK hR' hp' => by
    cases e with
    | exit id' =>
      simp only [blockK] at hK
      simp only [Exit.inBlock]
      split
      · rename_i hid; rw [if_pos hid] at hK; exact hQ _ _ _ _ hK hR' hp'
      · rename_i hid; rw [if_neg hid] at hK; exact hQ _ _ _ _ hK hR' hp'
    | _ => exact hQ _ _ _ _ hK hR' hp')
theorem okR_cond {c : Operand} {x y : Code} (h : oneK (evS s c) fun v => match v with | .bool b => (b = true → OkR P l m n w0 ow0 ps x s K) ∧ (b = false → OkR P l m n w0 ow0 ps y s K) | _ => False) : OkR P l m n w0 ow0 ps (.cond c x y) s K := fun a w hR hp Q hQ => by
  obtain ⟨v, hv, h⟩ := oneK_of h
  split at h
  rotate_left
  · exact h.elim
  obtain ⟨h1, h2⟩ := h
  obtain ⟨ow, hf⟩ := hR
  have hc := (hf.one hv).1
  exact wpIn_cond_split hc (fun hb => h1 hb a w ⟨ow, hf⟩ hp Q hQ) (fun hb => h2 hb a w ⟨ow, hf⟩ hp Q hQ)
theorem okR_if {c : Operand} {x y : Code} (h : @gQ (evS s c) ⟨OkR P l m n w0 ow0 ps x s K⟩ ⟨OkR P l m n w0 ow0 ps y s K⟩) : OkR P l m n w0 ow0 ps (.cond c x y) s K := by
  refine okR_cond ?_
  unfold gQ at h
  split at h
  · rename_i b hb
    rw [hb]
    exact h
  · exact h.elim
theorem OkL.wpR {ops : Array Oper} {Q : Exit → Act → World → Prop} : ∀ (ol : List Oper) (s : St) (K : St → Prop), OkL P n w0 ow0 ops ol s K → (∀ o ∈ ol, noDefer1 o = true ∧ (ps.map fun q => q.1).all (fun m => o.dst != some m) = true) → ∀ a w, Rel P n w0 ow0 s a w → PinnedL ps a → (∀ s' a' w', K s' → Rel P n w0 ow0 s' a' w' → PinnedL ps a' → Q .normal a' w') → wpListIn (rnd l) m P ops Q ol a w
  | [], s, K, h, _, a, w, hR, hp, hQ => hQ s a w h hR hp
  | o :: ol, s, K, h, hd, a, w, hR, hp, hQ => by
    have hg := gK_wanted hR h
    unfold wpListIn
    split
    · rename_i hw
      rw [if_pos hw] at hg
      have h1 := hg a w hR (fun a' w' => ∃ s', OkL P n w0 ow0 ops ol s' K ∧ Rel P n w0 ow0 s' a' w') Q fun s' a' w' hK hR' => ⟨s', hK, hR'⟩
      exact wpIn_nextMono (fun a' w' hh => by obtain ⟨⟨s', hK, hR'⟩, hp'⟩ := hh; exact OkL.wpR ol s' K hK (fun o ho => hd o (List.mem_cons_of_mem _ ho)) a' w' hR' hp' hQ) (wp_inRnd (hd o (by simp)).1 (wp_pinL hp (hd o (by simp)).2 h1))
    · rename_i hw
      rw [if_neg hw] at hg
      obtain ⟨ow, hf⟩ := hR
      exact ⟨fun _ _ => trivial, OkL.wpR ol _ K hg.2 (fun o ho => hd o (List.mem_cons_of_mem _ ho)) _ w ⟨ow, hf.setU hg.1⟩ (hp.put (hd o (by simp)).2) hQ⟩
theorem okR_region {id : Nat} {ops : Array Oper} (h : OkL P n w0 ow0 ops ops.toList s (fun s' => K .normal s')) (hd : noDstL (ps.map fun q => q.1) ops.toList = true) : OkR P l m n w0 ow0 ps (.region id ops false) s K := fun a w hR hp Q hQ =>
  wpIn_region_list (OkL.wpR _ _ _ h (fun o ho => by simpa using List.all_eq_true.1 hd o ho) a w hR hp fun s' a' w' hK hR' hp' => hQ _ _ _ _ hK hR' hp')
theorem okR_rg {T : TypeId → TyE} (hG : ∀ t, Good P T t) {id : Nat} {ops : Array Oper} {y : Code} (h : vcL P T n ops ops.toList s (fun s' => @blk St s' ⟨fun s' => OkR P l m n w0 ow0 ps y s' K⟩)) (hd : noDstL (ps.map fun q => q.1) ops.toList = true) : OkR P l m n w0 ow0 ps (.seq (.region id ops false) y) s K := okR_seq (okR_region (stepL_ok hG _ _ _ h) hd)
theorem okR_rg1 {T : TypeId → TyE} (hG : ∀ t, Good P T t) {id : Nat} {ops : Array Oper} (h : vcL P T n ops ops.toList s (fun s' => @blk St s' ⟨fun s' => K .normal s'⟩)) (hd : noDstL (ps.map fun q => q.1) ops.toList = true) : OkR P l m n w0 ow0 ps (.region id ops false) s K := okR_region (stepL_ok hG _ _ _ h) hd
end
end Go.Dv

end
section
set_option maxRecDepth 10000
namespace Go.Proofs.YtfhfidecmdhkoaaGreatDoor
open Go.Dv Go.Pl
abbrev asg12 : Code := (Go.Code.region 6 #[{ dst := some 6, op := Go.Op.assign (Go.Operand.tmp 15), type := 9, pos := "l31_log.go:47", after := #[], guard := none }] false)
abbrev bod12 : Code := (Go.Code.block 1 ((Go.Code.region 7 #[{ dst := some 17, op := Go.Op.move (Go.Operand.tmp 6), type := 9, pos := "l31_log.go:48", after := #[], guard := none }, { dst := some 18, op := Go.Op.call { callee := Go.Callee.value (Go.Operand.func 19), args := #[Go.Operand.tmp 17], argTypes := #[9] }, type := 45, pos := "l31_log.go:48", after := #[{ on := 0, ground := Go.Ground.data }], guard := none }, { dst := some 16, op := Go.Op.move (Go.Operand.tmp 18), type := 45, pos := "l31_log.go:48", after := #[{ on := 1, ground := Go.Ground.data }], guard := none }, { dst := some 19, op := Go.Op.extract (Go.Operand.tmp 16) 0, type := 3, pos := "l31_log.go:48", after := #[{ on := 2, ground := Go.Ground.data }], guard := none }, { dst := some 20, op := Go.Op.extract (Go.Operand.tmp 16) 1, type := 30, pos := "l31_log.go:48", after := #[{ on := 2, ground := Go.Ground.data }, { on := 7, ground := Go.Ground.gcOnly Go.Departure.lateStores }], guard := none }, { dst := some 21, op := Go.Op.extract (Go.Operand.tmp 16) 2, type := 4, pos := "l31_log.go:48", after := #[{ on := 2, ground := Go.Ground.data }, { on := 8, ground := Go.Ground.gcOnly Go.Departure.lateStores }], guard := none }, { dst := some 8, op := Go.Op.alloc 30, type := 0, pos := "l31_log.go:48", after := #[], guard := none }, { dst := some 7, op := Go.Op.assign (Go.Operand.tmp 19), type := 3, pos := "l31_log.go:48", after := #[{ on := 3, ground := Go.Ground.data }, { on := 1, ground := Go.Ground.chain }, { on := 0, ground := Go.Ground.phase }, { on := 1, ground := Go.Ground.phase }, { on := 2, ground := Go.Ground.phase }, { on := 3, ground := Go.Ground.phase }, { on := 4, ground := Go.Ground.textOnly Go.Departure.lateStores }, { on := 5, ground := Go.Ground.textOnly Go.Departure.lateStores }, { on := 6, ground := Go.Ground.phase }], guard := none }, { dst := none, op := Go.Op.store 30 (Go.Operand.tmp 8) (Go.Operand.tmp 20), type := 0, pos := "l31_log.go:48", after := #[{ on := 6, ground := Go.Ground.data }, { on := 4, ground := Go.Ground.data }, { on := 7, ground := Go.Ground.chain }, { on := 0, ground := Go.Ground.phase }, { on := 1, ground := Go.Ground.phase }, { on := 2, ground := Go.Ground.phase }, { on := 3, ground := Go.Ground.phase }, { on := 4, ground := Go.Ground.phase }, { on := 5, ground := Go.Ground.textOnly Go.Departure.lateStores }, { on := 6, ground := Go.Ground.phase }, { on := 7, ground := Go.Ground.phase }], guard := none }, { dst := some 9, op := Go.Op.assign (Go.Operand.tmp 21), type := 4, pos := "l31_log.go:48", after := #[{ on := 5, ground := Go.Ground.data }, { on := 8, ground := Go.Ground.chain }, { on := 0, ground := Go.Ground.phase }, { on := 1, ground := Go.Ground.phase }, { on := 2, ground := Go.Ground.phase }, { on := 3, ground := Go.Ground.phase }, { on := 4, ground := Go.Ground.phase }, { on := 5, ground := Go.Ground.phase }, { on := 6, ground := Go.Ground.phase }, { on := 7, ground := Go.Ground.phase }, { on := 8, ground := Go.Ground.phase }], guard := none }] false).seq (((Go.Code.region 8 #[{ dst := some 22, op := Go.Op.move (Go.Operand.tmp 9), type := 4, pos := "l31_log.go:49", after := #[], guard := none }, { dst := some 23, op := Go.Op.unOp Go.UnOp.not 4 (Go.Operand.tmp 22), type := 4, pos := "l31_log.go:49", after := #[{ on := 0, ground := Go.Ground.data }], guard := none }, { dst := some 24, op := Go.Op.move (Go.Operand.tmp 23), type := 4, pos := "l31_log.go:49", after := #[{ on := 1, ground := Go.Ground.data }], guard := none }, { dst := some 25, op := Go.Op.move (Go.Operand.tmp 7), type := 3, pos := "l31_log.go:49", after := #[{ on := 2, ground := Go.Ground.guard }], guard := some (2, false) }, { dst := some 26, op := Go.Op.load 34 (Go.Operand.tmp 4), type := 34, pos := "l31_log.go:49", after := #[{ on := 2, ground := Go.Ground.guard }], guard := some (2, false) }, { dst := some 27, op := Go.Op.call { callee := Go.Callee.builtin Go.Builtin.len, args := #[Go.Operand.tmp 26], argTypes := #[34] }, type := 3, pos := "l31_log.go:49", after := #[{ on := 4, ground := Go.Ground.data }, { on := 2, ground := Go.Ground.guard }], guard := some (2, false) }, { dst := some 28, op := Go.Op.binOp Go.BinOp.add 3 (Go.Operand.tmp 27) (Go.Operand.const (Go.Value.int Go.IntKind.i64 1)) 3, type := 3, pos := "l31_log.go:49", after := #[{ on := 5, ground := Go.Ground.data }, { on := 2, ground := Go.Ground.guard }], guard := some (2, false) }, { dst := some 29, op := Go.Op.binOp Go.BinOp.neq 3 (Go.Operand.tmp 25) (Go.Operand.tmp 28) 3, type := 4, pos := "l31_log.go:49", after := #[{ on := 3, ground := Go.Ground.data }, { on := 6, ground := Go.Ground.data }, { on := 2, ground := Go.Ground.guard }], guard := some (2, false) }, { dst := some 30, op := Go.Op.pick (Go.Operand.tmp 24) (Go.Operand.const (Go.Value.bool true)) (Go.Operand.tmp 29), type := 4, pos := "l31_log.go:49", after := #[{ on := 2, ground := Go.Ground.data }, { on := 7, ground := Go.Ground.data }], guard := none }] false).seq (Go.Code.cond (Go.Operand.tmp 30) (Go.Code.exit 0) Go.Code.skip)).seq ((Go.Code.region 9 #[{ dst := some 31, op := Go.Op.load 34 (Go.Operand.tmp 4), type := 34, pos := "l31_log.go:52", after := #[], guard := none }, { dst := some 32, op := Go.Op.load 30 (Go.Operand.tmp 8), type := 30, pos := "l31_log.go:52", after := #[], guard := none }, { dst := some 33, op := Go.Op.buildSlice 34 1 #[(0, Go.Operand.tmp 32)], type := 34, pos := "l31_log.go:52", after := #[{ on := 1, ground := Go.Ground.data }], guard := none }, { dst := some 34, op := Go.Op.call { callee := Go.Callee.builtin Go.Builtin.append, args := #[Go.Operand.tmp 31, Go.Operand.tmp 33], argTypes := #[34, 34] }, type := 34, pos := "l31_log.go:52", after := #[{ on := 0, ground := Go.Ground.data }, { on := 2, ground := Go.Ground.data }], guard := none }, { dst := none, op := Go.Op.store 34 (Go.Operand.tmp 4) (Go.Operand.tmp 34), type := 0, pos := "l31_log.go:52", after := #[{ on := 3, ground := Go.Ground.data }, { on := 3, ground := Go.Ground.chain }, { on := 0, ground := Go.Ground.phase }, { on := 1, ground := Go.Ground.phase }, { on := 2, ground := Go.Ground.phase }, { on := 3, ground := Go.Ground.phase }], guard := none }] false).seq (Go.Code.region 10 #[{ dst := some 35, op := Go.Op.load 3 (Go.Operand.tmp 5), type := 3, pos := "l31_log.go:53", after := #[], guard := none }, { dst := some 36, op := Go.Op.move (Go.Operand.tmp 6), type := 9, pos := "l31_log.go:53", after := #[], guard := none }, { dst := some 37, op := Go.Op.call { callee := Go.Callee.builtin Go.Builtin.len, args := #[Go.Operand.tmp 36], argTypes := #[9] }, type := 3, pos := "l31_log.go:53", after := #[{ on := 1, ground := Go.Ground.data }], guard := none }, { dst := some 38, op := Go.Op.binOp Go.BinOp.add 3 (Go.Operand.tmp 35) (Go.Operand.tmp 37) 3, type := 3, pos := "l31_log.go:53", after := #[{ on := 0, ground := Go.Ground.data }, { on := 2, ground := Go.Ground.data }], guard := none }, { dst := none, op := Go.Op.store 3 (Go.Operand.tmp 5) (Go.Operand.tmp 38), type := 0, pos := "l31_log.go:53", after := #[{ on := 3, ground := Go.Ground.data }, { on := 0, ground := Go.Ground.phase }, { on := 1, ground := Go.Ground.phase }, { on := 2, ground := Go.Ground.phase }, { on := 3, ground := Go.Ground.phase }], guard := none }] false)))))
def slots12 (l : List (List Opn)) (r : Int) : List (Nat × S) := [(4, .own (.bx true (oBats l))), (5, .own (.bx true (dI r)))]
theorem asg12_ok {lid m : Nat} {w0 : World} {ow0 : Go.Dv.Own} {v4 v5 : Value} {x : Str} {l : List (List Opn)} {r : Int} {K : Exit → St → Prop} (hK : ∀ s', Tells Tryz.prog 41 s' (lst ((6, .val (dS x)) :: slots12 l r)) → K .normal s') :
  OkR Tryz.prog lid m 41 w0 ow0 [(4, v4), (5, v5)] asg12 (lst ((15, .val (dS x)) :: slots12 l r)) K := by
 refine okR_rg1 (id := 6) good ?_ (by rfl)
 simp [go_sem, slots12]
 refine hK _ (tells_list [] ?_)
 simp [go_sem, slots12]
theorem bod12_ok {lid m : Nat} {w0 : World} {ow0 : Go.Dv.Own} {v4 v5 : Value} {x : Str} {l : List (List Opn)} {r : Int} {K : Exit → St → Prop} (hx : x.length ≤ 6000) (hl : l.length ≤ 6000) (hr : 0 ≤ r ∧ r ≤ 6000)
  (hyes : ∀ v b s', readEnt x = some (v, b) → v = (l.length : Int) + 1 → Tells Tryz.prog 41 s' (lst (slots12 (l ++ [b]) (r + x.length))) → K .normal s')
  (hno : ∀ s', (∀ v b, readEnt x = some (v, b) → v ≠ (l.length : Int) + 1) → Tells Tryz.prog 41 s' (lst (slots12 l r)) → K (.exit 0) s') :
  OkR Tryz.prog lid m 41 w0 ow0 [(4, v4), (5, v5)] bod12 (lst ((6, .val (dS x)) :: slots12 l r)) K := by
 refine okR_block (id := 1) ?_
 refine okR_rg (id := 7) good ?_ ?_; rotate_left; rfl
 simp [go_sem, slots12]
 refine callK_of (fn_impl_DecodeEntry x (by omega)) (by simp [go_sem]) ?_
 simp [go_sem]
 refine okR_seq ?_
 refine okR_rg (id := 8) good ?_ (by rfl)
 simp [go_sem]
 first | refine gI_dec (fun f => ?_) (fun f => ?_) | refine gI_ndec (fun f => ?_) (fun f => ?_) | refine gI_of (fun f => ?_) (fun f => ?_)
 ·simp [go_sem, f]
  refine okR_if ?_
  simp [go_sem, f]
  refine okR_exit ?_
  simp only [blockK, thenK]
  refine hno _ (fun v b hr => by rw [hr] at f; simp at f) (tells_list [] ?_)
  simp [go_sem, slots12]
 ·obtain ⟨vb, hrd⟩ := Option.isSome_iff_exists.1 (show (readEnt x).isSome = true by simpa using f)
  obtain ⟨v, bt⟩ := vb
  have ho : entOr x = (v, bt) := by rw [entOr, hrd]; rfl
  simp [go_sem, f, ho]
  repeat (with_reducible refine And.intro ?_ ?_; first | omega | assumption | (simp only [inI]; omega))
  refine okR_if ?_
  simp [go_sem, f, ho]
  first | refine gC_dec (fun g => ?_) (fun g => ?_) | refine gC_ndec (fun g => ?_) (fun g => ?_) | refine gC_of (fun g => ?_) (fun g => ?_)
  ·try simp at g
   refine okR_exit ?_
   simp only [blockK, thenK]
   refine hno _ (fun v' b' hr' => by rw [hrd] at hr'; obtain ⟨rfl, rfl⟩ := Prod.mk.inj (Option.some.inj hr'); exact g) (tells_list [] ?_)
   simp [go_sem, slots12]
  ·try simp at g
   refine okR_skip ?_
   simp only [thenK]
   refine okR_rg (id := 9) good ?_ (by rfl)
   simp [go_sem, f, ho]
   refine ⟨by omega, ?_⟩
   simp only [blk]
   refine okR_rg1 (id := 10) good ?_ (by rfl)
   simp [go_sem, f, ho]
   repeat (with_reducible refine And.intro ?_ ?_; first | omega | assumption | (simp only [inI]; omega))
   refine hyes v bt _ hrd g (tells_list [] ?_)
   simp [go_sem, slots12]
end Go.Proofs.YtfhfidecmdhkoaaGreatDoor

end
section
namespace Go.Dv
open Go.RowKit
variable [Glob]
theorem Fits.rebase {P : Program} {n : Nat} {w0 w : World} {ow0 ow : Own} {s : St} {a : Act} (h : Fits P n w0 ow0 ow s a w) : Fits P n w ow ow s a w :=
  ⟨h.nodef, h.size, h.small, h.laidNow, ⟨rfl, rfl, rfl, Nat.le_refl _, fun _ _ _ => rfl⟩, fun _ _ h => h, h.new, h.far, fun _ _ _ hq => ⟨rfl, hq⟩, h.slot⟩
theorem Fits.onto {P : Program} {n : Nat} {w0 w w' : World} {ow0 ow ow' : Own} {s s' : St} {a a' : Act} (h : Fits P n w0 ow0 ow s a w) (h' : Fits P n w ow ow' s' a' w') : Fits P n w0 ow0 ow' s' a' w' :=
  ⟨h'.nodef, h'.size, h'.small, h.laid, ⟨h'.bel.os.trans h.bel.os, h'.bel.tape.trans h.bel.tape, h'.bel.output.trans h.bel.output, Nat.le_trans h.bel.size h'.bel.size, fun b hb ho => (h'.bel.block b (Nat.lt_of_lt_of_le hb h.bel.size) (h.own b hb ho)).trans (h.bel.block b hb ho)⟩,
    fun b hb ho => h'.own b (Nat.lt_of_lt_of_le hb h.bel.size) (h.own b hb ho), h'.new, h'.far, fun b hb q hq => by
      obtain ⟨h1, h2⟩ := h.keep b hb q hq
      obtain ⟨h3, h4⟩ := h'.keep b (Nat.lt_of_lt_of_le hb h.bel.size) q h2
      exact ⟨h3.trans h1, h4⟩, h'.slot⟩
theorem Fits.turn {P : Program} {n : Nat} {w0 w w' : World} {ow0 ow ow' : Own} {s : St} {a : Act} (h : Fits P n w0 ow0 ow s a w) (hos : w'.os = w.os) (htape : w'.tape = w.tape) (hout : w'.output = w.output) (hsz : w.heap.size ≤ w'.heap.size)
    (hb : ∀ b, b < w.heap.size → ow' b = ow b ∧ (w'.heap[b]? = w.heap[b]? ∨ (w0.heap.size ≤ b ∧ ∃ q, ow b = some (q ++ [far0])))) (hnew : ∀ b, w'.heap.size ≤ b → ow' b = none) : Fits P n w0 ow0 ow' s a w' := by
  have hq : Quiet w ow w' ow' := fun b hlt ho => by
    obtain ⟨h1, h2⟩ := hb b hlt
    rcases h2 with h2 | ⟨_, q, h2⟩
    · exact ⟨h2, by rw [h1]; exact ho⟩
    · rw [ho] at h2; cases h2
  have hl : ∀ j, j ≠ far0 → ∀ b, b < w.heap.size → ∀ q, ow b = some (q ++ [j]) → w'.heap[b]? = w.heap[b]? ∧ ow' b = some (q ++ [j]) := fun j hj b hlt q ho => by
    obtain ⟨h1, h2⟩ := hb b hlt
    rcases h2 with h2 | ⟨_, q', h2⟩
    · exact ⟨h2, by rw [h1]; exact ho⟩
    · rw [ho] at h2
      have := congrArg List.getLast? (Option.some.inj h2)
      simp at this
      exact absurd this hj
  have hlow : ∀ b, b < w0.heap.size → w'.heap[b]? = w.heap[b]? ∧ ow' b = ow b := fun b hlt => by
    obtain ⟨h1, h2⟩ := hb b (Nat.lt_of_lt_of_le hlt h.bel.size)
    rcases h2 with h2 | ⟨h2, _⟩
    · exact ⟨h2, h1⟩
    · omega
  refine ⟨h.nodef, h.size, h.small, h.laid, ⟨hos.trans h.bel.os, htape.trans h.bel.tape, hout.trans h.bel.output, Nat.le_trans h.bel.size hsz, fun b hlt ho => (hlow b hlt).1.trans (h.bel.block b hlt ho)⟩, fun b hlt ho => (hlow b hlt).2.trans (h.own b hlt ho), hnew, h.far, fun b hlt q ho => ?_, fun i => ?_⟩
  · obtain ⟨h1, h2⟩ := h.keep b hlt q ho
    exact ⟨(hlow b hlt).1.trans h1, (hlow b hlt).2.trans h2⟩
  · by_cases hi : i = far0
    · subst hi; rw [h.far]; trivial
    · refine (h.slot i).keep hq (fun _ b hb' q hq' => hl i hi b hb' q hq') (fun j _ d hd _ => ?_) (fun j d hd => by have := h.slot j; rw [hd] at this; exact this)
      have hj : j ≠ far0 := fun e => by rw [e, h.far] at hd; cases hd
      exact ⟨hd, rfl, fun b hb' q hq' => hl j hj b hb' q hq'⟩
theorem Fits.reAct {P : Program} {n : Nat} {w0 w : World} {ow0 ow : Own} {s : St} {a a' : Act} (h : Fits P n w0 ow0 ow s a w) (hd : a'.defers = []) (hn : a'.tmps.size = n) (hv : ∀ i, s i = .un ∨ (∃ d, s i = .own d) ∧ aval a' i = aval a i) : Fits P n w0 ow0 ow s a' w :=
  ⟨hd, hn, h.small, h.laid, h.bel, h.own, h.new, h.far, h.keep, fun i => by
    rcases hv i with h1 | ⟨⟨d, h1⟩, h2⟩
    · rw [h1]; trivial
    · have := h.slot i
      rw [h1] at this ⊢
      rw [h2]
      exact this⟩
theorem ret_out {P : Program} {T : TypeId → TyE} {n : Nat} {rs : List ResultVar} {Q : S → Prop} {w w' : World} {ow ow1 : Own} {s' : St} {a' : Act} {t : Nat} (hG : ∀ t, Good P T t) (hf1 : Fits P n w (fun b => (ow b).map (· ++ [far0])) ow1 s' a' w') (hnew : ∀ b, w.heap.size ≤ b → ow b = none) (hK : retL T rs s' (fun ds _ => Q (retS ds))) :
    ∃ vals : List Value, vals.length = rs.length ∧ (∀ g : ResultVar → Sem Value, (∀ r, g r = rvRun a'.tmps r) → (rs.mapM g).run P w' = .ok vals w') ∧
      ∃ ow' r, Q r ∧ After w ow w' ow' ∧ S.plain r = true ∧ ∀ s a, SV P w' ow' s a t r (if h : vals.toArray.size = 1 then vals.toArray[0] else .tuple vals.toArray) := by
  obtain ⟨vals, ow2, s2, ds2, hQ, hf2, hl1, hl2, hrun, hvals, hkeep⟩ := hf1.retL hG (fun k => if rs.length = 1 then [] else [k]) rs 0 hK
  have hnone : ∀ b, ow2 b = none → leave w ow ow2 t b = none := by
    intro b hb
    unfold leave
    split
    · rename_i hlt
      cases ho : ow b with
      | none => rfl
      | some q =>
        have := (hf2.keep b hlt q (by simp [ho])).2
        rw [hb] at this; cases this
    · simp [hb]
  have hold : ∀ b q, b < w.heap.size → ow2 b ≠ some (q ++ [res0]) := by
    intro b q hlt e
    cases ho : ow b with
    | none =>
      have := hf2.own b hlt (by simp [ho])
      rw [e] at this; cases this
    | some q' =>
      have := (hf2.keep b hlt q' (by simp [ho])).2
      rw [e] at this
      have := congrArg List.getLast? (Option.some.inj this)
      simp [res0, far0] at this
  have hk : ∀ l, Keeps w' ow2 (l ++ [res0]) w' (leave w ow ow2 t) (l ++ [t]) := fun l b _ => ⟨fun ho => ⟨rfl, hnone b ho⟩, fun q hq => ⟨rfl, by
    have hq' : ow2 b = some ((q ++ l) ++ [res0]) := by rw [hq]; simp
    unfold leave
    rw [if_neg fun hlt => hold b _ hlt hq', hq']
    simp⟩⟩
  have hq : Quiet w' ow2 w' (leave w ow ow2 t) := fun b _ ho => ⟨rfl, hnone b ho⟩
  have part : ∀ (j : Nat) (p : D × Bool), ds2[j]? = some p → ∃ v, vals[j]? = some v ∧ (if (p.2 || p.1.frz) = true then V P w' (leave w ow ow2 t) p.1.fz [] v else V P w' (leave w ow ow2 t) p.1 ((if rs.length = 1 then [] else [j]) ++ [t]) v) := by
    intro j p hj
    obtain ⟨v, h1, h2, h3⟩ := hvals j p hj
    rw [Nat.zero_add] at h2
    refine ⟨v, h1, ?_⟩
    by_cases hp : (p.2 || p.1.frz) = true
    · rw [if_pos hp]
      have hfz : p.1.fz = p.1 := by
        rcases Bool.or_eq_true _ _ ▸ hp with hp | hp
        · exact h3 hp
        · exact D.fz_frz hp
      rw [← hfz] at h2
      exact V.trf hq h2
    · rw [if_neg hp]
      exact V.tr (hk _) h2
  refine ⟨vals, by rw [hl2], fun g hg => hrun g hg, leave w ow ow2 t, retS ds2, hQ, ⟨hf2.bel.os, hf2.bel.tape, hf2.bel.output, hf2.bel.size, fun b hb => ⟨?_, by unfold leave; rw [if_pos hb]⟩, fun b hb => hnone b (hf2.new b hb)⟩, ?_, fun s a => ?_⟩
  · cases ho : ow b with
    | none => exact hf2.bel.block b hb (by simp [ho])
    | some q => exact (hf2.keep b hb q (by simp [ho])).1
  · unfold retS
    split
    · split <;> rfl
    · rfl
  · by_cases hone : rs.length = 1
    · have hd1 : ds2.length = 1 := by rw [hl1, hone]
      have hv1 : vals.length = 1 := by rw [hl2, hone]
      obtain ⟨⟨d, b⟩, rfl⟩ := List.length_eq_one_iff.1 hd1
      obtain ⟨v, rfl⟩ := List.length_eq_one_iff.1 hv1
      · obtain ⟨v', h1, h2⟩ := part 0 (d, b) rfl
        obtain rfl : v = v' := by simpa using h1
        rw [if_pos hone] at h2
        simp only [retS]
        by_cases hp : (b || d.frz) = true
        · rw [if_pos hp] at h2 ⊢
          exact h2
        · rw [if_neg hp] at h2 ⊢
          exact h2
    · have hd1 : ∀ p, ds2 ≠ [p] := fun p e => by rw [e] at hl1; simp at hl1; exact hone hl1.symm
      have htup : retS ds2 = .tup (ds2.map fun p => if p.2 || p.1.frz then .val p.1 else .own p.1) := by
        unfold retS
        split
        · rename_i d b; exact absurd rfl (hd1 _)
        · rfl
      rw [htup]
      refine ⟨vals.toArray, ?_, by simp [hl1, hl2], fun j x hx => ?_⟩
      · rw [dif_neg]
        simp [hl2, hone]
      · simp only [List.getElem?_map, Option.map_eq_some_iff] at hx
        obtain ⟨p, hp, rfl⟩ := hx
        obtain ⟨v, h1, h2⟩ := part j p hp
        have hv : vals.toArray.getD j undef = v := by simp [Array.getD_eq_getD_getElem?, h1]
        rw [hv]
        by_cases hpf : (p.2 || p.1.frz) = true
        · rw [if_pos hpf] at h2 ⊢
          exact h2
        · rw [if_neg hpf] at h2 ⊢
          rw [if_neg hone] at h2
          exact h2
end Go.Dv

end
section
set_option maxRecDepth 10000
namespace Go.Proofs.YtfhfidecmdhkoaaGreatDoor
open Go.Dv Go.Pl
open Go.RowKit Go.Shelf
attribute [local go_sem] Oper.semAt_some
abbrev vS (s : Str) : Value := .string ⟨s.toArray⟩
theorem Tryz.mixed : Tryz.prog.follows .mixedOrders = true := by kernel_rfl
def restLen (B : Nat) (W : World) : Nat := match W.cell? ⟨B, 0, none⟩ with
 | some (.string b) => b.size
 | _ => 0
def ibAt (r : Str) (z : Int) : Prop := z = Lib.indexByte r 10
theorem lineGo_yes : ∀ (r p : Str), (10 : UInt8) ∈ r → (r.takeWhile fun d => decide (d ≠ 10)).length + 1 ≤ r.length ∧ lineGo p r = (p ++ r.take ((r.takeWhile fun d => decide (d ≠ 10)).length + 1)) :: lines (r.drop ((r.takeWhile fun d => decide (d ≠ 10)).length + 1))
 | [], _, h => by simp at h
 | d :: r, p, h => by
  by_cases hd : d = 10
  ·subst hd; simp [lineGo, lines]
  ·have ih := lineGo_yes r (p ++ [d]) ((List.mem_cons.1 h).resolve_left fun e => hd e.symm)
   rw [List.takeWhile_cons_of_pos (by simpa using hd)]
   simp only [lineGo, if_neg hd, List.length_cons, List.take_succ_cons, List.drop_succ_cons]
   refine ⟨by omega, ?_⟩
   rw [ih.2]
   simp
theorem lineGo_none : ∀ (r p : Str), (10 : UInt8) ∉ r → lineGo p r = if p ++ r = [] then [] else [p ++ r]
 | [], p, _ => by simp [lineGo]
 | d :: r, p, h => by
  have hd : d ≠ 10 := fun e => h (by simp [e])
  rw [lineGo, if_neg hd, lineGo_none r _ fun e => h (List.mem_cons_of_mem _ e)]
  simp
theorem ib_yes {r : Str} {k : Nat} (h : ibAt r k) : k + 1 ≤ r.length ∧ lines r = r.take (k + 1) :: lines (r.drop (k + 1)) := by
 unfold ibAt at h
 rw [indexByte_eq] at h
 split at h
 ·rename_i hm
  have := lineGo_yes r [] hm
  have hk : k = (r.takeWhile fun d => decide (d ≠ 10)).length := by omega
  rw [hk]
  exact this
 ·omega
theorem ib_no {r : Str} {z : Int} (h : ibAt r z) (hr : r ≠ []) (hz : ¬ 0 ≤ z) : lines r = [r] := by
 unfold ibAt at h
 rw [indexByte_eq] at h
 split at h
 ·omega
 ·rename_i hm
  unfold lines
  rw [lineGo_none r [] hm]
  simp [hr]
theorem restLen_eq {B : Nat} {W : World} {r : Str} (h : W.cell? ⟨B, 0, none⟩ = some (vS r)) : restLen B W = r.length := by
 unfold restLen
 rw [h]
 exact ba_size r
theorem region_tailW {P : Program} {id : Nat} {Q : Exit → Act → World → Prop} {a : Act} {w : World} {l : List Oper} (n : Nat) (hm : P.follows .mixedOrders = true) (hB : Region.lexTailB .any l.toArray n = true)
  (h : ∀ w2 : World, w2.heap = w.heap → w2.os = w.os → w2.tape = w.tape → w2.output = w.output → wpStill P l.toArray w2 (fun a' => wpList P l.toArray Q (l.drop n) a' w2) (l.take n) a) : (Code.region id l.toArray true).wp P Q a w :=
 wp_region_still_tail n hm hB (h _ rfl rfl rfl rfl)
theorem cell_heap {w w' : World} (h : w'.heap = w.heap) (p : Addr) : w'.cell? p = w.cell? p := by unfold World.cell?; rw [h]
theorem frozen_heap {w w' : World} (h : w'.heap = w.heap) (p : Addr) : w'.frozen? p = w.frozen? p := by unfold World.frozen?; rw [h]
theorem wrap_small {k : Nat} (h : k ≤ 6000) : IntKind.i64.wrap ((k : Int) + 1) = ((k + 1 : Nat) : Int) := by
 simp [IntKind.wrap, IntKind.bits, IntKind.signed]; omega
theorem lines1_in (n l B : Nat) (hn : 3 ≤ n) (J Jx : Str → World → Prop) (Jy : Str → Str → World → Prop)
  (hcell : ∀ r W, J r W → r.length ≤ 6000 ∧ W.cell? ⟨B, 0, none⟩ = some (vS r) ∧ W.frozen? ⟨B, 0, none⟩ = false)
  (hset : ∀ (r x r' : Str) (W W' : World), J r W → r = x ++ r' → lines r = x :: lines r' → W'.heap = W.heap → W'.os = W.os → W'.tape = W.tape → W'.output = W.output → Jy x r' (W'.setCell ⟨B, 0, none⟩ (vS r')))
  (hY : ∀ x r W, Jy x r W → YieldAt Fence.wide (n - 1) Tryz.prog l #[vS x] W fun e W' => (e = .returned (.bool true) ∧ J r W') ∨ (e = .returned (.bool false) ∧ Jx r W'))
  (s : Str) (W : World) (h0 : J s W) :
  CallsIn Fence.wide n Tryz.prog 62 #[.func (.yield l) #[] #[], .pointer (some ⟨B, 0, none⟩)] W fun e W' => (∃ v, e = .returned v) ∧ (J [] W' ∨ ∃ r, Jx r W') := by
 refine callsIn_of_wp Tryz.func62 rfl trivial ?_ rfl
 simp only [Tryz.ntmps62, List.size_toArray, List.length_cons, List.length_nil, Nat.reduceAdd, Nat.reduceSub, Array.replicate_succ, Array.replicate_zero, List.push_toArray, List.append_toArray, List.nil_append, List.cons_append]
 refine wpIn_block ?_
 gi_loopw [] (fun wr => ∃ r, J r wr) (fun wr => restLen B wr)
 case atStart => exact ⟨s, h0⟩
 case round =>
  obtain ⟨r, hJ⟩ := hrel
  obtain ⟨hr6, hc, hfz⟩ := hcell r wr hJ
  have hib : ∃ z : Int, ibAt r z ∧ Calls Tryz.prog 42 #[.string ⟨r.toArray⟩, .int .u8 10] wr fun e w' => e = .returned (.int .i64 z) ∧ w' = wr := ⟨_, rfl, (Tryz.strings_IndexByte ⟨r.toArray⟩ 10 wr)⟩
  obtain ⟨z, hz, hib⟩ := hib
  have hrs := ba_size r
  have hn1 : 1 ≤ n := by omega
  by_cases hr0 : r = []
  ·subst hr0
   gi_wp2
   go_end0
   exact ⟨⟨_, rfl⟩, .inl hJ⟩
  have hrl : 0 < r.length := List.length_pos_iff.2 hr0
  by_cases hz0 : 0 ≤ z
  ·obtain ⟨k, rfl⟩ : ∃ k : Nat, z = k := ⟨z.toNat, by omega⟩
   have hlk := ib_yes hz
   clear hz
   gi_wp2_with (refine ⟨trivial, ?_⟩; gi_at_call 42; refine (callsIn_wide.2 hib).mono ?_; rintro e w1 ⟨rfl, rfl⟩)
   refine wpIn_wide.2 (region_tailW 9 (by kernel_rfl) (by kernel_rfl) ?_)
   intro w2 e1 e2 e3 e4
   have hc2 := (cell_heap e1 ⟨B, 0, none⟩).trans hc
   have hf2 := (frozen_heap e1 ⟨B, 0, none⟩).trans hfz
   have hw := wrap_small (k := k) (by omega)
   have hJy := hset r (r.take (k + 1)) (r.drop (k + 1)) w1 w2 hJ (by simp) hlk.2 e1 e2 e3 e4
   obtain ⟨fn, tmps, assign, body, hy, hR⟩ := hY _ _ _ hJy
   have hk1 := hlk.1
   have hk2 : (0 : Int) ≤ (k : Int) + 1 := by omega
   have hk3 : (k : Int) + 1 ≤ (r.length : Int) := by omega
   clear hlk
   iterate 9 still_step
   refine wpStill_nil ?_
   go_wp2
   gi_wp2
   refine hR.mono ?_
   rintro e W' (⟨rfl, hJ'⟩ | ⟨rfl, hJx'⟩)
   ·gi_wp2
    go_roundw
    case rel => exact ⟨_, hJ'⟩
    case measure =>
     rw [restLen_eq (hcell _ _ hJ').2.1, restLen_eq hc]
     simp; try omega
   ·gi_wp2
    refine bodyPost_ret (results_none rfl _ _ _) rfl ?_
    exact ⟨⟨_, rfl⟩, .inr ⟨_, hJx'⟩⟩
  ·have hln := ib_no hz hr0 hz0
   clear hz
   have hJy := hset r r [] wr wr hJ (by simp) hln rfl rfl rfl rfl
   obtain ⟨fn, tmps, assign, body, hy, hR⟩ := hY _ _ _ hJy
   gi_wp2_with (refine ⟨trivial, ?_⟩; gi_at_call 42; refine (callsIn_wide.2 hib).mono ?_; rintro e w1 ⟨rfl, rfl⟩)
   refine hR.mono ?_
   rintro e W' (⟨rfl, hJ'⟩ | ⟨rfl, hJx'⟩)
   ·gi_wp2
    go_roundw
    case rel => exact ⟨_, hJ'⟩
    case measure =>
     rw [restLen_eq (hcell _ _ hJ').2.1, restLen_eq hc]
     simp; try omega
   ·gi_wp2
    refine bodyPost_ret (results_none rfl _ _ _) rfl ?_
    exact ⟨⟨_, rfl⟩, .inr ⟨_, hJx'⟩⟩
end Go.Proofs.YtfhfidecmdhkoaaGreatDoor

end
section
set_option maxRecDepth 10000
namespace Go.Proofs.YtfhfidecmdhkoaaGreatDoor
open Go.Dv Go.Pl
open Go.RowKit Go.Shelf
def rec12 (fn : FuncId) (T : Array Value) (D : Nat) (st : LoopState) (pe : Option Code) : Loop := { state := st, pending := pe, fn := fn, tmps := T, params := #[15], assign := asg12, body := bod12, defers := D }
def owF (ow : Go.Dv.Own) : Go.Dv.Own := fun b => (ow b).map (· ++ [far0])
structure At12 (w : World) (B D L : Nat) (T : Array Value) : Prop where
 size : T.size = 41
 hB : w.heap.size ≤ B
 hD : w.heap.size ≤ D
 hL : w.heap.size ≤ L
 bd : B ≠ D
 bl : B ≠ L
 dl : D ≠ L
def Mid (w : World) (ow : Go.Dv.Own) (B D L : Nat) (fn : FuncId) (T : Array Value) (st : LoopState) (pe : Option Code) (l : List (List Opn)) (r : Int) (W : World) : Prop :=
 ∃ owA : Go.Dv.Own, Fits Tryz.prog 41 w (owF ow) owA (lst (slots12 l r)) { tmps := T, defers := [] } W ∧ W.heap[L]? = some (.loop (rec12 fn T D st pe)) ∧ W.heap[D]? = some (.deferred (some [])) ∧ B < W.heap.size ∧ owA B = some [far0] ∧ owA D = some [far0] ∧ owA L = some [far0]
theorem Mid.turn {w W W' : World} {ow : Go.Dv.Own} {B D L : Nat} {fn : FuncId} {T : Array Value} {st st' : LoopState} {pe pe' : Option Code} {l : List (List Opn)} {r : Int} (ha : At12 w B D L T) (h : Mid w ow B D L fn T st pe l r W) (hos : W'.os = W.os) (htape : W'.tape = W.tape) (hout : W'.output = W.output) (hsz : W'.heap.size = W.heap.size)
  (hb : ∀ b, b ≠ B → b ≠ L → b ≠ D → W'.heap[b]? = W.heap[b]?) (hL : W'.heap[L]? = some (.loop (rec12 fn T D st' pe'))) (hD : W'.heap[D]? = some (.deferred (some []))) : Mid w ow B D L fn T st' pe' l r W' := by
 obtain ⟨owA, hf, h1, h2, h3, h4, h5, h6⟩ := h
 refine ⟨owA, hf.turn hos htape hout (Nat.le_of_eq hsz.symm) (fun b hlt => ⟨rfl, ?_⟩) (fun b hlt => hf.new b (by omega)), hL, hD, by omega, h4, h5, h6⟩
 by_cases e1 : b = B
 ·exact .inr ⟨by rw [e1]; exact ha.hB, [], by rw [e1]; exact h4⟩
 by_cases e2 : b = L
 ·exact .inr ⟨by rw [e2]; exact ha.hL, [], by rw [e2]; exact h6⟩
 by_cases e3 : b = D
 ·exact .inr ⟨by rw [e3]; exact ha.hD, [], by rw [e3]; exact h5⟩
 exact .inl (hb b e1 e2 e3)
theorem Mid.putL {w W : World} {ow : Go.Dv.Own} {B D L : Nat} {fn : FuncId} {T : Array Value} {st st' : LoopState} {pe pe' : Option Code} {l : List (List Opn)} {r : Int} (ha : At12 w B D L T) (h : Mid w ow B D L fn T st pe l r W) : Mid w ow B D L fn T st' pe' l r (W.putObj L (.loop (rec12 fn T D st' pe'))) := by
 have h' := h
 obtain ⟨owA, hf, h1, h2, h3, h4, h5, h6⟩ := h'
 refine h.turn ha rfl rfl rfl (by simp) (fun b e1 e2 e3 => World.putObj_heap_other e2) (World.putObj_heap_same (Array.getElem?_eq_some_iff.1 h1).1) ((World.putObj_heap_other ha.dl).trans h2)
theorem round12 {w W : World} {ow : Go.Dv.Own} {B D L m : Nat} {fn : FuncId} {T : Array Value} {l : List (List Opn)} {r : Int} {x r' : Str} {R : Ending → World → Prop} (ha : At12 w B D L T) (h : Mid w ow B D L fn T .ready none l r W) (hc : W.cell? ⟨B, 0, none⟩ = some (vS r')) (hfz : W.frozen? ⟨B, 0, none⟩ = false)
  (hx : x.length ≤ 6000) (hl : l.length ≤ 6000) (hr : 0 ≤ r ∧ r ≤ 6000)
  (hyes : ∀ v b W', readEnt x = some (v, b) → v = (l.length : Int) + 1 → Mid w ow B D L fn T .ready none (l ++ [b]) (r + x.length) W' → W'.cell? ⟨B, 0, none⟩ = some (vS r') → W'.frozen? ⟨B, 0, none⟩ = false → R (.returned (.bool true)) W')
  (hno : ∀ W', (∀ v b, readEnt x = some (v, b) → v ≠ (l.length : Int) + 1) → Mid w ow B D L fn T .done (some (.exit 0)) l r W' → R (.returned (.bool false)) W') :
  YieldAt Fence.wide m Tryz.prog L #[vS x] W R := by
 have h' := h
 obtain ⟨owA, hf, h1, h2, h3, h4, h5, h6⟩ := h'
 have hy := run_yield (P := Tryz.prog) (args := #[vS x]) h1 rfl
 refine ⟨fn, _, asg12, bod12, hy, roundIn_of_wpIn trivial ?_⟩
 have hT : ((rec12 fn T D .ready none).params.zip #[vS x]).foldl (fun tmps (t, a) => tmps.setIfInBounds t a) (rec12 fn T D .ready none).tmps = T.setIfInBounds 15 (vS x) := by simp [rec12]
 rw [hT]
 have hf0 : Fits Tryz.prog 41 w (owF ow) owA ((lst (slots12 l r)).set 15 (.val (dS x))) { tmps := T.setIfInBounds 15 (vS x), defers := [] } W := hf.set (by decide) (show V Tryz.prog W owA (dS x).fz [] (vS x) from ⟨rfl, rfl⟩)
 have hB : B < W.heap.size := h3
 have hDs : D < W.heap.size := (Array.getElem?_eq_some_iff.1 h2).1
 have hLs : L < W.heap.size := (Array.getElem?_eq_some_iff.1 h1).1
 have hR1 : Rel Tryz.prog 41 W owA (lst ((15, .val (dS x)) :: slots12 l r)) { tmps := T.setIfInBounds 15 (vS x), defers := [] } W := (tells_list [] (by simp [go_sem, slots12])).rel ⟨owA, hf0.rebase⟩
 have hpins : PinnedL [(4, T.getD 4 undef), (5, T.getD 5 undef)] { tmps := T.setIfInBounds 15 (vS x), defers := [] } := by
  intro q hq i v e
  simp only [List.mem_cons, List.not_mem_nil, or_false] at hq
  rcases hq with rfl | rfl <;> (obtain ⟨rfl, rfl⟩ := Prod.mk.inj (Option.some.inj e).symm; simp [Array.getD_eq_getD_getElem?, Array.getElem?_setIfInBounds])
 refine asg12_ok (K := fun e s' => e = .normal ∧ Tells Tryz.prog 41 s' (lst ((6, .val (dS x)) :: slots12 l r))) (fun s' h => ⟨rfl, h⟩) _ _ hR1 hpins _ ?_
 rintro e s1 a1 w1 ⟨rfl, ht1⟩ hR1' hp1
 obtain ⟨ow1, hf1⟩ := ht1.rel hR1'
 obtain ⟨kB, oB⟩ := hf1.keep B hB [] h4
 obtain ⟨kD, oD⟩ := hf1.keep D hDs [] h5
 obtain ⟨kL, oL⟩ := hf1.keep L hLs [] h6
 have hL1 := kL.trans h1
 have hL1s : L < w1.heap.size := (Array.getElem?_eq_some_iff.1 hL1).1
 refine ⟨_, run_beginRound hL1 rfl, ?_⟩
 obtain ⟨w2, hw2⟩ : ∃ w2, w2 = w1.putObj L (.loop (rec12 fn T D .busy none)) := ⟨_, rfl⟩
 have hf2 : Fits Tryz.prog 41 w (owF ow) ow1 (lst ((6, .val (dS x)) :: slots12 l r)) a1 w2 := by
  rw [hw2]
  refine (hf.onto hf1).turn rfl rfl rfl (by simp) (fun b hlt => ⟨rfl, ?_⟩) (fun b hlt => hf1.new b (by simpa using hlt))
  by_cases e : b = L
  ·exact .inr ⟨by rw [e]; exact ha.hL, [], by rw [e]; exact oL⟩
  ·exact .inl (World.putObj_heap_other e)
 have hL2 : w2.heap[L]? = some (.loop (rec12 fn T D .busy none)) := by rw [hw2]; exact World.putObj_heap_same hL1s
 have hD2 : w2.heap[D]? = some (.deferred (some [])) := by rw [hw2]; exact (World.putObj_heap_other ha.dl).trans (kD.trans h2)
 have hB2 : w2.heap[B]? = W.heap[B]? := by rw [hw2]; exact (World.putObj_heap_other ha.bl).trans kB
 have hs2 : w2.heap.size = w1.heap.size := by rw [hw2]; simp
 have hbel : W.heap.size ≤ w2.heap.size := by rw [hs2]; exact hf1.bel.size
 show bod12.wpIn _ _ _ _ _ (w1.putObj L (.loop (rec12 fn T D .busy none)))
 rw [← hw2]
 refine bod12_ok (K := fun e s' => (e = .normal ∧ ∃ v b, readEnt x = some (v, b) ∧ v = (l.length : Int) + 1 ∧ Tells Tryz.prog 41 s' (lst (slots12 (l ++ [b]) (r + x.length)))) ∨ (e = .exit 0 ∧ (∀ v b, readEnt x = some (v, b) → v ≠ (l.length : Int) + 1) ∧ Tells Tryz.prog 41 s' (lst (slots12 l r)))) hx hl hr (fun v b s' e1 e2 ht => .inl ⟨rfl, v, b, e1, e2, ht⟩) (fun s' e1 ht => .inr ⟨rfl, e1, ht⟩) a1 w2 ⟨ow1, hf2.rebase⟩ hp1 _ ?_
 intro e s3 a3 w3 hK hR3 hp3
 have p4 : a3.tmps.getD 4 undef = T.getD 4 undef := hp3 (4, _) (by simp) 4 _ rfl
 have p5 : a3.tmps.getD 5 undef = T.getD 5 undef := hp3 (5, _) (by simp) 5 _ rfl
 have back : ∀ (l' : List (List Opn)) (r' : Int) (ow3 : Go.Dv.Own), Fits Tryz.prog 41 w2 ow1 ow3 (lst (slots12 l' r')) a3 w3 → Mid w ow B D L fn T .busy none l' r' w3 ∧ w3.heap[B]? = W.heap[B]? := by
  intro l' r' ow3 hf3
  obtain ⟨kB3, oB3⟩ := hf3.keep B (by omega) [] oB
  obtain ⟨kD3, oD3⟩ := hf3.keep D (by omega) [] oD
  obtain ⟨kL3, oL3⟩ := hf3.keep L (by omega) [] oL
  refine ⟨⟨ow3, (hf2.onto hf3).reAct rfl ha.size (fun i => ?_), kL3.trans hL2, kD3.trans hD2, ?_, oB3, oD3, oL3⟩, kB3.trans hB2⟩
  ·by_cases e4 : i = 4
   ·subst e4; exact .inr ⟨⟨_, rfl⟩, by simp only [aval, p4]⟩
   by_cases e5 : i = 5
   ·subst e5; exact .inr ⟨⟨_, rfl⟩, by simp only [aval, p5]⟩
   ·exact .inl (lst_un (by simp [slots12, e4, e5]))
  ·have := hf3.bel.size; omega
 have cB : ∀ W' : World, W'.heap[B]? = W.heap[B]? → W'.cell? ⟨B, 0, none⟩ = some (vS r') ∧ W'.frozen? ⟨B, 0, none⟩ = false := fun W' e => ⟨(World.cell?_of_block (a := ⟨B, 0, none⟩) e).trans hc, (World.frozen?_of_block (a := ⟨B, 0, none⟩) e).trans hfz⟩
 rcases hK with ⟨rfl, v, b, e1, e2, ht⟩ | ⟨rfl, e1, ht⟩
 ·obtain ⟨ow3, hf3⟩ := ht.rel hR3
  obtain ⟨hm, hb3⟩ := back _ _ _ hf3
  have hm' := hm
  obtain ⟨_, _, hl3, _⟩ := hm'
  have hfin := cB (w3.putObj L (.loop (rec12 fn T D .ready none))) ((World.putObj_heap_other ha.bl).trans hb3)
  exact ⟨_, _, run_endRound none hl3, hyes v b _ e1 e2 (hm.putL ha) hfin.1 hfin.2⟩
 ·obtain ⟨ow3, hf3⟩ := ht.rel hR3
  obtain ⟨hm, hb3⟩ := back _ _ _ hf3
  have hm' := hm
  obtain ⟨_, _, hl3, _⟩ := hm'
  exact ⟨_, _, run_endRound (some (.exit 0)) hl3, hno _ e1 (hm.putL ha)⟩
end Go.Proofs.YtfhfidecmdhkoaaGreatDoor

end
section
set_option maxRecDepth 10000
namespace Go.Proofs.YtfhfidecmdhkoaaGreatDoor
open Go.Dv Go.Pl
open Go.RowKit Go.Shelf
theorem lines32 (s : Str) (w : World) : Calls Tryz.prog 32 #[vS s] w fun e w' => e = .returned (.func (.func 62) #[] #[.pointer (some ⟨w.heap.size, 0, none⟩)]) ∧ w' = w.alloc (.cells #[vS s] 9) := by
 refine calls_of_wp Tryz.func32 rfl ?_
 simp only [Tryz.ntmps32, List.size_toArray, List.length_cons, List.length_nil, Nat.reduceAdd, Nat.reduceSub, Array.replicate_succ, Array.replicate_zero, List.push_toArray, List.append_toArray, List.nil_append, List.cons_append]
 go_wp2
 refine bodyPost_ret (results_tmp rfl _ _ _) rfl ?_
 exact ⟨rfl, rfl⟩
def scan12 (s : Str) (l : List (List Opn)) (u : Nat) (ls : List Str) : Prop := scan s = (l ++ (scanL l.length ls).1, u + (scanL l.length ls).2)
theorem scan12_start {s : Str} (h : s.length ≤ 6000) : scan12 s [] 0 (lines s) := by simp [scan12, scan, h]
theorem scan12_yes {s x : Str} {l : List (List Opn)} {u : Nat} {ls : List Str} {v : Int} {b : List Opn} (h : scan12 s l u (x :: ls)) (hr : readEnt x = some (v, b)) (hv : v = (l.length : Int) + 1) : scan12 s (l ++ [b]) (u + x.length) ls := by
 unfold scan12 at h ⊢
 rw [scanL_some hr hv] at h
 rw [h]
 simp [Nat.add_assoc]
theorem scan12_no {s x : Str} {l : List (List Opn)} {u : Nat} {ls : List Str} (h : scan12 s l u (x :: ls)) (hn : ∀ v b, readEnt x = some (v, b) → v ≠ (l.length : Int) + 1) : scan s = (l, u) := by
 unfold scan12 at h
 rw [scanL_no hn] at h
 simpa using h
theorem scan12_end {s : Str} {l : List (List Opn)} {u : Nat} (h : scan12 s l u (lines [])) : scan s = (l, u) := by
 unfold scan12 at h
 simpa [lines, lineGo, scanL] using h
theorem scan12_len {s : Str} {l : List (List Opn)} {u : Nat} {ls : List Str} (hs : s.length ≤ 6000) (h : scan12 s l u ls) : l.length ≤ 6000 ∧ u ≤ 6000 := by
 have h1 := scan_len s
 unfold scan12 at h
 rw [h] at h1
 simp at h1
 omega
theorem loop12 {w W : World} {ow : Go.Dv.Own} {B D L : Nat} {fn : FuncId} {T : Array Value} {s : Str} (hs : s.length ≤ 6000) (ha : At12 w B D L T) (h : Mid w ow B D L fn T .ready none [] 0 W) (hc : W.cell? ⟨B, 0, none⟩ = some (vS s)) (hfz : W.frozen? ⟨B, 0, none⟩ = false) :
  CallsIn Fence.wide 3 Tryz.prog 62 #[.func (.yield L) #[] #[], .pointer (some ⟨B, 0, none⟩)] W fun e W' => (∃ v, e = .returned v) ∧ (Mid w ow B D L fn T .ready none (scan s).1 (scan s).2 W' ∨ Mid w ow B D L fn T .done (some (.exit 0)) (scan s).1 (scan s).2 W') := by
 refine (lines1_in 3 L B (by omega)
  (fun r W => r.length ≤ 6000 ∧ W.cell? ⟨B, 0, none⟩ = some (vS r) ∧ W.frozen? ⟨B, 0, none⟩ = false ∧ ∃ (l : List (List Opn)) (u : Nat), Mid w ow B D L fn T .ready none l u W ∧ scan12 s l u (lines r))
  (fun _ W => ∃ (l : List (List Opn)) (u : Nat), Mid w ow B D L fn T .done (some (.exit 0)) l u W ∧ scan s = (l, u))
  (fun x r W => x.length ≤ 6000 ∧ r.length ≤ 6000 ∧ W.cell? ⟨B, 0, none⟩ = some (vS r) ∧ W.frozen? ⟨B, 0, none⟩ = false ∧ ∃ (l : List (List Opn)) (u : Nat), Mid w ow B D L fn T .ready none l u W ∧ scan12 s l u (x :: lines r))
  (fun r W hJ => ⟨hJ.1, hJ.2.1, hJ.2.2.1⟩) ?_ ?_ s W ⟨hs, hc, hfz, [], 0, h, scan12_start hs⟩).mono ?_
 ·rintro r x r' W1 W2 ⟨j1, j2, j3, l, u, hm, hsc⟩ hr hl e1 e2 e3 e4
  have hlen := congrArg List.length hr
  rw [List.length_append] at hlen
  have hc2 := (cell_heap e1 ⟨B, 0, none⟩).trans j2
  have hf2 := (frozen_heap e1 ⟨B, 0, none⟩).trans j3
  refine ⟨by omega, by omega, World.cell?_setCell_same' _ _ _ (by rw [hc2]; rfl), by rw [World.frozen?_setCell]; exact hf2, l, u, ?_, by rw [← hl]; exact hsc⟩
  have hm' := hm
  obtain ⟨_, _, hL, hD, _⟩ := hm'
  have hb : ∀ b, b ≠ B → (W2.setCell ⟨B, 0, none⟩ (vS r')).heap[b]? = W1.heap[b]? := fun b hb => by rw [Below.heap_setCell W2 ⟨B, 0, none⟩ _ b hb, e1]
  refine hm.turn ha e2 e3 e4 ?_ (fun b e _ _ => hb b e) ((hb L (Ne.symm ha.bl)).trans hL) ((hb D (Ne.symm ha.bd)).trans hD)
  show (W2.heap.modify B _).size = _
  rw [Array.size_modify, e1]
 ·rintro x r W1 ⟨j1, j0, j2, j3, l, u, hm, hsc⟩
  have hlen := scan12_len hs hsc
  refine round12 ha hm j2 j3 j1 hlen.1 (by omega) (fun v b W' e1 e2 hm' hc' hf' => .inl ⟨rfl, j0, hc', hf', l ++ [b], u + x.length, by rw [Int.natCast_add]; exact hm', scan12_yes hsc e1 e2⟩) (fun W' e1 hm' => .inr ⟨rfl, l, u, hm', scan12_no hsc e1⟩)
 ·rintro e W' ⟨hv, ⟨j1, j2, j3, l, u, hm, hsc⟩ | ⟨_, l, u, hm, hsc⟩⟩
  ·rw [scan12_end hsc]; exact ⟨hv, .inl hm⟩
  ·rw [hsc]; exact ⟨hv, .inr hm⟩
end Go.Proofs.YtfhfidecmdhkoaaGreatDoor

end
section
set_option maxRecDepth 10000
namespace Go.Proofs.YtfhfidecmdhkoaaGreatDoor
open Go.Dv Go.Pl
open Go.RowKit Go.Shelf
attribute [local go_sem] Oper.semAt_some
theorem start12 {w W : World} {ow : Go.Dv.Own} {TT : Array Value} {fn : FuncId} {N : Nat} (hN : w.heap.size = N) (hL : Laid w ow) (hnew : ∀ b, N ≤ b → ow b = none) (hsz : TT.size = 41) (h4 : TT.getD 4 undef = .pointer (some ⟨N, 0, none⟩)) (h5 : TT.getD 5 undef = .pointer (some ⟨N + 1, 0, none⟩))
  (hos : W.os = w.os) (htape : W.tape = w.tape) (hout : W.output = w.output) (hs : W.heap.size = N + 5) (hb : ∀ b, b < N → W.heap[b]? = w.heap[b]?) (e0 : W.heap[N]? = some (.cells #[.slice none 0 0] 34)) (e1 : W.heap[N + 1]? = some (.cells #[.int .i64 0] 3))
  (e3 : W.heap[N + 3]? = some (.deferred (some []))) (e4 : W.heap[N + 4]? = some (.loop (rec12 fn TT (N + 3) .ready none))) :
  Mid w ow (N + 2) (N + 3) (N + 4) fn TT .ready none [] 0 W := by
 refine ⟨fun b => if b < N then owF ow b else if b = N then some [4] else if b = N + 1 then some [5] else if b ≤ N + 4 then some [far0] else none, ⟨rfl, hsz, by decide, hL.mono fun b o h1 h2 => ⟨h1, by simp [owF, h2]⟩, ⟨hos, htape, hout, by omega, fun b hlt _ => hb b (by omega)⟩, fun b hlt ho => ?_, fun b hlt => ?_, ?_, fun b hlt q ho => ?_, fun i => ?_⟩, e4, e3, by omega, ?_, ?_, ?_⟩
 ·rw [if_pos (by omega)]; exact ho
 ·rw [if_neg (by omega), if_neg (by omega), if_neg (by omega), if_neg (by omega)]
 ·exact lst_un (by simp [slots12, far0])
 ·exact ⟨hb b (by omega), by rw [if_pos (by omega)]; exact ho⟩
 ·by_cases i4 : i = 4
  ·subst i4
   have ha : aval { tmps := TT, defers := [] } 4 = .pointer (some ⟨N, 0, none⟩) := by simp only [aval]; exact h4
   rw [ha]
   show V _ _ _ (.bx true (oBats [])) [4] _
   simp only [V, R]
   refine ⟨N, 0, #[.slice none 0 0], 34, (0, 0), [.slice none 0 0], rfl, e0, (fun h => by cases h), fun _ => ⟨by simp; try (intro h; exact absurd h (by omega)), unfz0 _, rfl, rfl⟩, rfl, fun j hj => by simp at hj; subst hj; rfl, ?_⟩
   exact ⟨none, 0, rfl, by simp, by decide, .inl ⟨rfl, rfl, rfl⟩⟩
  by_cases i5 : i = 5
  ·subst i5
   have ha : aval { tmps := TT, defers := [] } 5 = .pointer (some ⟨N + 1, 0, none⟩) := by simp only [aval]; exact h5
   rw [ha]
   show V _ _ _ (.bx true (dI 0)) [5] _
   simp only [V, R]
   refine ⟨N + 1, 0, #[.int .i64 0], 3, (0, 0), [.int .i64 0], rfl, e1, (fun h => by cases h), fun _ => ⟨by simp; try (intro h; exact absurd h (by omega)), unfz0 _, rfl, rfl⟩, rfl, fun j hj => by simp at hj; subst hj; rfl, ⟨rfl, rfl⟩⟩
  rw [lst_un (by simp [slots12, i4, i5])]
  trivial
 ·dsimp only; rw [if_neg (by omega), if_neg (by omega), if_neg (by omega), if_pos (by omega)]
 ·dsimp only; rw [if_neg (by omega), if_neg (by omega), if_neg (by omega), if_pos (by omega)]
 ·dsimp only; rw [if_neg (by omega), if_neg (by omega), if_neg (by omega), if_pos (by omega)]
theorem region_allW {P : Program} {id : Nat} {Q : Exit → Act → World → Prop} {a : Act} {w : World} {l : List Oper} (hm : P.follows .mixedOrders = true) (hB : Region.lexB .any l.toArray = true)
  (h : ∀ w2 : World, w2.heap = w.heap → w2.os = w.os → w2.tape = w.tape → w2.output = w.output → wpStill P l.toArray w2 (fun a' => Q .normal a' w2) l a) : (Code.region id l.toArray true).wp P Q a w :=
 wp_region_still_lit hm hB (h _ rfl rfl rfl rfl)
theorem cells12 {w W : World} {ow : Go.Dv.Own} {TT : Array Value} {fn : FuncId} {B D L N : Nat} {st : LoopState} {pe : Option Code} {l : List (List Opn)} {r : Int} (ha : At12 w B D L TT) (h4 : TT.getD 4 undef = .pointer (some ⟨N, 0, none⟩)) (h5 : TT.getD 5 undef = .pointer (some ⟨N + 1, 0, none⟩)) (h : Mid w ow B D L fn TT st pe l r W) :
  ∃ v, W.cell? ⟨N, 0, none⟩ = some v ∧ W.frozen? ⟨N, 0, none⟩ = false ∧ W.cell? ⟨N + 1, 0, none⟩ = some (.int .i64 r) ∧ W.frozen? ⟨N + 1, 0, none⟩ = false := by
 obtain ⟨owA, hf, _⟩ := h
 have s4 := hf.slot 4
 have s5 := hf.slot 5
 have a4 : aval { tmps := TT, defers := [] } 4 = .pointer (some ⟨N, 0, none⟩) := by simp only [aval]; exact h4
 have a5 : aval { tmps := TT, defers := [] } 5 = .pointer (some ⟨N + 1, 0, none⟩) := by simp only [aval]; exact h5
 rw [a4] at s4
 rw [a5] at s5
 replace s4 : V Tryz.prog W owA (.bx true (oBats l)) [4] _ := s4
 replace s5 : V Tryz.prog W owA (.bx true (dI r)) [5] _ := s5
 simp only [V, R] at s4 s5
 obtain ⟨b, off, C, e, fz, cs, g1, g2, _, g3, g4, g5, g6⟩ := s4
 obtain ⟨b', off', C', e', fz', cs', k1, k2, _, k3, k4, k5, k6, _⟩ := s5
 obtain ⟨-, u1, u2, u3⟩ := g3 trivial
 obtain ⟨-, v1, v2, v3⟩ := k3 trivial
 simp only [List.cons.injEq, Value.pointer.injEq, Option.some.injEq, and_true, Addr.mk.injEq] at g1 k1
 obtain ⟨rfl, rfl⟩ := g1
 obtain ⟨rfl, rfl⟩ := k1
 obtain ⟨a, cap, rfl, _⟩ := g6
 subst k6
 have g50 := g5 0 (by simp)
 have k50 := k5 0 (by simp)
 simp only [Nat.add_zero, List.getElem?_cons_zero] at g50 k50
 have f1 := u1 0 (by rw [u3]; exact Nat.zero_lt_one)
 have f2 := v1 0 (by rw [v3]; exact Nat.zero_lt_one)
 refine ⟨_, by simp only [World.cell?, g2]; exact g50, ?_, by simp only [World.cell?, k2]; exact k50, ?_⟩
 ·simp only [World.frozen?, g2]; simpa using f1
 ·simp only [World.frozen?, k2]; simpa using f2
theorem fn_impl_ScanLog (s : Str) (hs : s.length ≤ 1048576) : FnOk Tryz.prog 12 [dS s] (fun res' => res' = .tup [.own (oBats (scan s).1), .val (dI (scan s).2)]) := by
 intro w ow vs t ht hL hnew hvs hargs
 have h0 := hargs 0 _ rfl
 obtain ⟨x, rfl⟩ : ∃ x, vs = #[x] := Array.size_eq_one_iff.1 hvs
 simp only [V, D.fz, R] at h0
 obtain ⟨h0, _⟩ := h0
 obtain rfl : x = vS s := by simpa using h0
 clear h0 hargs hvs
 refine (callsIn_wide (n := 4)).1 (callsIn_of_wp_marks Tryz.func12 rfl trivial ?_ rfl)
 simp only [Tryz.ntmps12, List.size_toArray, List.length_cons, List.length_nil, Nat.reduceAdd, Nat.reduceSub, Array.replicate_succ, Array.replicate_zero, List.push_toArray, List.append_toArray, List.nil_append, List.cons_append]
 have hrs := ba_size s
 have hn1 : 1 ≤ 4 := by omega
 by_cases h6 : s.length ≤ 6000
 ·have h6' : ¬ ((6000 : Int) < (s.length : Int)) := by omega
  gi_wp2_with (refine ⟨trivial, ?_⟩; gi_at_call 32; refine (callsIn_wide.2 (lines32 s _)).mono ?_; rintro e w1 ⟨rfl, rfl⟩)
  obtain ⟨W0, hW0⟩ : ∃ W0, W0 = ((w.alloc (.cells #[.slice none 0 0] 34)).alloc (.cells #[.int .i64 0] 3)).alloc (.cells #[vS s] 9) := ⟨_, rfl⟩
  rw [← hW0]
  obtain ⟨N, hN⟩ : ∃ N, w.heap.size = N := ⟨_, rfl⟩
  have hz0 : W0.heap.size = N + 3 := by rw [hW0]; simp [hN]
  have hB0 : ∀ b, b < N → W0.heap[b]? = w.heap[b]? := fun b hb => by
   rw [hW0, Below.heap_alloc _ _ _ (by simp; omega), Below.heap_alloc _ _ _ (by simp; omega), Below.heap_alloc _ _ _ (by omega)]
  have c0 : W0.heap[N]? = some (.cells #[.slice none 0 0] 34) := by
   rw [hW0, Below.heap_alloc _ _ _ (by simp; omega), Below.heap_alloc _ _ _ (by simp; omega), ← hN]; exact World.alloc_heap_new w _
  have c1 : W0.heap[N + 1]? = some (.cells #[.int .i64 0] 3) := by
   rw [hW0, Below.heap_alloc _ _ _ (by simp; omega), ← hN]; have := World.alloc_heap_new (w.alloc (.cells #[.slice none 0 0] 34)) (.cells #[.int .i64 0] 3); simpa using this
  have c2 : W0.heap[N + 2]? = some (.cells #[vS s] 9) := by
   rw [hW0, ← hN]; have := World.alloc_heap_new ((w.alloc (.cells #[.slice none 0 0] 34)).alloc (.cells #[.int .i64 0] 3)) (.cells #[vS s] 9); simpa using this
  have m0 : W0.os = w.os ∧ W0.tape = w.tape ∧ W0.output = w.output := by rw [hW0]; exact ⟨rfl, rfl, rfl⟩
  clear hW0
  rw [hN]
  rename_i Q K hK
  refine wpIn_rangeFunc fun fn hfn => ?_
  obtain ⟨TT, hTT⟩ : ∃ TT : Array Value, TT = #[vS s, undef, Value.slice none 0 0, Value.int IntKind.i64 0, .pointer (some ⟨N, 0, none⟩), .pointer (some ⟨N + 1, 0, none⟩), undef, undef, undef, undef, vS s, .int .i64 s.length, .bool false, vS s, .func (.func 62) #[] #[.pointer (some ⟨N + 1 + 1, 0, none⟩)], undef, undef, undef, undef, undef, undef, undef, undef, undef, undef, undef, undef, undef, undef, undef, undef, undef, undef, undef, undef, undef, undef, undef, undef, undef, undef] := ⟨_, rfl⟩
  obtain ⟨W1, hW1⟩ : ∃ W1, W1 = (W0.alloc (.deferred (some []))).alloc (.loop (rec12 fn TT (N + 3) .ready none)) := ⟨_, rfl⟩
  have hm : Mid w ow (N + 2) (N + 3) (N + 4) fn TT .ready none [] 0 W1 := by
   have hb1 : ∀ b, b < N + 3 → W1.heap[b]? = W0.heap[b]? := fun b hb => by rw [hW1, Below.heap_alloc _ _ _ (by simp; omega), Below.heap_alloc _ _ _ (by omega)]
   refine start12 hN hL (by rw [← hN]; exact hnew) (by rw [hTT]; rfl) (by rw [hTT]; rfl) (by rw [hTT]; rfl) (by rw [hW1]; exact m0.1) (by rw [hW1]; exact m0.2.1) (by rw [hW1]; exact m0.2.2) (by rw [hW1]; simp [hz0]) (fun b hb => (hb1 b (by omega)).trans (hB0 b hb)) ((hb1 _ (by omega)).trans c0) ((hb1 _ (by omega)).trans c1) ?_ ?_
   ·rw [hW1, Below.heap_alloc _ _ _ (by simp; omega), ← hz0]; exact World.alloc_heap_new W0 _
   ·have := World.alloc_heap_new (W0.alloc (.deferred (some []))) (.loop (rec12 fn TT (N + 3) .ready none)); rw [hW1]; simpa [hz0] using this
  have hcB : W1.cell? ⟨N + 2, 0, none⟩ = some (vS s) ∧ W1.frozen? ⟨N + 2, 0, none⟩ = false := by
   have hb1 : W1.heap[N + 2]? = W0.heap[N + 2]? := by rw [hW1, Below.heap_alloc _ _ _ (by simp; omega), Below.heap_alloc _ _ _ (by omega)]
   rw [World.cell?_of_block (a := ⟨N + 2, 0, none⟩) hb1, World.frozen?_of_block (a := ⟨N + 2, 0, none⟩) hb1]
   simp [World.cell?, World.frozen?, c2]
  have ha : At12 w (N + 2) (N + 3) (N + 4) TT := ⟨by rw [hTT]; rfl, by omega, by omega, by omega, by omega, by omega, by omega⟩
  refine ⟨N + 4, [{ target := .collected (N + 3), args := #[] }], W1, { target := .fn (.func 62) #[.pointer (some ⟨N + 1 + 1, 0, none⟩)], args := #[.func (.yield (N + 4)) #[] #[]] }, W1, 62, #[.func (.yield (N + 4)) #[] #[]] ++ #[.pointer (some ⟨N + 1 + 1, 0, none⟩)], W1, ?_, ?_, ?_, ?_, fun _ => by decide, ?_⟩
  ·rw [hW1, hTT, ← hz0]
   have := run_enterLoop_outer (P := Tryz.prog) (w := W0) fn TT #[15] asg12 bod12
   rw [hTT] at this
   simpa [hz0, rec12] using this
  ·simp [resolve, go_sem]
  ·intro f' hf'; trivial
  ·have eg := enters_of Tryz.func62 (by kernel_rfl) rfl
   simp [invoke, go_sem, eg]
  ·refine (loop12 h6 ha hm hcB.1 hcB.2).mono ?_
   rintro e W2 ⟨⟨v, rfl⟩, hmid⟩
   have fin : ∀ (a' : Act) W3, a' = { tmps := TT, defers := [{ target := .collected (N + 3), args := #[] }] } → (∃ st pe, Mid w ow (N + 2) (N + 3) (N + 4) fn TT st pe (scan s).1 (scan s).2 W3) → K a' W3 := by
    rintro a' W3 rfl ⟨st, pe, hm3⟩
    refine hK _ _ ?_
    obtain ⟨v4, h4, hf4, h5, hf5⟩ := cells12 ha (by rw [hTT]; rfl) (by rw [hTT]; rfl) hm3
    rw [hTT]
    refine wpIn_seq (wpIn_wide.2 (region_allW (by kernel_rfl) (by kernel_rfl) ?_))
    intro w4 e1 e2 e3 e4
    have h4' := (cell_heap e1 ⟨N, 0, none⟩).trans h4
    have h5' := (cell_heap e1 ⟨N + 1, 0, none⟩).trans h5
    have hf4' := (frozen_heap e1 ⟨N, 0, none⟩).trans hf4
    have hf5' := (frozen_heap e1 ⟨N + 1, 0, none⟩).trans hf5
    iterate 4 still_step
    refine wpStill_nil ?_
    gi_wp2
    obtain ⟨owA, hfit, hL3, hD3, hBs, oB, oD, oL⟩ := hm3
    have hD4 : w4.heap[N + 3]? = some (.deferred (some [])) := by rw [e1]; exact hD3
    refine ⟨by simp, .inl ⟨_, _, rfl, run_takeDeferred hD4, ?_⟩⟩
    refine ⟨_, results_tmp2 rfl _ _ _, ?_⟩
    obtain ⟨W5, hW5⟩ : ∃ W5, W5 = w4.putObj (N + 3) (.deferred none) := ⟨_, rfl⟩
    rw [← hW5]
    have hb5 : ∀ b, b ≠ N + 3 → W5.heap[b]? = W3.heap[b]? := fun b hb => by rw [hW5, World.putObj_heap_other hb, e1]
    have hfit5 : Fits Tryz.prog 41 w (owF ow) owA (lst (slots12 (scan s).1 (scan s).2)) { tmps := TT, defers := [] } W5 := by
     refine hfit.turn (by rw [hW5]; exact e2) (by rw [hW5]; exact e3) (by rw [hW5]; exact e4) (by rw [hW5]; simp [e1]) (fun b hlt => ⟨rfl, ?_⟩) (fun b hlt => hfit.new b (by rw [hW5] at hlt; simpa [e1] using hlt))
     by_cases e : b = N + 3
     ·exact .inr ⟨by omega, [], by rw [e]; exact oD⟩
     ·exact .inl (hb5 b e)
    obtain ⟨vals, hlen, hrun, ow', r, hr, haf, hpl, hsv⟩ := ret_out (rs := [.cell 4 34, .cell 5 3]) (Q := fun res' => res' = .tup [.own (oBats (scan s).1), .val (dI (scan s).2)]) (t := t) good hfit5 hnew (by simp [go_sem, slots12])
    have c4 : W5.cell? ⟨N, 0, none⟩ = some v4 := (World.cell?_of_block (a := ⟨N, 0, none⟩) (hb5 N (by omega))).trans h4
    have c5 : W5.cell? ⟨N + 1, 0, none⟩ = some (.int .i64 (scan s).2) := (World.cell?_of_block (a := ⟨N + 1, 0, none⟩) (hb5 (N + 1) (by omega))).trans h5
    have hvals := hrun (rvRun TT) (fun _ => rfl)
    have hval2 : vals = [v4, .int .i64 (scan s).2] := by
     have hh : (([.cell 4 34, .cell 5 3] : List ResultVar).mapM (rvRun TT)).run Tryz.prog W5 = .ok [v4, .int .i64 (scan s).2] W5 := by
      rw [hTT]
      simp [rvRun, go_sem, c4, c5]
     rw [hh] at hvals
     injection hvals with hvals
     exact hvals.symm
    rw [hval2] at hsv
    subst hr
    exact ⟨_, rfl, ow', haf, hpl, hsv⟩
   rcases hmid with hmid | hmid
   ·have hmid' := hmid
    obtain ⟨_, _, hl3, _⟩ := hmid'
    exact ⟨_, _, run_endLoop hl3 (by simp [rec12]), fin _ _ (by rw [hTT]; rfl) ⟨.exhausted, none, hmid.putL ha⟩⟩
   ·have hmid' := hmid
    obtain ⟨_, _, hl3, _⟩ := hmid'
    exact ⟨_, _, run_endLoop hl3 (by simp [rec12]), wpIn_exit (fin _ _ (by rw [hTT]; rfl) ⟨.exhausted, some (.exit 0), hmid.putL ha⟩)⟩
 ·have h6' : ((6000 : Int) < (s.length : Int)) := by omega
  gi_wp2
  have hsc : scan s = ([], 0) := by unfold scan; rw [if_neg h6]
  refine ⟨_, results_tmp2 rfl _ _ _, _, ow, _, rfl, rfl, ⟨rfl, rfl, rfl, by simp, fun b hb => ⟨Below.heap_alloc _ _ _ hb, rfl⟩, fun b hb => hnew b (by simp at hb; omega)⟩, rfl, fun st a => ?_⟩
  rw [hsc]
  refine ⟨#[.slice none 0 0, .int .i64 0], rfl, rfl, fun k x hx => ?_⟩
  match k, hx with
  | 0, hx => 
   obtain rfl := Option.some.inj hx
   show V _ _ _ (oBats []) [0, t] _
   simp only [V, R]
   exact ⟨none, 0, rfl, by simp, by decide, .inl ⟨rfl, rfl, rfl⟩⟩
  | 1, hx => 
   obtain rfl := Option.some.inj hx
   exact ⟨rfl, rfl⟩
  | k + 2, hx => simp at hx
end Go.Proofs.YtfhfidecmdhkoaaGreatDoor

end
section
set_option maxRecDepth 10000
namespace Go.Proofs.YtfhfidecmdhkoaaGreatDoor
open Go.Dv Go.Pl
theorem fn_impl_AppendEntry (s : Str) (l : List Opn) (hs : s.length ≤ 1048576) (hb : smallB l) : FnOk Tryz.prog 9 [dS s, nBat l] (fun res' => res' = .tup [.val (dS (appLog s l).1), .val (dB (appLog s l).2)]) := by
 refine fn_of good (rs := [.tmp 4, .tmp 5]) Tryz.func9 rfl Tryz.ntmps9 (by decide) (by simp) rfl fun w0 ow0 => ?_
 have hsl := scan_len s
 have hel := entStr_len ((scan s).1.length + 1) l
 obtain ⟨E, hE⟩ : ∃ E, entStr ((scan s).1.length + 1) l = E := ⟨_, rfl⟩
 have ha : appLog s l = if (scan s).2 ≠ s.length ∨ E = [] ∨ s.length + E.length > 6000 then (s, false) else (s ++ E, true) := by rw [appLog, hE]
 rw [hE] at hel
 refine okC_rg good ?_
 simp [go_sem]
 repeat (with_reducible refine And.intro ?_ ?_; first | omega | assumption | (simp only [inI]; omega))
 refine okC_rg good ?_
 simp [go_sem]
 repeat (with_reducible refine And.intro ?_ ?_; first | omega | assumption | (simp only [inI]; omega))
 first | refine callK_of (fn_impl_ScanLog s hs) (by simp [go_sem]) ?_ | refine callK_fz (fn_impl_ScanLog s hs) (by simp [go_sem]) (by simp [go_sem]) ?_
 simp [go_sem]
 repeat (with_reducible refine And.intro ?_ ?_; first | omega | assumption | (simp only [inI]; omega))
 refine okC_rg good ?_
 simp [go_sem]
 repeat (with_reducible refine And.intro ?_ ?_; first | omega | assumption | (simp only [inI]; omega))
 first | refine callK_of (fn_impl_EncodeEntry ((scan s).1.length + 1) l hb) (by simp [go_sem]) ?_ | refine callK_fz (fn_impl_EncodeEntry ((scan s).1.length + 1) l hb) (by simp [go_sem]) (by simp [go_sem]) ?_
 simp [go_sem]
 repeat (with_reducible refine And.intro ?_ ?_; first | omega | assumption | (simp only [inI]; omega))
 refine okC_seq ?_
 refine okC_rg good ?_
 simp [go_sem, hE]
 repeat (with_reducible refine And.intro ?_ ?_; first | omega | assumption | (simp only [inI]; omega))
 first | refine gI_dec (fun f => ?_) (fun f => ?_) | refine gI_ndec (fun f => ?_) (fun f => ?_) | refine gI_of (fun f => ?_) (fun f => ?_)
 ·have f' := f; try simp at f'
  simp [go_sem, hE, f]
  repeat (with_reducible refine And.intro ?_ ?_; first | omega | assumption | (simp only [inI]; omega))
  refine okC_if ?_
  simp [go_sem, hE, f]
  refine okC_rg good ?_
  simp [go_sem, hE, f]
  repeat (with_reducible refine And.intro ?_ ?_; first | omega | assumption | (simp only [inI]; omega))
  refine okC_ret ?_
  simp [go_sem, hE, f]
  rw [ha, if_pos (.inl (by omega))]; exact ⟨rfl, rfl⟩
 ·have f' := f; try simp at f'
  simp [go_sem, hE, f]
  repeat (with_reducible refine And.intro ?_ ?_; first | omega | assumption | (simp only [inI]; omega))
  first | refine gI_dec (fun g => ?_) (fun g => ?_) | refine gI_ndec (fun g => ?_) (fun g => ?_) | refine gI_of (fun g => ?_) (fun g => ?_)
  ·have g' := g; try simp at g'
   simp [go_sem, hE, f, g]
   repeat (with_reducible refine And.intro ?_ ?_; first | omega | assumption | (simp only [inI]; omega))
   refine okC_if ?_
   simp [go_sem, hE, f, g]
   refine okC_rg good ?_
   simp [go_sem, hE, f, g]
   repeat (with_reducible refine And.intro ?_ ?_; first | omega | assumption | (simp only [inI]; omega))
   refine okC_ret ?_
   simp [go_sem, hE, f, g]
   rw [ha, if_pos (.inr (.inl (by simpa using g)))]; exact ⟨rfl, rfl⟩
  ·have g' := g; try simp at g'
   simp [go_sem, hE, f, g]
   repeat (with_reducible refine And.intro ?_ ?_; first | omega | assumption | (simp only [inI]; omega))
   refine okC_if ?_
   simp [go_sem, hE, f, g]
   first | refine gC_dec (fun k => ?_) (fun k => ?_) | refine gC_ndec (fun k => ?_) (fun k => ?_) | refine gC_of (fun k => ?_) (fun k => ?_)
   ·try simp at k
    refine okC_rg good ?_
    simp [go_sem, hE, f, g]
    repeat (with_reducible refine And.intro ?_ ?_; first | omega | assumption | (simp only [inI]; omega))
    refine okC_ret ?_
    simp [go_sem, hE, f, g]
    rw [ha, if_pos (.inr (.inr (by omega)))]; exact ⟨rfl, rfl⟩
   ·try simp at k
    refine okC_skip ?_
    refine okC_rg good ?_
    simp [go_sem, hE, f, g]
    repeat (with_reducible refine And.intro ?_ ?_; first | omega | assumption | (simp only [inI]; omega))
    refine okC_ret ?_
    simp [go_sem, hE, f, g]
    rw [ha, if_neg (by rintro (h | h | h); (omega); (exact g h); omega)]; exact ⟨rfl, rfl⟩
end Go.Proofs.YtfhfidecmdhkoaaGreatDoor

end
section
set_option maxRecDepth 10000
namespace Go.Proofs.YtfhfidecmdhkoaaGreatDoor
open Go.Dv Go.Pl
end Go.Proofs.YtfhfidecmdhkoaaGreatDoor

end
