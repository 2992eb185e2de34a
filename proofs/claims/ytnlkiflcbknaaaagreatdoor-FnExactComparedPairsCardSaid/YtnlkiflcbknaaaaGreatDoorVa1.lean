/- The law FnExactComparedPairs holds: the program's ComparedPairs answers as the reference's for all arguments. No condition beyond the given statement's own. -/
import Derived.Test.YtnlkiflcbknaaaaGreatDoorV6
set_option linter.unusedVariables false
set_option linter.defProp false
set_option linter.unusedSimpArgs false
set_option linter.unusedSectionVars false
set_option maxRecDepth 10000
set_option maxHeartbeats 1000000
section
namespace Go.Proofs.YtnlkiflcbknaaaaGreatDoor
open Go.Dv Go.Pl
open Go.ChangeShapes Go.WideShapes Go.ChangeAt Go.RowKit Go.Er
set_option maxRecDepth 100000 in
def akA (os:Os)(started:os.Started)(H:Type)(enc:TypeId×Value->H):
  ReturnsInHanded {} Tryz.checked os 3 .any (fun w args=>(Rows.fnExactComparedPairsSpec.pre enc Tryz.prog Tryz.f3 Rows.fnExactComparedPairsRow.domain false w args/\laidMet Tryz.prog tables w)/\sizedMet enc Tryz.prog Tryz.f3 (OpenSpec.ofChange Rows.fnExactComparedPairsSpec) false w args) (Rows.fnExactComparedPairsSpec.post enc Tryz.prog Tryz.f3 false true false false):=by
 refine NH (C:=Tryz.checked) (s:=Rows.fnExactComparedPairsSpec) (n:= "loop.example/g01923/impl.soundCodes") (g:=0) (t:=279) started own laidOut (by kernel_rfl) Tryz.func3 rfl ?_ (by kernel_rfl) (by kernel_rfl) (YC aB2) rfl Tryz.underlying4 ?_
  (ChangeSpec.witness_at (enc:=enc) (C:=Tryz.checked) (os:=os) (X:=fun w _=>laidMet Tryz.prog tables w) false (ZW os) #[.agg #[.slice none 0 0,.slice none 0 0,.int .i64 0,.slice none 0 0,.int .i64 0,.slice none 0 0,.slice none 0 0,.slice none 0 0,.int .i64 0,.slice none 0 0]] 8 rfl (by kernel_rfl) (by kernel_rfl) (by kernel_rfl) (by kernel_rfl) (by kernel_rfl) (anF os _)) ?_
 ·intro ds v hds
  match ds,hds with
  |[d0],_=>rfl
 ·intro t ht;rw[Tryz.params3]at ht;simp only[aW,List.not_mem_nil,or_false]at ht;rcases ht with rfl
  ·exact YC aB3
 ·intro W base args ds p hS hval hA hL;rw[Tryz.params3]at hA hval;obtain⟨v0,vs0,d0,ds0,p0,q0,hargs,rfl,rfl,h0,r0⟩:=trodAll_cons hA;obtain⟨rfl,rfl,rfl⟩:=trodAll_nil r0;obtain rfl:args= #[v0]:=by cases args;simp_all
  obtain⟨cs0,rfl,_⟩:=okWide_struct Tryz.underlying36 (hval 0 36 v0 rfl rfl);obtain⟨nf0,h0⟩:=h0;obtain⟨x0,q0',hr0⟩:=aCT (cs:=cs0.toList) ⟨nf0,_,h0⟩;have hsz:=aGH hS;refine ah6 (E8 x0 q0') (atI hS hL hsz) rfl fun i d hd=> ?_
  match i,hd with
  |0,hd=>
   obtain rfl:=k_Option_some_inj hd;rw[nSys_fz];exact aGL hr0
  |i+1,hd=>simp at hd
abbrev c0:OpenClaim:=Rows.fnExactComparedPairsRow
abbrev s0:ChangeSpec:=Rows.fnExactComparedPairsSpec
def y1:c0.wf (OpenSpec.ofChange s0)=true:=by kernel_rfl
def y4:Tryz.f3.params.all (Tryz.prog.readableRec ·)=true:=by kernel_rfl
def y5:namedTie Tryz.prog c0.named s0.vars=true:=by kernel_rfl
def y6:(c0.stops==[])=true:=by kernel_rfl
def y8:(c0.knobs==[])=true:=by kernel_rfl
def y10:(c0.inPlace==Tryz.prog.inPlace 3)=true:=by kernel_rfl
def y11:(c0.unfollowed==Tryz.prog.unfollowed 3)=true:=by kernel_rfl
def y12:(c0.recurses==Tryz.prog.recurses 3)=true:=by kernel_rfl
def y13:(c0.named==Tryz.prog.varsNamed 3)=true:=by kernel_rfl
def facts:joinedFacts Tryz.prog 3 Tryz.f3 s0 c0=true:=(an (an (an (an (an (an (an (an (an (an (an (an (an (an (an (an (an (an (an (an (an (an (an (an (an (an (an (an (an (an (an y1 pf2) pf3) y4) y5) y6) pf7) y8) pf9) y10) y11) y12) y13) (by kernel_rfl)) (by kernel_rfl)) (by kernel_rfl)) (by kernel_rfl)) (by kernel_rfl)) (by kernel_rfl)) (by kernel_rfl)) (by kernel_rfl)) (by kernel_rfl)) (by kernel_rfl)) (by kernel_rfl)) (by kernel_rfl)) (by kernel_rfl)) (by kernel_rfl)) (by kernel_rfl)) (by kernel_rfl)) (by kernel_rfl)) (by kernel_rfl)) (by kernel_rfl))
def asJ:Rows.FnExactComparedPairsSaid:=
 OpenClaim.holds_of_wide 3 Tryz.f3 rfl rfl rfl rfl rfl rfl rfl ⟨rfl,rfl,rfl,rfl,rfl⟩ rfl rfl rfl rfl rfl (by kernel_rfl) Tryz.func3 facts
  (of_decide_eq_true (by kernel_rfl)) (by unfold Func.isWrapper;first|(rw[if_pos (by decide+kernel)];kernel_rfl)|(rw[if_neg (by decide+kernel)];exact⟨rfl,rfl⟩))
  (fun os started H enc _=>akA os started H enc)
theorem fnExactComparedPairs.proved:Rows.FnExactComparedPairsCardSaid:=
 Claim7.holds_tied_plain_at .later [] [.data,.data,.data,.data,.sentinel,.sentinel,.data,.pinned] true (true,"a27e831b2717ebbfce6cc3713edcf6d33139d7b462a3fe08e1756429b08a67b7") true
  asJ (fun _ h=>by cases h) (by kernel_rfl) (fun _ h=>by cases h) fnExactComparedPairs_row_tie rfl ⟨rfl,rfl⟩ (by kernel_rfl)
  rfl
  (fun f fn hf hfn=>by
   obtain rfl:f=3:=k_Option_some_inj ((show Tryz.prog.funcNamed "loop.example/g01923/laws.FnExactComparedPairs" =some 3 by kernel_rfl).symm.trans hf)|>.symm;obtain rfl:fn=Tryz.f3:=(k_Option_some_inj (Tryz.func3.symm.trans hfn)).symm
   exact⟨by kernel_rfl,fun j t ht=>by
    rw[Tryz.params3]at ht;rcases j with _|j
    ·obtain rfl:t=36:=by simpa using ht.symm
     exact(show Tryz.prog.wantsStandIn 36=false by kernel_rfl)
    ·simp at ht⟩)
  (atG ah2 rfl)
end Go.Proofs.YtnlkiflcbknaaaaGreatDoor
end
