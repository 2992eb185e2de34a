/- The law FnExactDirectReason holds: the program's DirectReason answers as the reference's for all arguments. No condition beyond the given statement's own. -/
import Derived.Test.YtafdbpehjfmnpaaGreatDoorV6
set_option linter.unusedVariables false
set_option linter.defProp false
set_option linter.unusedSimpArgs false
set_option linter.unusedSectionVars false
set_option maxRecDepth 10000
set_option maxHeartbeats 1000000
section
namespace Go.Proofs.YtafdbpehjfmnpaaGreatDoor
open Go.Dv Go.Pl
open Go.ChangeShapes Go.WideShapes Go.ChangeAt Go.RowKit Go.Er
set_option maxRecDepth 100000 in
def ajM (os:Os)(started:os.Started)(H:Type)(enc:TypeId×Value->H):
  ReturnsInHanded {} Tryz.checked os 3 .any (fun w args=>(Rows.fnExactDirectReasonSpec.pre enc Tryz.prog Tryz.f3 Rows.fnExactDirectReasonRow.domain false w args/\laidMet Tryz.prog tables w)/\sizedMet enc Tryz.prog Tryz.f3 (OpenSpec.ofChange Rows.fnExactDirectReasonSpec) false w args) (Rows.fnExactDirectReasonSpec.post enc Tryz.prog Tryz.f3 false true false false):=by
 refine M9 (C:=Tryz.checked) (s:=Rows.fnExactDirectReasonSpec) (n:= "loop.example/g01923/impl.soundCodes") (g:=0) (t:=335) started own laidOut (by kernel_rfl) Tryz.func3 rfl ?_ (by kernel_rfl) (by kernel_rfl) (BO aAB) rfl Tryz.underlying4 ?_
  (ChangeSpec.witness_at (enc:=enc) (C:=Tryz.checked) (os:=os) (X:=fun w _=>laidMet Tryz.prog tables w) false (ZE os) #[.agg #[.slice none 0 0,.slice none 0 0,.int .i64 0,.slice none 0 0,.int .i64 0,.slice none 0 0,.slice none 0 0,.slice none 0 0,.int .i64 0,.slice none 0 0],.int .i64 0,.int .i64 0] 8 rfl (by kernel_rfl) (by kernel_rfl) (by kernel_rfl) (by kernel_rfl) (by kernel_rfl) (amN os _)) ?_
 ·intro ds v hds
  match ds,hds with
  |[d0,d1,d2],_=>rfl
 ·intro t ht;rw[Tryz.params3]at ht;simp only[k_List_mem_cons,List.not_mem_nil,or_false]at ht;rcases ht with rfl|rfl|rfl
  ·exact BO aAC
  ·exact BO ajY
  ·exact BO ajY
 ·intro W base args ds p hS hval hA hL;rw[Tryz.params3]at hA hval;obtain⟨v0,vs0,d0,ds0,p0,q0,hargs,rfl,rfl,h0,r0⟩:=trodAll_cons hA;obtain⟨v1,vs1,d1,ds1,p1,q1,rfl,rfl,rfl,h1,r1⟩:=trodAll_cons r0;obtain⟨v2,vs2,d2,ds2,p2,q2,rfl,rfl,rfl,h2,r2⟩:=trodAll_cons r1;obtain⟨rfl,rfl,rfl⟩:=trodAll_nil r2;obtain rfl:args= #[v0,v1,v2]:=by cases args;simp_all
  obtain⟨cs0,rfl,_⟩:=okWide_struct Tryz.underlying36 (hval 0 36 v0 rfl rfl);obtain⟨n1,rfl⟩:=okWide_int Tryz.underlying3 (hval 1 3 v1 rfl rfl);obtain⟨n2,rfl⟩:=okWide_int Tryz.underlying3 (hval 2 3 v2 rfl rfl);obtain⟨nf0,h0⟩:=h0;obtain⟨nf1,h1⟩:=h1;obtain⟨nf2,h2⟩:=h2;obtain⟨x0,q0',hr0⟩:=aA3 (cs:=cs0.toList) ⟨nf0,_,h0⟩;obtain⟨x1,hr1⟩:=open_int Tryz.underlying3 (cs:=[.int .i64 n1]) ⟨nf1,_,h1⟩;obtain⟨x2,hr2⟩:=open_int Tryz.underlying3 (cs:=[.int .i64 n2]) ⟨nf2,_,h2⟩;have hsz:=aEV hS;refine ahJ (FN x0 x1 x2 q0') (ar6 hS hL hsz) rfl fun i d hd=> ?_
  match i,hd with
  |0,hd=>
   obtain rfl:=k_Option_some_inj hd;rw[nSys_fz];exact aEZ hr0
  |1,hd=>
   obtain rfl:=k_Option_some_inj hd;exact as0 hr1
  |2,hd=>
   obtain rfl:=k_Option_some_inj hd;exact as0 hr2
  |i+3,hd=>simp at hd
abbrev c0:OpenClaim:=Rows.fnExactDirectReasonRow
abbrev s0:ChangeSpec:=Rows.fnExactDirectReasonSpec
def y1:c0.wf (OpenSpec.ofChange s0)=true:=by kernel_rfl
def y4:Tryz.f3.params.all (Tryz.prog.readableRec ·)=true:=by kernel_rfl
def y5:namedTie Tryz.prog c0.named s0.vars=true:=by kernel_rfl
def y6:(c0.stops==[])=true:=by kernel_rfl
def y8:(c0.knobs==[])=true:=by kernel_rfl
def y10:(c0.inPlace==Tryz.prog.inPlace 3)=true:=by kernel_rfl
def y11:(c0.unfollowed==Tryz.prog.unfollowed 3)=true:=by kernel_rfl
def y12:(c0.recurses==Tryz.prog.recurses 3)=true:=by kernel_rfl
def y13:(c0.named==Tryz.prog.varsNamed 3)=true:=by kernel_rfl
def facts:joinedFacts Tryz.prog 3 Tryz.f3 s0 c0=true:=(an (an (an (an (an (an (an (an (an (an (an (an (an (an (an (an (an (an (an (an (an (an (an (an (an (an (an (an (an (an (an y1 pf2) pf3) y4) y5) y6) pf7) y8) pf9) y10) y11) y12) y13) (by kernel_rfl)) (by kernel_rfl)) (by kernel_rfl)) (by kernel_rfl)) (by kernel_rfl)) (by kernel_rfl)) (by kernel_rfl)) (by kernel_rfl)) (by kernel_rfl)) (by kernel_rfl)) (by kernel_rfl)) (by kernel_rfl)) (by kernel_rfl)) (by kernel_rfl)) (by kernel_rfl)) (by kernel_rfl)) (by kernel_rfl)) (by kernel_rfl)) (by kernel_rfl))
def aq6:Rows.FnExactDirectReasonSaid:=
 OpenClaim.holds_of_wide 3 Tryz.f3 rfl rfl rfl rfl rfl rfl rfl ⟨rfl,rfl,rfl,rfl,rfl⟩ rfl rfl rfl rfl rfl (by kernel_rfl) Tryz.func3 facts
  (of_decide_eq_true (by kernel_rfl)) (by unfold Func.isWrapper;first|(rw[if_pos (by decide+kernel)];kernel_rfl)|(rw[if_neg (by decide+kernel)];exact⟨rfl,rfl⟩))
  (fun os started H enc _=>ajM os started H enc)
theorem fnExactDirectReason.proved:Rows.FnExactDirectReasonCardSaid:=
 Claim7.holds_tied_plain_at .later [] [.data,.data,.data,.data,.sentinel,.sentinel,.data,.pinned] true (true,"e7b8413365a9de7ad3bdf9332ce082c8e18796d0d3b25a6471c5896eec1e5d12") true
  aq6 (fun _ h=>by cases h) (by kernel_rfl) (fun _ h=>by cases h) fnExactDirectReason_row_tie rfl ⟨rfl,rfl⟩ (by kernel_rfl)
  rfl
  (fun f fn hf hfn=>by
   obtain rfl:f=3:=k_Option_some_inj ((show Tryz.prog.funcNamed "loop.example/g01923/laws.FnExactDirectReason" =some 3 by kernel_rfl).symm.trans hf)|>.symm;obtain rfl:fn=Tryz.f3:=(k_Option_some_inj (Tryz.func3.symm.trans hfn)).symm
   exact⟨by kernel_rfl,fun j t ht=>by
    rw[Tryz.params3]at ht;rcases j with _|_|_|j
    ·obtain rfl:t=36:=by simpa using ht.symm
     exact(show Tryz.prog.wantsStandIn 36=false by kernel_rfl)
    ·obtain rfl:t=3:=by simpa using ht.symm
     exact(show Tryz.prog.wantsStandIn 3=false by kernel_rfl)
    ·obtain rfl:t=3:=by simpa using ht.symm
     exact(show Tryz.prog.wantsStandIn 3=false by kernel_rfl)
    ·simp at ht⟩)
  (ar3 ahF rfl)
end Go.Proofs.YtafdbpehjfmnpaaGreatDoor
end
