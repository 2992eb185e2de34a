/- The law FnExactGoldenOf holds: the program's GoldenOf answers as the reference's for all arguments. No condition beyond the given statement's own. -/
import Derived.Test.YtebopbncplpdgaaGreatDoorVe1
set_option linter.unusedVariables false
set_option linter.defProp false
set_option linter.unusedSimpArgs false
set_option linter.unusedSectionVars false
set_option maxRecDepth 10000
set_option maxHeartbeats 1000000
section
namespace Go.Proofs.YtebopbncplpdgaaGreatDoor
open Go.Dv Go.Pl
open Go.ChangeShapes Go.WideShapes Go.ChangeAt Go.RowKit Go.Er
set_option maxRecDepth 100000 in
def H8 (os:Os)(started:os.Started)(H:Type)(enc:TypeId×Value->H):
  ReturnsInHanded {} Tryz.checked os 7 .any (fun w args=>(Rows.fnExactGoldenOfSpec.pre enc Tryz.prog Tryz.f7 Rows.fnExactGoldenOfRow.domain false w args/\laidMet Tryz.prog tables w)/\sizedMet enc Tryz.prog Tryz.f7 (OpenSpec.ofChange Rows.fnExactGoldenOfSpec) false w args) (Rows.fnExactGoldenOfSpec.post enc Tryz.prog Tryz.f7 false true false false):=by
 refine wH (C:=Tryz.checked) (s:=Rows.fnExactGoldenOfSpec) (n:= "loop.example/g01923/impl.soundCodes") (g:=0) (t:=344) started own laidOut (by kernel_rfl) Tryz.func7 rfl ?_ (by kernel_rfl) (by kernel_rfl) (pI ahY) rfl Tryz.underlying4 ?_
  (ChangeSpec.witness_at (enc:=enc) (C:=Tryz.checked) (os:=os) (X:=fun w _=>laidMet Tryz.prog tables w) false (IP os) #[.agg #[.slice none 0 0,.slice none 0 0,.int .i64 0,.slice none 0 0,.int .i64 0,.slice none 0 0,.slice none 0 0,.slice none 0 0,.int .i64 0,.slice none 0 0],.int .i64 0] 8 rfl (by kernel_rfl) (by kernel_rfl) (by kernel_rfl) (by kernel_rfl) (by kernel_rfl) (SE os _)) ?_
 ·intro ds v hds
  match ds,hds with
  |[d0,d1],_=>rfl
 ·intro t ht;rw[Tryz.params7]at ht;simp only[aK,List.not_mem_nil,or_false]at ht;rcases ht with rfl|rfl
  ·exact pI ahZ
  ·exact pI auH
 ·intro W base args ds p hS hval hA hL;rw[Tryz.params7]at hA hval;obtain⟨v0,vs0,d0,ds0,p0,q0,hargs,rfl,rfl,h0,r0⟩:=trodAll_cons hA;obtain⟨v1,vs1,d1,ds1,p1,q1,rfl,rfl,rfl,h1,r1⟩:=trodAll_cons r0;obtain⟨rfl,rfl,rfl⟩:=trodAll_nil r1;obtain rfl:args= #[v0,v1]:=by cases args;simp_all
  obtain⟨cs0,rfl,_⟩:=okWide_struct Tryz.underlying36 (hval 0 36 v0 rfl rfl);obtain⟨n1,rfl⟩:=okWide_int Tryz.underlying3 (hval 1 3 v1 rfl rfl);obtain⟨nf0,h0⟩:=h0;obtain⟨nf1,h1⟩:=h1;obtain⟨x0,q0',hr0⟩:=aiK (cs:=cs0.toList) ⟨nf0,_,h0⟩;obtain⟨x1,hr1⟩:=open_int Tryz.underlying3 (cs:=[.int .i64 n1]) ⟨nf1,_,h1⟩;have hsz:=arK hS;refine NG (M3 x0 x1 q0') (Z7 hS hL hsz) rfl fun i d hd=> ?_
  match i,hd with
  |0,hd=>
   obtain rfl:=k_Option_some_inj hd;rw[nSys_fz];exact alB hr0
  |1,hd=>
   obtain rfl:=k_Option_some_inj hd;exact aFI hr1
  |i+2,hd=>simp at hd
abbrev c0:OpenClaim:=Rows.fnExactGoldenOfRow
abbrev s0:ChangeSpec:=Rows.fnExactGoldenOfSpec
def y1:c0.wf (OpenSpec.ofChange s0)=true:=by kernel_rfl
def y4:Tryz.f7.params.all (Tryz.prog.readableRec ·)=true:=by kernel_rfl
def y5:namedTie Tryz.prog c0.named s0.vars=true:=by kernel_rfl
def y6:(c0.stops==[])=true:=by kernel_rfl
def y8:(c0.knobs==[])=true:=by kernel_rfl
def y10:(c0.inPlace==Tryz.prog.inPlace 7)=true:=by kernel_rfl
def y11:(c0.unfollowed==Tryz.prog.unfollowed 7)=true:=by kernel_rfl
def y12:(c0.recurses==Tryz.prog.recurses 7)=true:=by kernel_rfl
def y13:(c0.named==Tryz.prog.varsNamed 7)=true:=by kernel_rfl
def facts:joinedFacts Tryz.prog 7 Tryz.f7 s0 c0=true:=(an (an (an (an (an (an (an (an (an (an (an (an (an (an (an (an (an (an (an (an (an (an (an (an (an (an (an (an (an (an (an y1 pf2) pf3) y4) y5) y6) pf7) y8) pf9) y10) y11) y12) y13) (by kernel_rfl)) (by kernel_rfl)) (by kernel_rfl)) (by kernel_rfl)) (by kernel_rfl)) (by kernel_rfl)) (by kernel_rfl)) (by kernel_rfl)) (by kernel_rfl)) (by kernel_rfl)) (by kernel_rfl)) (by kernel_rfl)) (by kernel_rfl)) (by kernel_rfl)) (by kernel_rfl)) (by kernel_rfl)) (by kernel_rfl)) (by kernel_rfl)) (by kernel_rfl))
def O8:Rows.FnExactGoldenOfSaid:=
 OpenClaim.holds_of_wide 7 Tryz.f7 rfl rfl rfl rfl rfl rfl rfl ⟨rfl,rfl,rfl,rfl,rfl⟩ rfl rfl rfl rfl rfl (by kernel_rfl) Tryz.func7 facts
  (of_decide_eq_true (by kernel_rfl)) (by unfold Func.isWrapper;first|(rw[if_pos (by decide+kernel)];kernel_rfl)|(rw[if_neg (by decide+kernel)];exact⟨rfl,rfl⟩))
  (fun os started H enc _=>H8 os started H enc)
def fnExactGoldenOf_row_tie:Rows.fnExactGoldenOfRow.laidByTextAt .later Tryz.pinned [.pinned,.data,.data,.sentinel,.sentinel,.data,.data,.data] true:=
 OpenClaim.laidByTextAt_pinned rfl rfl tieO rfl rfl rfl rfl (fun y hy _e=>by
  simp only[Rows.fnExactGoldenOfRow,List.zip_cons_cons,List.zip_nil_right,aK,List.mem_nil_iff,or_false]at hy;rcases hy with rfl|rfl|rfl|rfl|rfl|rfl|rfl|rfl
  ·exact⟨pin_unicode_utf8_first,by kernel_rfl⟩
  ·cases _e
  ·cases _e
  ·cases _e
  ·cases _e
  ·cases _e
  ·cases _e
  ·cases _e) fitsO
theorem fnExactGoldenOf.proved:Rows.FnExactGoldenOfCardSaid:=
 Claim7.holds_tied_plain_at .later [] [.pinned,.data,.data,.sentinel,.sentinel,.data,.data,.data] true (true,"e039863b44890f8c09478317e7ae31adbaeb78a91ac3e1e26dae1eff069ad342") true
  O8 (fun _ h=>by cases h) (by kernel_rfl) (fun _ h=>by cases h) fnExactGoldenOf_row_tie rfl ⟨rfl,rfl⟩ (by kernel_rfl)
  rfl
  (fun f fn hf hfn=>by
   obtain rfl:f=7:=k_Option_some_inj ((show Tryz.prog.funcNamed "loop.example/g01923/laws.FnExactGoldenOf" =some 7 by kernel_rfl).symm.trans hf)|>.symm;obtain rfl:fn=Tryz.f7:=(k_Option_some_inj (Tryz.func7.symm.trans hfn)).symm
   exact⟨by kernel_rfl,fun j t ht=>by
    rw[Tryz.params7]at ht;rcases j with _|_|j
    ·obtain rfl:t=36:=by simpa using ht.symm
     exact(show Tryz.prog.wantsStandIn 36=false by kernel_rfl)
    ·obtain rfl:t=3:=by simpa using ht.symm
     exact(show Tryz.prog.wantsStandIn 3=false by kernel_rfl)
    ·simp at ht⟩)
  (ZU NC rfl)
end Go.Proofs.YtebopbncplpdgaaGreatDoor
end
