/- Lemmas and walks that the law leans on, part d1. No condition. -/
import Derived.Test.YtebopbncplpdgaaGreatDoorVbcd1
import Derived.Test.YtebopbncplpdgaaGreatDoorVcd1
set_option linter.unusedVariables false
set_option linter.defProp false
set_option linter.unusedSimpArgs false
set_option linter.unusedSectionVars false
set_option maxRecDepth 10000
set_option maxHeartbeats 1000000
section
namespace Go.Proofs.YtebopbncplpdgaaGreatDoor
open Go.Dv Go.Pl
open Go.ChangeShapes Go.WideShapes Go.ChangeAt Go.RowKit Go.Er
def amY:(Tryz.prog.readableRec 9&&decide (9<Tryz.prog.types.size))=true:=by kernel_rfl
set_option maxRecDepth 100000 in
def H8 (os:Os)(started:os.Started)(H:Type)(enc:TypeId×Value->H):
  ReturnsInHanded {} Tryz.checked os 6 .any (fun w args=>(Rows.fnExactSearchNameSpec.pre enc Tryz.prog Tryz.f6 Rows.fnExactSearchNameRow.domain false w args/\laidMet Tryz.prog tables w)/\sizedMet enc Tryz.prog Tryz.f6 (OpenSpec.ofChange Rows.fnExactSearchNameSpec) false w args) (Rows.fnExactSearchNameSpec.post enc Tryz.prog Tryz.f6 false true false false):=by
 refine wH (C:=Tryz.checked) (s:=Rows.fnExactSearchNameSpec) (n:= "loop.example/g01923/impl.soundCodes") (g:=0) (t:=344) started own laidOut (by kernel_rfl) Tryz.func6 rfl ?_ (by kernel_rfl) (by kernel_rfl) (pI ahY) rfl Tryz.underlying4 ?_
  (ChangeSpec.witness_at (enc:=enc) (C:=Tryz.checked) (os:=os) (X:=fun w _=>laidMet Tryz.prog tables w) false (IP os) #[.agg #[.slice none 0 0,.slice none 0 0,.int .i64 0,.slice none 0 0,.int .i64 0,.slice none 0 0,.slice none 0 0,.slice none 0 0,.int .i64 0,.slice none 0 0],.string ⟨#[]⟩,.int .i64 0] 8 rfl (by kernel_rfl) (by kernel_rfl) (by kernel_rfl) (by kernel_rfl) (by kernel_rfl) (SE os _)) ?_
 ·intro ds v hds
  match ds,hds with
  |[d0,d1,d2],_=>rfl
 ·intro t ht;rw[Tryz.params6]at ht;simp only[aK,List.not_mem_nil,or_false]at ht;rcases ht with rfl|rfl|rfl
  ·exact pI ahZ
  ·exact pI amY
  ·exact pI auH
 ·intro W base args ds p hS hval hA hL;rw[Tryz.params6]at hA hval;obtain⟨v0,vs0,d0,ds0,p0,q0,hargs,rfl,rfl,h0,r0⟩:=trodAll_cons hA;obtain⟨v1,vs1,d1,ds1,p1,q1,rfl,rfl,rfl,h1,r1⟩:=trodAll_cons r0;obtain⟨v2,vs2,d2,ds2,p2,q2,rfl,rfl,rfl,h2,r2⟩:=trodAll_cons r1;obtain⟨rfl,rfl,rfl⟩:=trodAll_nil r2;obtain rfl:args= #[v0,v1,v2]:=by cases args;simp_all
  obtain⟨cs0,rfl,_⟩:=okWide_struct Tryz.underlying36 (hval 0 36 v0 rfl rfl);obtain⟨s1,rfl⟩:=aEX (hval 1 9 v1 rfl rfl);obtain⟨n2,rfl⟩:=okWide_int Tryz.underlying3 (hval 2 3 v2 rfl rfl);obtain⟨nf0,h0⟩:=h0;obtain⟨nf1,h1⟩:=h1;obtain⟨nf2,h2⟩:=h2;obtain⟨x0,q0',hr0⟩:=aiK (cs:=cs0.toList) ⟨nf0,_,h0⟩;obtain⟨b1,hb1,_,hbs1⟩:=DataW.trod_string Tryz.underlying9 h1;obtain rfl:⟨s1.toArray⟩=b1:=by simpa[Value.cells]using hb1
  obtain⟨x2,hr2⟩:=open_int Tryz.underlying3 (cs:=[.int .i64 n2]) ⟨nf2,_,h2⟩;have hsz:=arK hS;refine NG (KG x0 s1 x2 q0' (by rw[ba_size]at hbs1;have:maxLen=9223372036854775807:=rfl;omega)) (Z7 hS hL hsz) rfl fun i d hd=> ?_
  match i,hd with
  |0,hd=>
   obtain rfl:=k_Option_some_inj hd;rw[nSys_fz];exact alB hr0
  |1,hd=>
   obtain rfl:=k_Option_some_inj hd;exact⟨rfl,rfl⟩
  |2,hd=>
   obtain rfl:=k_Option_some_inj hd;exact aFI hr2
  |i+3,hd=>simp at hd
abbrev c0:OpenClaim:=Rows.fnExactSearchNameRow
abbrev s0:ChangeSpec:=Rows.fnExactSearchNameSpec
def y1:c0.wf (OpenSpec.ofChange s0)=true:=by kernel_rfl
def y4:Tryz.f6.params.all (Tryz.prog.readableRec ·)=true:=by kernel_rfl
def y5:namedTie Tryz.prog c0.named s0.vars=true:=by kernel_rfl
def y6:(c0.stops==[])=true:=by kernel_rfl
def y8:(c0.knobs==[])=true:=by kernel_rfl
def y10:(c0.inPlace==Tryz.prog.inPlace 6)=true:=by kernel_rfl
def y11:(c0.unfollowed==Tryz.prog.unfollowed 6)=true:=by kernel_rfl
def y12:(c0.recurses==Tryz.prog.recurses 6)=true:=by kernel_rfl
def y13:(c0.named==Tryz.prog.varsNamed 6)=true:=by kernel_rfl
def facts:joinedFacts Tryz.prog 6 Tryz.f6 s0 c0=true:=(an (an (an (an (an (an (an (an (an (an (an (an (an (an (an (an (an (an (an (an (an (an (an (an (an (an (an (an (an (an (an y1 pf2) pf3) y4) y5) y6) pf7) y8) pf9) y10) y11) y12) y13) (by kernel_rfl)) (by kernel_rfl)) (by kernel_rfl)) (by kernel_rfl)) (by kernel_rfl)) (by kernel_rfl)) (by kernel_rfl)) (by kernel_rfl)) (by kernel_rfl)) (by kernel_rfl)) (by kernel_rfl)) (by kernel_rfl)) (by kernel_rfl)) (by kernel_rfl)) (by kernel_rfl)) (by kernel_rfl)) (by kernel_rfl)) (by kernel_rfl)) (by kernel_rfl))
def O8:Rows.FnExactSearchNameSaid:=
 OpenClaim.holds_of_wide 6 Tryz.f6 rfl rfl rfl rfl rfl rfl rfl ⟨rfl,rfl,rfl,rfl,rfl⟩ rfl rfl rfl rfl rfl (by kernel_rfl) Tryz.func6 facts
  (of_decide_eq_true (by kernel_rfl)) (by unfold Func.isWrapper;first|(rw[if_pos (by decide+kernel)];kernel_rfl)|(rw[if_neg (by decide+kernel)];exact⟨rfl,rfl⟩))
  (fun os started H enc _=>H8 os started H enc)
end Go.Proofs.YtebopbncplpdgaaGreatDoor
end
