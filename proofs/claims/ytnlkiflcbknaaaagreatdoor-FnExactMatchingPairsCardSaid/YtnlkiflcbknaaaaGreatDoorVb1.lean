/- The law FnExactMatchingPairs holds: the program's MatchingPairs answers as the reference's for all arguments. No condition beyond the given statement's own. -/
import Derived.Test.YtnlkiflcbknaaaaGreatDoorV6
set_option linter.unusedVariables false
set_option linter.defProp false
set_option linter.unusedSimpArgs false
set_option linter.unusedSectionVars false
set_option maxRecDepth 10000
set_option maxHeartbeats 1000000
section
namespace Go.Proofs.YtnlkiflcbknaaaaGreatDoor
open Go.Dv Go.Pl Go.Proofs.Tryz
def aG7 (x:wP)(p:Rec->Rec->Bool)(g:FuncId)(bo:Nat)(D0:D)(F:D0.fz=D0)(E:Dv.Enters prog g)(U:T (1000000+g)=⟨.no,0,.any 0⟩)(G:∀a b,bG a=true->bG b=true->fK prog g [nP a,nP b,.bx false D0] (fun r=>r=vB (p a b)))(hx:vY x):yY prog 26 [nSys x,.one (.func (.func g) #[] #[.pointer (some ⟨bo,0,none⟩)])] [(bo,D0)] (fun res'=>res'=wC (vO x p)):=by
 refine fB [5] ntmps26 fun _ _=> ?_;simp;first|refine ck (qN x hx) ?_|refine ckz (qN x hx) ?_
 simp;apply gw<;>intro e
 ·simp at e;have hd:vO x p=[]:=if_neg (by simp[e]);try simp
  refine jX [] (GA (L:=[(4,.own (BN []))]) (by simp)) ?_;simp[hd]
 ·simp at e;have ho:zF x:=by simpa using e
  have hd:vO x p=GG p x.sto.recs:=if_pos ho;have hsv:=IR (okSys_of ho).2.1;have hv:=hsv.1;have hl8:=hsv.2.1;obtain⟨L,hL⟩:∃L,x.sto.recs=L:=⟨_,rfl⟩;rw[hL]at hd hv hl8;simp[hL];refine wlt (Nat×List Idp) (fun(i,o)=>([(1,.val (.one (.func (.func g) #[] #[.pointer (some ⟨bo,0,none⟩)]))),(2,.own (.bx true (nSys x))),(5,wC o),(15,vT L),(16,vI L.length),(17,vI i),(1000000+2*bo,.rp (D0))],L.length-i,(i<=L.length)/\(GG p L=o++GG p (L.drop i))/\(o.length<=8*i))) ((0,[])) ⟨by omega,rfl,by simp⟩ ?_ (h0:=by simp[hL,E,U,F]);rintro⟨i,o⟩ ⟨h1,h2,h3⟩;simp;apply gw<;>intro a
  ·obtain⟨c,hc⟩:=aR (l:=L) (i:=i);have hdr:=drop_at hc;rw[hdr,GG]at h2;have hcv:=hv c (aA hc);obtain⟨T,hT⟩:∃T,L.drop (i+1)=T:=⟨_,rfl⟩;have hTl:L.length-(i+1)=T.length:=by rw[←hT,kR]
   have hTm:(L.map nP).drop (i+1)=T.map nP:=by rw[←hT,List.map_drop]
   have hTt:List.take T.length (T.map nP)=T.map nP:=k_List_take_of_length_le (by rw[aK];exact k_Nat_le_refl _);have hTv:∀r∈T,bG r:=fun r hr=>hv r (by rw[←hT]at hr;exact gJ hr);have hT8:T.length<=8:=by omega
   rw[hT]at h2;simp[hL,hc,hTl,hTm,hTt];iterate 3 refine ai ?_
   refine wlt (Nat×List Idp) (fun(j,q)=>([(1,.val (.one (.func (.func g) #[] #[.pointer (some ⟨bo,0,none⟩)]))),(2,.own (.bx true (nSys x))),(5,wC q),(7,.own (.bx true (nP c))),(15,vT L),(16,vI L.length),(17,vI i),(27,vT T),(28,vI T.length),(29,vI j),(1000000+2*bo,.rp (D0))],T.length-j,(j<=T.length)/\(q=o++rowP p c (T.take j))/\(q.length<=8*i+j))) ((0,o)) ⟨by omega,by simp[rowP],by omega⟩ ?_;rintro⟨j,q⟩ ⟨h4,h5,h6⟩;simp;apply gw<;>intro b
   ·obtain⟨d,hdd⟩:=aR (l:=T) (i:=j) b;have hdv:=hTv d (aA hdd);have hrs:=aiU (p:=p) (a:=c) hdd;simp[E,U,F,hdd];first|refine ck ((G c d hcv hdv)) ?_|refine ckz ((G c d hcv hdv)) ?_
    simp;apply gw<;>intro f
    ·have k1:=DV hcv;have k2:=DV hdv;have i1:inI .i64 (eG c):=by unfold eG;simp only[inI];omega
     have i2:inI .i64 (eG d):=by unfold eG;simp only[inI];omega
     simp;refine wdf [(5,[39,41,42]),(6,[42,43]),(7,[37,43,44,5]),(8,[44,5])] [(1,.val (.one (.func (.func g) #[] #[.pointer (some ⟨bo,0,none⟩)]))),(2,.own (.bx true (nSys x))),(5,wC q),(7,.own (.bx true (nP c))),(9,.own (.bx true (nP d))),(15,vT L),(16,vI L.length),(17,vI i),(27,vT T),(28,vI T.length),(29,vI j),(1000000+2*bo,.rp (D0))] [] (by simp) ?_;simp;first|refine cd (iO c i1 (by simp only[inI];omega)) ?_|refine cdz (iO c i1 (by simp only[inI];omega)) ?_
     simp;first|refine cd (iO d i2 (by simp only[inI];omega)) ?_|refine cdz (iO d i2 (by simp only[inI];omega)) ?_
     simp;refine nxb (j+1,q++[⟨eG c,eG d⟩]) ⟨by omega,by rw[hrs,h5,f];simp,by simp;omega⟩ (h3:=by simp[hL,E,U,F,hdd])
    ·simp;refine nxa (j+1,q) ⟨by omega,by rw[hrs,h5,f];simp,by omega⟩ (h3:=by simp[hL,E,U,F,hdd])
   ·simp at b;have hqe:T.take j=T:=k_List_take_of_length_le (by omega);rw[hqe]at h5;simp;refine nxa (i+1,q) ⟨by omega,by rw[h2,h5,←hT,bH],by omega⟩ (h3:=by simp[hL,E,U,F])
  ·simp at a;rw[bO a,GG,bZ]at h2;simp[hd,h2]
def IM (x:wP)(a b:Rec):Bool:=decide (0<=tF x.cfg.rules (sN a b))
def KV (x:wP)(a b:Rec)(ha:bG a)(hb:bG b)(hx:vY x):Fk 40 [nP a,nP b,.bx false (nSys x)] (vB (IM x a b)):=by
 refine fE [] ntmps40 fun _ _=> ?_;simp;refine wdt 7 ?_;simp;first|refine cd (aaR a b ha hb) ?_|refine cdz (aaR a b ha hb) ?_
 simp;first|refine cd (BA x.cfg.rules (sN a b) hx.cfg.rules hx.cfg.rule (by simp[sN])) ?_|refine cdz (BA x.cfg.rules (sN a b) hx.cfg.rules hx.cfg.rule (by simp[sN])) ?_
 simp;grind[IM]
def qO (x:wP)(hx:vY x):Fk 15 [nSys x] (wC (vO x (IM x))):=by
 refine fE [] ntmps15 fun _ _=> ?_;simp;intro bo;refine ckB (aG7 x (IM x) 40 bo (nSys x) (nSys_fz x) aJY aJ0 (fun a b ha hb=>KV x a b ha hb hx) hx) ?_;simp
def V7 {s:Sto}(hs:gN s){r:Rec}(hr:r∈s.recs):0<=FI s (eG r)/\aiQ s (FI s (eG r))=r:=by
 have h0:0<=FI s (eG r):=jB.2 (dH.2 ⟨r,hr,decide_eq_true rfl⟩);refine⟨h0,?_⟩;obtain⟨h1,h2⟩:=aeH h0;obtain⟨j,hj⟩:=dD hr;have hn:=(am6 hs).2;have e1:=OG (l:=s.recs.map eG) (i:=(FI s (eG r)).toNat) (c:=eG r) (by rw[aQ,h1,cB,h2]);have e2:=OG (l:=s.recs.map eG) (i:=j) (c:=eG r) (by rw[aQ,hj];rfl);have hij:=acM hn (i:=(FI s (eG r)).toNat) (k:=j) (by rw[aK];exact dF h1) (by rw[aK];exact dF hj) (by rw[e1,e2]);rw[hij,hj]at h1;exact(k_Option_some_inj h1).symm
def mB (x:wP)(c:Idp):Bool:=IM x (aiQ x.sto (FI x.sto c.a)) (aiQ x.sto (FI x.sto c.b))
variable {x:wP}
def allP_filter (hs:gN x.sto):∀L:List Rec,(∀r∈L,r∈x.sto.recs)->(GG prT L).filter (mB x)=GG (IM x) L
 |[],_=>rfl
 |a::l,h=>by
  have ha:=(V7 hs (h a iW)).2;have hp:l.filter (prT a)=l:=jG.2 fun _ _=>rfl;rw[GG,GG,fA,allP_filter hs l (fun r hr=>h r (aV _ hr)),rowP,rowP,hp,List.filter_map];congr 2;refine sP fun b hb=> ?_;simp only[Function.comp,mB,ha,(V7 hs (h b (aV _ hb))).2]
def arY (x:wP):(vO x prT).filter (mB x)=vO x (IM x):=by
 unfold vO;split
 ·rename_i h;exact allP_filter (okSys_of h).2.1 _ fun _ hr=>hr
 ·rfl
variable {p:Rec->Rec->Bool}{c:Idp}
def allP_mem :∀{L:List Rec},c∈GG p L->∃a∈L,∃b∈L,c=⟨eG a,eG b⟩
 |[],h=>by cases h
 |a::l,h=>by
  rw[GG]at h;rcases k_List_mem_append.1 h with h|h
  ·obtain⟨b,hb,rfl⟩:=dG.1 h;exact⟨a,iW,b,aV _ (dW.1 hb).1,rfl⟩
  ·obtain⟨u,hu,v,hv,e⟩:=allP_mem h;exact⟨u,aV _ hu,v,aV _ hv,e⟩
def aFJ (h:c∈vO x p):zF x=true/\∃a∈x.sto.recs,∃b∈x.sto.recs,c=⟨eG a,eG b⟩:=by
 unfold vO at h;split at h
 ·rename_i ho;exact⟨ho,allP_mem h⟩
 ·cases h
def CG (x:wP)(hx:vY x):Fk 14 [nSys x] (wC (vO x (IM x))):=by
 refine fE [6] ntmps14 fun _ _=> ?_;have hlen:=Z6 x prT;have hpf:=arY x;have hpm:=fun c hc=>aFJ (x:=x) (p:=prT) (c:=c) hc;simp;first|refine ck (qP x hx) ?_|refine ckz (qP x hx) ?_
 generalize vO x prT=R at*
 simp;refine jX [] (dK 4) ?_;simp;refine wlt (Nat×List Idp) (fun(i,o)=>([(1,.own (.bx true (nSys x))),(3,wC o),(4,.val (X9 R)),(5,vI i)],R.length-i,(i<=R.length)/\(o=(R.take i).filter (mB x))/\(o.length<=i))) ((0,[])) ⟨by omega,rfl,by simp⟩ ?_;rintro⟨i,o⟩ ⟨h1,h2,h3⟩;simp;apply gw<;>intro a
 ·obtain⟨c,hc⟩:=aR (l:=R) (i:=i);obtain⟨ho,ra,hra,rb,hrb,hce⟩:=hpm c (aA hc);have hvs:=(okSys_of ho).2.1;have hsv:=IR hvs;have hca:c.a=eG ra:=by rw[hce]
  have hcb:c.b=eG rb:=by rw[hce]
  have fa:=V7 hvs hra;have fb:=V7 hvs hrb;have ga:=(aeH fa.1).1;have gb:=(aeH fb.1).1;rw[fa.2]at ga;rw[fb.2]at gb;have fa0:=fa.1;have fb0:=fb.1;have hsn:(R.take (i+1)).filter (mB x)=(R.take i).filter (mB x)++if IM x ra rb then[c]else[]:=by rw[dM hc,fA];congr 1;rw[List.filter_cons,show mB x c=IM x ra rb by rw[mB,hca,hcb,fa.2,fb.2]];rfl
  simp;refine wdf [(13,[6]),(14,[6,29])] [(1,.own (.bx true (nSys x))),(3,wC o),(4,.val (X9 R)),(5,vI i)] [] (by simp) ?_;simp[hc,hca,hcb];first|refine cd (uQ x.sto (eG ra) hx.sto.recs hsv.1) ?_|refine cdz (uQ x.sto (eG ra) hx.sto.recs hsv.1) ?_
  simp[ga,fa0];refine wdf [(13,[7]),(14,[7,42])] [(1,.own (.bx true (nSys x))),(3,wC o),(4,.val (X9 R)),(5,vI i),(6,.own (.bx true (nP ra)))] [] (by simp) ?_;simp[hc,hca,hcb];first|refine cd (uQ x.sto (eG rb) hx.sto.recs hsv.1) ?_|refine cdz (uQ x.sto (eG rb) hx.sto.recs hsv.1) ?_
  simp[gb,fb0];refine wdr ?_;simp;first|refine cd (aoR ra rb (hsv.1 ra hra) (hsv.1 rb hrb)) ?_|refine cdz (aoR ra rb (hsv.1 ra hra) (hsv.1 rb hrb)) ?_
  simp;first|refine cd (BD x.cfg.rules (sN ra rb) hx.cfg.rules hx.cfg.rule (by simp[sN])) ?_|refine cdz (BD x.cfg.rules (sN ra rb) hx.cfg.rules hx.cfg.rule (by simp[sN])) ?_
  simp;apply gw<;>intro f
  ·have hf:IM x ra rb:=decide_eq_true f;simp[hc,hca,hcb];refine nxb (i+1,o++[c]) ⟨by omega,by rw[hsn,h2,if_pos hf],by simp;omega⟩ (h3:=by simp[hc,hca,hcb,ga,gb,fa0,fb0])
  ·simp at f;have hf:¬IM x ra rb:=by rw[IM,decide_eq_true_eq];omega
   simp;refine nxa (i+1,o) ⟨by omega,by rw[hsn,h2,if_neg hf,bZ],by omega⟩ (h3:=by simp[hc,hca,hcb,ga,gb,fa0,fb0])
 ·simp at a;rw[bS a,hpf]at h2;simp[h2]
def E9 (x:wP)(hb:aDA x):Fk 4 [nSys x] (vB true):=by
 refine fE [] ntmps4 fun _ _=> ?_;simp;refine fG (K4 x 1048576 hb (by omega)) (by simp) ?_;rintro r ⟨v,rfl,hv,hf⟩;refine⟨by simp,?_⟩;simp;apply gw<;>intro e
 ·simp
 ·simp at e;have hx:=hf (by omega);have hlen:=Z6 x (IM x);obtain⟨R,hR⟩:∃R,vO x (IM x)=R:=⟨_,rfl⟩;rw[hR]at hlen;have hsy:=agE hx;have hs3:¬abG x 1<0:=by omega
  simp;first|refine ck (gP x hx) ?_|refine ckz (gP x hx) ?_
  simp;first|refine ck (CG x hx) ?_|refine ckz (CG x hx) ?_
  simp[hR];first|refine ck (gP x hx) ?_|refine ckz (gP x hx) ?_
  simp;first|refine ck (qO x hx) ?_|refine ckz (qO x hx) ?_
  simp[hR];first|refine ck (gW R) ?_|refine ckz (gW R) ?_
  simp;refine wdr ?_;simp;first|refine cd (JU x hx) ?_|refine cdz (JU x hx) ?_
  simp;first|refine cd (xN x hx) ?_|refine cdz (xN x hx) ?_
  simp;refine zY rfl (GY x hx) ?_;simp[hs3];first|refine ck (gW R) ?_|refine ckz (gW R) ?_
  simp;refine gY rfl (FK R 1) ?_;rintro r d ⟨rfl,rfl⟩;have hm2:¬1+2*(R.length:Int)<0:=by omega
  simp;first|refine ck (jE R.length 1) ?_|refine ckz (jE R.length 1) ?_
  simp[hm2];first|refine ck (gP x hx) ?_|refine ckz (gP x hx) ?_
  simp;first|refine ck (qO x hx) ?_|refine ckz (qO x hx) ?_
  simp[hR];first|refine ck (gW R) ?_|refine ckz (gW R) ?_
  simp;first|refine ck (jE R.length 1) ?_|refine ckz (jE R.length 1) ?_
  simp[hm2]
end Go.Proofs.YtnlkiflcbknaaaaGreatDoor
end
section
namespace Go.Proofs.YtnlkiflcbknaaaaGreatDoor
open Go.Dv Go.Pl
open Go.ChangeShapes Go.WideShapes Go.ChangeAt Go.RowKit Go.Er
set_option maxRecDepth 100000 in
def akA (os:Os)(started:os.Started)(H:Type)(enc:TypeId×Value->H):
  ReturnsInHanded {} Tryz.checked os 4 .any (fun w args=>(Rows.fnExactMatchingPairsSpec.pre enc Tryz.prog Tryz.f4 Rows.fnExactMatchingPairsRow.domain false w args/\laidMet Tryz.prog tables w)/\sizedMet enc Tryz.prog Tryz.f4 (OpenSpec.ofChange Rows.fnExactMatchingPairsSpec) false w args) (Rows.fnExactMatchingPairsSpec.post enc Tryz.prog Tryz.f4 false true false false):=by
 refine NH (C:=Tryz.checked) (s:=Rows.fnExactMatchingPairsSpec) (n:= "loop.example/g01923/impl.soundCodes") (g:=0) (t:=279) started own laidOut (by kernel_rfl) Tryz.func4 rfl ?_ (by kernel_rfl) (by kernel_rfl) (YC aB2) rfl Tryz.underlying4 ?_
  (ChangeSpec.witness_at (enc:=enc) (C:=Tryz.checked) (os:=os) (X:=fun w _=>laidMet Tryz.prog tables w) false (ZW os) #[.agg #[.slice none 0 0,.slice none 0 0,.int .i64 0,.slice none 0 0,.int .i64 0,.slice none 0 0,.slice none 0 0,.slice none 0 0,.int .i64 0,.slice none 0 0]] 8 rfl (by kernel_rfl) (by kernel_rfl) (by kernel_rfl) (by kernel_rfl) (by kernel_rfl) (anF os _)) ?_
 ·intro ds v hds
  match ds,hds with
  |[d0],_=>rfl
 ·intro t ht;rw[Tryz.params4]at ht;simp only[aW,List.not_mem_nil,or_false]at ht;rcases ht with rfl
  ·exact YC aB3
 ·intro W base args ds p hS hval hA hL;rw[Tryz.params4]at hA hval;obtain⟨v0,vs0,d0,ds0,p0,q0,hargs,rfl,rfl,h0,r0⟩:=trodAll_cons hA;obtain⟨rfl,rfl,rfl⟩:=trodAll_nil r0;obtain rfl:args= #[v0]:=by cases args;simp_all
  obtain⟨cs0,rfl,_⟩:=okWide_struct Tryz.underlying36 (hval 0 36 v0 rfl rfl);obtain⟨nf0,h0⟩:=h0;obtain⟨x0,q0',hr0⟩:=aCT (cs:=cs0.toList) ⟨nf0,_,h0⟩;have hsz:=aGH hS;refine ah6 (E9 x0 q0') (atI hS hL hsz) rfl fun i d hd=> ?_
  match i,hd with
  |0,hd=>
   obtain rfl:=k_Option_some_inj hd;rw[nSys_fz];exact aGL hr0
  |i+1,hd=>simp at hd
abbrev c0:OpenClaim:=Rows.fnExactMatchingPairsRow
abbrev s0:ChangeSpec:=Rows.fnExactMatchingPairsSpec
def y1:c0.wf (OpenSpec.ofChange s0)=true:=by kernel_rfl
def y4:Tryz.f4.params.all (Tryz.prog.readableRec ·)=true:=by kernel_rfl
def y5:namedTie Tryz.prog c0.named s0.vars=true:=by kernel_rfl
def y6:(c0.stops==[])=true:=by kernel_rfl
def y8:(c0.knobs==[])=true:=by kernel_rfl
def y10:(c0.inPlace==Tryz.prog.inPlace 4)=true:=by kernel_rfl
def y11:(c0.unfollowed==Tryz.prog.unfollowed 4)=true:=by kernel_rfl
def y12:(c0.recurses==Tryz.prog.recurses 4)=true:=by kernel_rfl
def y13:(c0.named==Tryz.prog.varsNamed 4)=true:=by kernel_rfl
def facts:joinedFacts Tryz.prog 4 Tryz.f4 s0 c0=true:=(an (an (an (an (an (an (an (an (an (an (an (an (an (an (an (an (an (an (an (an (an (an (an (an (an (an (an (an (an (an (an y1 pf2) pf3) y4) y5) y6) pf7) y8) pf9) y10) y11) y12) y13) (by kernel_rfl)) (by kernel_rfl)) (by kernel_rfl)) (by kernel_rfl)) (by kernel_rfl)) (by kernel_rfl)) (by kernel_rfl)) (by kernel_rfl)) (by kernel_rfl)) (by kernel_rfl)) (by kernel_rfl)) (by kernel_rfl)) (by kernel_rfl)) (by kernel_rfl)) (by kernel_rfl)) (by kernel_rfl)) (by kernel_rfl)) (by kernel_rfl)) (by kernel_rfl))
def asJ:Rows.FnExactMatchingPairsSaid:=
 OpenClaim.holds_of_wide 4 Tryz.f4 rfl rfl rfl rfl rfl rfl rfl ⟨rfl,rfl,rfl,rfl,rfl⟩ rfl rfl rfl rfl rfl (by kernel_rfl) Tryz.func4 facts
  (of_decide_eq_true (by kernel_rfl)) (by unfold Func.isWrapper;first|(rw[if_pos (by decide+kernel)];kernel_rfl)|(rw[if_neg (by decide+kernel)];exact⟨rfl,rfl⟩))
  (fun os started H enc _=>akA os started H enc)
theorem fnExactMatchingPairs.proved:Rows.FnExactMatchingPairsCardSaid:=
 Claim7.holds_tied_plain_at .later [] [.data,.data,.data,.data,.sentinel,.sentinel,.data,.pinned] true (true,"a27e831b2717ebbfce6cc3713edcf6d33139d7b462a3fe08e1756429b08a67b7") true
  asJ (fun _ h=>by cases h) (by kernel_rfl) (fun _ h=>by cases h) fnExactMatchingPairs_row_tie rfl ⟨rfl,rfl⟩ (by kernel_rfl)
  rfl
  (fun f fn hf hfn=>by
   obtain rfl:f=4:=k_Option_some_inj ((show Tryz.prog.funcNamed "loop.example/g01923/laws.FnExactMatchingPairs" =some 4 by kernel_rfl).symm.trans hf)|>.symm;obtain rfl:fn=Tryz.f4:=(k_Option_some_inj (Tryz.func4.symm.trans hfn)).symm
   exact⟨by kernel_rfl,fun j t ht=>by
    rw[Tryz.params4]at ht;rcases j with _|j
    ·obtain rfl:t=36:=by simpa using ht.symm
     exact(show Tryz.prog.wantsStandIn 36=false by kernel_rfl)
    ·simp at ht⟩)
  (atG ah2 rfl)
end Go.Proofs.YtnlkiflcbknaaaaGreatDoor
end
