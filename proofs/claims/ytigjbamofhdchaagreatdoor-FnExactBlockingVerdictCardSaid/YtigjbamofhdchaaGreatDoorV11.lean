/- Lemmas and walks that the law leans on, part 11. No condition. -/
import Derived.Laws.CopyOwn
import Derived.Lib.AtoiAllCases
import Derived.Lib.AtoiErrMem
import Derived.Lib.OwnBridge
import Derived.Lib.SortBridge
import Derived.LoopTactic
import Derived.Sort.Grow
import Derived.Still
import Derived.StillTactics
import Derived.Test.YtigjbamofhdchaaGreatDoorV9
import Derived.Test.YtigjbamofhdchaaGreatDoorV10
set_option linter.unusedVariables false
set_option linter.defProp false
set_option linter.unusedSimpArgs false
set_option linter.unusedSectionVars false
set_option maxRecDepth 10000
set_option maxHeartbeats 1000000
section
namespace Go.Proofs.YtigjbamofhdchaaGreatDoor
open Go.Dv Go.Pl Go.Proofs.Tryz
def aa0 (n d:Int)(hn:0<=n/\n<=1000000000)(hd:0<=d/\d<=1000000000):Fk 329 [dI n,dI d] (vI (ratio n d)):=by
 refine fE [] ntmps329 fun _ _=> ?_;simp;apply gw<;>intro h1
 ·simp;grind[ratio]
 ·simp;iterate 3 refine ai ?_
  grind[ratio]
def MP (l w:L1)(hl:Qle l:=by first|omega|grind)(hw:Qle w:=by first|omega|grind):Fk 267 [nInts l,nInts w] (vI (oI l w)):=by
 refine fE [] ntmps267 fun _ _=> ?_;simp;apply gw<;>intro e
 ·simp;simp[oI];omega
 ·simp;refine wlt (Nat×Int×Int) (fun(i,s,t)=>([(0,vN l),(1,vN w),(5,vI s),(6,vI t),(7,vI i)],l.length-i,(i<=l.length)/\((List.range i).all (sF l w)=true)/\(s=wO l w i)/\(t=tT w i))) ((0,0,0)) ⟨by omega,rfl,rfl,rfl⟩ ?_;rintro⟨i,s,t⟩ ⟨h1,h2,h3,h4⟩;simp;apply gw<;>intro a
  ·have hl1:=aV (l:=l) (i:=i);have hw1:=aV (l:=w) (i:=i);have hb:∀j<i,sF l w j:=fun j hj=>aI.1 h2 j (aZ.2 hj);have hN:=BJ i hb;have hD:=BI i hb;simp[hl1];refine ck (bE _ _ _) ?_;simp;apply gv<;>intro e
   ·have e':=e;simp at e';have hn:=mR a (P:=sF l w) (by simp[sF];omega);simp[e];all_goals simp[oI,hn]
   ·have e':=e;simp at e';simp[hw1,e];refine ck (bE _ _ _) ?_;simp;apply gw<;>intro f
    ·simp at f;have hn:=mR a (P:=sF l w) (by simp[sF];omega);simp;all_goals simp[oI,hn]
    ·simp at f;have hc:sF l w i:=by simp[sF];omega
     have hp1:0<=at1 l i*at1 w i:=Int.mul_nonneg (by omega) (by omega);have hp2:at1 l i*at1 w i<=1000*1000:=Int.mul_le_mul (by omega) (by omega) (by omega) (by omega);simp;refine wdt 11 ?_;simp[hl1,hw1];iterate 4 refine ai ?_
     refine nx (i+1,s+at1 l i*at1 w i,t+at1 w i) ⟨by omega,(oC h2 hc),by rw[h3,wO,wO,aL],by rw[h4,tT,tT,aL]⟩
  ·simp at a;have hi:l.length=i:=by omega
   subst hi;have hb:∀j<l.length,sF l w j:=fun j hj=>aI.1 h2 j (aZ.2 hj);have hN:=BJ l.length hb;have hD:=BI l.length hb;simp;apply gw<;>intro b
   ·simp;all_goals simp[oI,←h4,b]
   ·simp;iterate 2 refine ai ?_
    all_goals(rw[oI,if_pos ⟨by omega,h2⟩,←h4,if_neg b,←h3])
def VX (s:Sco)(f:L1)(hs:Qle s.weights:=by first|omega|grind)(hf:Qle f:=by first|omega|grind):Fk 196 [GI s,nInts f] (vI (lW s f)):=by
 refine fE [] ntmps196 fun _ _=> ?_;simp;refine ck (oK _) ?_;simp;apply gv<;>intro e
 ·have e':=e;simp at e';simp[e];grind[lW]
 ·have e':=e;simp at e';simp[e];refine ck (nR _) ?_;simp;apply gw<;>intro b
  ·simp at b;simp;grind[lW]
  ·simp at b;simp;refine ck (MP _ _) ?_;simp;grind[lW]
def V5 (t:Tst)(f:L1)(hf:Qle f:=by first|omega|grind):Fk 367 [yT t,nInts f] (vB (pG f t)):=by
 refine fE [] ntmps367 fun _ _=> ?_;simp;refine wdt 20 ?_;simp;refine cd (nR _) ?_;simp;apply gv<;>intro e
 ·have e':=e;simp[e];refine cd (bE _ _ _) ?_;simp;apply gv<;>intro g
  ·have g':=g;simp at g';have h6:f.length=6:=by simp only[uI,k_Bool_and_eq_true,decide_eq_true_eq]at e;exact e.2
   have hx:=aV (l:=f) (i:=t.feature.toNat);simp[g,hx];refine ai ?_;all_goals(simp only[pG];rw[e',show inR t.feature 0 5=true by simp;omega];simp)
  ·have g':=g;simp at g';simp[g];all_goals(simp only[pG];rw[e',show inR t.feature 0 5=false by simp;omega];simp)
 ·have e':=e;simp[e];all_goals simp[pG,e']
def VY (r:List Tst)(f:L1)(hr:Qle r)(hf:Qle f:=by first|omega|grind):Fk 323 [vH r,nInts f] (vB (tH f r)):=by
 refine fE [] ntmps323 fun _ _=> ?_;simp;refine wlt Nat (fun i=>([(1,vN f),(2,.own (.bx true (vH r))),(5,vI i)],r.length-i,(i<=r.length)/\((r.take i).all (pG f)=true))) (0) ⟨by omega,rfl⟩ ?_;rintro i ⟨h1,h2⟩;simp;apply gw<;>intro a
 ·obtain⟨c,hc⟩:=aQ (l:=r) (i:=i);simp[hc];refine ck (V5 _ _) ?_;simp;apply gw<;>intro b
  ·simp at b;have hn:=fK hc (P:=(pG f)) (by first|assumption|(simp[*];done)|grind|(simp;omega));simp;grind[tH]
  ·simp at b;simp;refine nxa (i+1) ⟨by omega,(bV hc h2 (by first|assumption|(simp[*];done)|grind|(simp;omega)))⟩
 ·simp at a;have hf:=iP h2 a;simp;refine ck (nR _) ?_;simp;grind[tH]
def VU (rs:List (List Tst))(f:L1)(hs:Qle rs:=by first|omega|grind)(hr:∀l∈rs,Qle l:=by first|omega|grind)(hf:Qle f:=by first|omega|grind):Fk 268 [mI rs,nInts f] (vI (uR rs f)):=by
 refine fE [] ntmps268 fun _ _=> ?_;simp;refine wlt Nat (fun i=>([(1,vN f),(2,.own (.bx true (mI rs))),(5,vI i)],rs.length-i,(i<=rs.length)/\((rs.take i).any (tH f)=false))) (0) ⟨by omega,rfl⟩ ?_;rintro i ⟨h1,h2⟩;simp;apply gv<;>intro a
 ·have a':=a;simp[a];refine ck (qW _) ?_;simp;apply gw<;>intro b
  ·obtain⟨c,hc⟩:=aQ (l:=rs) (i:=i);simp[hc];refine ck (VY c f (hr c (aA hc))) ?_;simp;apply gw<;>intro e
   ·have hx:ix (tH f) rs=i:=DK hc h2 e;simp;grind[uR]
   ·simp;refine nxa (i+1) ⟨by omega,(gV hc h2 e)⟩
  ·simp;grind[uR]
 ·have a':=a;simp at a';have hx:=rV (mJ h2 (by omega));simp[a];grind[uR]
def VZ (rs:List (List Tst))(f:L1)(hs:Qle rs:=by first|omega|grind)(hr:∀l∈rs,Qle l:=by first|omega|grind)(hf:Qle f:=by first|omega|grind):Fk 197 [mI rs,nInts f] (vB (decide (0<=uR rs f))):=by
 refine fE [] ntmps197 fun _ _=> ?_;simp;refine ck (VU _ _) ?_;simp
def SY (rs:List (List Tst))(s:Sco)(f:L1)(hs:Qle rs)(hr:∀l∈rs,Qle l)(hw:Qle s.weights)(hf:Qle f):Fk 132 [mI rs,GI s,nInts f] (vI (iT rs s f)):=by
 refine fE [] ntmps132 fun _ _=> ?_;simp;refine ck (qW _) ?_;simp;apply gv<;>intro e
 ·have e':=e;simp at e';simp[e];grind[iT]
 ·have e':=e;simp at e';simp[e];refine ck (oK _) ?_;simp;apply gv<;>intro g
  ·have g':=g;simp at g';simp[g];grind[iT]
  ·have g':=g;simp at g';simp[g];refine ck (nR _) ?_;simp;apply gw<;>intro b
   ·simp at b;simp;grind[iT]
   ·simp at b;have hp:=WT s f hf;have hb:0<=s.bias/\s.bias<=1000:=by simp only[lM,k_Bool_and_eq_true,decide_eq_true_eq]at g';exact g'.2
    simp;refine wdt 6 ?_;simp;refine cd (VX _ _) ?_;simp;refine ai ?_;refine ck (VZ _ _) ?_;simp;apply gw<;>intro d
    ·simp;grind[iT]
    ·simp at d;simp;grind[iT]
def adD (x y:Str)(hx:Qle x)(hy:Qle y):Fk 369 [dS x,dS y] (vB (decide (x.length<=40)&&decide (y.length<=40))):=by
 refine fE [] ntmps369 fun _ _=> ?_;simp;apply gv<;>intro e
 ·have e':=e;simp[e];grind
 ·have e':=e;simp at e';simp[e];omega
def aaV (s:Str)(hs:s.length<=65536):Fk 274 [dS s] (vS (jD s)):=by
 refine fE [] ntmps274 fun _ _=> ?_;simp;refine wlt (Nat×Str×Int) (fun(i,o,l)=>([(0,vS s),(3,.own (oBs o)),(4,vI l),(5,vI i)],s.length-i,(i<=s.length)/\((o,l)=(s.take i).foldl vD ([],0))/\(o.length<=4/\(o=[]↔i=0))/\((s.take i).all (fun c=>decide (aM c≠ -2))=true))) ((0,[],0)) ⟨by omega,rfl,by simp,rfl⟩ ?_;rintro⟨i,o,l⟩ ⟨h1,h2,h3,h4⟩;simp;apply gw<;>intro a
 ·obtain⟨c,hc⟩:=aQ (l:=s) (i:=i);have hm:=fA vD ([],0) hc;rw[←h2]at hm;have hcl:=XG c;simp[hc];refine ck (V3 _) ?_;simp;apply gw<;>intro b
  ·have hn:=fK hc (P:=fun c=>decide (aM c≠ -2)) (by simp[b]);have hr:jD s=[]:=if_pos (.inr hn);simp[hr]
  ·simp;apply gw<;>intro d
   ·have ht:s.take 1=[c]:=by subst d;simpa using dX hc
    have hf:vG [c]=[iL c]:=rfl;have ho:o=[]:=h3.2.2 d;have hb0:({data:= #[iL c]}:ByteArray)[0]'(by show 0<1;omega)=iL c:=rfl;simp[ht];refine ai ?_;refine ck (wQ [c]) ?_;have hu:vD (o,l) c=([iL c],aM c):=if_pos ho;simp[hf,hb0,ho];refine nxa (i+1,[iL c],aM c) ⟨by omega,by rw[hm,hu],by simp,(bV hc h4 (by simp[b]))⟩
   ·have ho:o≠[]:=fun h=>d (h3.2.1 h);have hsx:vD (o,l) c=(if aM c>0/\aM c≠l/\o.length<4 then o++[UInt8.ofNat (48+aM c).toNat]else o,if 0<=aM c then aM c else l):=if_neg ho;simp;apply gv<;>intro e
    ·have e':=e;have hu8:IntKind.u8.wrap (48+aM c)=max (48+aM c) 0 % 256:=by simp[IntKind.wrap,IntKind.bits,IntKind.signed];omega
     simp[e];apply gv<;>intro f
     ·have f':=f;simp[f];apply gw<;>intro g
      ·have hp:vD (o,l) c=(o++[UInt8.ofNat (48+aM c).toNat],aM c):=by rw[hsx,if_pos ⟨by omega,by simpa using f,by omega⟩,if_pos (by omega)]
       simp[hu8];iterate 2 refine ai ?_
       apply gw<;>intro k
       ·simp;refine nxa (i+1,o++[UInt8.ofNat (48+aM c).toNat],aM c) ⟨by omega,by rw[hm,hp],by simp;omega,(bV hc h4 (by simp[b]))⟩
       ·simp at k;exfalso;omega
      ·simp at g;have hp:vD (o,l) c=(o,aM c):=by rw[hsx,if_neg (by rintro⟨_,_,h⟩;omega),if_pos (by omega)]
       simp;apply gw<;>intro k
       ·simp;refine nxa (i+1,o,aM c) ⟨by omega,by rw[hm,hp],by simp[ho];omega,(bV hc h4 (by simp[b]))⟩
       ·simp at k;exfalso;omega
     ·have f':=f;have hp:vD (o,l) c=(o,aM c):=by rw[hsx,if_neg (by rintro⟨_,h,_⟩;exact h (by simpa using f')),if_pos (by omega)]
      simp[f];apply gw<;>intro k
      ·simp;refine nxa (i+1,o,aM c) ⟨by omega,by rw[hm,hp],by simp[ho];omega,(bV hc h4 (by simp[b]))⟩ (h3:=by simp[hc,e,f])
      ·simp at k;exfalso;omega
    ·have e':=e;simp at e';have hp:vD (o,l) c=(o,if 0<=aM c then aM c else l):=by rw[hsx,if_neg (by rintro⟨h,_⟩;exact e (by simpa using h))]
     simp[e];apply gw<;>intro k
     ·simp;refine nxa (i+1,o,aM c) ⟨by omega,by rw[hm,hp,if_pos (by omega)],by simp[ho];omega,(bV hc h4 (by simp[b]))⟩
     ·simp at k;simp;refine nxa (i+1,o,l) ⟨by omega,by rw[hm,hp,if_neg (by omega)],by simp[ho];omega,(bV hc h4 (by simp[b]))⟩
 ·simp at a;have hi:s.length=i:=by omega
  have hf:=iP h4 a;rw[bS a]at h2;simp;apply gw<;>intro b
  ·have hr:jD s=[]:=if_pos (.inl (by have:=h3.2.1 (by simpa using b);exact bB (by omega)));simp[hr]
  ·have hs0:s≠[]:=fun h=>b (by have:=h3.2.2 (by subst h;simpa using hi.symm);simpa using this);have hr:jD s=aa5 o:=by rw[jD,if_neg (by rw[hf];simp[hs0]),←h2]
   simp;refine wlt Str (fun q=>([(3,.own (oBs q))],4-q.length,(q.length<=4)/\(aa5 q=aa5 o))) (o) ⟨h3.1,rfl⟩ ?_;rintro q ⟨h5,h6⟩;simp;apply gw<;>intro g
   ·have hp:aa5 (q++[48])=aa5 q:=by simp only[aa5,aO,dZ];rw[bO];congr 1;rw[show 4-q.length=(4-(q.length+1))+1 by omega,fJ];rfl
    simp;refine nxa (q++[48]) ⟨by simp;omega,by rw[hp,h6]⟩
   ·simp at g;have hq:aa5 q=q:=by simp[aa5,show 4-q.length=0 by omega]
    simp;all_goals(rw[hr,←h6,hq])
def aeY {l:List Str}{x y:Str}{b:Bool}(h:y∈jP l x b):y∈l\/y=x:=by
 unfold jP at h;split at h
 ·exact .inl h
 ·rcases k_List_mem_append.1 h with h|h
  ·rcases k_List_mem_append.1 h with h|h
   ·exact .inl (iR h)
   ·exact .inr (by simpa using h)
  ·exact .inl (iQ h)
def LQ (s:Str):(tokens s).length<=2*s.length+1/\∀x∈tokens s,x.length<=2*s.length:=by
 have hc:=akG 32 (normal s);have hn:=GK s
 have key:∀(L:List Str) (t:List Str),(∀x∈L,x.length<=2*s.length)->(∀x∈t,x.length<=2*s.length)->(L.foldl xA t).length<=t.length+L.length/\∀x∈L.foldl xA t,x.length<=2*s.length:=by
  intro L
  induction L with
  |nil=>intro t _ ht;exact⟨by simp,ht⟩
  |cons y L ih=>
   intro t hL ht;have h1:=anT t y
   have h2:∀x∈xA t y,x.length<=2*s.length:=fun x hx=>by
    unfold xA at hx;split at hx
    ·rcases aeY hx with h|rfl
     ·exact ht x h
     ·exact hL _ (by simp)
    ·exact ht x hx
   have:=ih (xA t y) (fun x hx=>hL x (bG _ hx)) h2;refine⟨?_,this.2⟩;have:=this.1;simp only[k_List_foldl_cons,aR];omega
 have:=key (acR 32 (normal s)) [] (fun x hx=>by have:=hc.2 x hx;omega) (by simp);unfold tokens;refine⟨?_,this.2⟩;have:=this.1;simp at this;omega
def IC (s:Str)(hs:s.length<=4096):Fk 201 [dS s] (vR (lY s)):=by
 refine fE [] ntmps201 fun _ _=> ?_;have ht:=LQ s;simp;refine ck (F4 _) ?_;generalize hcs:tokens s=L at ht|-
 simp;refine wld [3] (Nat×List Str) (fun(i,o)=>([(3,vR o),(4,vR L),(5,vI i)],L.length-i,(i<=L.length)/\(o=(L.take i).foldl wU [])/\(o.length<=i))) ((0,[])) ⟨by omega,rfl,by simp⟩ ?_;rintro⟨i,o⟩ ⟨h1,h2,h3⟩;simp;apply gw<;>intro a
 ·obtain⟨c,hc⟩:=aQ (l:=L) (i:=i);have hm:=fA wU [] hc;rw[←h2]at hm;have hl:=ht.2 c (I7 hc);simp[hc];refine ck (aaV c (by omega)) ?_;simp;apply gw<;>intro b
  ·have hu:wU o c=jP o (jD c) false:=if_pos b;have hp:=rT o (jD c) false;simp;refine ck (yB o (jD c) false) ?_;simp;refine ai ?_;refine nxc (i+1,jP o (jD c) false) [3] ⟨by omega,by rw[hm,hu],by omega⟩
  ·have hu:wU o c=o:=if_neg (by simp[b]);simp;refine ai ?_;refine nxc (i+1,o) [3] ⟨by omega,by rw[hm,hu],by omega⟩
 ·simp at a;rw[bS a]at h2;simp;simp[lY,hcs,←h2]
def FY (l:List Str)(hl:Qle l)(hs:∀x∈l,Qle x):Fk 371 [mF l] (vB (pR l)):=by
 refine fE [200001] ntmps371 fun _ _=> ?_;simp;refine wlt Nat (fun i=>([(0,vR l),(3,vI i)],l.length-i,(i<=l.length)/\((l.take i).all Q5=true)/\(adj ltL (l.take i)=true))) (0) ⟨by omega,rfl,rfl⟩ ?_;rintro i ⟨h1,h2,h3⟩;simp;apply gw<;>intro a
 ·obtain⟨c,hc⟩:=aQ (l:=l) (i:=i);simp;refine MX (fun(_:Unit)=>[(0,vR l),(3,vI i)]) (fun(_:Unit)=>(c≠[])/\(adj ltL (l.take (i+1))=true)) ?_ ?_
  ·simp;refine wdr ?_;simp[hc];apply gv<;>intro e
   ·have e':=e;have hn:=fK hc (P:=Q5) (by simp[Q5,e]);simp[e];grind[pR]
   ·have e':=e;simp[e];apply gv<;>intro f
    ·have f':=f;obtain⟨p,hp⟩:=aQ (l:=l) (i:=i-1);have hi1:i-1+1=i:=by omega
     simp[hc,f,hp];iterate 2 refine ai ?_
     apply gw<;>intro b
     ·simp at b;have hn:=IR hp (by rw[hi1];exact hc) (R:=ltL) (by simpa using b);simp;grind[pR]
     ·simp at b;simp;refine jn (()) ⟨by simpa using e,by have:=yA (i:=i-1) (by rw[hi1];exact h3) hp (by rw[hi1];exact hc) (R:=ltL) (by simpa using b);rwa [hi1]at this⟩
    ·have f':=f;simp at f';simp[f];refine jn (()) ⟨by simpa using e,(by obtain rfl:i=0:=(by omega);exact uQ)⟩
  rintro⟨⟩ ⟨h5,h4⟩;have hcl:=hs c (I7 hc);simp;refine wlt Nat (fun j=>([(0,vR l),(3,vI i),(4,vI j)],c.length-j,(j<=c.length)/\((c.take j).all wL=true)/\(0<j->vG c=c))) (0) ⟨by omega,rfl,by omega⟩ ?_;rintro j ⟨h1j,h2j,h3j⟩;simp[hc];apply gw<;>intro aj
  ·obtain⟨cj,hcj⟩:=aQ (l:=c) (i:=j);simp;refine wdr ?_;simp[hc,hcj];refine cd (OE _) ?_;simp;apply gv<;>intro e
   ·have e':=e;simp at e';have hn:=fK hc (P:=Q5) (by have:=fK hcj (P:=wL) (by simpa using e);simp[Q5,this]);simp[e];grind[pR]
   ·have e':=e;simp at e';simp[hc,e];refine cd (wQ _) ?_;simp[hc];apply gw<;>intro b
    ·have hn:=fK hc (P:=Q5) (by simp[Q5,b]);simp;grind[pR]
    ·simp;refine nxa (j+1) ⟨by omega,(bV hcj h2j (by simpa using e)),(fun _=>by simpa using b)⟩
  ·simp at aj;have hw:=iP h2j aj;have hpos:0<c.length:=jZ.2 h5;simp;refine nxa (i+1) ⟨by omega,(bV hc h2 (by simp[Q5,hw,h5,h3j (by omega)])),h4⟩
 ·simp at a;have hf:=iP h2 a;rw[bS a]at h3;simp;grind[pR]
def adE (l m:List Str)(hl:l.length<=262144)(hs:∀x∈l,Qle x)(hm:m.length<=262144)(ht:∀x∈m,Qle x):Fk 328 [mF l,mF m] (vB (vL l m)):=by
 refine fE [] ntmps328 fun _ _=> ?_;simp;refine ck (FY l (by omega) hs) ?_;simp;apply gv<;>intro e
 ·have e':=e;simp[e];refine ck (FY m (by omega) ht) ?_;simp;grind[vL]
 ·have e':=e;simp[e];grind[vL]
def aoI (l m:List Str):(common l m).length<=l.length:=by
 have:=FC (G7 m) (fun t x=>by unfold G7;split;(exact rT _ _ _);omega) l [];simpa[common]using this
def auX (l m:List Str):(XN l m).length<=l.length+m.length:=by
 have h1:=FC xB (fun t x=>rT _ _ _) l [];have h2:=FC xB (fun t x=>rT _ _ _) m (l.foldl xB []);unfold XN;simp at h1;omega
def aaU (l m:List Str)(hl:l.length<=262144)(hs:∀x∈l,Qle x)(hm:m.length<=262144)(ht:∀x∈m,Qle x):Fk 271 [mF l,mF m] (vI (AA l m)):=by
 refine fE [] ntmps271 fun _ _=> ?_;simp;refine ck (adE l m hl hs hm ht) ?_;simp;apply gw<;>intro e
 ·simp at e;simp;grind[AA]
 ·simp at e;have h1:=aoI l m;have h2:=auX l m;simp;refine ck (N8 l m hl hm) ?_;simp;refine ck (Q0 l m hl hm) ?_;simp;refine ck (aa0 ((common l m).length:Int) ((XN l m).length:Int) (by omega) (by omega)) ?_;simp;grind[AA]
def OH (l m:List Str)(hl:l.length<=262144)(hs:∀x∈l,Qle x)(hm:m.length<=262144)(ht:∀x∈m,Qle x):Fk 199 [mF l,mF m] (vI (tJ l m)):=by
 refine fE [] ntmps199 fun _ _=> ?_;simp;apply gv<;>intro e
 ·have e':=e;simp[e];grind[tJ]
 ·have e':=e;simp[e];apply gw<;>intro f
  ·simp;grind[tJ]
  ·simp;refine ck (aaU l m hl hs hm ht) ?_;simp;grind[tJ]
def aaZ (x y:Str)(tr:Bool)(hx:x.length<=4096)(hy:y.length<=4096):Fk 370 [dS x,dS y,dB tr] (.own (mQ (PW x y tr))):=by
 refine fE [200003] ntmps370 fun _ _=> ?_;simp;refine wlt (Nat×L2) (fun(i,T)=>([(0,vS x),(1,vS y),(2,vB tr),(7,.own (mQ T)),(8,vI i)],(x.length+1)-i,(i<=(x.length+1))/\(T=loopN i ([]) ((fun i T=>T++[acX x y tr i T])))/\T.length=i/\(Z6 (y.length+1) T))) ((0,[])) ⟨by simp,rfl,rfl,((fun i hi=>by simp at hi))⟩ ?_;rintro⟨i,T⟩ ⟨h1,h2,h3,h4⟩;simp;apply gw<;>intro a
 ·have hs:=aL i ([]) ((fun i T=>T++[acX x y tr i T]));rw[←h2]at hs;simp;iterate 3 refine ai ?_
  refine wlt (Nat×L1) (fun(j,r)=>([(0,vS x),(1,vS y),(2,vB tr),(7,.own (mQ T)),(8,vI i),(9,wN r),(10,vI j)],(y.length+1)-j,(j<=(y.length+1))/\(r=loopN j ((List.replicate (y.length+1) 0)) ((FL x y tr T i)))/\(ah8 (y.length+1) j i r))) ((0,(List.replicate (y.length+1) 0))) ⟨by simp,rfl,(⟨by simp,by omega⟩)⟩ ?_;rintro⟨j,r⟩ ⟨h1j,h2j,h3j⟩;simp;apply gw<;>intro aj
  ·have hsj:=aL j ((List.replicate (y.length+1) 0)) ((FL x y tr T i));rw[←h2j]at hsj;have hrl:=h3j.1;have hrj:=aV (l:=r) (i:=j);simp;refine MX (fun(_:Unit)=>[(0,vS x),(1,vS y),(2,vB tr),(7,.own (mQ T)),(8,vI i),(9,wN (r.set j (edOne x y T i r j))),(10,vI j)]) (fun(_:Unit)=>True) ?_ ?_
   ·simp;apply gw<;>intro b
    ·have hv:edOne x y T i r j=j:=if_pos (by simpa using b);simp[hrj];refine jn (()) trivial (h3:=by simp[hrj,hrl,hv])
    ·simp;apply gw<;>intro d
     ·have hv:edOne x y T i r j=i:=by rw[edOne,if_neg (by simpa using b),if_pos (by simpa using d)]
      simp[hrj];refine jn (()) trivial (h3:=by simp[hrj,hrl,hv])
     ·have hcx:=zQ (s:=x) (i:=i-1);have hcy:=zQ (s:=y) (i:=j-1);obtain⟨q,hq,hqj,hb1,hb2⟩:=D5 h4 (i:=i-1) (j:=j-1) (by omega) (by omega);obtain⟨q',hq',hqk,hb3,hb4⟩:=D5 h4 (i:=i-1) (j:=j) (by omega) (by omega);obtain rfl:q=q':=by rw[hq]at hq';exact k_Option_some_inj hq'
      simp;refine wdt 9 ?_;simp[hcx,hcy];iterate 4 refine ai ?_
      apply gw<;>intro f
      ·have hv:edOne x y T i r j=at2 T (i-1) (j-1):=by rw[edOne,if_neg (by simpa using b),if_neg (by simpa using d),if_pos f]
       simp[hrj,hq,hqj];iterate 4 refine ai ?_
       refine jn (()) trivial (h3:=by simp[hrj,hrl,hcx,hcy,hv,hq,hqj])
      ·have hr1:=aV (l:=r) (i:=j-1);have hb5:=h3j.2 (j-1) (by omega);have hv:edOne x y T i r j=1+min (min (at2 T (i-1) j) (at1 r (j-1))) (at2 T (i-1) (j-1)):=by rw[edOne,if_neg (by simpa using b),if_neg (by simpa using d),if_neg f]
       simp;refine wdt 27 ?_;simp[hrj,hq,hqj,hqk,hr1];iterate 9 refine ai ?_
       refine jn (()) trivial (h3:=by simp[hrj,hrl,hcx,hcy,hv,hq,hqj,hqk,hr1])
   rintro⟨⟩ -
   have hve:0<=edOne x y T i r j/\edOne x y T i r j<=i+j:=aC4 h3 h4 h3j (by omega) (by omega);have hok:=UX h3j (by omega) hve.1 hve.2;have hat:at1 (r.set j (edOne x y T i r j)) j=edOne x y T i r j:=by rw[yI _ (by omega),if_pos rfl]
   have hsw:∀h:vK x y tr i j=false,FL x y tr T i j r=r.set j (edOne x y T i r j):=fun h=>by rw[FL,af6,if_neg (by simp[h])]
   generalize hr':r.set j (edOne x y T i r j)=r' at hok hat hsw|-
   have hes:FL x y tr T i j r=af6 x y tr T i j r':=by rw[FL,hr']
   have hok1:=hok.1;simp;refine wdr ?_;simp;apply gv<;>intro e
   ·have e':=e;simp[e];apply gv<;>intro f
    ·have f':=f;simp[f];apply gv<;>intro g
     ·have g':=g;have hx1:=zQ (s:=x) (i:=i-1);have hy2:=zQ (s:=y) (i:=j-2);have hx2:=zQ (s:=x) (i:=i-2);have hy1:=zQ (s:=y) (i:=j-1);have hj2:((j:Int)-2).toNat=j-2:=by omega
      have hi2:((i:Int)-2).toNat=i-2:=by omega
      simp[g,hx1,hy2,hj2];iterate 4 refine ai ?_
      apply gv<;>intro k
      ·have k':=k;simp[hx2,hy1,hi2,k];iterate 4 refine ai ?_
       apply gw<;>intro m
       ·have hw:vK x y tr i j:=by simp[vK,e,k,m];omega
        obtain⟨q,hq,hqj,hb1,hb2⟩:=D5 h4 (i:=i-2) (j:=j-2) (by omega) (by omega);have hrj2:=aV (l:=r') (i:=j);have hst:FL x y tr T i j r=r'.set j (min (at1 r' j) (at2 T (i-2) (j-2)+1)):=by rw[hes,af6,if_pos hw]
        have hok2:=UX (k:=j) (v:=min (at1 r' j) (at2 T (i-2) (j-2)+1)) ⟨hok.1,fun j' hj'=>hok.2 j' (by omega)⟩ (by omega) (by omega) (by omega);simp;refine wdt 18 ?_;simp[hj2,hi2,hq,hqj,hrj2];iterate 6 refine ai ?_
        refine nx (j+1,r'.set j (min (at1 r' j) (at2 T (i-2) (j-2)+1))) ⟨by omega,by rw[hsj,hst],hok2⟩ (h3:=by simp[hrj,hrl,e,f,g,hx1,hy2,hx2,hy1,hj2,hi2,k,hq,hqj,hrj2,hok1])
       ·have hw:vK x y tr i j=false:=by simp[vK,m]
        simp;refine nxa (j+1,r') ⟨by omega,by rw[hsj,hsw hw],hok⟩ (h3:=by simp[hrj,hrl,e,f,g,hx1,hy2,hx2,hy1,hj2,hi2,k])
      ·have k':=k;have hw:vK x y tr i j=false:=by simp[vK,k]
       simp[k];refine nxa (j+1,r') ⟨by omega,by rw[hsj,hsw hw],hok⟩ (h3:=by simp[hrj,hrl,e,f,g,hx1,hy2,hx2,hy1,hj2,hi2,k])
     ·have g':=g;simp at g';have hw:vK x y tr i j=false:=by simp[vK];omega
      simp[g];refine nxa (j+1,r') ⟨by omega,by rw[hsj,hsw hw],hok⟩ (h3:=by simp[hrj,hrl,e,f,g])
    ·have f':=f;simp at f';have hw:vK x y tr i j=false:=by simp[vK];omega
     simp[f];refine nxa (j+1,r') ⟨by omega,by rw[hsj,hsw hw],hok⟩ (h3:=by simp[hrj,hrl,e,f])
   ·have e':=e;have hw:vK x y tr i j=false:=by simp[vK,e']
    simp[e];refine nxa (j+1,r') ⟨by omega,by rw[hsj,hsw hw],hok⟩ (h3:=by simp[hrj,hrl,e])
  ·simp at aj;have hij:(y.length+1)=j:=by omega
   subst hij;simp;refine nxb (i+1,T++[r]) ⟨by omega,by rw[hs,acX,h2j],by simp[h3],(aeX h4 (by rw[h3];exact h3j))⟩
 ·simp at a;have hi:(x.length+1)=i:=by omega
  subst hi;simp;exact congrArg _ h2
def N9 (x y:Str)(hx:Qle x)(hy:Qle y):Fk 327 [dS x,dS y] (vI (qK x y)):=by
 refine fE [] ntmps327 fun _ _=> ?_;simp;refine ck (adD x y hx hy) ?_;simp;apply gw<;>intro e
 ·simp at e;have hr:qK x y= -1:=if_neg (by simp only[FK];simp;omega);simp[hr]
 ·simp at e;have hf:FK x y:=by simp only[FK];simp;omega
  have hr:qK x y=at2 (PW x y false) x.length y.length:=if_pos hf;have h1:=acY x y false;obtain⟨q,hq,hqj,hb1,hb2⟩:=D5 h1.2 (i:=x.length) (j:=y.length) (by omega) (by omega);simp;refine ck (aaZ x y false (by omega) (by omega)) ?_;simp[hq,hqj,hr]
def VT (x y:Str)(hx:Qle x)(hy:Qle y):Fk 270 [dS x,dS y] (vI (wP x y)):=by
 refine fE [] ntmps270 fun _ _=> ?_;have hd:=af5 x y;simp;refine ck (N9 x y hx hy) ?_;simp;apply gw<;>intro b
 ·have hr:wP x y=0:=if_pos b;simp[hr]
 ·simp at b;simp;apply gw<;>intro d
  ·have hr:wP x y=1000:=by rw[wP,if_neg (by omega),if_pos d]
   simp[hr]
  ·have hr:wP x y=(1000*(max (x.length:Int) y.length-qK x y)).tdiv (max (x.length:Int) y.length):=by rw[wP,if_neg (by omega),if_neg d]
   have hq:=J4 (a:=1000*(max (x.length:Int) y.length-qK x y)) (b:=max (x.length:Int) y.length);simp[hq];iterate 3 refine ai ?_
   all_goals(first|exact hr.symm|simp[hr])
def OG (x y:Str)(hx:x.length<=65536:=by omega)(hy:y.length<=65536:=by omega):Fk 198 [dS x,dS y] (vI (pI x y)):=by
 refine fE [] ntmps198 fun _ _=> ?_;have h1:=GK x;have h2:=GK y;simp;first|refine ck (qX x (by omega)) ?_|refine ckz (qX x (by omega)) ?_
 simp;first|refine ck (qX y (by omega)) ?_|refine ckz (qX y (by omega)) ?_
 simp;apply gv<;>intro e
 ·have e':=e;simp[e];grind[pI]
 ·have e':=e;simp[e];apply gw<;>intro f
  ·simp;grind[pI]
  ·simp;refine ck (VT (normal x) (normal y) (by omega) (by omega)) ?_;simp;grind[pI]
def VV (n:Int)(hn: -9000000000000000000<=n/\n<=9000000000000000000):Fk 333 [dI n] (vS (xL n)):=by
 refine fE [13] ntmps333 fun _ _=> ?_;simp;apply gw<;>intro e
 ·have hr:xL n=[48]:=if_pos e;simp[hr]
 ·simp;refine wlt (Int×Str) (fun(k,s)=>([(0,vI k),(3,vS s),(4,vB (decide (n<0)))],k.natAbs,(nZ k.natAbs++s=nZ n.natAbs)/\(k.natAbs<=n.natAbs))) ((n,[])) ⟨by simp,by simp⟩ ?_;rintro⟨k,s⟩ ⟨h1,h2⟩;have hlen:s.length<=19:=by have h3:=congrArg List.length h1;have h4:=TN n.natAbs 19 (by (try unfold Qle);rw[show(10:Nat)^19=10000000000000000000 by rfl];omega);simp only[aO]at h3;omega
  simp;apply gw<;>intro a
  ·have ht:(k.tmod 10).natAbs=k.natAbs % 10:=Int.natAbs_tmod k 10;have hq:(k.tdiv 10).natAbs=k.natAbs/10:=Int.natAbs_tdiv k 10;have hqi:=J4 (a:=k) (b:=10);have hdec:=wI (m:=k.natAbs) (by omega);generalize hT:k.tmod 10=t at ht|-
   generalize hQ:k.tdiv 10=q at hq hqi|-
   simp[hT];refine MX (fun(_:Unit)=>[(0,vI k),(3,vS s),(4,vB (decide (n<0))),(5,vI (k.natAbs % 10:Nat))]) (fun(_:Unit)=>True) ?_ ?_
   ·simp;apply gw<;>intro b
    ·have hj: -t=(k.natAbs:Int) % 10:=by omega
     simp[hj];refine ai ?_;refine jn (()) trivial
    ·simp at b;have hj:t=(k.natAbs:Int) % 10:=by omega
     simp[hj];refine jn (()) trivial
   rintro⟨⟩ -
   obtain⟨c,hc⟩:∃c:UInt8,c=UInt8.ofNat (48+k.natAbs % 10):=⟨_,rfl⟩;have hu8:(48+(k.natAbs:Int) % 10) % 256=(c.toNat:Int):=by rw[hc,wF];omega
   have hu9:IntKind.u8.wrap (48+(k.natAbs:Int) % 10)=(c.toNat:Int):=by rw[←hu8];simp[IntKind.wrap,IntKind.bits,IntKind.signed]
   simp[hQ,hqi,hu9];refine nxb (q,c::s) ⟨by rw[hq,←h1,hdec,hc];simp,by omega⟩
  ·have hk:k=0:=by omega
   rw[hk]at h1;have hs:s=nZ n.natAbs:=by simpa[wJ]using h1
   simp;apply gw<;>intro b
   ·have hr:xL n=45::s:=by rw[xL,if_neg e,if_pos (by omega),hs];rfl
    simp[hr];omega
   ·simp at b;have hr:xL n=s:=by rw[xL,if_neg e,if_neg (by omega),hs];rfl
    simp[hr]
variable {i:Nat}
def aEN (h:i<=11):(10:Int)^i<=100000000000:=by
 have h1:(10:Nat)^i<=10^11:=jN (by omega) h;have h2:((10^i:Nat):Int)<=((10^11:Nat):Int):=by exact_mod_cast h1
 simpa using h2
def YK (s:Str)(hs:Qle s):Fk 276 [dS s] (.tup [vI (if nA s=true then lJ s else 0),vB (nA s)]):=by
 refine fE [5] ntmps276 fun _ _=> ?_;simp;refine an0 (fun((v,d):(Int)×(Int))=>[(0,vS s),(4,vI v),(5,vI d)]) (fun(v,d)=>((v,d)=tC s)/\(0<=v/\v<=100000000000)/\(0<=d/\d<=11)) ?_ ?_
 ·simp;refine wlt (Nat×Int×Int) (fun(i,v,d)=>([(0,vS s),(4,vI v),(5,vI d),(6,vI i)],s.length-i,(i<=s.length/\i<=11)/\((v,d)=(s.take i).foldl IK (0,0))/\(0<=v/\v<10^i)/\(0<=d/\d<=i))) ((0,0,0)) ⟨by simp,rfl,by simp,by simp⟩ ?_;rintro⟨i,v,d⟩ ⟨h1,h2,h3,h4⟩;have hp11:(10:Int)^i<=100000000000:=aEN (by omega);simp;apply gv<;>intro a
  ·have a':=a;simp[a];apply gw<;>intro b
   ·obtain⟨c,hc⟩:=aQ (l:=s) (i:=i);have hm:=fA IK (0,0) hc;rw[←h2]at hm;simp[hc];apply gv<;>intro e
    ·have e':=e;simp[hc,e];apply gw<;>intro f
     ·have hu:IK (v,d) c=(v*10+(c.toNat-48),d+1):=if_pos ⟨by omega,by omega⟩;have hw:IntKind.i64.wrap ((c.toNat:Int)-48)=c.toNat-48:=by simp[IntKind.wrap,IntKind.bits,IntKind.signed];omega
      have hps:(10:Int)^(i+1)=10^i*10:=Int.pow_succ 10 i;simp[hc,hw];iterate 5 refine ai ?_
      refine nx (i+1,v*10+(c.toNat-48),d+1) ⟨by omega,by rw[hm,hu],by rw[hps];omega,by omega⟩
     ·simp at f;have hu:IK (v,d) c=(v,d):=if_neg (by omega);have hps:(10:Int)^(i+1)=10^i*10:=Int.pow_succ 10 i;simp;refine nxa (i+1,v,d) ⟨by omega,by rw[hm,hu],by rw[hps];omega,by omega⟩
    ·have e':=e;simp at e';have hu:IK (v,d) c=(v,d):=if_neg (by omega);have hps:(10:Int)^(i+1)=10^i*10:=Int.pow_succ 10 i;simp[e];refine nxa (i+1,v,d) ⟨by omega,by rw[hm,hu],by rw[hps];omega,by omega⟩
   ·simp at b;simp;refine jn (v,d) ⟨by rw[h2,tC,show i=11 by omega],by omega,by omega⟩
  ·have a':=a;simp at a';simp[a];refine jn (v,d) ⟨by rw[h2,tC,k_List_take_of_length_le (show s.length<=i by omega),k_List_take_of_length_le (show s.length<=11 by omega)],by omega,by omega⟩
 rintro⟨v,d⟩ ⟨h5,h6,h7⟩;have hv:(tC s).1=v:=by rw[←h5]
 have hd:(tC s).2=d:=by rw[←h5]
 refine MX (fun(z:Int)=>[(0,vS s),(4,vI z),(5,vI d)]) (fun(z:Int)=>(z=lJ s)/\(-100000000000<=z/\z<=100000000000)) ?_ ?_
 ·simp;apply gv<;>intro e
  ·have e':=e;obtain⟨c,hc⟩:=aQ (l:=s) (i:=0) (by simpa using e);have hcz:∀h,(⟨s.toArray⟩:ByteArray)[0]'h=c:=fun h=>by have:=ba_get s 0;rw[hc]at this;exact k_Option_some_inj ((getElem?_pos (⟨s.toArray⟩:ByteArray) 0 h).symm.trans this)
   simp[e,hcz];apply gw<;>intro f
   ·have hpv:lJ s= -v:=by rw[lJ,if_pos (by rw[hc];congr 1;exact k_UInt8_toNat_inj.1 (by show c.toNat=45;omega)),hv]
    simp;refine ai ?_;refine jn (-v) ⟨hpv.symm,by omega⟩
   ·have hpv:lJ s=v:=by rw[lJ,if_neg (by rw[hc];intro h;have:=k_Option_some_inj h;subst this;exact f rfl),hv]
    simp;refine jn (v) ⟨hpv.symm,by omega⟩
  ·have e':=e;simp at e';have hpv:lJ s=v:=by rw[lJ,if_neg (by rw[show s=[]from bB (by simpa using e)];simp),hv]
   simp[e];refine jn (v) ⟨hpv.symm,by omega⟩
 rintro z ⟨h8,h9⟩;simp;apply gv<;>intro e
 ·have e':=e;have hb:nA s=false:=by simp only[nA,hd];rw[decide_eq_false (by omega)];rfl
  simp[e];all_goals simp[hb]
 ·have e':=e;simp at e';simp[e];apply gv<;>intro g
  ·have g':=g;have hb:nA s=false:=by simp only[nA,hd];rw[decide_eq_false (p:=s.length<=10) (by omega)];simp
   simp[g];all_goals simp[hb]
  ·have g':=g;simp at g';simp[g];refine ck (VV z (by omega)) ?_;simp;apply gw<;>intro b
   ·have hb:nA s=false:=by simp only[nA,hd,←h8];rw[decide_eq_false (p:=xL z=s) b];simp
    simp;all_goals simp[hb]
   ·have hb:nA s:=by simp only[nA,hd,←h8];simp[b];omega
    simp;all_goals simp[hb,h8]
def S9 (x y:Str)(hx:Qle x)(hy:Qle y):Fk 202 [dS x,dS y] (vI (rQ x y)):=by
 refine fE [7] ntmps202 fun _ _=> ?_;have hdx:(digits x).length<=x.length:=bM _ _;have hdy:(digits y).length<=y.length:=bM _ _;have hps:rQ x y=IL (digits x) (digits y):=rfl;simp;refine ck (JY x hx) ?_;simp;refine ck (JY y hy) ?_;generalize digits x=p at*
 generalize digits y=q at*
 simp;refine an0 (fun(n:Nat)=>[(5,vS p),(6,vS q),(7,vI n)]) (fun(n:Nat)=>(shared p.reverse q.reverse=n)/\(n<=p.length/\n<=q.length)) ?_ ?_
 ·simp;refine wlt Nat (fun n=>([(5,vS p),(6,vS q),(7,vI n)],p.length-n,(n<=p.length/\n<=q.length)/\(shared p.reverse q.reverse=n+shared (p.reverse.drop n) (q.reverse.drop n)))) (0) ⟨by omega,by simp⟩ ?_;rintro n ⟨h1,h2⟩;simp;refine wdr ?_;simp;apply gv<;>intro a
  ·have a':=a;simp[a];apply gv<;>intro b
   ·have b':=b;have hk:((p.length:Int)-1-n).toNat=p.length-1-n:=by omega
    have hk2:((q.length:Int)-1-n).toNat=q.length-1-n:=by omega
    have hcx:=abS (s:=p) (i:=n);have hcy:=abS (s:=q) (i:=n);have hss:=Z0 (p:=p.reverse) (q:=q.reverse) (i:=n) (by simp;omega) (by simp;omega);simp[b,hk,hk2,hcx,hcy];iterate 6 refine ai ?_
    apply gw<;>intro f
    ·simp;refine nxa (n+1) ⟨by omega,by rw[h2,hss,if_pos (by simpa using f)];omega⟩
    ·simp;refine jn (n) ⟨by rw[h2,hss,if_neg (by simpa using f)];rfl,(by first|omega|(simp;omega)|grind)⟩
   ·have b':=b;simp at b';simp[b];refine jn (n) ⟨by rw[h2,LK (.inr (by simp;omega))];rfl,(by first|omega|(simp;omega)|grind)⟩
  ·have a':=a;simp at a';simp[a];refine jn (n) ⟨by rw[h2,LK (.inl (by simp;omega))];rfl,(by first|omega|(simp;omega)|grind)⟩
 rintro n ⟨h5,h6⟩;have hlt:IL p q=if p.length<4\/q.length<4\/n<4 then 0 else if n=p.length/\n=q.length then 1000 else if n>=7\/n=p.length\/n=q.length then 800 else 400:=by rw[IL,h5]
 rw[←hps]at hlt;refine MX (fun(_:Unit)=>[(5,vS p)]) (fun(_:Unit)=>(rQ x y=400)) ?_ ?_
 ·simp;apply gv<;>intro a
  ·have a':=a;rw[if_pos (by omega)]at hlt;simp[a,hlt]
  ·have a':=a;simp at a';simp[a];apply gv<;>intro b
   ·have b':=b;rw[if_pos (by omega)]at hlt;simp[b,hlt]
   ·have b':=b;simp at b';simp[b];apply gw<;>intro d
    ·rw[if_pos (by omega)]at hlt;simp[hlt]
    ·simp at d;rw[if_neg (by omega)]at hlt;simp;apply gv<;>intro e
     ·have e':=e;simp[a,e];apply gw<;>intro f
      ·rw[if_pos (by omega)]at hlt;simp[hlt]
      ·rw[if_neg (by omega)]at hlt;simp;apply gv<;>intro g
       ·have g':=g;rw[if_pos (by omega)]at hlt;simp[g,hlt]
       ·have g':=g;simp at g';rw[if_pos (by omega)]at hlt;simp[g,hlt]
     ·have e':=e;rw[if_neg (by omega)]at hlt;simp[e];apply gv<;>intro g
      ·have g':=g;rw[if_pos (by omega)]at hlt;simp[g,hlt]
      ·have g':=g;simp at g';simp[e,g];apply gw<;>intro l
       ·rw[if_pos (by omega)]at hlt;simp[hlt]
       ·rw[if_neg (by omega)]at hlt;simp;refine jn (()) (by first|omega|(simp;omega)|grind)
 rintro⟨⟩ h7;simp[h7]
def IB (s:Str)(hs:Qle s):Fk 203 [dS s] (vI (iW s)):=by
 refine fE [] ntmps203 fun _ _=> ?_;simp;refine ck (YK s hs) ?_;simp;apply gv<;>intro a
 ·have a':=a;simp at a';simp[a];grind[iW]
 ·have a':=a;simp at a';simp[a];refine ck (bE (if nA s=true then lJ s else 0) 1000 9999) ?_;simp;apply gw<;>intro b
  ·simp at b;simp;grind[iW]
  ·simp at b;simp;grind[iW]
def QY (x y z:Int):Fk 204 [dI x,dI y,dI z] (vI (mP x y z)):=by
 refine fE [] ntmps204 fun _ _=> ?_;simp;refine ck (RB x) ?_;simp;apply gv<;>intro e
 ·have e':=e;simp at e';simp[e];all_goals(simp only[mP];rw[if_neg (by intro h;simp_all;omega)])
 ·have e':=e;simp at e';simp[e];refine ck (RB y) ?_;simp;apply gv<;>intro f
  ·have f':=f;simp at f';simp[f];all_goals(simp only[mP];rw[if_neg (by intro h;simp_all;omega)])
  ·have f':=f;simp at f';simp[f];refine ck (bE z 1 9999) ?_;simp;apply gw<;>intro g
   ·simp at g;simp;all_goals(simp only[mP];rw[if_neg (by intro h;simp_all;omega)])
   ·simp at g;have hxy:inR x 0 9999=true/\inR y 0 9999=true/\inR z 1 9999:=by simp_all
    obtain⟨M,hM⟩:∃M,max x y=M:=⟨_,rfl⟩;obtain⟨m,hm⟩:∃m,min x y=m:=⟨_,rfl⟩;have hns:mP x y z=if M-m>=z then 0 else(1000*(z-(M-m))).tdiv z:=by rw[mP,if_pos hxy,hM,hm]
    have hMb:0<=M-m/\M-m<=9999:=by simp at hxy;omega
    clear hxy;simp[hM,hm];refine ai ?_;apply gw<;>intro d
    ·rw[if_pos (by omega)]at hns;simp;all_goals simp[hns]
    ·simp at d;rw[if_neg (by omega)]at hns;have hq:=J4 (a:=1000*(z-(M-m))) (b:=z);simp[hq];iterate 3 refine ai ?_
     all_goals simp[hns]
def ap7 (st:Str×Int)(c:UInt8):(vD st c).1.length<=st.1.length+1:=by
 unfold vD;split
 ·simp
 ·simp only;split
  ·simp
  ·omega
def azM:∀(s:Str) (st:Str×Int),(s.foldl vD st).1.length<=st.1.length+s.length
 |[],st=>by simp
 |c::s,st=>by have:=azM s (vD st c);have:=ap7 st c;simp only[k_List_foldl_cons,aR];omega
def anE (s:Str):(jD s).length<=s.length+4:=by
 have:=azM s ([],0);unfold jD;split
 ·simp
 ·simp[aa5];simp at this;omega
def K8 (s:Str)(hs:s.length<=40):(lY s).length<=262144/\∀x∈lY s,Qle x:=by
 have ht:=LQ s
 have key:∀(L t:List Str),(∀x∈L,x.length<=80)->(∀x∈t,x.length<=84)->(L.foldl wU t).length<=t.length+L.length/\∀x∈L.foldl wU t,x.length<=84:=by
  intro L
  induction L with
  |nil=>intro t _ ht;exact⟨by simp,ht⟩
  |cons y L ih=>
   intro t hL ht
   have h1:(wU t y).length<=t.length+1:=by
    unfold wU;split
    ·exact rT _ _ _
    ·omega
   have h2:∀x∈wU t y,x.length<=84:=fun x hx=>by
    unfold wU at hx;split at hx
    ·rcases aeY hx with h|rfl
     ·exact ht x h
     ·have:=anE y;have:=hL y (by simp);omega
    ·exact ht x hx
   have:=ih (wU t y) (fun x hx=>hL x (bG _ hx)) h2;refine⟨?_,this.2⟩;have:=this.1;simp only[k_List_foldl_cons,aR];omega
 have:=key (tokens s) [] (fun x hx=>by have:=ht.2 x hx;omega) (by simp);unfold lY;refine⟨by have:=this.1;simp at this;omega,fun x hx=>by have:=this.2 x hx;omega⟩
def LU (s:Str)(hs:s.length<=40):(tokens s).length<=262144/\∀x∈tokens s,Qle x:=by
 have ht:=LQ s;exact⟨by omega,fun x hx=>by have:=ht.2 x hx;omega⟩
variable {r:Rec}
def QD (h:bQ r):EF r:=by
 have h1:=gZ h;refine⟨by omega,fun f hf=> ?_⟩;obtain⟨i,hi⟩:=dE hf;have hlt:=(aD.1 hi).1;have h2:=h1.2 i (by omega);rw[h2.1]at hi;obtain rfl:=k_Option_some_inj hi;have:=h2.2;unfold aeO;omega
def OC (a b:Rec)(ha:bQ a)(hb:bQ b):Fk 133 [DV a,DV b] (wN (DC a b)):=by
 refine fE [] ntmps133 fun _ _=> ?_;have hsa:=QD ha;have hsb:=QD hb;obtain⟨a0,hal0⟩:=(gZ ha).2 0 (by omega);obtain⟨a1,hal1⟩:=(gZ ha).2 1 (by omega);obtain⟨a2,hal2⟩:=(gZ ha).2 2 (by omega);obtain⟨a3,hal3⟩:=(gZ ha).2 3 (by omega);obtain⟨b0,hbl0⟩:=(gZ hb).2 0 (by omega);obtain⟨b1,hbl1⟩:=(gZ hb).2 1 (by omega);obtain⟨b2,hbl2⟩:=(gZ hb).2 2 (by omega);obtain⟨b3,hbl3⟩:=(gZ hb).2 3 (by omega);simp;refine ck (qF a hsa) ?_;simp[ha];refine ck (qF b hsb) ?_;have ta:=LU _ hal0;have tb:=LU _ hbl0;have ka:=K8 _ hal0;have kb:=K8 _ hbl0;simp[hb];refine wdt 45 ?_;simp[a0,b0];refine cd (OG (fld a 0) (fld b 0)) ?_;simp[a0];refine cd (F4 (fld a 0) (by omega)) ?_;simp[b0];refine cd (F4 (fld b 0) (by omega)) ?_;simp;refine cd (OH (tokens (fld a 0)) (tokens (fld b 0)) ta.1 ta.2 tb.1 tb.2) ?_;simp[a0];refine cd (IC (fld a 0) (by omega)) ?_;simp[b0];refine cd (IC (fld b 0) (by omega)) ?_;simp;refine cd (OH (lY (fld a 0)) (lY (fld b 0)) ka.1 ka.2 kb.1 kb.2) ?_;simp[a1,b1];refine cd (OG (fld a 1) (fld b 1)) ?_;simp[a3,b3];refine cd (S9 (fld a 3) (fld b 3) (by omega) (by omega)) ?_;simp[a2];refine ck (IB (fld a 2) (by omega)) ?_;simp[b2];refine ck (IB (fld b 2) (by omega)) ?_;simp;apply gv<;>intro e
 ·have e':=e;simp[e];apply gw<;>intro f
  ·simp;refine ck (QY (iW (fld a 2)) (iW (fld b 2)) 10) ?_;simp;simp[DC,tL,e,f]
  ·simp at f;simp;simp[DC];rw[tL,if_neg (by omega)]
 ·have e':=e;simp at e';simp[e];simp[DC];rw[tL,if_neg (by omega)]
def NZ (l:List Rec)(rs:List (List Tst))(s:Sco)(hl:1<=l.length/\l.length<=8)(hv:∀r∈l,bQ r)(hr:iZ rs)(hs:lM s)(hrl:∀t∈rs,Qle t)(hrn:Qle rs)(hw:Qle s.weights):Fk 80 [IJ l,mI rs,GI s] (.own (mQ (weights l rs s))):=by
 refine fE [23] ntmps80 fun _ _=> ?_;have hall:l.all bQ:=aI.2 hv;have hlen:decide (l.length<=12)=true:=by simp;omega
 have hl1:inR l.length 1 8:=by simp;omega
 simp;refine ck (aaW l (by omega) (fun r hr=>QD (hv r hr))) ?_;simp[hall,hlen];refine ck (bE l.length 1 8) ?_;simp[hl1];refine ck (qW rs hrn hrl) ?_;simp[hr];refine ck (oK s hw) ?_;simp[hs];refine wl (fun(i:Nat)=>[(0,vC l),(4,.own (.bx true (mI rs))),(5,.own (.bx true (GI s))),(7,.own (mQ ((List.range i).map (xC l rs s)))),(8,vI i)]) (fun(i:Nat)=>l.length-i) (fun(i:Nat)=>(i<=l.length)) (0) (by omega) ?_;rintro i h1;simp;apply gw<;>intro a
 ·simp;refine wl (fun(k:Nat)=>[(0,vC l),(4,.own (.bx true (mI rs))),(5,.own (.bx true (GI s))),(7,.own (mQ ((List.range i).map (xC l rs s)))),(8,vI i),(9,wN ((List.range k).map (lN l rs s i))),(10,vI k)]) (fun(k:Nat)=>l.length-k) (fun(k:Nat)=>(k<=l.length)) (0) (by omega) ?_;rintro k h2;simp;apply gw<;>intro b
  ·have hrm:=YV (lN l rs s i) k;simp;refine MX (fun(_:Unit)=>[(0,vC l),(4,.own (.bx true (mI rs))),(5,.own (.bx true (GI s))),(7,.own (mQ ((List.range i).map (xC l rs s)))),(8,vI i),(9,wN ((List.range k).map (lN l rs s i))),(10,vI k),(11,vI (lN l rs s i k))]) (fun(_:Unit)=>True) ?_ ?_
   ·simp;apply gw<;>intro f
    ·have hw1:lN l rs s i k=iT rs s (DC (recAt l (min i k)) (recAt l (max i k))):=if_neg (by omega);have hm1:(min (i:Int) k).toNat=min i k:=by omega
     have hm2:(max (i:Int) k).toNat=max i k:=by omega
     have hx:=QC (l:=l) (i:=min i k);have hy:=QC (l:=l) (i:=max i k);have hvx:=hv _ (I7 hx);have hvy:=hv _ (I7 hy);simp;refine wdt 16 ?_;simp[hm1,hm2,hx,hy];iterate 2 refine ai ?_
     refine cd (OC (recAt l (min i k)) (recAt l (max i k)) hvx hvy) ?_;simp;refine cd (SY rs s (DC (recAt l (min i k)) (recAt l (max i k))) hrn hrl hw (by simp[DC])) ?_;simp;refine jn (()) trivial (h3:=by simp[hrm,hm1,hm2,hx,hy,hw1])
    ·have hw1:lN l rs s i k=0:=if_pos (by omega);simp;refine jn (()) trivial (h3:=by simp[hrm,hw1])
   rintro⟨⟩ -
   simp;refine nxb (k+1) (by first|omega|(simp;omega)|grind)
  ·simp at b;have hk:k=l.length:=by omega
   subst hk;have hrm:=YV (xC l rs s) i;have hwr:(List.range l.length).map (lN l rs s i)=xC l rs s i:=rfl;simp[hwr];refine nxb (i+1) (by first|omega|(simp;omega)|grind)
 ·simp at a;have hk:i=l.length:=by omega
  subst hk;simp;rw[weights,sQ]
def YW {α β:Type}(f:α->β)(l:List α):List.take l.length (l.map f)=l.map f:=k_List_take_of_length_le (by simp)
def ad1 (x:List Str):mcount x []=0:=by cases x<;>rw[mcount]
def ZO (u v:Str)(x y:List Str):mcount (u::x) (v::y)=if ltL u v=true then mcount x (v::y)else if ltL v u=true then mcount (u::x) y else mcount x y+1:=by rw[mcount]
def QN (a b:List Str)(ha:1<=a.length/\a.length<=262144)(hb:1<=b.length/\b.length<=262144):Fk 390 [mF a,mF b] (vI (mcount (rU a) (rU b))):=by
 refine fE [8] ntmps390 fun _ _=> ?_;simp;refine ck (HV a ha) ?_;simp;refine ck (HV b hb) ?_;simp;refine mV rfl (FX a ha) ?_;rintro r d ⟨rfl,rfl⟩;simp;refine mV rfl (FX b hb) ?_;rintro r d ⟨rfl,rfl⟩;have hsa:=tK a;have hsb:=tK b;simp;refine jV [] (sD.trans (cO 5) (cO 6)) ?_;generalize rU a=A at*
 generalize rU b=B at*
 simp;refine wlt (List Str×List Str×Nat) (fun(x,y,k)=>([(5,vR x),(6,vR y),(7,vI k)],x.length+y.length,(mcount A B=k+mcount x y)/\(x.length<=262144/\y.length<=262144)/\(k+x.length<=262144))) ((A,B,0)) ⟨by omega,by omega,by omega⟩ ?_;rintro⟨x,y,k⟩ ⟨h1,h2,h3⟩;simp;apply gv<;>intro g
 ·have g':=g;simp[g];apply gw<;>intro e
  ·obtain⟨u,x2,rfl⟩:=List.exists_cons_of_length_pos (l:=x) (by omega);obtain⟨v,y2,rfl⟩:=List.exists_cons_of_length_pos (l:=y) (by omega);have hmc:=ZO u v x2 y2;simp only[aR]at h2 h3;simp;refine wdr ?_;simp;apply gw<;>intro f
   ·simp[YW];refine nx (x2,v::y2,k) ⟨by rw[h1,hmc,if_pos f],by simp;omega,by omega⟩
   ·simp;refine wdr ?_;simp;apply gw<;>intro q
    ·simp[YW];refine nx (u::x2,y2,k) ⟨by rw[h1,hmc,if_neg (by simp[f]),if_pos q],by simp;omega,by simp;omega⟩
    ·simp;refine wdr ?_;simp[YW];refine nxa (x2,y2,k+1) ⟨by rw[h1,hmc,if_neg (by simp[f]),if_neg (by simp[q])];omega,by omega,by omega⟩
  ·simp at e;have hy:y=[]:=by first|exact e|exact bB (by omega)
   rw[hy,ad1]at h1;have hr:(mcount A B:Int)=k:=by omega
   simp[hr]
 ·have g':=g;simp at g';have hx:x=[]:=by first|exact g|exact bB (by omega)
  rw[hx,mcount]at h1;have hr:(mcount A B:Int)=k:=by omega
  simp[g,hr]
def aaI (a b:List Str)(ha:1<=a.length/\a.length<=262144)(hb:1<=b.length/\b.length<=262144):Fk 355 [mF a,mF b] (vI (mcount (rU a) (rU b))):=by
 refine fE [] ntmps355 fun _ _=> ?_;simp;refine ck (QN a b ha hb) ?_;simp
def J7:∀(a b:List Str),mcount a b<=a.length
 |[],b=>by rw[mcount];simp
 |u::x,[]=>by rw[ad1];simp
 |u::x,v::y=>by
  rw[ZO];have h1:=J7 x (v::y);have h2:=J7 (u::x) y;have h3:=J7 x y;simp only[aR]at h2|-
  split
  ·omega
  ·split<;>omega
termination_by a b=>a.length+b.length
def azF {a b:List Str}(h:vL a b):Asc a/\Asc b:=by
 simp only[vL,pR,k_Bool_and_eq_true]at h;exact⟨UH.1 h.1.2,UH.1 h.2.2⟩
def aaC (a b:List Str)(ha:1<=a.length/\a.length<=262144)(hb:1<=b.length/\b.length<=262144)(hsa:∀x∈a,Qle x)(hsb:∀x∈b,Qle x):Fk 309 [mF a,mF b] (vI (AA a b)):=by
 refine fE [] ntmps309 fun _ _=> ?_;have hj:=TF a b;simp;refine ck (NT a b (by omega) hsa (by omega) hsb) ?_;simp;apply gw<;>intro e
 ·simp at e;have hr:AA a b=0:=by rw[hj,if_neg (by simp[e])]
  simp[hr]
 ·simp at e;rw[if_pos e]at hj;have hA:=azF e;have h1:=ahC hA.1;have h2:=ahC hA.2;have hl1:=J7 a b;have hl2:=J7 b a;rw[DU b a]at hl2;simp;refine ck (aaI a b ha hb) ?_;obtain⟨m,hm⟩:∃m:Nat,mcount a b=m:=⟨_,rfl⟩;rw[hm]at hl1 hl2 hj;simp[h1,h2,hm];iterate 3 refine ai ?_
  refine ck (X7 (1000*(m:Int)) ((a.length:Int)+b.length-m) (by omega) (by omega)) ?_;simp[hj]
def JU (a b:List Str)(ha:a.length<=262144)(hb:b.length<=262144)(hsa:∀x∈a,Qle x)(hsb:∀x∈b,Qle x):Fk 246 [mF a,mF b] (vI (tJ a b)):=by
 refine fE [] ntmps246 fun _ _=> ?_;simp;apply gv<;>intro e
 ·have e':=e;have hr:tJ a b=0:=if_pos (.inl e);simp[e];grind
 ·have e':=e;simp[e];apply gw<;>intro f
  ·have hr:tJ a b=0:=if_pos (.inr f);simp[hr]
  ·have hr:tJ a b=AA a b:=if_neg (by rintro(h|h);exact e h;exact f h);have he:1<=a.length:=jZ.2 e;have hf:1<=b.length:=jZ.2 f;simp;refine ck (aaC a b ⟨he,ha⟩ ⟨hf,hb⟩ hsa hsb) ?_;simp[hr]
def X6 (a b:Rec)(ha:bQ a)(hb:bQ b):Fk 174 [DV a,DV b] (wN (DC a b)):=by
 refine fE [] ntmps174 fun _ _=> ?_;obtain⟨a0,hal0⟩:=(gZ ha).2 0 (by omega);obtain⟨a1,hal1⟩:=(gZ ha).2 1 (by omega);obtain⟨a2,hal2⟩:=(gZ ha).2 2 (by omega);obtain⟨a3,hal3⟩:=(gZ ha).2 3 (by omega);obtain⟨b0,hbl0⟩:=(gZ hb).2 0 (by omega);obtain⟨b1,hbl1⟩:=(gZ hb).2 1 (by omega);obtain⟨b2,hbl2⟩:=(gZ hb).2 2 (by omega);obtain⟨b3,hbl3⟩:=(gZ hb).2 3 (by omega);have ta:=LU _ hal0;have tb:=LU _ hbl0;have ka:=K8 _ hal0;have kb:=K8 _ hbl0;simp;refine wdf [(13,[17,18]),(18,[22,23]),(24,[28,29]),(29,[33,34]),(58,[13,24,35,44,53,62,63]),(59,[63,4])] [(2,.own (.bx true (DV a))),(3,.own (.bx true (DV b)))] [] (by simp) ?_;simp[a0,b0];refine cd (IA (fld a 0) (fld b 0)) ?_;simp[a0];refine cf (FO (fld a 0)) ?_;simp[b0];refine cf (FO (fld b 0)) ?_;simp;refine cd (JU (tokens (fld a 0)) (tokens (fld b 0)) ta.1 tb.1 ta.2 tb.2) ?_;simp[a0];refine cf (H6 (fld a 0) (by omega)) ?_;simp[b0];refine cf (H6 (fld b 0) (by omega)) ?_;simp;refine cd (JU (lY (fld a 0)) (lY (fld b 0)) ka.1 kb.1 ka.2 kb.2) ?_;simp[a1,b1];refine cd (IA (fld a 1) (fld b 1)) ?_;simp[a2,b2];refine cd (VA (fld a 2) (fld b 2) (by omega) (by omega)) ?_;simp[a3,b3];refine cd (SF (fld a 3) (fld b 3) (by omega) (by omega)) ?_;simp;simp_all[DC];done
def JA (l:List Rec)(i:Nat):List Rec:=l.take i
def NJ (l:List Rec)(rs:List (List Tst))(s:Sco)(hl:1<=l.length/\l.length<=8)(hv:∀r∈l,bQ r)(hr:iZ rs)(hs:lM s)(hrl:∀t∈rs,Qle t)(hrn:Qle rs)(hw:Qle s.weights):Fk 104 [IJ l,mI rs,GI s] (.own (mQ (weights l rs s))):=by
 refine fE [] ntmps104 fun _ _=> ?_;have hin:inR (l.length:Int) 1 8:=by simp[inR];omega
 have hal:l.all bQ:=aI.2 hv;have hbw:=aDP l rs s;obtain⟨n,hn⟩:∃n,l.length=n:=⟨_,rfl⟩;simp;refine ck (bD l.length 1 8) ?_;simp[hin];refine ck (SH l (by omega) (fun r hr=>QD (hv r hr))) ?_;simp[hal];refine ck (qV rs hrn hrl) ?_;simp[hr];refine ck (oJ s hw) ?_;have hz:List.replicate l.length (dG (List.replicate l.length 0))=(zeros l.length).map dG:=by simp[zeros]
 simp[hs];refine ck (sJ l.length) ?_;simp[hz];refine wlt (Nat×L2) (fun(i,m)=>([(0,vC l),(4,.own (.bx true (mI rs))),(5,.own (.bx true (GI s))),(7,.own (mQ m)),(35,vC l),(36,vI l.length),(37,vI i)],l.length-i,(i<=l.length)/\(m=loopN i (zeros l.length) (aj3 l rs s))/\(sq2 l.length m))) ((0,zeros l.length)) ⟨by omega,rfl,(pF l.length)⟩ ?_ (h0:=by simp[hin,hal,hr,hs,hz]);rintro⟨i,m⟩ ⟨h1,h2,h3⟩;simp;apply gw<;>intro a
 ·have hci:=QC a;obtain⟨ci,hcie⟩:∃ci,recAt l i=ci:=⟨_,rfl⟩;rw[hcie]at hci;have hvi:=hv ci (aA hci);have hii:i<=l.length:=by omega
  have hto1:List.take i (l.map DV)=(JA l i).map DV:=by rw[JA,uL]
  have hto2:(l.take i).map DV=(JA l i).map DV:=rfl;have htl:(JA l i).length=i:=by rw[JA,dD];omega
  simp[hci,hii,hto1,htl];refine wlt (Nat×L2) (fun(k,q)=>([(0,vC l),(4,.own (.bx true (mI rs))),(5,.own (.bx true (GI s))),(7,.own (mQ q)),(8,vI i),(9,.own (.bx true (DV ci))),(35,vC l),(36,vI l.length),(37,vI i),(44,vC (JA l i)),(45,vI i),(46,vI k)],i-k,(k<=i)/\(q=loopN k m (ahY l rs s i))/\(sq2 l.length q))) ((0,m)) ⟨by omega,rfl,h3⟩ ?_;rintro⟨k,q⟩ ⟨h4,h5,h6⟩;simp;apply gw<;>intro d
  ·have hck:=QC (l:=l) (i:=k);obtain⟨ck,hcke⟩:∃ck,recAt l k=ck:=⟨_,rfl⟩;rw[hcke]at hck;have hvk:=hv ck (aA hck);have hckt:(JA l i)[k]?=some ck:=by rw[JA,bA,if_pos d];exact hck
   simp[hckt];refine wdf [(4,[53,54,55]),(6,[56,12])] [(0,vC l),(4,.own (.bx true (mI rs))),(5,.own (.bx true (GI s))),(7,.own (mQ q)),(8,vI i),(9,.own (.bx true (DV ci))),(10,vI k),(11,.own (.bx true (DV ck))),(35,vC l),(36,vI l.length),(37,vI i),(44,vC (JA l i)),(45,vI i),(46,vI k)] [] (by simp) ?_;simp;refine cf (X6 ci ck hvi hvk) ?_;simp;refine cd (SE rs s (DC ci ck) hrn hrl hw (by simp[DC])) ?_;obtain⟨w,hwe⟩:∃w,iT rs s (DC ci ck)=w:=⟨_,rfl⟩;have hwa:wAt l rs s i k=w:=by rw[wAt,hcie,hcke,hwe]
   obtain⟨hA,hA2⟩:=rZ h6 (i:=i);obtain⟨hB,hB2⟩:=rZ h6 (i:=k);have hgA:=LM h6 (i:=i) (k:=k);have hgB:=LM h6 (i:=k) (k:=i);have hml:i<q.length:=by rw[h6.1];omega
   have hml2:k<q.length:=by rw[h6.1];omega
   have hne:¬i=k:=by omega
   have hset:=arW (m:=q) (v:=w) (w:=w) hne;have hmm:ahY l rs s i k q=set2 (set2 q i k w) k i w:=by rw[ahY,hwa]
   rw[←hmm]at hset;simp[hwe];refine wdf [(13,[69,67,7,57,59,60,62,64,65]),(15,[70,68,7,57,59,60,62,64,65,69])] [(0,vC l),(4,.own (.bx true (mI rs))),(5,.own (.bx true (GI s))),(7,.own (mQ q)),(8,vI i),(9,.own (.bx true (DV ci))),(10,vI k),(12,vI w),(35,vC l),(36,vI l.length),(37,vI i),(44,vC (JA l i)),(45,vI i),(46,vI k)] [] (by simp) ?_;simp[hA,hB,hgA,hgB,hne,hset];refine nxa (k+1,ahY l rs s i k q) ⟨by omega,by rw[aL,←h5],(ahZ h6 (by omega) d)⟩
  ·simp at d;obtain rfl:k=i:=by omega
   simp;refine nxa (k+1,q) ⟨by omega,by rw[aL,←h2,h5];rfl,h6⟩
 ·simp at a;have hfin:weights l rs s=m:=by rw[←hbw,h2,show i=l.length by omega];rfl
  simp[hfin]
def aiN (l:List Ver)(hl:l.length<=8):(nK l).length<=8:=by
 unfold nK;rw[IP];have h0:(apart (gM l)).length<=8:=k_Nat_le_trans (bM _ _) (k_Nat_le_trans (ZB l) hl)
 have key:∀(L:List Ver) (st:L2×List Ver×List Ver) (C:List Ver),st.2.1.length<=8->(L.foldl (uO C) st).2.1.length<=8:=by
  intro L C0 C
  induction L generalizing C0 with
  |nil=>exact fun h=>h
  |cons v L ih=>
   intro h;rw[k_List_foldl_cons];refine ih _ ?_;unfold uO;split
   ·exact avG v (by rw[IP];exact h)
   ·exact h
 exact key _ _ _ h0
def XI (kept:List Ver)(items:L1)(hk:kept.length<=8)(hi:items.length<=8):(nU kept items).length<=16:=by
 have h1:(E9 (apart kept) items).length<=kept.length:=k_Nat_le_trans (jK _ _) (bM _ _)
 have h2:∀n,((List.range n).flatMap (rY (joined kept) items)).length<=n:=by
  intro n
  induction n with
  |zero=>simp
  |succ n ih=>
   rw[gD,List.flatMap_append,aO];have:=ZY (joined kept) items n;simp only[xR,List.flatMap_nil,dQ];omega
 have h3:=h2 items.length;unfold nU KD;rw[aO];omega
def tF (items:L1)(b:L1):L1:=b.map (at1 items ·.toNat)
def AB (c:Cfg)(s:Sto):L1:=nE (weights s.recs c.rules c.sco) (nU (nK s.vers) (s.recs.map kR))
def CY (c:Cfg)(s:Sto):L2:=(blocksP (AB c s)).map (tF (s.recs.map kR))
def xY (c:Cfg)(s:Sto):L2:=if(kS c&&iO s)=true then(if s.recs.length=0 then[]else CY c s)else[]
def EE (c:Cfg)(s:Sto):List Ver:=if(kS c&&iO s)=true then jO s.vers else[]
structure an3 (c:Cfg):Prop where
 rules:Qle c.rules
 rule:∀l∈c.rules,Qle l
 weights:Qle c.sco.weights
 surv:Qle c.surv
structure avD (s:Sto):Prop where
 recs:Qle s.recs
 rec1:∀r∈s.recs,EF r
 vers:Qle s.vers
def aiO {m:L2}(cs:List Con)(hm:bP m):(nE m cs).length=0\/(fQ (nE m cs)=true/\(nE m cs).length=m.length):=by
 have hml:=dK hm;unfold nE;split
 ·right;have h1:(nN m cs).length=m.length:=by rw[nN,oV,XY]
  exact⟨isPart_iff.2 ⟨JH _,by omega,by omega⟩,h1⟩
 ·left;rfl
def adX {l:L1}{n:Nat}(h:l.length=0\/(fQ l=true/\l.length=n))(v:Nat)(hv:v<(blocksP l).length):M3 n (gat (blocksP l) v)/\(gat (blocksP l) v).length<=n:=by
 rcases h with h|⟨h1,h2⟩
 ·rw[k_List_length_eq_zero_iff.1 h]at hv;simp[blocksP,loopN]at hv
 ·have:=PO (isPart_iff.1 h1).1 hv;rw[h2]at this;exact⟨this.1,this.2.2⟩
def avZ {c:Cfg}(h:kS c):iZ c.rules=true/\lM c.sco=true:=by
 simp only[kS,k_Bool_and_eq_true]at h;exact h.1
variable {s:Sto}
def PD (h:iO s):(∀r∈s.recs,bQ r=true)/\s.recs.length<=8/\kT s.vers=true/\s.vers.length<=8:=by
 simp only[iO,k_Bool_and_eq_true,decide_eq_true_eq,aI]at h;have h2:=h.2;simp only[kT,k_Bool_and_eq_true,decide_eq_true_eq]at h2;exact⟨h.1.1.1.1,h.1.2,h.2,h2.2⟩
def OD (c:Cfg)(s:Sto)(hc:an3 c)(hs:avD s):Fk 35 [afH c,TM s] (.tup [.val (bZ (xY c s)),vV (EE c s),vB (kS c&&iO s)]):=by
 refine fE [7,13,43] ntmps35 fun _ _=> ?_;simp;refine ck (MR c hc.rules hc.rule hc.weights hc.surv) ?_;simp;apply gv<;>intro a
 ·have a':=a;simp at a';have a2:kS c=false:=by simpa using a
  have hr1:xY c s=[]:=if_neg (by simp[a2]);have hr2:EE c s=[]:=if_neg (by simp[a2]);simp[a2];refine jV [] ((cO 4).trans (cO 5)) ?_;simp[a2,hr1,hr2]
 ·have a':=a;simp at a';have a2:kS c:=by simpa using a
  simp[a2];refine ck (DI s hs.recs hs.rec1 hs.vers) ?_;simp;apply gw<;>intro b
  ·simp at b;have hr1:xY c s=[]:=if_neg (by simp[b]);have hr2:EE c s=[]:=if_neg (by simp[b]);simp[b];refine jV [] ((cO 4).trans (cO 5)) ?_;simp[a2,b,hr1,hr2]
  ·simp at b;have hcv:=avZ a2;have hsv:=PD b;have hr1:xY c s=if s.recs.length=0 then[]else CY c s:=if_pos (by simp[a2,b])
   have hr2:EE c s=jO s.vers:=if_pos (by simp[a2,b]);simp[b];refine ck (uX s.vers (by omega) hsv.2.2.1) ?_;simp;apply gw<;>intro d
   ·have hr3:xY c s=[]:=by rw[hr1];exact if_pos (by simpa using d)
    simp;refine jV [] ((cO 4).trans (cO 5)) ?_;simp[a2,b,hr3,hr2]
   ·have hr3:xY c s=CY c s:=by rw[hr1];exact if_neg (by simpa using d)
    have hn:1<=s.recs.length/\s.recs.length<=8:=⟨by have:s.recs.length≠0:=(by simpa using d);omega,hsv.2.1⟩;obtain⟨items,hit⟩:∃items,items=s.recs.map kR:=⟨_,rfl⟩;have hit2:s.recs.map kR=items:=hit.symm;have hil:items.length=s.recs.length:=by rw[hit];simp
    have hmat:=JC c.rules c.sco hn;have hk8:=aiN s.vers hsv.2.2.2;simp;refine ck (TA s hs.recs hs.rec1 hs.vers b) ?_;simp[hit2];refine ck (NZ s.recs c.rules c.sco hn hsv.1 hcv.1 hcv.2 hc.rule hc.rules hc.weights) ?_;simp;refine ck (aaY (nK s.vers) items hk8 (by omega)) ?_;have hsc:=XI (nK s.vers) items hk8 (by omega);simp;refine fC (N7 (weights s.recs c.rules c.sco) (nU (nK s.vers) items) hmat (by omega)) (by simp) ?_;rintro r ⟨c1,e1,g1,rfl⟩;refine⟨by simp,?_⟩;have hlab:=aiO (nU (nK s.vers) items) hmat;have hlO:nE (weights s.recs c.rules c.sco) (nU (nK s.vers) items)=AB c s:=by rw[hit];rfl
    have hwl:(weights s.recs c.rules c.sco).length=s.recs.length:=by simp[weights]
    rw[hlO,hwl]at hlab;simp[hlO];refine ck (zF (AB c s) (by omega) (hlab.imp id And.left)) ?_;have hbs:=adX hlab;have hrc:CY c s=(blocksP (AB c s)).map (tF items):=by rw[hit];rfl
    have hbl:(blocksP (AB c s)).length<=8:=by rcases hlab with h|h;(rw[k_List_length_eq_zero_iff.1 h];simp[blocksP,loopN]);exact k_Nat_le_trans (blocksI (isPart_iff.1 h.1).1 (k_Nat_le_refl _)).len (by omega)
    clear hlO hlab;generalize blocksP (AB c s)=bs at*
    simp;refine wlt (Nat×L2) (fun(i,o)=>([(7,.own (mQ o)),(9,vV (jO s.vers)),(10,wN items),(15,.own (mQ bs)),(16,vI i)],bs.length-i,(i<=bs.length)/\(o=(bs.take i).map (tF items)))) ((0,[])) ⟨by omega,rfl⟩ ?_;rintro⟨i,o⟩ ⟨h1,h2⟩;simp;apply gw<;>intro e
    ·have hr:=aeM e;have hsel:=hbs i e;have hol:o.length<=8:=by rw[h2,aX,dD];omega
     have hgm:=yE (tF items) hr;generalize hbg:gat bs i=bb at hr hsel hgm|-
     simp;refine wlt (Nat×L1) (fun(j,g)=>([(7,.own (mQ o)),(9,vV (jO s.vers)),(10,wN items),(15,.own (mQ bs)),(16,vI i),(17,wN g),(18,vI j)],bb.length-j,(j<=bb.length)/\(g=tF items (bb.take j)))) ((0,[])) ⟨by omega,rfl⟩ ?_;rintro⟨j,g⟩ ⟨h3,h4⟩;simp[hr];apply gw<;>intro f
     ·have hg:=aV f;have hgx:=hsel.1.1 _ (aA hg);have ha0:0<=at1 bb j:=hgx.1;have hix:(at1 bb j).toNat<items.length:=by rw[hil];omega
      have hg2:=aV hix;have hgl:g.length<=8:=by rw[h4,tF,aX,dD];omega
      have hpk:tF items (bb.take (j+1))=g++[at1 items (at1 bb j).toNat]:=by rw[tF,yE _ hg,h4];rfl
      simp[hr,hg,ha0,hg2];refine nxb (j+1,g++[at1 items (at1 bb j).toNat]) ⟨by omega,hpk.symm⟩
     ·simp at f;have hgE:tF items bb=g:=by rw[h4,bS f]
      simp;refine nxb (i+1,o++[g]) ⟨by omega,by rw[hgm,hgE,←h2]⟩
    ·simp at e;have ho:CY c s=o:=by rw[hrc,h2,bS e]
     simp;refine jV [] ((cO 4).trans (cO 5)) ?_;simp[a2,b,hr3,ho,hr2]
def ag5 (h:bQ r):0<=r.source/\r.source<=3/\1<=r.key/\r.key<=99:=by
 simp only[bQ,inR,k_Bool_and_eq_true,decide_eq_true_eq]at h;omega
def axK (h:iO s):(∀x∈s.recs.map kR,inT x)/\(s.recs.map kR).Nodup:=by
 constructor
 ·intro x hx;obtain⟨r,hr,rfl⟩:=dF.1 hx;have:=ag5 ((PD h).1 r hr);unfold kR inT;omega
 ·simp only[iO,k_Bool_and_eq_true]at h;have h1:=an5 (R:=fun a b=>decide (kR a<kR b)) (fun a b c hab hbc=>by simp only[decide_eq_true_eq]at*;omega) h.1.1.1.2;unfold List.Nodup;rw[xS];exact h1.imp fun hab=>by simp only[decide_eq_true_eq]at hab;omega
def anP {P:Ver->Prop}:∀(L:List Ver) (st:List Ver×List Ver),(∀v∈st.1,P v)->(∀v∈L,P v)->∀v∈(L.foldl GR st).1,P v
 |[],st,h,_=>h
 |c::L,st,h,hL=>anP L (GR st c) (fun v hv=>by
   unfold GR at hv;split at hv
   ·exact h v hv
   ·rcases k_List_mem_append.1 hv with h1|h1
    ·exact h v h1
    ·rw[k_List_mem_singleton.1 h1];exact hL c wE) (fun v hv=>hL v (bG _ hv))
def apC {l:List Ver}(h:kT l):∀v∈nK l,fI v=true:=fun v hv=>by
 rw[←(aeT h).1]at hv;have hc:=(aoJ h).1;exact anP (P:=fun v=>fI v=true) _ _ (fun v hv=>hc v (dY.1 hv).1) (fun v hv=>hc v (dY.1 ((G6 _).mem_iff.1 hv)).1) v ((E5 _).mem_iff.1 hv)
def mxP (items:L1)(B:L2)(i:Nat):L2:=(B.take i).map (tF items)++B.drop i
def mxR (items b:L1)(j:Nat):L1:=tF items (b.take j)++b.drop j
variable {items:L1}{B:L2}
def abO (h:i<=B.length):(mxP items B i).length=B.length:=by simp[mxP];omega
def arA (h:i<B.length):(mxP items B i)[i]?=B[i]?:=by
 unfold mxP;rw[aY (by simp;omega),dR,aX,dD,fH (by omega),eH,kE]
variable {b:L1}
def aBS (h:B[i]?=some b):(mxP items B i).set i (tF items b)=mxP items B (i+1):=by
 have hi:=dM h;unfold mxP;have hl:((B.take i).map (tF items)).length=i:=by simp;omega
 rw[List.set_append,if_neg (by omega),hl,eH,bN hi,kN,dX h,jB,bO];rfl
def ax9 (h:B[i]?=some b):(mxP items B i).set i b=mxP items B i:=by
 apply jS;intro m;by_cases hm:i=m
 ·subst hm;have hi:=dM h;rw[bR (by rw[abO (by omega)];exact hi),arA hi,h]
 ·rw[bJ hm]
variable {j:Nat}
def aBZ (h:j<=b.length):(mxR items b j).length=b.length:=by simp[mxR,tF];omega
def aBY (h:j<b.length):(mxR items b j)[j]?=b[j]?:=by
 unfold mxR tF;rw[aY (by simp;omega),dR,aX,dD,fH (by omega),eH,kE]
def aB0 (h:j<b.length):(mxR items b j).set j (at1 items (at1 b j).toNat)=mxR items b (j+1):=by
 have hg:=aV h;unfold mxR tF;have hl:((b.take j).map (at1 items ·.toNat)).length=j:=by simp;omega
 have hd:b.drop j=at1 b j::b.drop (j+1):=by rw[bN h];rw[aB h]at hg;rw[k_Option_some_inj hg]
 rw[List.set_append,if_neg (by omega),hl,eH,hd,kN,dX hg,jB,bO];rfl
def aBX (items b:L1):mxR items b b.length=tF items b:=by simp[mxR]
def mxQ (items:L1)(B:L2)(i:Nat)(b:L1)(j:Nat):L2:=(mxP items B i).set i (mxR items b j)
def ayA (h:B[i]?=some b):mxQ items B i b 0=mxP items B i:=by
 have:mxR items b 0=b:=by simp[mxR,tF]
 rw[mxQ,this,ax9 h]
def aBV (h:i<=B.length):(mxQ items B i b j).length=B.length:=by rw[mxQ,rA,abO h]
def aBU (h:i<B.length):(mxQ items B i b j)[i]?=some (mxR items b j):=by rw[mxQ,bR (by rw[abO (by omega)];exact h)]
def aBW (h:i<B.length)(hj:j<b.length):((mxQ items B i b j).map dG).set i (D.sl (some 3) (((mxR items b j).map dI).set j (dI (at1 items (at1 b j).toNat))))=(mxQ items B i b (j+1)).map dG:=by
 rw[←List.map_set,aB0 hj];show((mxQ items B i b j).map dG).set i (dG (mxR items b (j+1)))=_;rw[←List.map_set,mxQ,mxQ,List.set_set]
def aBT (h:B[i]?=some b):mxQ items B i b b.length=mxP items B (i+1):=by rw[mxQ,aBX,aBS h]
def ZV (c:Cfg)(s:Sto):L2:=if s.recs.length=0 then[]else CY c s
def aaJ (c:Cfg)(s:Sto)(hc:kS c)(hs:iO s)(hsc:an3 c):Fk 57 [afH c,TM s] (.tup [.own (mQ (ZV c s)),wV (jO s.vers)]):=by
 refine fE [7] ntmps57 fun _ _=> ?_;have hcv:=avZ hc;have hsv:=PD hs;have hk8:=aiN s.vers hsv.2.2.2;have hkv:=apC hsv.2.2.1;simp;refine ck (uW s.vers (by omega) hsv.2.2.1) ?_;simp;apply gw<;>intro d
 ·have hr:ZV c s=[]:=if_pos (by simpa using d);try simp
  refine jV [] (KE (L:=[(4,.own (mQ [])),(5,wV (jO s.vers))]) (by simp)) ?_;simp[hr]
 ·have hr:ZV c s=CY c s:=if_neg (by simpa using d);have hn:1<=s.recs.length/\s.recs.length<=8:=⟨by have:s.recs.length≠0:=(by simpa using d);omega,hsv.2.1⟩;have hio:=axK hs;have hperm:=asJ hkv hio.1 hio.2;have hmat:=JC c.rules c.sco hn;have hcl:=ae5 hmat hperm;have hcl2:nE (weights s.recs c.rules c.sco) (nU (nK s.vers) (s.recs.map kR))=AB c s:=rfl;rw[hcl2]at hcl;have h16:=XI (nK s.vers) (s.recs.map kR) hk8 (by simp;omega);rw[←hperm.length_eq]at h16;have hlab:=aiO (nU (nK s.vers) (s.recs.map kR)) hmat;rw[hcl2]at hlab;have hrc:CY c s=(blocksP (AB c s)).map (tF (s.recs.map kR)):=rfl;have hwl:(weights s.recs c.rules c.sco).length=s.recs.length:=by simp[weights]
  rw[hwl]at hlab;obtain⟨items,hit⟩:∃items,s.recs.map kR=items:=⟨_,rfl⟩;rw[hit]at hio hperm hcl h16 hrc;have hil:items.length=s.recs.length:=by rw[←hit];simp
  simp;refine ck (SS s (by omega) (fun r hr=>by have:=ag5 (hsv.1 r hr);unfold kR;simp only[inI];omega)) ?_;simp[hit];refine ck (NJ s.recs c.rules c.sco hn hsv.1 hcv.1 hcv.2 hsc.rule hsc.rules hsc.weights) ?_;simp;refine ck (MM (nK s.vers) items hk8 (fun v hv=>⟨(rH (hkv v hv)).1,(rH (hkv v hv)).2.1⟩) (by omega) hio.1) ?_;simp;refine fC (NK (weights s.recs c.rules c.sco) (akE (nK s.vers) items) hmat (by omega)) (by simp) ?_;rintro r ⟨c1,e1,g1,rfl⟩;refine⟨by simp,?_⟩;simp[hcl];refine ck (NU (AB c s) (by omega) (hlab.imp id And.left)) ?_;have hbs:=adX hlab;have hbl:(blocksP (AB c s)).length<=8:=by rcases hlab with h|h;(rw[k_List_length_eq_zero_iff.1 h];simp[blocksP,loopN]);exact k_Nat_le_trans (blocksI (isPart_iff.1 h.1).1 (k_Nat_le_refl _)).len (by omega)
  clear hcl hlab hperm;generalize blocksP (AB c s)=B at*
  have hm0:mxP items B 0=B:=by simp[mxP]
  simp;refine wl (fun(i:Nat)=>[(7,wV (jO s.vers)),(8,wN items),(11,.own (mQ (mxP items B i))),(46,.al 11 []),(47,vI B.length),(48,vI i)]) (fun(i:Nat)=>B.length-i) (fun(i:Nat)=>(i<=B.length)) (0) (by omega) ?_ (h0:=by simp[hit,hm0]);rintro i h1;simp;apply gw<;>intro a
  ·obtain⟨b,hb⟩:=aQ (l:=B) (i:=i) a;have hmg:=arA (items:=items) a;rw[hb]at hmg;have hml:=abO (items:=items) h1;have hgb:gat B i=b:=by simp[gat,List.getD,hb]
   have hsel:=hbs i a;rw[hgb]at hsel;have hz:=ayA (items:=items) hb;simp[hmg];refine wl (fun(j:Nat)=>[(7,wV (jO s.vers)),(8,wN items),(11,.own (mQ (mxQ items B i b j))),(13,.al 11 [i]),(46,.al 11 []),(47,vI B.length),(48,vI i),(52,.al 11 [i]),(53,vI b.length),(54,vI j)]) (fun(j:Nat)=>b.length-j) (fun(j:Nat)=>(j<=b.length)) (0) (by omega) ?_ (h0:=by simp[hit,hmg,hml,hz]);rintro j h2;simp;apply gw<;>intro f
   ·have hg:=aV f;have hgx:=hsel.1.1 _ (aA hg);have hg3:=aV (l:=items) (i:=(at1 b j).toNat) (by rw[hil];have:=hgx.1;have:=hgx.2;omega);have hq1:=aBU (items:=items) (b:=b) (j:=j) a;have hq2:=aBV (items:=items) (b:=b) (j:=j) h1;have hq3:=aBY (items:=items) f;rw[hg]at hq3;have hq4:=aBW (items:=items) a f;have hq5:=aBZ (items:=items) (b:=b) (j:=j) (by omega);obtain⟨x,hx⟩:∃x,at1 b j=x:=⟨_,rfl⟩;rw[hx]at hg3 hq3 hq4 hgx;have hx0:=hgx.1;simp[hg3,hq1,hq3,hq4,hx0];refine nxa (j+1) (by omega)
   ·simp at f;obtain rfl:j=b.length:=by omega
    have hqa:=aBT (items:=items) hb;simp[hqa];refine nxa (i+1) (by omega)
  ·simp at a;obtain rfl:i=B.length:=by omega
   have hfin:CY c s=mxP items B B.length:=by rw[hrc];simp[mxP]
   simp[hr,hfin]
def W9 (c:Cfg)(s:Sto):(xY c s).length<=8/\∀r∈xY c s,r.length<=8:=by
 unfold xY;split
 ·rename_i h;rw[k_Bool_and_eq_true]at h;split
  ·simp
  ·rename_i hn;have hsv:=PD h.2;have hmat:=JC c.rules c.sco (l:=s.recs) ⟨by omega,hsv.2.1⟩;have hlab:=aiO (nU (nK s.vers) (s.recs.map kR)) hmat;have hwl:(weights s.recs c.rules c.sco).length=s.recs.length:=by simp[weights]
   rw[hwl]at hlab;have hbs:=adX hlab
   have hbl:(blocksP (AB c s)).length<=8:=by
    rcases hlab with h|h
    ·unfold AB;rw[k_List_length_eq_zero_iff.1 h];simp[blocksP,loopN]
    ·exact k_Nat_le_trans (blocksI (isPart_iff.1 h.1).1 (k_Nat_le_refl _)).len (by have:=h.2;have:=hsv.2.1;omega)
   unfold CY;refine⟨by rw[aX];exact hbl,fun r hr=> ?_⟩;obtain⟨b,hb,rfl⟩:=dF.1 hr;obtain⟨v,hv⟩:=dE hb;have hvl:=dM hv;have hg:gat (blocksP (AB c s)) v=b:=by simp[gat,List.getD,hv]
   have:=(hbs v hvl).2;have hg2:gat (blocksP (nE (weights s.recs c.rules c.sco) (nU (nK s.vers) (s.recs.map kR)))) v=b:=hg;rw[hg2]at this;rw[tF,aX];omega
 ·simp
def take_len:∀(L:List Ver) (st:List Ver×List Ver),(L.foldl GR st).1.length+(L.foldl GR st).2.length=st.1.length+st.2.length+L.length
 |[],st=>by simp
 |c::L,st=>by
  rw[k_List_foldl_cons,take_len L,aR];unfold GR;split<;>simp<;>omega
def XA (c:Cfg)(s:Sto):(EE c s).length<=8:=by
 unfold EE;split
 ·rename_i h;rw[k_Bool_and_eq_true]at h;have hv:=(PD h.2).2.2.1;rw[←(aeT hv).2,IP];have h1:=take_len (tQ (uN (gM s.vers))) (apart (gM s.vers),[]);have h2:=aiT (gM s.vers);have h3:=acQ s.vers;have h4:=(PD h.2).2.2.2;rw[acA]at h1;simp only[jA]at h1;unfold aeS;omega
 ·simp
end Go.Proofs.YtigjbamofhdchaaGreatDoor
end
