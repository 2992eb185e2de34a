/- Lemmas and walks that the law leans on, part V6. No condition. -/
import Derived.Test.YtnlkiflcbknaaaaGreatDoorV5
set_option linter.unusedVariables false
set_option linter.defProp false
set_option linter.unusedSimpArgs false
set_option linter.unusedSectionVars false
set_option maxRecDepth 10000
set_option maxHeartbeats 1000000
section
namespace Go.Proofs.YtnlkiflcbknaaaaGreatDoor
open Go.Dv Go.Pl Go.Proofs.Tryz
abbrev X5 (m:L2):D:= .sl (some 25) (m.map nInts)
def aDW (p q:L1)(hp:Qle p)(hq:Qle q):Fk 190 [nInts p,nInts q] (vI (iG p q)):=by
 refine fE [] ntmps190 fun _ _=> ?_;simp;refine wlt Nat (fun i=>([(0,vN p),(1,vN q),(9,vN p),(10,vI p.length),(11,vI i)],p.length-i,(i<=p.length)/\i<=q.length/\(p.take i=q.take i))) (0) ⟨by omega,by omega,rfl⟩ ?_;rintro i ⟨h1,h2,h3⟩;simp;apply gw<;>intro a
 ·obtain⟨c,hc⟩:=aR (l:=p) (i:=i);simp[hc];apply gw<;>intro b
  ·have hx:=adY h3 (dF hc) (by omega);simp[hx]
  ·simp at b;obtain⟨d,hd⟩:=aR (l:=q) (i:=i);simp[hd];refine ck (pW c d) ?_;simp;apply gw<;>intro e
   ·have hcd:c≠d:=by rintro rfl;simp[cmpI]at e
    have hx:iG p q=cmpI c d:=by rw[alY h3 hc hd hcd];unfold cmpI;split<;>(try rfl);rw[if_pos (by omega)]
    simp[hx]
   ·have hcd:c=d:=by unfold cmpI at e;split at e;omega;split at e<;>omega
    simp;refine nxa (i+1) ⟨by omega,by omega,(take_same h3 hc (by rw[hcd];exact hd))⟩
 ·simp at a;have hip:i=p.length:=by omega
  subst hip;rw[bV]at h3;have hx:=ahI h3;simp;apply gw<;>intro g
  ·rw[if_pos (by omega)]at hx;simp[hx]
  ·simp at g;rw[if_neg (by omega)]at hx;simp[hx]
def aD0 (l:L2)(cf:L1->L1->Int)(g:FuncId)(E:Dv.Enters prog g)(U:T (1000000+g)=⟨.no,0,.any 0⟩)(G:∀a∈l,∀b∈l,fK prog g [nInts a,nInts b] (fun r=>r=vI (cf a b)))(hl:Qle l):FO prog 347 [.one (.bool false),dI 0,dI l.length,.one (.func (.func g) #[] #[])] 0 (X5 l) (fun r d=>r= .tup []/\d=X5 (kT (cfB cf) l)):=by
 refine fM [] ntmps347 fun w0 ow0 v0=> ?_;have h00:=apA cf l;simp;refine ai ?_;refine wl (fun(i:Nat)=>[(0,.own (X5 (agC cf l i))),(1,vI 0),(2,vI l.length),(3,.val (.one (.func (.func g) #[] #[]))),(8,vI i)]) (fun(i:Nat)=>l.length-i) (fun(i:Nat)=>(1<=i/\i<=l.length+1)) (1) (by omega) ?_ (h0:=by simp[E,U,h00]);rintro i h1;simp;apply gw<;>intro a
 ·obtain⟨v,hv⟩:=aR (l:=l) (i:=i);have hin:OA cf l i i v=agC cf l i:=atZ (p:=cfB cf) hv;have hsl:=zV (p:=cfB cf) (l:=l) (i:=i);simp;refine wlt Nat (fun j=>([(0,.own (X5 (OA cf l i j v))),(1,vI 0),(2,vI l.length),(3,.val (.one (.func (.func g) #[] #[]))),(8,vI i),(9,vI j)],j,(j<=i)/\(∀k c,j<=k->(srt cf l i)[k]?=some c->cfB cf v c=true))) (i) ⟨by omega,(fun k c hk hc=>absurd (dF hc) (by unfold srt;omega))⟩ ?_ (h0:=by simp[E,U,h00,hin]);rintro j ⟨h2,h3⟩;have hnow:(OA cf l i j v)[j]?=some v:=ao7 a h2;simp;refine wdt 14 ?_;simp;apply gv<;>intro e
  ·have e':=e;obtain⟨c,hc⟩:=aR (l:=srt cf l i) (i:=j-1) (by unfold srt;omega);have hprev:(OA cf l i j v)[j-1]?=some c:=by have:=aiZ (p:=cfB cf) (v:=v) a (show j-1<i by omega) hc;rwa [show j-1+1=j by omega]at this
   have hj1:((j:Int)-1).toNat=j-1:=by omega
   have hsw:=ai1 nInts (v:=v) a ⟨by omega,h2⟩ hc;have hs2:∀x:D,(((OA cf l i j v).map nInts).set j x)[j-1]?=some (nInts c):=fun x=>by rw[bK (by omega),aQ,hprev];rfl
   have hj2:(j:Int)-1=((j-1:Nat):Int):=by omega
   simp[E,U,e,hnow,hprev,hj2];refine ai ?_;refine ck ((G v (aA hv) c (at7 hc))) ?_;simp;apply gw<;>intro b
   ·simp;refine wdh [2,3] [(15,[51,46,0,37,39,42,45,47,49,50]),(17,[52,50,0,37,39,42,45,46,47,49,51])] [(0,.own (X5 (OA cf l i j v))),(1,vI 0),(2,vI l.length),(3,.val (.one (.func (.func g) #[] #[]))),(8,vI i),(9,vI j),(39,.al 0 []),(40,vI j)] [] ?_;simp[hnow,hprev,hsw,hs2,hj2];refine ai ?_;refine nx (j-1) ⟨by omega,(fun k c2 hk hc2=>by by_cases hkj:k=j-1;(subst hkj;rw[hc]at hc2;cases hc2;exact decide_eq_true b);exact h3 k c2 (by omega) hc2)⟩
   ·simp at b;have ho:OA cf l i j v=agC cf l (i+1):=YS hv h2 h3 (.inr ⟨c,hc,by unfold cfB;exact decide_eq_false (by omega)⟩);simp[ho];refine nxa (i+1) (by omega)
  ·have e':=e;simp at e';have ho:OA cf l i j v=agC cf l (i+1):=YS hv h2 h3 (.inl (by omega));simp[e,ho];refine nxa (i+1) (by omega)
 ·simp at a;have ho:=ao9 cf (l:=l) (i:=i) (by omega);simp[ho]
def aD2 (l:L2)(k:Int)(cf:L1->L1->Int)(g:FuncId)(E:Dv.Enters prog g)(U:T (1000000+g)=⟨.no,0,.any 0⟩)(G:∀a∈l,∀b∈l,fK prog g [nInts a,nInts b] (fun r=>r=vI (cf a b)))(hl:l.length<=12):FO prog 285 [.one (.bool false),dI 0,dI l.length,dI k,.one (.func (.func g) #[] #[])] 0 (X5 l) (fun r d=>r= .tup []/\d=X5 (kT (cfB cf) l)):=by
 refine fM [] ntmps285 fun w0 ow0 v0=> ?_;simp;refine wl (fun(i:Nat)=>[(0,.own (X5 l)),(1,vI 0),(2,vI l.length),(3,vI k),(4,.val (.one (.func (.func g) #[] #[])))]) (fun(i:Nat)=>0) (fun(i:Nat)=>(i=0)) (0) (rfl) ?_;rintro i h1;have hlt:(l.length:Int)<=12:=by omega
 simp[hlt];refine ai ?_;refine gY rfl (aD0 l cf g E U G (by omega)) ?_;rintro r d ⟨rfl,rfl⟩;simp
def ahZ (l:L2)(cf:L1->L1->Int)(g:FuncId)(E:Dv.Enters prog g)(U:T (1000000+g)=⟨.no,0,.any 0⟩)(G:∀a∈l,∀b∈l,fK prog g [nInts a,nInts b] (fun r=>r=vI (cf a b)))(hl:l.length<=12):FO prog 189 [.one (.bool false),.one (.func (.func g) #[] #[])] 0 (X5 l) (fun r d=>r= .tup []/\d=X5 (kT (cfB cf) l)):=by
 refine fM [] ntmps189 fun w0 ow0 v0=> ?_;have hw:IntKind.u64.wrap (l.length:Int)=l.length:=by simp[IntKind.wrap,IntKind.bits,IntKind.signed];omega
 simp[hw];refine ck (aaS l.length (by omega)) ?_;simp;refine gY rfl (aD2 l (Lib.bitLen l.length) cf g E U G hl) ?_;rintro r d ⟨rfl,rfl⟩;simp
variable {α:Type}{p q:List α}{i:Nat}{c:α}
def as6 {d:α}(hc:p[i]?=some c)(hd:q[i]?=some d)(hn:c≠d):p≠q:=by rintro rfl;rw[hc]at hd;exact hn (k_Option_some_inj hd)
def RP (h:p.take i=q.take i)(hc:p[i]?=some c)(hd:q[i]?=some c):p.take (i+1)=q.take (i+1):=by rw[dM hc,dM hd,h]
def ac6 (h:p.take i=q.take i)(h1:p.length<=i:=by omega)(h2:q.length<=i:=by omega):p=q:=by rwa [bS h1,bS h2]at h
def K5 (p q:L1)(hp:Qle p)(hq:Qle q):Fk 193 [nInts p,nInts q] (vB (decide (p=q))):=by
 refine fE [] ntmps193 fun _ _=> ?_;simp;apply gw<;>intro e
 ·have hx:¬p=q:=by rintro rfl;omega
  simp[hx]
 ·simp;refine wlt Nat (fun i=>([(0,vN p),(1,vN q),(11,vN p),(12,vI p.length),(13,vI i)],p.length-i,(i<=p.length)/\(p.take i=q.take i))) (0) ⟨by omega,rfl⟩ ?_;rintro i ⟨h1,h2⟩;simp;apply gw<;>intro a
  ·obtain⟨c,hc⟩:=aR (l:=p) (i:=i);obtain⟨d,hd⟩:=aR (l:=q) (i:=i);simp;refine wdr ?_;simp[hc,hd];apply gw<;>intro b
   ·have hx:=as6 hc hd b;simp[hx]
   ·simp;refine nxa (i+1) ⟨by omega,(RP h2 hc (by rw[show c=d by omega];exact hd))⟩
  ·simp at a;have hx:=ac6 h2;simp[hx]
def vD (p q:List Ver)(hp:Qle p)(hq:Qle q):Fk 111 [nVers p,nVers q] (vB (decide (p=q))):=by
 refine fE [] ntmps111 fun _ _=> ?_;simp;apply gw<;>intro e
 ·have hx:¬p=q:=by rintro rfl;omega
  simp[hx]
 ·simp;refine wlt Nat (fun i=>([(0,vV p),(1,vV q),(11,vV p),(12,vI p.length),(13,vI i)],p.length-i,(i<=p.length)/\(p.take i=q.take i))) (0) ⟨by omega,rfl⟩ ?_;rintro i ⟨h1,h2⟩;simp;apply gw<;>intro a
  ·obtain⟨c,hc⟩:=aR (l:=p) (i:=i);obtain⟨d,hd⟩:=aR (l:=q) (i:=i);simp;refine wdr ?_;simp[hc,hd];apply gw<;>intro b
   ·simp at b;have hx:=as6 hc hd (by rintro rfl;simp at b);simp[hx]
   ·simp at b;have hcd:c=d:=by cases c;cases d;simp_all
    simp;refine nxa (i+1) ⟨by omega,(RP h2 hc (by rw[hcd];exact hd))⟩
  ·simp at a;have hx:=ac6 h2;simp[hx]
def aG4 (p q:L2)(g:FuncId)(E:Dv.Enters prog g)(U:T (1000000+g)=⟨.no,0,.any 0⟩)(G:∀a∈p,∀b∈q,fK prog g [nInts a,nInts b] (fun r=>r=vB (decide (a=b))))(hp:Qle p)(hq:Qle q):Fk 191 [cZ p,cZ q,.one (.func (.func g) #[] #[])] (vB (decide (p=q))):=by
 refine fE [] ntmps191 fun _ _=> ?_;simp;apply gw<;>intro e
 ·have hx:¬p=q:=by rintro rfl;omega
  simp[hx]
 ·simp;refine wlt Nat (fun i=>([(1,.val (cZ q)),(2,.val (.one (.func (.func g) #[] #[]))),(15,.val (cZ p)),(16,vI p.length),(17,vI i)],p.length-i,(i<=p.length)/\(p.take i=q.take i))) (0) ⟨by omega,rfl⟩ ?_;rintro i ⟨h1,h2⟩;simp;apply gw<;>intro a
  ·obtain⟨c,hc⟩:=aR (l:=p) (i:=i);obtain⟨d,hd⟩:=aR (l:=q) (i:=i);simp[E,U,hc,hd];refine ck ((G c (aA hc) d (aA hd))) ?_;simp;apply gw<;>intro b
   ·have hx:=as6 hc hd b;simp[hx]
   ·have hcd:c=d:=by simpa using b
    simp;refine nxa (i+1) ⟨by omega,(RP h2 hc (by rw[hcd];exact hd))⟩
  ·simp at a;have hx:=ac6 h2;simp[hx]
def PE (p q:L1)(hp:Qle p)(hq:Qle q):Fk 192 [nInts p,nInts q] (vB (decide (p=q))):=by
 refine fE [] ntmps192 fun _ _=> ?_;simp;refine ck (K5 p q hp hq) ?_;simp
def ahW (l:L2)(hl:Qle l):Fk 188 [cZ l] (.own (X5 l)):=by
 refine fE [2,5] ntmps188 fun _ _=> ?_;have hle:l.length<=1073741824:=by omega
 simp;refine aJS 1 ?_;simp[hle];intro hnil;subst hnil;try simp[hle]
 refine jX [] (GA (L:=[(2,.own (X5 []))]) (by simp)) ?_;simp
def gL (l:L2)(hl:∀r∈l,Qle r):∀a∈l,∀b∈l,fK prog 190 [nInts a,nInts b] (fun r=>r=vI (iG a b)):=fun a ha b hb=>aDW a b (hl a ha) (hl b hb)
def gE (p q:L2)(hp:∀r∈p,Qle r)(hq:∀r∈q,Qle r):∀a∈p,∀b∈q,fK prog 192 [nInts a,nInts b] (fun r=>r=vB (decide (a=b))):=fun a ha b hb=>PE a b (hp a ha) (hq b hb)
def azW (l:L2):kT (cfB iG) l=AJ l:=rfl
def UL (p q:L2)(hp:p.length<=12)(hq:q.length<=12)(hp1:∀r∈p,Qle r)(hq1:∀r∈q,Qle r):Fk 109 [cZ p,cZ q] (vB (decide (AJ p=AJ q))):=by
 refine fE [] ntmps109 fun _ _=> ?_;simp;refine ck (ahW p (by omega)) ?_;simp;refine ck (ahW q (by omega)) ?_;have hgp:=azW p;have hgq:=azW q;simp;refine gY rfl (ahZ p iG 190 aF6 aGC (gL p hp1) (by omega)) ?_;rintro r d ⟨rfl,rfl⟩;simp[hgp];refine gY rfl (ahZ q iG 190 aF6 aGC (gL q hq1) (by omega)) ?_;rintro r d ⟨rfl,rfl⟩;have hpl:=(wX p).length_eq;have hql:=(wX q).length_eq;simp[hgq];refine ck (aG4 (AJ p) (AJ q) 192 aIP aI5 (gE (AJ p) (AJ q) (fun r hr=>hp1 r ((wX p).mem_iff.1 hr)) (fun r hr=>hq1 r ((wX q).mem_iff.1 hr))) (by omega) (by omega)) ?_;simp
def JF (l:List Ent)(hl:Qle l):Fk 110 [yC l] (.own (X5 (l.map Ent.mem))):=by
 refine fE [] ntmps110 fun _ _=> ?_;simp;refine wlt (Nat×L2) (fun(i,o)=>([(3,.own (X5 o)),(6,.val (yC l)),(7,vI l.length),(8,vI i)],l.length-i,(i<=l.length)/\(o=(l.take i).map Ent.mem))) ((0,[])) ⟨by omega,rfl⟩ ?_;rintro⟨i,o⟩ ⟨h1,h2⟩;simp;apply gw<;>intro a
 ·obtain⟨c,hc⟩:=aR (l:=l) (i:=i);have hm:=uA Ent.mem hc;have hol:o.length=i:=by rw[h2];simp;omega
  rw[←h2]at hm;simp[hc];refine nxb (i+1,o++[c.mem]) ⟨by omega,by rw[hm]⟩
 ·simp at a;rw[bS]at h2;have hr:l.map Ent.mem=o:=h2.symm;simp[hr]
def PU {o g:L1}{k:Nat}(h:k<g.length)(hp:P6 o g k=false):ae1 o g=false:=by unfold ae1;rw[mZ h hp];rfl
def V8 (G:L2)(hG:Qle G)(hs:∀r∈G,Qle r):Fk 180 [cZ G] (vB (CJ [] G)):=by
 refine fE [] ntmps180 fun _ _=> ?_;simp;refine wlt (Nat×L1) (fun(i,o)=>([(3,wN o),(8,.val (cZ G)),(9,vI G.length),(10,vI i)],G.length-i,(i<=G.length)/\(CJ [] G=CJ o (G.drop i))/\(o.length<=8))) ((0,[])) ⟨by omega,rfl,by simp⟩ ?_;rintro⟨i,o⟩ ⟨h1,h2,h3⟩;simp;apply gw<;>intro a
 ·obtain⟨c,hc⟩:=aR (l:=G) (i:=i);have hcl:=hs c (aA hc);have hdr:=drop_at hc;rw[hdr,CJ]at h2;simp[hc];refine wlt Nat (fun k=>([(3,wN o),(5,vN c),(8,.val (cZ G)),(9,vI G.length),(10,vI i),(14,vN c),(15,vI c.length),(16,vI k)],c.length-k,(k<=c.length)/\((List.range k).all (P6 o c)=true))) (0) ⟨by omega,rfl⟩ ?_;rintro k ⟨h4,h5⟩;simp;apply gw<;>intro b
  ·have hx:=aY b;simp[hx];refine ck (C8 (at1 c k)) ?_;simp;apply gv<;>intro e
   ·have e':=e;simp at e';have hn:=PU (o:=o) b (by simp[P6];omega);rw[hn,iQ]at h2;simp[e,h2]
   ·have e':=e;simp at e';simp[e];apply gv<;>intro f
    ·have f':=f;have hp:=aY (l:=c) (i:=k-1);simp[f,hp];iterate 2 refine ai ?_
     apply gv<;>intro g
     ·have g':=g;have hn:=PU (o:=o) b (by simp[P6];omega);rw[hn,iQ]at h2;simp[g,h2]
     ·have g':=g;simp at g';simp[g];refine ck (pY o (at1 c k) (by omega)) ?_;simp;apply gw<;>intro q
      ·simp at q;have hn:=PU (o:=o) b (by simp[P6];simp_all);rw[hn,iQ]at h2;simp[h2]
      ·simp at q;simp;refine nxa (k+1) ⟨by omega,(oH h5 (by simp[P6];exact⟨⟨by omega,by omega⟩,q⟩))⟩
    ·have f':=f;simp at f';simp[f];refine ck (pY o (at1 c k) (by omega)) ?_;simp;apply gw<;>intro q
     ·simp at q;have hn:=PU (o:=o) b (by simp[P6];simp_all);rw[hn,iQ]at h2;simp[h2]
     ·simp at q;simp;refine nxa (k+1) ⟨by omega,(oH h5 (by simp[P6];exact⟨⟨by omega,by omega⟩,q⟩))⟩
  ·simp at b;obtain rfl:k=c.length:=by omega
   simp;refine ai ?_;apply gv<;>intro g
   ·have g':=g;rw[show ae1 o c=false by rw[g];rfl,iQ]at h2;simp[g,h2]
   ·have g':=g;simp[g];apply gw<;>intro r
    ·rw[ae2 (G.drop (i+1)) (all:=o++c) (by simp;omega),Bool.and_false]at h2;simp[h2]
    ·simp at r;rw[show ae1 o c=true by unfold ae1;rw[h5];simp[g],eZ]at h2;simp;refine nxa (i+1,o++c) ⟨by omega,h2,by simp;omega⟩
 ·simp at a;rw[bO a,CJ]at h2;have hx:CJ [] G:=by rw[h2];simp;omega
  simp[hx]
def RV (l:List Ent)(hl:Qle l)(hs:∀e∈l,Qle e.mem):Fk 104 [yC l] (vB (uK l)):=by
 refine fE [] ntmps104 fun _ _=> ?_;simp;refine wlt Nat (fun i=>([(0,.val (yC l)),(5,.val (yC l)),(6,vI l.length),(7,vI i)],l.length-i,(i<=l.length)/\((l.take i).all idB=true)/\(adj aj5 (l.take i)=true))) (0) ⟨by omega,rfl,rfl⟩ ?_;rintro i ⟨h1,h2,h3⟩;simp;apply gw<;>intro a
 ·obtain⟨c,hc⟩:=aR (l:=l) (i:=i);simp[hc];refine wdr ?_;simp;refine cd (bI c.id 1 9999) ?_;simp;apply gv<;>intro e
  ·have e':=e;simp at e';have hn:=fV hc (P:=idB) (by simp[idB];omega);simp[e];grind[uK]
  ·have e':=e;simp at e';simp[e];apply gv<;>intro f
   ·have f':=f;obtain⟨p,hp⟩:=aR (l:=l) (i:=i-1);have hi1:i-1+1=i:=by omega
    simp[f,hp];iterate 2 refine ai ?_
    apply gw<;>intro b
    ·have hn:=JV hp (by rw[hi1];exact hc) (R:=aj5) (by simp[aj5];omega);simp;grind[uK]
    ·simp at b;simp;refine nxa (i+1) ⟨by omega,(bX hc h2 (by simp[idB];omega)),by have:=yZ (i:=i-1) (by rw[hi1];exact h3) hp (by rw[hi1];exact hc) (by simp[aj5];omega);rwa [hi1]at this⟩
   ·have f':=f;simp at f';simp[f];refine nxa (i+1) ⟨by omega,(bX hc h2 (by simp[idB];omega)),(by obtain rfl:i=0:=(by omega);exact vW)⟩
 ·simp at a;have hf:=iX h2 a;rw[bS a]at h3;have hms:∀r∈l.map Ent.mem,Qle r:=fun r hr=>by obtain⟨e,he,rfl⟩:=dG.1 hr;exact hs e he
  simp;refine ck (JF l hl) ?_;simp;refine ckz (V8 (l.map Ent.mem) (by simp;omega) hms) ?_;simp;grind[uK]
def KU (e:Ent)(x:wP):Fk 107 [akH e,.bx false (nSys x)] (vB (decide (x.next<=e.id))):=by
 refine fE [] ntmps107 fun _ _=> ?_;simp
def aqU (l:List Ent)(p:Ent->Bool)(g:FuncId)(b:Nat)(d:D)(F:d.fz=d)(E:Dv.Enters prog g)(U:T (1000000+g)=⟨.no,0,.any 0⟩)(G:∀c∈l,fK prog g [akH c,.bx false d] (fun r=>r=vB (p c)))(hl:Qle l):yY prog 181 [yC l,.one (.func (.func g) #[] #[.pointer (some ⟨b,0,none⟩)])] [(b,d)] (fun res'=>res'=vI (ix p l)):=by
 refine fB [] ntmps181 fun _ _=> ?_;simp;refine wlt Nat (fun i=>([(0,.val (yC l)),(1,.val (.one (.func (.func g) #[] #[.pointer (some ⟨b,0,none⟩)]))),(7,vI l.length),(8,vI i),(1000000+2*b,.rp (d))],l.length-i,(i<=l.length)/\((l.take i).any p=false))) (0) ⟨by omega,rfl⟩ ?_;rintro i ⟨h1,h2⟩;simp;apply gw<;>intro a
 ·obtain⟨c,hc⟩:=aR (l:=l) (i:=i);simp[E,U,F,hc];refine ck ((G c (aA hc))) ?_;simp;apply gw<;>intro e
  ·have hn:=CK hc h2 (by simp[e]);simp[hn]
  ·simp;refine nxa (i+1) ⟨by omega,(kL hc h2 (by simp[e]))⟩
 ·simp at a;have hf:=oL h2 a;have hx:=rQ hf;simp[hx]
def avI (l:List Ent)(p:Ent->Bool)(g:FuncId)(b:Nat)(d:D)(F:d.fz=d)(E:Dv.Enters prog g)(U:T (1000000+g)=⟨.no,0,.any 0⟩)(G:∀c∈l,fK prog g [akH c,.bx false d] (fun r=>r=vB (p c)))(hl:Qle l):yY prog 106 [yC l,.one (.func (.func g) #[] #[.pointer (some ⟨b,0,none⟩)])] [(b,d)] (fun res'=>res'=vB (l.any p)):=by
 refine fB [] ntmps106 fun _ _=> ?_;have hq:decide (0<=ix p l)=l.any p:=by rw[bQ,decide_eq_true_eq];exact jB
 simp[F];refine ckB (aqU l p g b d F E U G hl) ?_;simp[hq]
def zF (x:wP):Bool:=kZ x.cfg&&gN x.sto&&uK x.ents&&inR x.next 1 9999&& !(x.ents.any fun e=>decide (x.next<=e.id))&&decide (AJ (x.ents.map Ent.mem)=AJ (aa8 x.cfg x.sto))&&decide (x.ref=jV x.sto.vers)
def nSys_fz (x:wP):(nSys x).fz=nSys x:=by simp[D.fz,D.fzs,D.jP]
def qN (x:wP)(hx:vY x):Fk 60 [nSys x] (vB (zF x)):=by
 refine fE [] ntmps60 fun _ _=> ?_;have hme:∀e∈x.ents,Qle e.mem:=fun e he=>k_Nat_le_trans (P7 he) hx.mem;simp;refine ck (NP x.cfg hx.cfg.rules hx.cfg.rule hx.cfg.weights hx.cfg.surv) ?_;simp;apply gv<;>intro e
 ·have e':=e;simp at e';simp[e];grind[zF]
 ·have e':=e;simp at e';simp[e];refine ck (O4 x.sto hx.sto.recs hx.sto.rec1 hx.sto.vers) ?_;simp;apply gv<;>intro f
  ·have f':=f;simp at f';simp[f];grind[zF]
  ·have f':=f;simp at f';simp[f];refine ck (RV x.ents hx.ents hme) ?_;simp;apply gv<;>intro g
   ·have g':=g;simp at g';simp[g];grind[zF]
   ·have g':=g;simp at g';simp[g];refine ck (bI x.next 1 9999) ?_;simp;apply gw<;>intro b
    ·simp at b;simp;grind[zF]
    ·simp at b;have hr1:yV x.cfg x.sto=aa8 x.cfg x.sto:=if_pos (by simp[e',f']);have hr2:FD x.cfg x.sto=jV x.sto.vers:=if_pos (by simp[e',f']);have hro:=YM x.cfg x.sto;have hrf:=YN x.cfg x.sto;rw[hr1]at hro;rw[hr2]at hrf;have hel:=(adG g').2;have hms:∀r∈x.ents.map Ent.mem,Qle r:=fun r hr=>by obtain⟨e,he,rfl⟩:=dG.1 hr;exact hme e he
     simp[e',f',g',b];intro bo;refine ckB (avI x.ents (fun e=>decide (x.next<=e.id)) 107 bo (nSys x) (nSys_fz x) en107 mu107 (fun c _=>KU c x) hx.ents) ?_;simp;apply gw<;>intro q
     ·simp at q;simp;grind[zF]
     ·simp at q;simp;refine ck (abT x.cfg x.sto e' f' hx.cfg) ?_;simp;refine ck (JF x.ents hx.ents) ?_;simp;refine ckz (UL (x.ents.map Ent.mem) (aa8 x.cfg x.sto) (by simp;omega) (by omega) hms (fun r hr=>by have:=hro.2 r hr;omega)) ?_;simp;apply gv<;>intro w
      ·have w':=w;simp[w];refine ck (vD x.ref (jV x.sto.vers) hx.ref (by omega)) ?_;simp;grind[zF]
      ·have w':=w;simp[w];grind[zF]
end Go.Proofs.YtnlkiflcbknaaaaGreatDoor
end
section
namespace Go.Proofs.YtnlkiflcbknaaaaGreatDoor
open Go.Dv Go.Pl
open Go.ChangeShapes Go.WideShapes Go.ChangeAt Go.RowKit Go.Er
section
variable {H:Type}{enc:TypeId×Value->H}{W:World}{cs:List Value}
def aH4 (h:Tr enc Tryz.prog W 93 cs):∃e:Ent,e.mem.length<=9223372036854775807/\Rd Tryz.prog W (akH e) cs:=by
 have hl:=zH Tryz.underlying93 (n:=2) (by kernel_rfl) h;have hf:=zG Tryz.underlying93 h;obtain⟨a,h0⟩:=open_int Tryz.underlying3 (hf 0 _ rfl 0 1 rfl (by kernel_rfl));obtain⟨l,q,h1⟩:=ak1 (hf 1 _ rfl 1 1 rfl (by kernel_rfl));exact⟨⟨a,l⟩,q,KC (jQ h0 (jQ h1 (KA hl)))⟩
def aFS (h:Tr enc Tryz.prog W 34 cs):∃l:List Ent,aGR l/\Rd Tryz.prog W (yC l) cs:=
 MV Tryz.underlying34 (k:=2) (by kernel_rfl) (by decide) (fun vs h=>aH4 h) h
def aCT (h:Tr enc Tryz.prog W 36 cs):∃x:wP,aDA x/\Rd Tryz.prog W (nSys x) cs:=by
 have hl:=zH Tryz.underlying36 (n:=10) (by kernel_rfl) h;have hf:=zG Tryz.underlying36 h;obtain⟨c,⟨q1,q2,q3⟩,h0⟩:=aH3 (hf 0 _ rfl 0 4 rfl (by kernel_rfl));obtain⟨s,⟨q4,q5⟩,h1⟩:=aH7 (hf 1 _ rfl 4 3 rfl (by kernel_rfl));obtain⟨e,q6,h2⟩:=aFS (hf 2 _ rfl 7 1 rfl (by kernel_rfl));obtain⟨n,h3⟩:=open_int Tryz.underlying3 (hf 3 _ rfl 8 1 rfl (by kernel_rfl));obtain⟨l,q7,h4⟩:=auH (hf 4 _ rfl 9 1 rfl (by kernel_rfl));exact⟨⟨c,s,e,n,l⟩,⟨q1,q2,q3,q4,q5,q6,q7⟩,KC (jQ h0 (jQ h1 (jQ h2 (jQ h3 (jQ h4 (KA hl))))))⟩
end
end Go.Proofs.YtnlkiflcbknaaaaGreatDoor
end
section
namespace Go.Proofs.YtnlkiflcbknaaaaGreatDoor
open Go.Dv Go.Pl Go.Proofs.Tryz
abbrev v0:Ver:=⟨0,0,false,0⟩
def okSys_of {x:wP}(h:zF x):kZ x.cfg=true/\gN x.sto=true/\uK x.ents=true:=by
 simp only[zF,k_Bool_and_eq_true]at h;exact⟨h.1.1.1.1.1.1,h.1.1.1.1.1.2,h.1.1.1.1.2⟩
def azY (id:Int)(r:Rec):Bool:=decide (eG r=id)
def FI (s:Sto)(id:Int):Int:=ix (azY id) s.recs
def uQ (s:Sto)(id:Int)(hs:Qle s.recs)(hv:∀r∈s.recs,bG r):Fk 37 [MS s,dI id] (vI (FI s id)):=by
 refine fE [] ntmps37 fun _ _=> ?_;simp;refine wlt Nat (fun i=>([(1,vI id),(2,.own (.bx true (MS s))),(5,vI i)],(s.recs).length-i,(i<=(s.recs).length)/\(((s.recs).take i).any (azY id)=false))) (0) ⟨by omega,rfl⟩ ?_;rintro i ⟨h1,h2⟩;simp;apply gw<;>intro a
 ·obtain⟨c,hc⟩:=aR (l:=s.recs) (i:=i);have hvr:=hv c (aA hc);have h1:=DV hvr;simp[hc];first|refine ck (tO c (by simp;omega) (by simp;omega)) ?_|refine ckz (tO c (by simp;omega) (by simp;omega)) ?_
  simp;apply gw<;>intro e
  ·have hn:=CK hc h2 (by simp[azY,e]);simp;grind[FI]
  ·simp;refine nxa (i+1) ⟨by omega,(kL hc h2 (by simp[azY,e]))⟩ (h3:=by simp[hc])
 ·simp at a;have hf:=oL h2 a;have hx:=rQ hf;simp;grind[FI]
structure Rsn where
 a:Int
 b:Int
 kind:Int
 rule:Int
deriving instance DecidableEq,Inhabited for Rsn
abbrev r0:Rsn:=⟨0,0,0,0⟩
def aiQ (s:Sto)(i:Int):Rec:=(s.recs[i.toNat]?).getD default
def aeH {s:Sto}{id:Int}(h:0<=FI s id):s.recs[(FI s id).toNat]?=some (aiQ s (FI s id))/\eG (aiQ s (FI s id))=id:=by
 obtain⟨i,h1,h2,_,h4⟩:=am7 (p:=azY id) (l:=s.recs) (by unfold FI at h;omega);unfold aiQ FI;rw[h1,iB,aB h2];exact⟨rfl,of_decide_eq_true (h4 _ (aB h2))⟩
def aaR (a b:Rec)(ha:bG a)(hb:bG b):fK prog 42 [nP a,nP b] (fun r=>r= .val (bT (sN a b))):=(KY a b ha hb).azN
def aoR (a b:Rec)(ha:bG a)(hb:bG b):fK prog 39 [nP a,nP b] (fun r=>r= .val (bT (sN a b))):=(EI a b ha hb).azN
def aeW (p q:L1)(hp:Qle p)(hq:Qle q):Fk 53 [nInts p,nInts q] (vI (iG p q)):=by
 refine fE [] ntmps53 fun _ _=> ?_;simp;refine wlt Nat (fun i=>([(0,vN p),(1,vN q),(5,vI i)],p.length-i,(i<=p.length)/\i<=q.length/\(p.take i=q.take i))) (0) ⟨by omega,by omega,rfl⟩ ?_;rintro i ⟨h1,h2,h3⟩;simp;apply gv<;>intro g
 ·have g':=g;simp[g];apply gw<;>intro b
  ·obtain⟨c,hc⟩:=aR (l:=p) (i:=i);obtain⟨d,hd⟩:=aR (l:=q) (i:=i);simp;refine wdr ?_;simp[hc,hd];apply gw<;>intro e
   ·have hx:iG p q=cmpI c d:=by rw[alY h3 hc hd e];unfold cmpI;split<;>(try rfl);rw[if_pos (by omega)]
    simp;refine wdt 9 ?_;simp[hc,hd];refine cd (sF c d) ?_;simp[hx]
   ·simp;refine nxa (i+1) ⟨by omega,by omega,(take_same h3 hc (by rw[show c=d by omega];exact hd))⟩
  ·simp at b;have hx:iG p q=cmpI p.length q.length:=by rw[adY h3 g (by omega)];unfold cmpI;rw[if_neg (by omega),if_pos (by omega)]
   simp;refine ck (sF p.length q.length) ?_;simp[hx]
 ·have g':=g;simp at g';have hip:i=p.length:=by omega
  subst hip;rw[bV]at h3;have hx:iG p q=cmpI p.length q.length:=by rw[ahI h3];unfold cmpI;split;rw[if_pos (by omega)];rw[if_neg (by omega),if_neg (by omega)]
  simp[g];refine ck (sF p.length q.length) ?_;simp[hx]
variable {o:L1}{x:Int}
def az5 (h:0<=ix (fun y=>decide (y=x)) o):x∈o:=by obtain⟨y,h1,h2⟩:=dH.1 (jB.1 h);rw[←of_decide_eq_true h2];exact h1
def atH (h:ix (fun y=>decide (y=x)) o<0):∀y∈o,¬x=y:=fun y hy e=>by have:=(jB (P:=fun y=>decide (y=x)) (l:=o)).2 (dH.2 ⟨y,hy,decide_eq_true e.symm⟩);omega
def UZ (G:L2):Nat:=(G.map List.length).sum
def XD (G:L2)(hG:Qle G)(hs:UZ G<=1048576):Fk 97 [cZ G] (vB (CJ [] G)):=by
 refine fE [] ntmps97 fun _ _=> ?_;simp;refine wlt (Nat×L1) (fun(i,o)=>([(0,.val (cZ G)),(3,wN o),(4,vI i)],G.length-i,(i<=G.length)/\(CJ [] G=CJ o (G.drop i))/\(o.length+UZ (G.drop i)<=1048576))) ((0,[])) ⟨by omega,rfl,by simpa using hs⟩ ?_;rintro⟨i,o⟩ ⟨h1,h2,h3⟩;simp;apply gw<;>intro a
 ·obtain⟨c,hc⟩:=aR (l:=G) (i:=i);have hdr:=drop_at hc;rw[hdr,CJ]at h2;rw[hdr]at h3;have hls:UZ (c::G.drop (i+1))=c.length+UZ (G.drop (i+1)):=by simp[UZ]
  simp;refine wlt Nat (fun k=>([(0,.val (cZ G)),(3,wN o),(4,vI i),(5,vI k)],c.length-k,(k<=c.length)/\((List.range k).all (P6 o c)=true))) (0) ⟨by omega,rfl⟩ ?_;rintro k ⟨h4,h5⟩;simp[hc];apply gw<;>intro b
  ·have hx:=aY b;simp;refine wdr ?_;simp[hc,hx];refine cd (bJ (at1 c k) 1 399) ?_;simp;apply gv<;>intro e
   ·have e':=e;simp at e';have hn:=PU (o:=o) b (by simp[P6];omega);rw[hn,iQ]at h2;simp[e,h2]
   ·have e':=e;simp at e';simp[e];apply gv<;>intro f
    ·have f':=f;have hp:=aY (l:=c) (i:=k-1);simp[hc,hx,f,hp];iterate 2 refine ai ?_
     apply gv<;>intro g
     ·have g':=g;have hn:=PU (o:=o) b (by simp[P6];omega);rw[hn,iQ]at h2;simp[g,h2]
     ·have g':=g;simp at g';simp[hc,hx,g];refine cd (oD o (at1 c k) (by omega)) ?_;simp;apply gw<;>intro q
      ·have hn:=PU (o:=o) b (by have:=az5 q;simp[P6];simp_all);rw[hn,iQ]at h2;simp[h2]
      ·simp at q;simp;refine nxa (k+1) ⟨by omega,(oH h5 (by have:=atH q;simp[P6];exact⟨⟨by omega,by omega⟩,this⟩))⟩
    ·have f':=f;simp at f';simp[hc,hx,f];refine cd (oD o (at1 c k) (by omega)) ?_;simp;apply gw<;>intro q
     ·have hn:=PU (o:=o) b (by have:=az5 q;simp[P6];simp_all);rw[hn,iQ]at h2;simp[h2]
     ·simp at q;simp;refine nxa (k+1) ⟨by omega,(oH h5 (by have:=atH q;simp[P6];exact⟨⟨by omega,by omega⟩,this⟩))⟩
  ·simp at b;obtain rfl:k=c.length:=by omega
   simp[hc];apply gw<;>intro g
   ·rw[show ae1 o c=false by rw[g];rfl,iQ]at h2;simp[h2]
   ·rw[show ae1 o c=true by unfold ae1;rw[h5];simp[g],eZ]at h2;simp[hc];refine nxb (i+1,o++c) ⟨by omega,h2,by rw[aP];omega⟩
 ·simp at a;rw[bO a,CJ]at h2;simp[h2];omega
def XO (l:List Ent)(hl:Qle l)(hs:∀e∈l,Qle e.mem):Fk 98 [yC l] (.own (mY (l.map Ent.mem))):=by
 refine fE [] ntmps98 fun _ _=> ?_;simp;refine wlt (Nat×L2) (fun(i,o)=>([(0,.val (yC l)),(3,.own (mY o)),(4,vI i)],l.length-i,(i<=l.length)/\(o=(l.take i).map Ent.mem))) ((0,[])) ⟨by omega,rfl⟩ ?_;rintro⟨i,o⟩ ⟨h1,h2⟩;simp;apply gw<;>intro a
 ·obtain⟨c,hc⟩:=aR (l:=l) (i:=i);have hm:=uA Ent.mem hc;have hol:o.length=i:=by rw[h2];simp;omega
  have hcl:=hs c (aA hc);rw[←h2]at hm;simp[hc];refine nxd (i+1,o++[c.mem]) ⟨by omega,by rw[hm]⟩
 ·simp at a;rw[bS]at h2;have hr:l.map Ent.mem=o:=h2.symm;simp[hr]
def anZ (l:List Ent):UZ (l.map Ent.mem)=DN l:=by simp[UZ,DN];rfl
def SE (l:List Ent)(hl:Qle l)(hs:DN l<=1048576):Fk 51 [yC l] (vB (uK l)):=by
 refine fE [] ntmps51 fun _ _=> ?_;have hme:∀e∈l,Qle e.mem:=fun e he=>k_Nat_le_trans (P7 he) hs;simp;refine wlt Nat (fun i=>([(0,.val (yC l)),(3,vI i)],l.length-i,(i<=l.length)/\((l.take i).all idB=true)/\(adj aj5 (l.take i)=true))) (0) ⟨by omega,rfl,rfl⟩ ?_;rintro i ⟨h1,h2,h3⟩;simp;apply gw<;>intro a
 ·obtain⟨c,hc⟩:=aR (l:=l) (i:=i);simp;refine wdr ?_;simp[hc];refine cd (bJ c.id 1 9999) ?_;simp;apply gv<;>intro e
  ·have e':=e;simp at e';have hn:=fV hc (P:=idB) (by simp[idB];omega);simp[e];grind[uK]
  ·have e':=e;simp at e';simp[e];apply gv<;>intro f
   ·have f':=f;obtain⟨p,hp⟩:=aR (l:=l) (i:=i-1);have hi1:i-1+1=i:=by omega
    simp[hc,f,hp];iterate 2 refine ai ?_
    apply gw<;>intro b
    ·have hn:=JV hp (by rw[hi1];exact hc) (R:=aj5) (by simp[aj5];omega);simp;grind[uK]
    ·simp at b;simp;refine nxa (i+1) ⟨by omega,(bX hc h2 (by simp[idB];omega)),by have:=yZ (i:=i-1) (by rw[hi1];exact h3) hp (by rw[hi1];exact hc) (by simp[aj5];omega);rwa [hi1]at this⟩
   ·have f':=f;simp at f';simp[f];refine nxa (i+1) ⟨by omega,(bX hc h2 (by simp[idB];omega)),(by obtain rfl:i=0:=(by omega);exact vW)⟩
 ·simp at a;have hf:=iX h2 a;rw[bS a]at h3;simp;refine ck (XO l hl hme) ?_;have hls:=anZ l;simp;refine ckz (XD (l.map Ent.mem) (by simp;omega) (by omega)) ?_;simp;grind[uK]
variable {i:Nat}
def ax4 {α:Type}(p:α->Bool){l:List α}{c:α}(h:l[i]?=some c):(l.take (i+1)).any p=((l.take i).any p||p c):=by rw[dM h];simp
def aBJ (x:wP):zF x=((kZ x.cfg&&gN x.sto)&&uK x.ents&&inR x.next 1 9999&&decide (FD x.cfg x.sto=x.ref)&&decide ((yV x.cfg x.sto).length=x.ents.length)&&x.ents.all (entOk (yV x.cfg x.sto) x.next)):=by
 by_cases hv:(kZ x.cfg&&gN x.sto)=true
 ·have hr1:yV x.cfg x.sto=aa8 x.cfg x.sto:=if_pos hv;have hr2:FD x.cfg x.sto=jV x.sto.vers:=if_pos hv;rw[hr1,hr2,zF,hv];by_cases ha:uK x.ents=true
  ·have hs:=aCM (aa8 x.cfg x.sto) x.next ha;have he:decide (x.ref=jV x.sto.vers)=decide (jV x.sto.vers=x.ref):=by rw[bQ];simp[eq_comm]
   rw[ha,he,xP _ _ (x.ents.all _),hs];simp only[eZ,xP];rw[Bool.and_comm (decide (AJ _=_)) (decide _),Bool.and_left_comm (!_)]
  ·simp[Bool.not_eq_true _▸ha]
 ·rw[Bool.not_eq_true]at hv;rw[zF,hv];rfl
def qR (x:wP)(hx:vY x):Fk 21 [nSys x] (vB (zF x)):=by
 rw[aBJ];refine fE [] ntmps21 fun _ _=> ?_;have hro:=YM x.cfg x.sto;have hrf:=YN x.cfg x.sto;simp;refine ck (PO x.cfg x.sto hx.cfg hx.sto) ?_;simp;apply gv<;>intro e
 ·have e':=e;simp at e';simp[e];grind
 ·have e':=e;simp at e';simp[e];refine ck (SE x.ents hx.ents hx.mem) ?_;simp;apply gv<;>intro f
  ·have f':=f;simp at f';simp[f];grind
  ·have f':=f;simp at f';simp[f];refine ck (bJ x.next 1 9999) ?_;simp;apply gv<;>intro g
   ·have g':=g;simp at g';simp[g];omega
   ·have g':=g;simp at g';simp[e',f',g'];apply gv<;>intro b
    ·have b':=b;have hn:¬FD x.cfg x.sto=x.ref:=fun h=>by rw[h]at b;omega
     simp[e',f',g',b,hn]
    ·have b':=b;simp[b];apply gw<;>intro d
     ·have hn:¬(yV x.cfg x.sto).length=x.ents.length:=fun h=>by omega
      simp[e',f',g',hn]
     ·have hge:(yV x.cfg x.sto).length=x.ents.length:=by omega
      have hce:=hx.ents;have hre:(FD x.cfg x.sto).length=x.ref.length:=by omega
      generalize FD x.cfg x.sto=R at*
      generalize yV x.cfg x.sto=G at*
      simp[hge];refine wlt Nat (fun i=>([(1,.own (.bx true (nSys x))),(3,.val (cZ G)),(4,vV R),(6,vI i)],R.length-i,(i<=R.length)/\(R.take i=x.ref.take i))) (0) ⟨by omega,rfl⟩ ?_;rintro i ⟨h1,h2⟩;simp[b];apply gw<;>intro a
      ·obtain⟨c,hc⟩:=aR (l:=R) (i:=i);obtain⟨v,hd⟩:=aR (l:=x.ref) (i:=i);simp;refine wdr ?_;simp[hc,hd];apply gw<;>intro k
       ·simp at k;have hn:=as6 hc hd (by rintro rfl;simp at k);simp[e',f',g',hge,hn]
       ·simp at k;have hcd:c=v:=by cases c;cases v;simp_all
        simp;refine nxa (i+1) ⟨by omega,(RP h2 hc (by rw[hcd];exact hd))⟩
      ·simp at a;have hn:=ac6 h2;simp[hn];refine wlt Nat (fun i=>([(1,.own (.bx true (nSys x))),(3,.val (cZ G)),(4,vV R),(7,vI i)],(x.ents).length-i,(i<=(x.ents).length)/\(((x.ents).take i).all (entOk G x.next)=true))) (0) ⟨by omega,rfl⟩ ?_ (h0:=by simp[e,f,g,e',f',g',b,hge,hn]);rintro i ⟨h1,h2⟩;simp[hn];apply gw<;>intro a
       ·obtain⟨c,hc⟩:=aR (l:=x.ents) (i:=i);have hcl:Qle c.mem:=k_Nat_le_trans (P7 (aA hc)) hx.mem;obtain⟨p,hp⟩:∃p:L1->Bool,(fun y=>decide (y=c.mem))=p:=⟨_,rfl⟩;simp;refine wlt (Nat×Bool) (fun(k,s)=>([(1,.own (.bx true (nSys x))),(3,.val (cZ G)),(4,vV R),(7,vI i),(8,vB s),(9,vI k)],G.length-k,(k<=G.length)/\(s=(G.take k).any p))) ((0,false)) ⟨by omega,by simp⟩ ?_ (h0:=by simp[e,f,g,e',f',g',b,hge,hn,hc]);rintro⟨k,s⟩ ⟨h3,h4⟩;simp[hge,hn];apply gw<;>intro b2
        ·obtain⟨r,hr⟩:=aR (l:=G) (i:=k);have hrl:=hro.2 r (aA hr);have hany:=ax4 p hr;rw[←h4]at hany;simp;refine wdt 15 ?_;simp;apply gv<;>intro w
         ·have w':=w;simp[w];refine nxa (k+1,true) ⟨by omega,by rw[hany,w];rfl⟩ (h3:=by simp[e,f,g,e',f',g',b,hge,hn,hc,hr,w])
         ·have w':=w;simp[hc,hr,w];refine cd (aeW r c.mem (by omega) hcl) ?_;simp;refine nxa (k+1,decide (iG r c.mem=0)) ⟨by omega,by rw[hany,w',←hp];simp[aqB]⟩ (h3:=by simp[e,f,g,e',f',g',b,hge,hn,hc,hr,w])
        ·simp at b2;have hso:s=aAN G c:=by rw[h4,bS,←hp];rfl
         simp;refine wdr ?_;simp;apply gv<;>intro w
         ·have w':=w;simp at w';have hn:=fV hc (P:=(entOk G x.next)) (by rw[entOk,←hso];simp_all);simp[e',f',g',hge,w,hn]
         ·have w':=w;simp at w';simp[hc,w];apply gw<;>intro q
          ·have hn:=fV hc (P:=(entOk G x.next)) (by rw[entOk,←hso];simp;omega);simp[e',f',g',hge,hn]
          ·simp at q;simp;refine nxa (i+1) ⟨by omega,(bX hc h2 (by rw[entOk,←hso];simp_all))⟩ (h3:=by simp[e,f,g,e',f',g',b,hge,hn,hc,w])
       ·simp at a;have hf:=iX h2 a;simp[e',f',g',hge,hf];omega
def X6 (k:Int):Str:=109::(if k<=0 then[48]else lV k.natAbs)
def ZJ (k:Int)(hk:k<=9000000000000000000):Fk 197 [dI k] (vS (X6 k)):=by
 refine fE [] ntmps197 fun _ _=> ?_;simp;apply gw<;>intro e
 ·have hr:X6 k=[109,48]:=by rw[X6,if_pos e]
  simp[hr]
 ·simp at e;simp;refine wlt (Int×Str) (fun(j,s)=>([(0,vI j),(3,vS s)],j.toNat,(0<=j/\j<=k)/\(lV j.natAbs++s=lV k.natAbs))) ((k,[])) ⟨by omega,by simp⟩ ?_;rintro⟨j,s⟩ ⟨h0,h1⟩;have hlen:s.length<=19:=by have h3:=congrArg List.length h1;have h4:=MU k.natAbs 19 (by (try unfold Qle);rw[show(10:Nat)^19=10000000000000000000 by rfl];omega);simp only[aP]at h3;omega
  simp;apply gw<;>intro a
  ·have ht:j.tmod 10=(j.natAbs % 10:Nat):=by rw[Int.tmod_eq_emod_of_nonneg (by omega)];omega
   have hq:j.tdiv 10=(j.natAbs/10:Nat):=by rw[kP (by omega)];omega
   have hdec:=uV (m:=j.natAbs);obtain⟨c,hc⟩:∃c:UInt8,c=UInt8.ofNat (48+j.natAbs % 10):=⟨_,rfl⟩;have hu8:(48+(j.natAbs:Int) % 10) % 256=(c.toNat:Int):=by rw[hc,rU];omega
   have hu9:IntKind.u8.wrap (48+(j.natAbs:Int) % 10)=(c.toNat:Int):=by rw[←hu8];simp[IntKind.wrap,IntKind.bits,IntKind.signed]
   have hnt:(j.natAbs:Int)=j:=by omega
   simp[ht,hq,hu9];refine nxd ((j.natAbs/10:Nat),c::s) ⟨by omega,by rw[Int.natAbs_natCast,←h1,hdec,hc];simp⟩
  ·simp at a;have hj:j=0:=by omega
   rw[hj]at h1;have hs:s=lV k.natAbs:=by simpa[uJ]using h1
   have hr:X6 k=109::s:=by rw[X6,if_neg (by omega),hs]
   simp[hr];omega
def U4 (l:List Str)(k:Int)(i:Nat):List Str:=(List.range i).map (fun j:Nat=>X6 (k+(j:Int)))++l.drop i
variable {k:Int}
def aAZ {l:List Str}(h:i<=l.length):(U4 l k i).length=l.length:=by simp[U4];omega
def aAY {l:List Str}(h:i<l.length):(U4 l k i)[i]?=l[i]?:=by
 unfold U4;rw[aN (by simp)];simp
def aA0 {l:List Str}(h:i<l.length):(U4 l k i).set i (X6 (k+i))=U4 l k (i+1):=by
 unfold U4;rw[List.set_append,if_neg (by simp),aK,List.length_range,cO,aX h,eF,dY,eB];simp
def av8 (l:List Str)(k:Int):U4 l k 0=l:=by simp[U4]
def afG (n:Nat)(k:Int):List Str:=(List.range n).map fun j:Nat=>X6 (k+(j:Int))
def aAX (l:List Str)(k:Int):U4 l k l.length=afG l.length k:=by simp[U4,afG]
def SC (l:List Str)(k:Int)(hl:Qle l)(hk:0<=k/\k<=1000000000000000):FO prog 115 [.one (.bool false),dI k] 0 (YB l) (fun r d=>r=vI (k+l.length)/\d=YB (afG l.length k)):=by
 refine fM [] ntmps115 fun w0 ow0 v0=> ?_;have hz:=av8 l k;rw[show YB l=YB (U4 l k 0) by rw[hz]];simp;refine wl (fun(i:Nat)=>[(0,wE (U4 l k i)),(1,vI (k+i)),(5,vI i)]) (fun(i:Nat)=>l.length-i) (fun(i:Nat)=>(i<=l.length)) (0) (by omega) ?_;rintro i h1;have hml:=aAZ (k:=k) h1;simp[hml];apply gw<;>intro a
 ·obtain⟨c,hc⟩:=aR (l:=l) (i:=i);have hg:=aAY (k:=k) (l:=l) (i:=i) (by omega);rw[hc]at hg;have hst:((U4 l k i).map dS).set i (dS (X6 (k+i)))=(U4 l k (i+1)).map dS:=by rw[←List.map_set,aA0 (by omega)]
  simp;refine ck (ZJ (k+i) (by omega)) ?_;have hadd:k+(i:Int)+1=k+((i:Int)+1):=by omega
  simp[hg,hst,hadd];refine nxb (i+1) (by first|omega|(simp;omega)|grind)
 ·simp at a;obtain rfl:i=l.length:=by omega
  have hfa:=aAX l k;simp[hfa]
def marksI (n:Nat)(k:Int):L1:=(List.range n).map fun j:Nat=>k+(j:Int)
def U3 (l:L1)(k:Int)(i:Nat):L1:=marksI i k++l.drop i
variable {l:L1}
def aAR (h:i<=l.length):(U3 l k i).length=l.length:=by simp[U3,marksI];omega
def aAQ (h:i<l.length):(U3 l k i)[i]?=l[i]?:=by
 unfold U3 marksI;rw[aN (by simp)];simp
def aAS (h:i<l.length):(U3 l k i).set i (k+i)=U3 l k (i+1):=by
 unfold U3 marksI;rw[List.set_append,if_neg (by simp),aK,List.length_range,cO,aX h,eF,dY,eB];simp
def av6 (l:L1)(k:Int):U3 l k 0=l:=by simp[U3,marksI]
def aAP (l:L1)(k:Int):U3 l k l.length=marksI l.length k:=by simp[U3]
def C9 (l:L1)(k:Int)(hl:Qle l)(hk:0<=k/\k<=1000000000000000):FO prog 70 [.one (.bool false),dI k] 0 (bT l) (fun r d=>r=vI (k+l.length)/\d=bT (marksI l.length k)):=by
 refine fM [] ntmps70 fun w0 ow0 v0=> ?_;have hz:=av6 l k;rw[show bT l=bT (U3 l k 0) by rw[hz]];simp;refine wl (fun(i:Nat)=>[(0,wN (U3 l k i)),(1,vI (k+i)),(5,vI i)]) (fun(i:Nat)=>l.length-i) (fun(i:Nat)=>(i<=l.length)) (0) (by omega) ?_;rintro i h1;have hml:=aAR (k:=k) h1;simp[hml];apply gw<;>intro a
 ·obtain⟨c,hc⟩:=aR (l:=l) (i:=i);have hg:=aAQ (k:=k) (l:=l) (i:=i) (by omega);rw[hc]at hg;have hst:((U3 l k i).map dI).set i (dI (k+i))=(U3 l k (i+1)).map dI:=by rw[←List.map_set,aAS (by omega)]
  have hadd:k+(i:Int)+1=k+((i:Int)+1):=by omega
  simp[hg,hst,hadd];refine nxb (i+1) (by first|omega|(simp;omega)|grind)
 ·simp at a;obtain rfl:i=l.length:=by omega
  have hfa:=aAP l k;simp[hfa]
def aEP (k:Int):Tst:=⟨k,k+1,decide ((k+2).tmod 3=0)⟩
def xG (n:Nat)(k:Int):List Tst:=(List.range n).map fun j:Nat=>aEP (k+3*(j:Int))
def yS (l:List Tst)(k:Int)(i:Nat):List Tst:=xG i k++l.drop i
def arI {l:List Tst}(h:i<=l.length):(yS l k i).length=l.length:=by simp[yS,xG];omega
def arH {l:List Tst}(h:i<l.length):(yS l k i)[i]?=l[i]?:=by
 unfold yS xG;rw[aN (by simp)];simp
def arJ {l:List Tst}(h:i<l.length):(yS l k i).set i (aEP (k+3*i))=yS l k (i+1):=by
 unfold yS xG;rw[List.set_append,if_neg (by simp),aK,List.length_range,cO,aX h,eF,dY,eB];simp
def aoA (l:List Tst)(k:Int):yS l k 0=l:=by simp[yS,xG]
def arG (l:List Tst)(k:Int):yS l k l.length=xG l.length k:=by simp[yS]
def WS (l:List Tst)(k:Int)(hl:Qle l)(hk:0<=k/\k<=1000000000000000):FO prog 196 [.one (.bool false),dI k] 0 (.sl (some 215) (l.map uI)) (fun r d=>r=vI (k+3*l.length)/\d= .sl (some 215) ((xG l.length k).map uI)):=by
 refine fM [] ntmps196 fun w0 ow0 v0=> ?_;have hz:=aoA l k;rw[show l.map uI=(yS l k 0).map uI by rw[hz]];simp;refine wl (fun(i:Nat)=>[(0,.own (.sl (some 215) ((yS l k i).map uI))),(1,vI (k+3*i)),(5,vI i)]) (fun(i:Nat)=>l.length-i) (fun(i:Nat)=>(i<=l.length)) (0) (by omega) ?_;rintro i h1;have hml:=arI (k:=k) h1;simp[hml];apply gw<;>intro a
 ·obtain⟨c,hc⟩:=aR (l:=l) (i:=i);have hg:=arH (k:=k) (l:=l) (i:=i) (by omega);rw[hc]at hg;have hst:((yS l k i).map uI).set i (uI (aEP (k+3*i)))=(yS l k (i+1)).map uI:=by rw[←List.map_set,arJ (by omega)]
  have hsg:∀v:D,(((yS l k i).map uI).set i v)[i]?=some v:=fun v=>by rw[bE (by (try unfold Qle);rw[aK];omega)]
  have hqn:k+3*(i:Int)+3=k+3*((i:Int)+1):=by omega
  obtain⟨q,hq⟩:∃q,k+3*(i:Int)=q:=⟨_,rfl⟩;have hqb:0<=q/\q<=1000010000000000:=by omega
  rw[hq]at hst hqn;have a2:q+1+1=q+2:=by omega
  have a3:q+2+1=q+3:=by omega
  have a4:q+3+1=q+4:=by omega
  simp only[aEP]at hst;simp[hg,hq,hsg,a2,a3,hst,hqn];iterate 4 refine ai ?_
  refine nx (i+1) (by omega)
 ·simp at a;obtain rfl:i=l.length:=by omega
  have hfa:=arG l k;simp[hfa]
def aEQ (k:Int):Ver:=⟨k,k+1,decide ((k+2).tmod 3=0),k+3⟩
def IC (n:Nat)(k:Int):List Ver:=(List.range n).map fun j:Nat=>aEQ (k+4*(j:Int))
def yT (l:List Ver)(k:Int)(i:Nat):List Ver:=IC i k++l.drop i
def arM {l:List Ver}(h:i<=l.length):(yT l k i).length=l.length:=by simp[yT,IC];omega
def arL {l:List Ver}(h:i<l.length):(yT l k i)[i]?=l[i]?:=by
 unfold yT IC;rw[aN (by simp)];simp
def arN {l:List Ver}(h:i<l.length):(yT l k i).set i (aEQ (k+4*i))=yT l k (i+1):=by
 unfold yT IC;rw[List.set_append,if_neg (by simp),aK,List.length_range,cO,aX h,eF,dY,eB];simp
def aoB (l:List Ver)(k:Int):yT l k 0=l:=by simp[yT,IC]
def arK (l:List Ver)(k:Int):yT l k l.length=IC l.length k:=by simp[yT]
def EF (l:List Ver)(k:Int)(hl:Qle l)(hk:0<=k/\k<=1000000000000000):FO prog 36 [.one (.bool false),dI k] 0 (.sl (some 102) (l.map kH)) (fun r d=>r=vI (k+4*l.length)/\d= .sl (some 102) ((IC l.length k).map kH)):=by
 refine fM [] ntmps36 fun w0 ow0 v0=> ?_;have hz:=aoB l k;rw[show l.map kH=(yT l k 0).map kH by rw[hz]];simp;refine wl (fun(i:Nat)=>[(0,.own (.sl (some 102) ((yT l k i).map kH))),(1,vI (k+4*i)),(5,vI i)]) (fun(i:Nat)=>l.length-i) (fun(i:Nat)=>(i<=l.length)) (0) (by omega) ?_;rintro i h1;have hml:=arM (k:=k) h1;simp[hml];apply gw<;>intro a
 ·obtain⟨c,hc⟩:=aR (l:=l) (i:=i);have hg:=arL (k:=k) (l:=l) (i:=i) (by omega);rw[hc]at hg;have hst:((yT l k i).map kH).set i (kH (aEQ (k+4*i)))=(yT l k (i+1)).map kH:=by rw[←List.map_set,arN (by omega)]
  have hsg:∀v:D,(((yT l k i).map kH).set i v)[i]?=some v:=fun v=>by rw[bE (by (try unfold Qle);rw[aK];omega)]
  have hqn:k+4*(i:Int)+4=k+4*((i:Int)+1):=by omega
  obtain⟨q,hq⟩:∃q,k+4*(i:Int)=q:=⟨_,rfl⟩;have hqb:0<=q/\q<=1000010000000000:=by omega
  rw[hq]at hst hqn;have a2:q+1+1=q+2:=by omega
  have a3:q+2+1=q+3:=by omega
  have a4:q+3+1=q+4:=by omega
  simp only[aEQ]at hst;simp[hg,hq,hsg,a2,a3,a4,hst,hqn];iterate 5 refine ai ?_
  refine nx (i+1) (by omega)
 ·simp at a;obtain rfl:i=l.length:=by omega
  have hfa:=arK l k;simp[hfa]
def zI (m:List (List Tst)):Int:=(m.map fun r=>3*(r.length:Int)).sum
def mRu:List (List Tst)->Int->List (List Tst)
 |[],_=>[]
 |r::m,k=>xG r.length k::mRu m (k+3*r.length)
def acY:∀(m:List (List Tst)) (k:Int),(mRu m k).length=m.length
 |[],_=>rfl
 |r::m,k=>by simp[mRu,acY m]
variable {m:List (List Tst)}{c:List Tst}
def ar4 (h:m[i]?=some c):zI (m.take (i+1))=zI (m.take i)+3*c.length:=by unfold zI;rw[uA _ h];simp
def atN:∀(m:List (List Tst)) (k:Int) (c:List Tst),mRu (m++[c]) k=mRu m k++[xG c.length (k+zI m)]
 |[],k,c=>by simp[mRu,zI]
 |r::m,k,c=>by
  simp only[fZ,mRu,atN m];simp[zI,Int.add_assoc]
def af3 (hs:∀r∈m,Qle r):0<=zI m/\zI m<=3145728*m.length:=by
 induction m with
 |nil=>simp[zI]
 |cons r m ih=>
  have h1:=ih (fun x hx=>hs x (aV _ hx));have h2:=hs r iW;simp only[zI,fC,List.sum_cons,aS]at h1|-
  omega
def U5 (m:List (List Tst))(k:Int)(i:Nat):List (List Tst):=mRu (m.take i) k++m.drop i
def aA3 (h:i<=m.length):(U5 m k i).length=m.length:=by simp[U5,acY];omega
def aA2 (h:i<m.length):(U5 m k i)[i]?=m[i]?:=by
 have hl:(mRu (m.take i) k).length=i:=by simp[acY];omega
 unfold U5;rw[aN (by omega),hl];simp
def aA4 (h:m[i]?=some c):(U5 m k i).set i (xG c.length (k+zI (m.take i)))=U5 m k (i+1):=by
 have hi:=dF h;have hl:(mRu (m.take i) k).length=i:=by simp[acY];omega
 unfold U5;rw[List.set_append,if_neg (by omega),hl,cO,aX hi,eF,dM h,atN];simp
def av9 (m:List (List Tst))(k:Int):U5 m k 0=m:=by simp[U5,mRu]
def aA1 (m:List (List Tst))(k:Int):U5 m k m.length=mRu m k:=by simp[U5]
def WQ (m:List (List Tst))(k:Int)(hn:Qle m)(hs:∀r∈m,Qle r)(hk:0<=k/\k<=100000000000):FO prog 114 [.one (.bool false),dI k] 0 (.sl (some 160) (m.map xH)) (fun r d=>r=vI (k+zI m)/\d= .sl (some 160) ((mRu m k).map xH)):=by
 refine fM [] ntmps114 fun w0 ow0 v0=> ?_;have hz:=av9 m k;rw[show m.map xH=(U5 m k 0).map xH by rw[hz]];have hr0:zI []=0:=rfl;simp;refine wl (fun(i:Nat)=>[(0,.own (.sl (some 160) ((U5 m k i).map xH))),(1,vI (k+zI (m.take i))),(5,vI i)]) (fun(i:Nat)=>m.length-i) (fun(i:Nat)=>(i<=m.length)) (0) (by omega) ?_ (h0:=by simp[hr0]);rintro i h1;have hml:=aA3 (k:=k) h1;have hrs:=af3 (m:=m.take i) (fun r hr=>hs r (fI hr));have htl:Qle (m.take i):=by simp;omega
 simp[hml];apply gw<;>intro a
 ·obtain⟨c,hc⟩:=aR (l:=m) (i:=i);have hg:=aA2 (k:=k) (m:=m) (i:=i) (by omega);rw[hc]at hg;have hcl:=hs c (aA hc);have hsn:=ar4 hc;have hst:=aA4 (k:=k) hc;obtain⟨q,hq⟩:∃q,k+zI (m.take i)=q:=⟨_,rfl⟩;have hqb:0<=q/\q<=1000000000000000:=by omega
  rw[hq]at hst;have hst2:((U5 m k i).map xH).set i (xH (xG c.length q))=(U5 m k (i+1)).map xH:=by rw[←List.map_set,hst]
  have hqn:q+3*(c.length:Int)=k+zI (m.take (i+1)):=by rw[hsn];omega
  simp[hg,hq];refine gY rfl (WS c q hcl hqb) ?_;rintro r d ⟨rfl,rfl⟩;simp[hg,hst2,hqn];refine nxa (i+1) (by omega)
 ·simp at a;have hil:i=m.length:=by omega
  subst hil;have hfa:=aA1 m k;have hta:m.take m.length=m:=bV;simp[hfa,hta]
def AP (m:List Rec):Int:=(m.map fun r=>3+(r.fields.length:Int)).sum
def ar0 {m:List Rec}{c:Rec}(h:m[i]?=some c):AP (m.take (i+1))=AP (m.take i)+(3+c.fields.length):=by unfold AP;rw[uA _ h];simp
def afW {m:List Rec}(hs:∀r∈m,Qle r.fields):0<=AP m/\AP m<=1048579*m.length:=by
 induction m with
 |nil=>simp[AP]
 |cons r m ih=>
  have h1:=ih (fun x hx=>hs x (aV _ hx));have h2:=hs r iW;simp only[AP,fC,List.sum_cons,aS]at h1|-
  omega
def aHA (r:Rec)(k:Int):Rec:=⟨k,k+1,k+2,afG r.fields.length (k+3)⟩
def mRc:List Rec->Int->List Rec
 |[],_=>[]
 |r::m,k=>aHA r k::mRc m (k+(3+r.fields.length))
def acX:∀(m:List Rec) (k:Int),(mRc m k).length=m.length
 |[],_=>rfl
 |r::m,k=>by simp[mRc,acX m]
def atM:∀(m:List Rec) (k:Int) (c:Rec),mRc (m++[c]) k=mRc m k++[aHA c (k+AP m)]
 |[],k,c=>by simp[mRc,AP]
 |r::m,k,c=>by
  simp only[fZ,mRc,atM m];simp[AP,Int.add_assoc]
def SI (m:List Rec)(k:Int)(i:Nat):List Rec:=mRc (m.take i) k++m.drop i
def aAV {m:List Rec}(h:i<=m.length):(SI m k i).length=m.length:=by simp[SI,acX];omega
def aAU {m:List Rec}(h:i<m.length):(SI m k i)[i]?=m[i]?:=by
 have hl:(mRc (m.take i) k).length=i:=by simp[acX];omega
 unfold SI;rw[aN (by omega),hl];simp
def aAW {m:List Rec}{c:Rec}(h:m[i]?=some c):(SI m k i).set i (aHA c (k+AP (m.take i)))=SI m k (i+1):=by
 have hi:=dF h;have hl:(mRc (m.take i) k).length=i:=by simp[acX];omega
 unfold SI;rw[List.set_append,if_neg (by omega),hl,cO,aX hi,eF,dM h,atM];simp
def av7 (m:List Rec)(k:Int):SI m k 0=m:=by simp[SI,mRc]
def aAT (m:List Rec)(k:Int):SI m k m.length=mRc m k:=by simp[SI]
def R9 (l:List Rec)(k:Int)(hn:Qle l:=by first|omega|grind)(hs:∀r∈l,Qle r.fields:=by first|omega|grind)(hk:0<=k/\k<=10000000000000:=by first|omega|grind):FO prog 71 [.one (.bool false),dI k] 0 (.sl (some 74) (l.map J9)) (fun r d=>r=vI (k+AP l)/\d= .sl (some 74) ((mRc l k).map J9)):=by
 refine fM [] ntmps71 fun w0 ow0 v0=> ?_;have hz:=av7 l k;rw[show l.map J9=(SI l k 0).map J9 by rw[hz]];have hr0:AP []=0:=rfl;simp[hr0];repeat with_reducible refine ai ?_
 refine wl (fun(i:Nat)=>[(0,.own (.sl (some 74) ((SI l k i).map J9))),(1,vI (k+AP (l.take i))),(5,vI i)]) (fun(i:Nat)=>l.length-i) (fun(i:Nat)=>(i<=l.length)) (0) (by omega) ?_ (h0:=by simp[hr0]);rintro i h1;have hml:=aAV (k:=k) h1;have hrs:=afW (m:=l.take i) (fun r hr=>hs r (fI hr));have htl:Qle (l.take i):=by simp;omega
 simp[hml];repeat with_reducible refine ai ?_
 apply gw<;>intro a
 ·try simp at a
  obtain⟨c,hc⟩:=aR (l:=l) (i:=i);have hg:=aAU (k:=k) (m:=l) (i:=i) (by omega);rw[hc]at hg;have hcl:=hs c (aA hc);have hsn:=ar0 hc;have hst:=aAW (k:=k) hc;obtain⟨q,hq⟩:∃q,k+AP (l.take i)=q:=⟨_,rfl⟩;have hqb:0<=q/\q<=1000000000000000:=by omega
  rw[hq]at hst;have a2:q+1+1=q+2:=by omega
  have a3:q+2+1=q+3:=by omega
  have hsg:∀v:D,(((SI l k i).map J9).set i v)[i]?=some v:=fun v=>by rw[bE (by (try unfold Qle);rw[aK];omega)]
  have hqn:q+3+(c.fields.length:Int)=k+AP (l.take (i+1)):=by rw[hsn];omega
  simp[hml,hg,hq,a2,a3,hsg];repeat with_reducible refine ai ?_
  refine gY rfl (SC c.fields (q+3) hcl (by omega)) ?_;rintro r d ⟨rfl,rfl⟩;have hst2:((SI l k i).map J9).set i (.agg [dI q,dI (q+1),dI (q+2),YB (afG c.fields.length (q+3))])=(SI l k (i+1)).map J9:=by rw[←hst,jA];rfl
  simp[hml,hg,hq,a2,a3,hsg,hst2,hqn];repeat with_reducible refine ai ?_
  refine nx (i+1) (by omega) (h3:=by simp[hml,hg,hq,a2,a3,hsg,hst2,hqn])
 ·try simp at a
  have hil:i=l.length:=by omega
  subst hil;have hfa:=aAT l k;have hta:l.take l.length=l:=bV;simp[hml,hfa,hta];repeat with_reducible refine ai ?_
  all_goals first|done|omega|(simp only[inI];omega)|grind|(simp;omega)|(simp_all;done)|(simp_all;omega)
def SA (m:List (List Tst))(k:Int)(hn:Qle m)(hs:∀r∈m,Qle r)(hk:0<=k/\k<=100000000000):ac8 prog 68 [.one (.bool false),dI k] 0 (.agg [.sl (some 160) (m.map xH)]) (fun res'=>res'=vI (k+zI m)):=by
 refine fT [] ntmps68 fun _ _=> ?_;simp;refine gY rfl (WQ m k hn hs hk) ?_;rintro r d ⟨rfl,rfl⟩;simp
def SB (s:Sco)(k:Int)(hs:Qle s.weights)(hk:0<=k/\k<=1000000000000000):ac8 prog 69 [.one (.bool false),dI k] 0 (.agg [bT s.weights,dI s.bias]) (fun res'=>res'=vI (k+s.weights.length)):=by
 refine fT [] ntmps69 fun _ _=> ?_;simp;refine gY rfl (C9 s.weights k hs hk) ?_;rintro r d ⟨rfl,rfl⟩;simp
def UN (c:Cfg)(k:Int)(hn:Qle c.rules)(hs:∀r∈c.rules,Qle r)(hw:Qle c.sco.weights)(hv:Qle c.surv)(hk:0<=k/\k<=1000000):ac8 prog 33 [.one (.bool false),dI k] 0 (.agg [.agg [.sl (some 160) (c.rules.map xH)],.agg [bT c.sco.weights,dI c.sco.bias],bT c.surv]) (fun res'=>res'=vI (k+zI c.rules+c.sco.weights.length+c.surv.length)):=by
 refine fT [] ntmps33 fun _ _=> ?_;have hrb:=af3 hs;obtain⟨q,hq⟩:∃q,k+zI c.rules=q:=⟨_,rfl⟩;have hqb:0<=q/\q<=10000000000000:=by omega
 simp;refine zY rfl (SA c.rules k hn hs (by omega)) ?_;simp[hq];refine zY rfl (SB c.sco q hw (by omega)) ?_;simp;refine gY rfl (C9 c.surv (q+c.sco.weights.length) hv (by omega)) ?_;rintro r d ⟨rfl,rfl⟩;simp[hq]
def WR (s:Sto)(k:Int)(hn:Qle s.recs)(hs:∀r∈s.recs,Qle r.fields)(hv:Qle s.vers)(hk:0<=k/\k<=10000000000000):ac8 prog 34 [.one (.bool false),dI k] 0 (.agg [dI s.version,.sl (some 74) (s.recs.map J9),oVers s.vers]) (fun res'=>res'=vI (k+AP s.recs+4*s.vers.length)):=by
 refine fT [] ntmps34 fun _ _=> ?_;have hrb:=afW hs;obtain⟨q,hq⟩:∃q,k+AP s.recs=q:=⟨_,rfl⟩;have hqb:0<=q/\q<=1000000000000000:=by omega
 simp;refine gY rfl (R9 s.recs k hn hs (by omega)) ?_;rintro r d ⟨rfl,rfl⟩;simp[hq];repeat with_reducible refine ai ?_
 refine gY rfl (EF s.vers q hv hqb) ?_;rintro r d ⟨rfl,rfl⟩;simp[hq];repeat with_reducible refine ai ?_
 all_goals first|done|omega|(simp only[inI];omega)|grind|(simp;omega)|(simp_all;done)|(simp_all;omega)
def GM (m:List Ent):Int:=(m.map fun r=>1+(r.mem.length:Int)).sum
def aqN {m:List Ent}{c:Ent}(h:m[i]?=some c):GM (m.take (i+1))=GM (m.take i)+(1+c.mem.length):=by unfold GM;rw[uA _ h];simp
def aeE {m:List Ent}(hs:∀r∈m,Qle r.mem):0<=GM m/\GM m<=1048577*m.length:=by
 induction m with
 |nil=>simp[GM]
 |cons r m ih=>
  have h1:=ih (fun x hx=>hs x (aV _ hx));have h2:=hs r iW;simp only[GM,fC,List.sum_cons,aS]at h1|-
  omega
def R8 (l:List Ent)(k:Int)(hn:Qle l)(hs:∀r∈l,Qle r.mem)(hk:0<=k/\k<=100000000000000):ac8 prog 35 [.one (.bool false),dI k] 0 (aiG l) (fun res'=>res'=vI (k+GM l)):=by
 refine fT [] ntmps35 fun _ _=> ?_;have hr0:GM []=0:=rfl;simp;refine wlt (Nat×List Ent) (fun(i,rs)=>([(0,.own (aiG rs)),(1,vI (k+GM (l.take i))),(5,vI i)],l.length-i,(i<=l.length)/\rs.length=l.length/\(∀j,i<=j->rs[j]?=l[j]?))) ((0,l)) ⟨by omega,rfl,(fun _ _=>rfl)⟩ ?_ (h0:=by simp[hr0]);rintro⟨i,rs⟩ ⟨h1,h2,h3⟩;have hrs:=aeE (m:=l.take i) (fun r hr=>hs r (fI hr));have htl:Qle (l.take i):=by simp;omega
 simp[h2];apply gw<;>intro a
 ·obtain⟨c,hc⟩:=aR (l:=l) (i:=i);have hg:rs[i]?=some c:=(h3 i (k_Nat_le_refl _)).trans hc;have hcl:=hs c (aA hc);have hsn:=aqN hc;obtain⟨q,hq⟩:∃q,k+GM (l.take i)=q:=⟨_,rfl⟩;have hqb:0<=q/\q<=1000000000000000:=by omega
  have hst:∀r:Ent,(rs.map oEnt).set i (oEnt r)=(rs.set i r).map oEnt:=fun r=>by rw[jA]
  have hsg:∀v:D,((rs.map oEnt).set i v)[i]?=some v:=fun v=>by rw[bE (by (try unfold Qle);rw[aK];omega)]
  have hqn:q+1+(c.mem.length:Int)=k+GM (l.take (i+1)):=by rw[hsn];omega
  simp[hg,hq,hsg];refine ai ?_;refine gY rfl (C9 c.mem (q+1) hcl (by omega)) ?_;rintro r d ⟨rfl,rfl⟩;obtain⟨rs2,hr2⟩:∃rs2,rs2=rs.set i ⟨q,marksI c.mem.length (q+1)⟩:=⟨_,rfl⟩;have hst2:(rs.map oEnt).set i (.agg [dI q,bT (marksI c.mem.length (q+1))])=rs2.map oEnt:=by rw[hr2];exact hst ⟨q,marksI c.mem.length (q+1)⟩
  simp[hsg,hst2,hqn];refine nxa (i+1,rs2) ⟨by omega,by rw[hr2,nX];exact h2,(fun j hj=>by rw[hr2,bK (by omega)];exact h3 j (by omega))⟩ (h3:=by simp[h2,hg,hq,hsg,hst2,hqn])
 ·simp at a;have hil:i=l.length:=by omega
  subst hil;have hta:l.take l.length=l:=bV;simp[hta]
def adU (c:Cfg)(k:Int):Int:=k+zI c.rules+c.sco.weights.length+c.surv.length
def apC (s:Sto)(k:Int):Int:=k+AP s.recs+4*s.vers.length
def abG (x:wP)(k:Int):Int:=apC x.sto (adU x.cfg k)+GM x.ents+4*x.ref.length
def agE {x:wP}(hx:vY x):1<=adU x.cfg 1/\adU x.cfg 1<=10000000000000/\1<=apC x.sto (adU x.cfg 1)/\apC x.sto (adU x.cfg 1)<=100000000000000/\1<=abG x 1/\abG x 1<=1000000000000000:=by
 have hru:=af3 hx.cfg.rule;have hrc:=afW (fun r hr=>(hx.sto.rec1 r hr).1);have hen:=aeE (fun e he=>k_Nat_le_trans (P7 he) hx.mem);have h1:=hx.cfg.rules;have h2:=hx.cfg.weights;have h3:=hx.cfg.surv;have h4:=hx.sto.recs;have h5:=hx.sto.vers;have h6:=hx.ents;have h7:=hx.ref;unfold abG apC adU;omega
def GY (x:wP)(hx:vY x):ac8 prog 11 [.one (.bool false),dI 1] 0 (.agg [.agg [.agg [.sl (some 160) (x.cfg.rules.map xH)],.agg [bT x.cfg.sco.weights,dI x.cfg.sco.bias],bT x.cfg.surv],.agg [dI x.sto.version,.sl (some 74) (x.sto.recs.map J9),oVers x.sto.vers],aiG x.ents,dI x.next,oVers x.ref]) (fun res'=>res'=vI (abG x 1)):=by
 refine fT [] ntmps11 fun _ _=> ?_;have hb:=agE hx;obtain⟨q,hq⟩:∃q,adU x.cfg 1=q:=⟨_,rfl⟩;have hq':1+zI x.cfg.rules+x.cfg.sco.weights.length+x.cfg.surv.length=q:=hq;obtain⟨q2,hq2⟩:∃q2,apC x.sto q=q2:=⟨_,rfl⟩;have hq2':q+AP x.sto.recs+4*x.sto.vers.length=q2:=hq2;have hq3:abG x 1=q2+GM x.ents+4*x.ref.length:=by rw[abG,hq,hq2]
 rw[hq,hq2,hq3]at hb;have hen:=aeE (fun e he=>k_Nat_le_trans (P7 he) hx.mem);simp;refine zY rfl (UN x.cfg 1 hx.cfg.rules hx.cfg.rule hx.cfg.weights hx.cfg.surv (by omega)) ?_;simp[hq'];refine zY rfl (WR x.sto q hx.sto.recs (fun r hr=>(hx.sto.rec1 r hr).1) hx.sto.vers (by omega)) ?_;simp[hq2'];refine zY rfl (R8 x.ents q2 hx.ents (fun e he=>k_Nat_le_trans (P7 he) hx.mem) (by omega)) ?_;obtain⟨q4,hq4⟩:∃q4,q2+GM x.ents=q4:=⟨_,rfl⟩;simp[hq4];refine gY rfl (EF x.ref q4 hx.ref (by omega)) ?_;rintro r d ⟨rfl,rfl⟩;simp[hq3,hq4]
structure Idp where
 a:Int
 b:Int
deriving instance DecidableEq,Inhabited for Idp
abbrev al6 (p:Idp):D:= .agg [dI p.a,dI p.b]
abbrev X9 (l:List Idp):D:= .sl none (l.map al6)
abbrev BN (l:List Idp):D:= .sl (some 66) (l.map al6)
def rowP (p:Rec->Rec->Bool)(a:Rec)(l:List Rec):List Idp:=(l.filter (p a)).map fun b=>⟨eG a,eG b⟩
def GG (p:Rec->Rec->Bool):List Rec->List Idp
 |[]=>[]
 |a::l=>rowP p a l++GG p l
def aiU {p:Rec->Rec->Bool}{a c:Rec}{l:List Rec}{j:Nat}(h:l[j]?=some c):rowP p a (l.take (j+1))=rowP p a (l.take j)++if p a c then[⟨eG a,eG c⟩]else[]:=by
 unfold rowP;rw[dM h,fA,eB];cases hp:p a c<;>simp[hp]
def vO (x:wP)(p:Rec->Rec->Bool):List Idp:=if zF x=true then GG p x.sto.recs else[]
def azD (x:wP)(p:Rec->Rec->Bool)(g:FuncId)(E:Dv.Enters prog g)(U:T (1000000+g)=⟨.no,0,.any 0⟩)(G:∀a b,bG a=true->bG b=true->fK prog g [nP a,nP b] (fun r=>r=vB (p a b)))(hx:vY x):Fk 26 [nSys x,.one (.func (.func g) #[] #[])] (.own (BN (vO x p))):=by
 refine fE [5] ntmps26 fun _ _=> ?_;simp;first|refine ck (qN x hx) ?_|refine ckz (qN x hx) ?_
 simp;apply gw<;>intro e
 ·simp at e;have hd:vO x p=[]:=if_neg (by simp[e]);try simp
  refine jX [] (GA (L:=[(4,.own (BN []))]) (by simp)) ?_;simp[hd]
 ·simp at e;have ho:zF x:=by simpa using e
  have hd:vO x p=GG p x.sto.recs:=if_pos ho;have hsv:=IR (okSys_of ho).2.1;have hv:=hsv.1;have hl8:=hsv.2.1;obtain⟨L,hL⟩:∃L,x.sto.recs=L:=⟨_,rfl⟩;rw[hL]at hd hv hl8;simp[hL];refine wlt (Nat×List Idp) (fun(i,o)=>([(1,.val (.one (.func (.func g) #[] #[]))),(2,.own (.bx true (nSys x))),(5,.own (BN o)),(15,vT L),(16,vI L.length),(17,vI i)],L.length-i,(i<=L.length)/\(GG p L=o++GG p (L.drop i))/\(o.length<=8*i))) ((0,[])) ⟨by omega,rfl,by simp⟩ ?_ (h0:=by simp[hL,E,U]);rintro⟨i,o⟩ ⟨h1,h2,h3⟩;simp;apply gw<;>intro a
  ·obtain⟨c,hc⟩:=aR (l:=L) (i:=i);have hdr:=drop_at hc;rw[hdr,GG]at h2;have hcv:=hv c (aA hc);obtain⟨T,hT⟩:∃T,L.drop (i+1)=T:=⟨_,rfl⟩;have hTl:L.length-(i+1)=T.length:=by rw[←hT,kR]
   have hTm:(L.map nP).drop (i+1)=T.map nP:=by rw[←hT,List.map_drop]
   have hTt:List.take T.length (T.map nP)=T.map nP:=k_List_take_of_length_le (by rw[aK];exact k_Nat_le_refl _);have hTv:∀r∈T,bG r:=fun r hr=>hv r (by rw[←hT]at hr;exact gJ hr);have hT8:T.length<=8:=by omega
   rw[hT]at h2;simp[hL,hc,hTl,hTm,hTt];iterate 3 refine ai ?_
   refine wlt (Nat×List Idp) (fun(j,q)=>([(1,.val (.one (.func (.func g) #[] #[]))),(2,.own (.bx true (nSys x))),(5,.own (BN q)),(7,.own (.bx true (nP c))),(15,vT L),(16,vI L.length),(17,vI i),(27,vT T),(28,vI T.length),(29,vI j)],T.length-j,(j<=T.length)/\(q=o++rowP p c (T.take j))/\(q.length<=8*i+j))) ((0,o)) ⟨by omega,by simp[rowP],by omega⟩ ?_;rintro⟨j,q⟩ ⟨h4,h5,h6⟩;simp;apply gw<;>intro b
   ·obtain⟨d,hdd⟩:=aR (l:=T) (i:=j) b;have hdv:=hTv d (aA hdd);have hrs:=aiU (p:=p) (a:=c) hdd;simp[E,U,hdd];first|refine ck ((G c d hcv hdv)) ?_|refine ckz ((G c d hcv hdv)) ?_
    simp;apply gw<;>intro f
    ·have k1:=DV hcv;have k2:=DV hdv;have i1:inI .i64 (eG c):=by unfold eG;simp only[inI];omega
     have i2:inI .i64 (eG d):=by unfold eG;simp only[inI];omega
     simp;refine wdf [(5,[39,41,42]),(6,[42,43]),(7,[37,43,44,5]),(8,[44,5])] [(1,.val (.one (.func (.func g) #[] #[]))),(2,.own (.bx true (nSys x))),(5,.own (BN q)),(7,.own (.bx true (nP c))),(9,.own (.bx true (nP d))),(15,vT L),(16,vI L.length),(17,vI i),(27,vT T),(28,vI T.length),(29,vI j)] [] (by simp) ?_;simp;first|refine cd (iO c i1 (by simp only[inI];omega)) ?_|refine cdz (iO c i1 (by simp only[inI];omega)) ?_
     simp;first|refine cd (iO d i2 (by simp only[inI];omega)) ?_|refine cdz (iO d i2 (by simp only[inI];omega)) ?_
     simp;refine nxb (j+1,q++[⟨eG c,eG d⟩]) ⟨by omega,by rw[hrs,h5,f];simp,by simp;omega⟩ (h3:=by simp[hL,E,U,hdd])
    ·simp;refine nxa (j+1,q) ⟨by omega,by rw[hrs,h5,f];simp,by omega⟩ (h3:=by simp[hL,E,U,hdd])
   ·simp at b;have hqe:T.take j=T:=k_List_take_of_length_le (by omega);rw[hqe]at h5;simp;refine nxa (i+1,q) ⟨by omega,by rw[h2,h5,←hT,bH],by omega⟩ (h3:=by simp[hL,E,U])
  ·simp at a;rw[bO a,GG,bZ]at h2;simp[hd,h2]
def prT:Rec->Rec->Bool:=fun _ _=>true
def AB (a b:Rec):Fk 27 [nP a,nP b] (vB (prT a b)):=by
 refine fE [] ntmps27 fun _ _=> ?_;simp;grind[prT]
def qM (x:wP)(hx:vY x):Fk 8 [nSys x] (.own (BN (vO x prT))):=by
 refine fE [] ntmps8 fun _ _=> ?_;simp;first|refine ck (azD x prT 27 aIT aI8 (fun a b _ _=>AB a b) hx) ?_|refine ckz (azD x prT 27 aIT aI8 (fun a b _ _=>AB a b) hx) ?_
 simp
def ak8:L1->List Idp
 |[]=>[]
 |a::l=>(l.map fun b=>⟨a,b⟩)++ak8 l
def adD:∀L:List Rec,GG prT L=ak8 (L.map eG)
 |[]=>rfl
 |a::l=>by
  have h:l.filter (prT a)=l:=jG.2 fun _ _=>rfl;rw[GG,fC,ak8,adD l,qI,rowP,h];rfl
def ahX (s:Sto)(hs:Qle s.recs)(hr:∀r∈s.recs,DW r)(hv:Qle s.vers)(hvs:gN s=false):Fk 20 [MS s] (.own (bT [])):=by
 refine fE [] ntmps20 fun _ _=> ?_;simp;refine wl (fun(i:Nat)=>[(1,.own (.bx true (MS s))),(3,.own (bT [])),(4,vI 0)]) (fun(i:Nat)=>0) (fun(i:Nat)=>(i=0)) (0) (rfl) ?_;rintro i h1;simp;apply gv<;>intro a
 ·have a':=a;simp[a];first|refine ck (rM s hs hr hv) ?_|refine ckz (rM s hs hr hv) ?_
  simp[hvs]
 ·have a':=a;simp at a';simp[a]
def aAO {k:Nat}{z:Int}(hk:l[k]?=some z)(h:i<k):(l.take (k+1)).drop (i+1)=(l.take k).drop (i+1)++[z]:=by
 have:=dF hk;rw[dM hk,List.drop_append_of_le_length (by (try unfold Qle);rw[dE];omega)]
def aG2 (x:wP)(hx:vY x)(hvs:gN x.sto):Fk 6 [nSys x] (.own (BN (vO x prT))):=by
 refine fE [10] ntmps6 fun _ _=> ?_;have hsv:=IR hvs;simp;first|refine ck (zU x.sto hx.sto.recs hx.sto.rec1 hx.sto.vers hvs) ?_|refine ckz (zU x.sto hx.sto.recs hx.sto.rec1 hx.sto.vers hvs) ?_
 simp;first|refine ck (qR x hx) ?_|refine ckz (qR x hx) ?_
 simp;apply gw<;>intro e
 ·simp at e;have hd:vO x prT=[]:=if_neg (by simp[e]);simp[hd]
 ·simp at e;have ho:zF x:=by simpa using e
  have hd:vO x prT=ak8 (x.sto.recs.map eG):=by rw[←adD];exact if_pos ho
  have hl8:(x.sto.recs.map eG).length<=8:=by rw[aK];exact hsv.2.1
  obtain⟨l,hl⟩:∃l,x.sto.recs.map eG=l:=⟨_,rfl⟩;rw[hl]at hd hl8;simp[hl];refine jX [] (dK 4) ?_;simp;refine wlt (Nat×List Idp) (fun(i,o)=>([(1,.own (.bx true (nSys x))),(3,.own (BN o)),(4,vN l),(5,vI i)],l.length-i,(i<=l.length)/\(ak8 l=o++ak8 (l.drop i))/\(o.length<=8*i))) ((0,[])) ⟨by omega,by simp,by simp⟩ ?_;rintro⟨i,o⟩ ⟨h1,h2,h3⟩;simp;apply gw<;>intro a
  ·have hi:=aY a;have hdr:=drop_at hi;rw[hdr,ak8]at h2;obtain⟨y,hy⟩:∃y,at1 l i=y:=⟨_,rfl⟩;rw[hy]at hi h2;simp;refine ai ?_;refine wlt (Nat×List Idp) (fun(k,q)=>([(1,.own (.bx true (nSys x))),(3,.own (BN q)),(4,vN l),(5,vI i),(6,vI k)],l.length-k,(i<k/\k<=l.length)/\(q=o++((l.take k).drop (i+1)).map (fun b=>⟨y,b⟩))/\(q.length<=8*i+(k-(i+1))))) ((i+1,o)) ⟨by omega,by simp,by omega⟩ ?_;rintro⟨k,q⟩ ⟨h4,h5,h6⟩;simp;apply gw<;>intro b
   ·have hk:=aY (l:=l) (i:=k) b;obtain⟨z,hz⟩:∃z,at1 l k=z:=⟨_,rfl⟩;rw[hz]at hk;have hms:=aAO hk h4.1;simp;refine wdf [(9,[33,37,38]),(10,[38,39]),(11,[29,39,40,3]),(12,[40,3])] [(1,.own (.bx true (nSys x))),(3,.own (BN q)),(4,vN l),(5,vI i),(6,vI k)] [] (by simp) ?_;simp[hi,hk];refine nxb (k+1,q++[⟨y,z⟩]) ⟨by omega,by rw[hms,eB,←List.append_assoc,←h5];rfl,by simp;omega⟩ (h3:=by simp[hl,hi,hk])
   ·simp at b;rw[k_List_take_of_length_le b]at h5;simp;refine nxa (i+1,q) ⟨by omega,by rw[h2,h5,bH],by omega⟩ (h3:=by simp[hl])
  ·simp at a;rw[bO a,ak8,bZ]at h2;simp[hd,h2]
def aG1 (x:wP)(hx:vY x)(hvs:gN x.sto=false):Fk 6 [nSys x] (.own (BN (vO x prT))):=by
 refine fE [] ntmps6 fun _ _=> ?_;have ho:zF x=false:=by rw[zF,hvs];simp
 have hd:vO x prT=[]:=if_neg (by simp[ho]);simp;first|refine ck (ahX x.sto hx.sto.recs hx.sto.rec1 hx.sto.vers hvs) ?_|refine ckz (ahX x.sto hx.sto.recs hx.sto.rec1 hx.sto.vers hvs) ?_
 simp;first|refine ck (qR x hx) ?_|refine ckz (qR x hx) ?_
 simp[ho,hd]
def qP (x:wP)(hx:vY x):fK prog 6 [nSys x] (fun r=>r= .own (BN (vO x prT))):=by
 rcases Bool.eq_false_or_eq_true (gN x.sto)with h|h
 ·exact aG2 x hx h
 ·exact aG1 x hx h
def K3 (p:Idp):Fk 28 [al6 p,al6 p] (vB true):=by
 refine fE [] ntmps28 fun _ _=> ?_;simp
def gW (l:List Idp)(hl:Qle l:=by omega):Fk 9 [X9 l,X9 l] (vB true):=by
 refine fE [] ntmps9 fun _ _=> ?_;simp;refine wl (fun(i:Nat)=>[(0,.val (X9 l)),(1,.val (X9 l)),(5,vI i)]) (fun(i:Nat)=>l.length-i) (fun(i:Nat)=>(i<=l.length)) (0) (by omega) ?_;rintro i h1;simp;apply gw<;>intro a
 ·obtain⟨c,hc⟩:=aR (l:=l) (i:=i);simp;refine wdr ?_;simp[hc];first|refine cd (K3 c) ?_|refine cdz (K3 c) ?_
  simp;refine nxa (i+1) (by first|omega|(simp;omega)|grind) (h3:=by simp[hc])
 ·simp at a;simp
def av5 (k:Int):Idp:=⟨k,k+1⟩
def uB (n:Nat)(k:Int):List Idp:=(List.range n).map fun j:Nat=>av5 (k+2*(j:Int))
def yR (l:List Idp)(k:Int)(i:Nat):List Idp:=uB i k++l.drop i
def akE (n:Nat)(k:Int):(uB n k).length=n:=by simp[uB]
def akD {n:Nat}(h:i<n):(uB n k)[i]?=some (av5 (k+2*i)):=by simp[uB,h]
def arE {l:List Idp}(h:i<=l.length):(yR l k i).length=l.length:=by simp[yR,uB];omega
def arD {l:List Idp}(h:i<l.length):(yR l k i)[i]?=l[i]?:=by
 unfold yR uB;rw[aN (by simp)];simp
def arF {l:List Idp}(h:i<l.length):(yR l k i).set i (av5 (k+2*i))=yR l k (i+1):=by
 unfold yR uB;rw[List.set_append,if_neg (by simp),aK,List.length_range,cO,aX h,eF,dY,eB];simp
def an9 (l:List Idp)(k:Int):yR l k 0=l:=by simp[yR,uB]
def arC (l:List Idp)(k:Int):yR l k l.length=uB l.length k:=by simp[yR]
def FK (l:List Idp)(k:Int)(hl:Qle l:=by omega)(hk:0<=k/\k<=1000000000000000:=by omega):FO prog 12 [.one (.bool false),dI k] 0 (BN l) (fun r d=>r=vI (k+2*l.length)/\d=BN (uB l.length k)):=by
 refine fM [] ntmps12 fun w0 ow0 v0=> ?_;have hz:=an9 l k;rw[show BN l=BN (yR l k 0) by rw[hz]];simp;refine wl (fun(i:Nat)=>[(0,.own (BN (yR l k i))),(1,vI (k+2*i)),(5,vI i)]) (fun(i:Nat)=>l.length-i) (fun(i:Nat)=>(i<=l.length)) (0) (by omega) ?_;rintro i h1;have hml:=arE (k:=k) h1;simp[hml];apply gw<;>intro a
 ·obtain⟨c,hc⟩:=aR (l:=l) (i:=i);have hg:=arD (k:=k) (l:=l) (i:=i) (by omega);rw[hc]at hg;have hst:((yR l k i).map al6).set i (al6 (av5 (k+2*i)))=(yR l k (i+1)).map al6:=by rw[←List.map_set,arF (by omega)]
  have hsg:∀v:D,(((yR l k i).map al6).set i v)[i]?=some v:=fun v=>by rw[bE (by (try unfold Qle);rw[aK];omega)]
  have hqn:k+2*(i:Int)+2=k+2*((i:Int)+1):=by omega
  obtain⟨q,hq⟩:∃q,k+2*(i:Int)=q:=⟨_,rfl⟩;have hqb:0<=q/\q<=1000010000000000:=by omega
  rw[hq]at hst hqn;have a2:q+1+1=q+2:=by omega
  simp only[av5]at hst;simp[hg,hq,hsg,a2,hst,hqn];refine nxd (i+1) (by omega) (h3:=by simp[hml,hg,hq,hsg,a2,hst,hqn])
 ·simp at a;obtain rfl:i=l.length:=by omega
  have hfa:=arC l k;simp[hfa]
def jE (n:Nat)(k:Int)(hn:n<=1048576:=by omega)(hk:0<=k/\k<=1000000000000000:=by omega):Fk 13 [X9 (uB n k),dI k] (vI (k+2*n)):=by
 refine fE [] ntmps13 fun _ _=> ?_;have hml:=akE n k;simp;refine wl (fun(i:Nat)=>[(0,.val (X9 (uB n k))),(1,vI (k+2*i)),(5,vI i)]) (fun(i:Nat)=>n-i) (fun(i:Nat)=>(i<=n)) (0) (by omega) ?_;rintro i h1;simp[hml];apply gw<;>intro a
 ·have hg:=akD (k:=k) (show i<n by omega);have hqn:k+2*(i:Int)+2=k+2*((i:Int)+1):=by omega
  obtain⟨q,hq⟩:∃q,k+2*(i:Int)=q:=⟨_,rfl⟩;have hqb:0<=q/\q<=1000010000000000:=by omega
  rw[hq]at hg hqn;have a2:q+1+1=q+2:=by omega
  simp only[av5]at hg;simp[hg,hq,a2,hqn];refine nxd (i+1) (by omega) (h3:=by simp[hml,hg,hq,a2,hqn])
 ·simp at a;obtain rfl:i=n:=by omega
  simp
def alA {p:Rec->Rec->Bool}:∀L:List Rec,(GG p L).length<=L.length*L.length
 |[]=>by simp[GG]
 |a::l=>by
  have h1:=alA (p:=p) l;have h2:(rowP p a l).length<=l.length:=by rw[rowP,aK];exact bN _ _
  rw[GG,aP,aS,Nat.succ_mul,Nat.mul_succ];omega
def Z6 (x:wP)(p:Rec->Rec->Bool):(vO x p).length<=64:=by
 unfold vO;split
 ·rename_i h;have h1:=(IR (okSys_of h).2.1).2.1;exact k_Nat_le_trans (alA _) (Nat.mul_le_mul h1 h1)
 ·simp
def E8 (x:wP)(hb:aDA x):Fk 3 [nSys x] (vB true):=by
 refine fE [] ntmps3 fun _ _=> ?_;simp;refine fG (K4 x 1048576 hb (by omega)) (by simp) ?_;rintro r ⟨v,rfl,hv,hf⟩;refine⟨by simp,?_⟩;simp;apply gw<;>intro e
 ·simp
 ·simp at e;have hx:=hf (by omega);have hlen:=Z6 x prT;obtain⟨R,hR⟩:∃R,vO x prT=R:=⟨_,rfl⟩;rw[hR]at hlen;have hsy:=agE hx;have hs3:¬abG x 1<0:=by omega
  simp;first|refine ck (gP x hx) ?_|refine ckz (gP x hx) ?_
  simp;first|refine ck (qP x hx) ?_|refine ckz (qP x hx) ?_
  simp[hR];first|refine ck (gP x hx) ?_|refine ckz (gP x hx) ?_
  simp;first|refine ck (qM x hx) ?_|refine ckz (qM x hx) ?_
  simp[hR];first|refine ck (gW R) ?_|refine ckz (gW R) ?_
  simp;refine wdr ?_;simp;first|refine cd (JU x hx) ?_|refine cdz (JU x hx) ?_
  simp;first|refine cd (xN x hx) ?_|refine cdz (xN x hx) ?_
  simp;refine zY rfl (GY x hx) ?_;simp[hs3];first|refine ck (gW R) ?_|refine ckz (gW R) ?_
  simp;refine gY rfl (FK R 1) ?_;rintro r d ⟨rfl,rfl⟩;have hm2:¬1+2*(R.length:Int)<0:=by omega
  simp;first|refine ck (jE R.length 1) ?_|refine ckz (jE R.length 1) ?_
  simp[hm2];first|refine ck (gP x hx) ?_|refine ckz (gP x hx) ?_
  simp;first|refine ck (qM x hx) ?_|refine ckz (qM x hx) ?_
  simp[hR];first|refine ck (gW R) ?_|refine ckz (gW R) ?_
  simp;first|refine ck (jE R.length 1) ?_|refine ckz (jE R.length 1) ?_
  simp[hm2]
end Go.Proofs.YtnlkiflcbknaaaaGreatDoor
end
section
namespace Go.Proofs.YtnlkiflcbknaaaaGreatDoor
open Go.Dv Go.Pl
@[go_sem,simp] abbrev wC (x:List Idp):S:= .own (BN x)
end Go.Proofs.YtnlkiflcbknaaaaGreatDoor
end
section
namespace Go.Proofs.YtnlkiflcbknaaaaGreatDoor
open Go.Dv Go.Pl Go.Proofs.Tryz
open Go.ChangeShapes Go.WideShapes Go.ChangeAt Go.RowKit Go.Er
def aB3:(prog.readableRec 36&&decide (36<prog.types.size))=true:=by kernel_rfl
def aB2:(prog.readableRec 279&&decide (279<prog.types.size))=true:=by kernel_rfl
def pf2:laidOutB prog=true:=by kernel_rfl
def pf3:mapsRowed prog=true:=by kernel_rfl
def pf7:(prog.stops==[])=true:=by kernel_rfl
def pf9:(prog.stopKnobs==[])=true:=by kernel_rfl
end Go.Proofs.YtnlkiflcbknaaaaGreatDoor
end
