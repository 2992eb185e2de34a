/- Lemmas and walks that the law leans on, part V6. No condition. -/
import Derived.Test.YtafdbpehjfmnpaaGreatDoorV5
set_option linter.unusedVariables false
set_option linter.defProp false
set_option linter.unusedSimpArgs false
set_option linter.unusedSectionVars false
set_option maxRecDepth 10000
set_option maxHeartbeats 1000000
section
namespace Go.Proofs.YtafdbpehjfmnpaaGreatDoor
open Go.Dv Go.Pl Go.Proofs.Tryz
abbrev XP (m:L2):D:= .sl (some 25) (m.map nInts)
def aCA (p q:L1)(hp:Qle p)(hq:Qle q):Fk 126 [nInts p,nInts q] (vI (gV p q)):=by
 refine fE [] ntmps126 fun _ _=> ?_;simp;refine wlt Nat (fun i=>([(0,vN p),(1,vN q),(9,vN p),(10,vI p.length),(11,vI i)],p.length-i,(i<=p.length)/\i<=q.length/\(p.take i=q.take i))) (0) ⟨by omega,by omega,rfl⟩ ?_;rintro i ⟨h1,h2,h3⟩;simp;apply gw<;>intro a
 ·obtain⟨c,hc⟩:=aN (l:=p) (i:=i);simp[hc];apply gw<;>intro b
  ·have hx:=adD h3 (dL hc) (by omega);simp[hx]
  ·simp at b;obtain⟨d,hd⟩:=aN (l:=q) (i:=i);simp[hd];refine ck (pY c d) ?_;simp;apply gw<;>intro e
   ·have hcd:c≠d:=by rintro rfl;simp[cmpI]at e
    have hx:gV p q=cmpI c d:=by rw[ak7 h3 hc hd hcd];unfold cmpI;split<;>(try rfl);rw[if_pos (by omega)]
    simp[hx]
   ·have hcd:c=d:=by unfold cmpI at e;split at e;omega;split at e<;>omega
    simp;refine nxa (i+1) ⟨by omega,by omega,(take_same h3 hc (by rw[hcd];exact hd))⟩
 ·simp at a;have hip:i=p.length:=by omega
  subst hip;rw[dA]at h3;have hx:=agW h3;simp;apply gw<;>intro g
  ·rw[if_pos (by omega)]at hx;simp[hx]
  ·simp at g;rw[if_neg (by omega)]at hx;simp[hx]
def aCE (l:L2)(cf:L1->L1->Int)(g:FuncId)(E:Dv.Enters prog g)(U:T (1000000+g)=⟨.no,0,.any 0⟩)(G:∀a∈l,∀b∈l,fD prog g [nInts a,nInts b] (fun r=>r=vI (cf a b)))(hl:Qle l):NW prog 295 [.one (.bool false),dI 0,dI l.length,.one (.func (.func g) #[] #[])] 0 (XP l) (fun r d=>r= .tup []/\d=XP (kR (cfB cf) l)):=by
 refine fM [] ntmps295 fun w0 ow0 v0=> ?_;have h00:=aoG cf l;simp;refine ai ?_;refine wl (fun(i:Nat)=>[(0,.own (XP (afQ cf l i))),(1,vI 0),(2,vI l.length),(3,.val (.one (.func (.func g) #[] #[]))),(8,vI i)]) (fun(i:Nat)=>l.length-i) (fun(i:Nat)=>(1<=i/\i<=l.length+1)) (1) (by omega) ?_ (h0:=by simp[E,U,h00]);rintro i h1;simp;apply gw<;>intro a
 ·obtain⟨v,hv⟩:=aN (l:=l) (i:=i);have hin:NU cf l i i v=afQ cf l i:=asK (p:=cfB cf) hv;have hsl:=zO (p:=cfB cf) (l:=l) (i:=i);simp;refine wlt Nat (fun j=>([(0,.own (XP (NU cf l i j v))),(1,vI 0),(2,vI l.length),(3,.val (.one (.func (.func g) #[] #[]))),(8,vI i),(9,vI j)],j,(j<=i)/\(∀k c,j<=k->(srt cf l i)[k]?=some c->cfB cf v c=true))) (i) ⟨by omega,(fun k c hk hc=>absurd (dL hc) (by unfold srt;omega))⟩ ?_ (h0:=by simp[E,U,h00,hin]);rintro j ⟨h2,h3⟩;have hnow:(NU cf l i j v)[j]?=some v:=aoD a h2;simp;refine wdt 14 ?_;simp;apply gv<;>intro e
  ·have e':=e;obtain⟨c,hc⟩:=aN (l:=srt cf l i) (i:=j-1) (by unfold srt;omega);have hprev:(NU cf l i j v)[j-1]?=some c:=by have:=ah9 (p:=cfB cf) (v:=v) a (show j-1<i by omega) hc;rwa [show j-1+1=j by omega]at this
   have hj1:((j:Int)-1).toNat=j-1:=by omega
   have hsw:=aiB nInts (v:=v) a ⟨by omega,h2⟩ hc;have hs2:∀x:D,(((NU cf l i j v).map nInts).set j x)[j-1]?=some (nInts c):=fun x=>by rw[bI (by omega),aO,hprev];rfl
   have hj2:(j:Int)-1=((j-1:Nat):Int):=by omega
   simp[E,U,e,hnow,hprev,hj2];refine ai ?_;refine ck ((G v (aA hv) c (asN hc))) ?_;simp;apply gw<;>intro b
   ·simp;refine wdh [2,3] [(15,[51,46,0,37,39,42,45,47,49,50]),(17,[52,50,0,37,39,42,45,46,47,49,51])] [(0,.own (XP (NU cf l i j v))),(1,vI 0),(2,vI l.length),(3,.val (.one (.func (.func g) #[] #[]))),(8,vI i),(9,vI j),(39,.al 0 []),(40,vI j)] [] ?_;simp[hnow,hprev,hsw,hs2,hj2];refine ai ?_;refine nx (j-1) ⟨by omega,(fun k c2 hk hc2=>by by_cases hkj:k=j-1;(subst hkj;rw[hc]at hc2;cases hc2;exact decide_eq_true b);exact h3 k c2 (by omega) hc2)⟩
   ·simp at b;have ho:NU cf l i j v=afQ cf l (i+1):=YB hv h2 h3 (.inr ⟨c,hc,by unfold cfB;exact decide_eq_false (by omega)⟩);simp[ho];refine nxa (i+1) (by omega)
  ·have e':=e;simp at e';have ho:NU cf l i j v=afQ cf l (i+1):=YB hv h2 h3 (.inl (by omega));simp[e,ho];refine nxa (i+1) (by omega)
 ·simp at a;have ho:=aoF cf (l:=l) (i:=i) (by omega);simp[ho]
def aCG (l:L2)(k:Int)(cf:L1->L1->Int)(g:FuncId)(E:Dv.Enters prog g)(U:T (1000000+g)=⟨.no,0,.any 0⟩)(G:∀a∈l,∀b∈l,fD prog g [nInts a,nInts b] (fun r=>r=vI (cf a b)))(hl:l.length<=12):NW prog 216 [.one (.bool false),dI 0,dI l.length,dI k,.one (.func (.func g) #[] #[])] 0 (XP l) (fun r d=>r= .tup []/\d=XP (kR (cfB cf) l)):=by
 refine fM [] ntmps216 fun w0 ow0 v0=> ?_;simp;refine wl (fun(i:Nat)=>[(0,.own (XP l)),(1,vI 0),(2,vI l.length),(3,vI k),(4,.val (.one (.func (.func g) #[] #[])))]) (fun(i:Nat)=>0) (fun(i:Nat)=>(i=0)) (0) (rfl) ?_;rintro i h1;have hlt:(l.length:Int)<=12:=by omega
 simp[hlt];refine ai ?_;refine nC rfl (aCE l cf g E U G (by omega)) ?_;rintro r d ⟨rfl,rfl⟩;simp
def ahC (l:L2)(cf:L1->L1->Int)(g:FuncId)(E:Dv.Enters prog g)(U:T (1000000+g)=⟨.no,0,.any 0⟩)(G:∀a∈l,∀b∈l,fD prog g [nInts a,nInts b] (fun r=>r=vI (cf a b)))(hl:l.length<=12):NW prog 125 [.one (.bool false),.one (.func (.func g) #[] #[])] 0 (XP l) (fun r d=>r= .tup []/\d=XP (kR (cfB cf) l)):=by
 refine fM [] ntmps125 fun w0 ow0 v0=> ?_;have hw:IntKind.u64.wrap (l.length:Int)=l.length:=by simp[IntKind.wrap,IntKind.bits,IntKind.signed];omega
 simp[hw];refine ck (aaA l.length (by omega)) ?_;simp;refine nC rfl (aCG l (Lib.bitLen l.length) cf g E U G hl) ?_;rintro r d ⟨rfl,rfl⟩;simp
variable {α:Type}{p q:List α}{i:Nat}{c:α}
def arS {d:α}(hc:p[i]?=some c)(hd:q[i]?=some d)(hn:c≠d):p≠q:=by rintro rfl;rw[hc]at hd;exact hn (k_Option_some_inj hd)
def RH (h:p.take i=q.take i)(hc:p[i]?=some c)(hd:q[i]?=some c):p.take (i+1)=q.take (i+1):=by rw[dV hc,dV hd,h]
def acO (h:p.take i=q.take i)(h1:p.length<=i:=by omega)(h2:q.length<=i:=by omega):p=q:=by rwa [bS h1,bS h2]at h
def KT (p q:L1)(hp:Qle p)(hq:Qle q):Fk 129 [nInts p,nInts q] (vB (decide (p=q))):=by
 refine fE [] ntmps129 fun _ _=> ?_;simp;apply gw<;>intro e
 ·have hx:¬p=q:=by rintro rfl;omega
  simp[hx]
 ·simp;refine wlt Nat (fun i=>([(0,vN p),(1,vN q),(11,vN p),(12,vI p.length),(13,vI i)],p.length-i,(i<=p.length)/\(p.take i=q.take i))) (0) ⟨by omega,rfl⟩ ?_;rintro i ⟨h1,h2⟩;simp;apply gw<;>intro a
  ·obtain⟨c,hc⟩:=aN (l:=p) (i:=i);obtain⟨d,hd⟩:=aN (l:=q) (i:=i);simp;refine wdr ?_;simp[hc,hd];apply gw<;>intro b
   ·have hx:=arS hc hd b;simp[hx]
   ·simp;refine nxa (i+1) ⟨by omega,(RH h2 hc (by rw[show c=d by omega];exact hd))⟩
  ·simp at a;have hx:=acO h2;simp[hx]
def uS (p q:List Ver)(hp:Qle p)(hq:Qle q):Fk 67 [nVers p,nVers q] (vB (decide (p=q))):=by
 refine fE [] ntmps67 fun _ _=> ?_;simp;apply gw<;>intro e
 ·have hx:¬p=q:=by rintro rfl;omega
  simp[hx]
 ·simp;refine wlt Nat (fun i=>([(0,vV p),(1,vV q),(11,vV p),(12,vI p.length),(13,vI i)],p.length-i,(i<=p.length)/\(p.take i=q.take i))) (0) ⟨by omega,rfl⟩ ?_;rintro i ⟨h1,h2⟩;simp;apply gw<;>intro a
  ·obtain⟨c,hc⟩:=aN (l:=p) (i:=i);obtain⟨d,hd⟩:=aN (l:=q) (i:=i);simp;refine wdr ?_;simp[hc,hd];apply gw<;>intro b
   ·simp at b;have hx:=arS hc hd (by rintro rfl;simp at b);simp[hx]
   ·simp at b;have hcd:c=d:=by cases c;cases d;simp_all
    simp;refine nxa (i+1) ⟨by omega,(RH h2 hc (by rw[hcd];exact hd))⟩
  ·simp at a;have hx:=acO h2;simp[hx]
def aFI (p q:L2)(g:FuncId)(E:Dv.Enters prog g)(U:T (1000000+g)=⟨.no,0,.any 0⟩)(G:∀a∈p,∀b∈q,fD prog g [nInts a,nInts b] (fun r=>r=vB (decide (a=b))))(hp:Qle p)(hq:Qle q):Fk 127 [bV p,bV q,.one (.func (.func g) #[] #[])] (vB (decide (p=q))):=by
 refine fE [] ntmps127 fun _ _=> ?_;simp;apply gw<;>intro e
 ·have hx:¬p=q:=by rintro rfl;omega
  simp[hx]
 ·simp;refine wlt Nat (fun i=>([(1,.val (bV q)),(2,.val (.one (.func (.func g) #[] #[]))),(15,.val (bV p)),(16,vI p.length),(17,vI i)],p.length-i,(i<=p.length)/\(p.take i=q.take i))) (0) ⟨by omega,rfl⟩ ?_;rintro i ⟨h1,h2⟩;simp;apply gw<;>intro a
  ·obtain⟨c,hc⟩:=aN (l:=p) (i:=i);obtain⟨d,hd⟩:=aN (l:=q) (i:=i);simp[E,U,hc,hd];refine ck ((G c (aA hc) d (aA hd))) ?_;simp;apply gw<;>intro b
   ·have hx:=arS hc hd b;simp[hx]
   ·have hcd:c=d:=by simpa using b
    simp;refine nxa (i+1) ⟨by omega,(RH h2 hc (by rw[hcd];exact hd))⟩
  ·simp at a;have hx:=acO h2;simp[hx]
def O5 (p q:L1)(hp:Qle p)(hq:Qle q):Fk 128 [nInts p,nInts q] (vB (decide (p=q))):=by
 refine fE [] ntmps128 fun _ _=> ?_;simp;refine ck (KT p q hp hq) ?_;simp
def ahA (l:L2)(hl:Qle l):Fk 124 [bV l] (.own (XP l)):=by
 refine fE [2,5] ntmps124 fun _ _=> ?_;have hle:l.length<=1073741824:=by omega
 simp;refine aH8 1 ?_;simp[hle];intro hnil;subst hnil;try simp[hle]
 refine kQ [] (LC (L:=[(2,.own (XP []))]) (by simp)) ?_;simp
def gL (l:L2)(hl:∀r∈l,Qle r):∀a∈l,∀b∈l,fD prog 126 [nInts a,nInts b] (fun r=>r=vI (gV a b)):=fun a ha b hb=>aCA a b (hl a ha) (hl b hb)
def gE (p q:L2)(hp:∀r∈p,Qle r)(hq:∀r∈q,Qle r):∀a∈p,∀b∈q,fD prog 128 [nInts a,nInts b] (fun r=>r=vB (decide (a=b))):=fun a ha b hb=>O5 a b (hp a ha) (hq b hb)
def ayJ (l:L2):kR (cfB gV) l=AA l:=rfl
def UA (p q:L2)(hp:p.length<=12)(hq:q.length<=12)(hp1:∀r∈p,Qle r)(hq1:∀r∈q,Qle r):Fk 65 [bV p,bV q] (vB (decide (AA p=AA q))):=by
 refine fE [] ntmps65 fun _ _=> ?_;simp;refine ck (ahA p (by omega)) ?_;simp;refine ck (ahA q (by omega)) ?_;have hgp:=ayJ p;have hgq:=ayJ q;simp;refine nC rfl (ahC p gV 126 aEK aEQ (gL p hp1) (by omega)) ?_;rintro r d ⟨rfl,rfl⟩;simp[hgp];refine nC rfl (ahC q gV 126 aEK aEQ (gL q hq1) (by omega)) ?_;rintro r d ⟨rfl,rfl⟩;have hpl:=(wO p).length_eq;have hql:=(wO q).length_eq;simp[hgq];refine ck (aFI (AA p) (AA q) 128 aG3 aHJ (gE (AA p) (AA q) (fun r hr=>hp1 r ((wO p).mem_iff.1 hr)) (fun r hr=>hq1 r ((wO q).mem_iff.1 hr))) (by omega) (by omega)) ?_;simp
def I8 (l:List Ent)(hl:Qle l):Fk 66 [sI l] (.own (XP (l.map Ent.mem))):=by
 refine fE [] ntmps66 fun _ _=> ?_;simp;refine wlt (Nat×L2) (fun(i,o)=>([(3,.own (XP o)),(6,.val (sI l)),(7,vI l.length),(8,vI i)],l.length-i,(i<=l.length)/\(o=(l.take i).map Ent.mem))) ((0,[])) ⟨by omega,rfl⟩ ?_;rintro⟨i,o⟩ ⟨h1,h2⟩;simp;apply gw<;>intro a
 ·obtain⟨c,hc⟩:=aN (l:=l) (i:=i);have hm:=yZ Ent.mem hc;have hol:o.length=i:=by rw[h2];simp;omega
  rw[←h2]at hm;simp[hc];refine nxb (i+1,o++[c.mem]) ⟨by omega,by rw[hm]⟩
 ·simp at a;rw[bS]at h2;have hr:l.map Ent.mem=o:=h2.symm;simp[hr]
def PO {o g:L1}{k:Nat}(h:k<g.length)(hp:PV o g k=false):aeH o g=false:=by unfold aeH;rw[mZ h hp];rfl
def VS (G:L2)(hG:Qle G)(hs:∀r∈G,Qle r):Fk 117 [bV G] (vB (zZ [] G)):=by
 refine fE [] ntmps117 fun _ _=> ?_;simp;refine wlt (Nat×L1) (fun(i,o)=>([(3,wN o),(8,.val (bV G)),(9,vI G.length),(10,vI i)],G.length-i,(i<=G.length)/\(zZ [] G=zZ o (G.drop i))/\(o.length<=8))) ((0,[])) ⟨by omega,rfl,by simp⟩ ?_;rintro⟨i,o⟩ ⟨h1,h2,h3⟩;simp;apply gw<;>intro a
 ·obtain⟨c,hc⟩:=aN (l:=G) (i:=i);have hcl:=hs c (aA hc);have hdr:=drop_at hc;rw[hdr,zZ]at h2;simp[hc];refine wlt Nat (fun k=>([(3,wN o),(5,vN c),(8,.val (bV G)),(9,vI G.length),(10,vI i),(14,vN c),(15,vI c.length),(16,vI k)],c.length-k,(k<=c.length)/\((List.range k).all (PV o c)=true))) (0) ⟨by omega,rfl⟩ ?_;rintro k ⟨h4,h5⟩;simp;apply gw<;>intro b
  ·have hx:=aU b;simp[hx];refine ck (CV (at1 c k)) ?_;simp;apply gv<;>intro e
   ·have e':=e;simp at e';have hn:=PO (o:=o) b (by simp[PV];omega);rw[hn,fV]at h2;simp[e,h2]
   ·have e':=e;simp at e';simp[e];apply gv<;>intro f
    ·have f':=f;have hp:=aU (l:=c) (i:=k-1);simp[f,hp];iterate 2 refine ai ?_
     apply gv<;>intro g
     ·have g':=g;have hn:=PO (o:=o) b (by simp[PV];omega);rw[hn,fV]at h2;simp[g,h2]
     ·have g':=g;simp at g';simp[g];refine ck (eG o (at1 c k)) ?_;simp;apply gw<;>intro q
      ·simp at q;have hn:=PO (o:=o) b (by simp[PV];simp_all);rw[hn,fV]at h2;simp[h2]
      ·simp at q;simp;refine nxa (k+1) ⟨by omega,(oK h5 (by simp[PV];exact⟨⟨by omega,by omega⟩,q⟩))⟩
    ·have f':=f;simp at f';simp[f];refine ck (eG o (at1 c k)) ?_;simp;apply gw<;>intro q
     ·simp at q;have hn:=PO (o:=o) b (by simp[PV];simp_all);rw[hn,fV]at h2;simp[h2]
     ·simp at q;simp;refine nxa (k+1) ⟨by omega,(oK h5 (by simp[PV];exact⟨⟨by omega,by omega⟩,q⟩))⟩
  ·simp at b;obtain rfl:k=c.length:=by omega
   simp;refine ai ?_;apply gv<;>intro g
   ·have g':=g;rw[show aeH o c=false by rw[g];rfl,fV]at h2;simp[g,h2]
   ·have g':=g;simp[g];apply gw<;>intro r
    ·rw[aeI (G.drop (i+1)) (all:=o++c) (by simp;omega),Bool.and_false]at h2;simp[h2]
    ·simp at r;rw[show aeH o c=true by unfold aeH;rw[h5];simp[g],eX]at h2;simp;refine nxa (i+1,o++c) ⟨by omega,h2,by simp;omega⟩
 ·simp at a;rw[bO a,zZ]at h2;have hx:zZ [] G:=by rw[h2];simp;omega
  simp[hx]
def RO (l:List Ent)(hl:Qle l)(hs:∀e∈l,Qle e.mem):Fk 60 [sI l] (vB (kL l)):=by
 refine fE [] ntmps60 fun _ _=> ?_;simp;refine wlt Nat (fun i=>([(0,.val (sI l)),(5,.val (sI l)),(6,vI l.length),(7,vI i)],l.length-i,(i<=l.length)/\((l.take i).all idB=true)/\(adj XG (l.take i)=true))) (0) ⟨by omega,rfl,rfl⟩ ?_;rintro i ⟨h1,h2,h3⟩;simp;apply gw<;>intro a
 ·obtain⟨c,hc⟩:=aN (l:=l) (i:=i);simp[hc];refine wdr ?_;simp;refine cd (bB c.id 1 9999) ?_;simp;apply gv<;>intro e
  ·have e':=e;simp at e';have hn:=fJ hc (P:=idB) (by simp[idB];omega);simp[e];grind[kL]
  ·have e':=e;simp at e';simp[e];apply gv<;>intro f
   ·have f':=f;obtain⟨p,hp⟩:=aN (l:=l) (i:=i-1);have hi1:i-1+1=i:=by omega
    simp[f,hp];iterate 2 refine ai ?_
    apply gw<;>intro b
    ·have hn:=JO hp (by rw[hi1];exact hc) (R:=XG) (by simp[XG];omega);simp;grind[kL]
    ·simp at b;simp;refine nxa (i+1) ⟨by omega,(bW hc h2 (by simp[idB];omega)),by have:=yU (i:=i-1) (by rw[hi1];exact h3) hp (by rw[hi1];exact hc) (by simp[XG];omega);rwa [hi1]at this⟩
   ·have f':=f;simp at f';simp[f];refine nxa (i+1) ⟨by omega,(bW hc h2 (by simp[idB];omega)),(by obtain rfl:i=0:=(by omega);exact vF)⟩
 ·simp at a;have hf:=iO h2 a;rw[bS a]at h3;have hms:∀r∈l.map Ent.mem,Qle r:=fun r hr=>by obtain⟨e,he,rfl⟩:=dE.1 hr;exact hs e he
  simp;refine ck (I8 l hl) ?_;simp;refine ckz (VS (l.map Ent.mem) (by simp;omega) hms) ?_;simp;grind[kL]
def KM (e:Ent)(x:wF):Fk 63 [ajR e,.bx false (nSys x)] (vB (decide (x.next<=e.id))):=by
 refine fE [] ntmps63 fun _ _=> ?_;simp
def apX (l:List Ent)(p:Ent->Bool)(g:FuncId)(b:Nat)(d:D)(F:d.fz=d)(E:Dv.Enters prog g)(U:T (1000000+g)=⟨.no,0,.any 0⟩)(G:∀c∈l,fD prog g [ajR c,.bx false d] (fun r=>r=vB (p c)))(hl:Qle l):yT prog 118 [sI l,.one (.func (.func g) #[] #[.pointer (some ⟨b,0,none⟩)])] [(b,d)] (fun res'=>res'=vI (ix p l)):=by
 refine fB [] ntmps118 fun _ _=> ?_;simp;refine wlt Nat (fun i=>([(0,.val (sI l)),(1,.val (.one (.func (.func g) #[] #[.pointer (some ⟨b,0,none⟩)]))),(7,vI l.length),(8,vI i),(1000000+2*b,.rp (d))],l.length-i,(i<=l.length)/\((l.take i).any p=false))) (0) ⟨by omega,rfl⟩ ?_;rintro i ⟨h1,h2⟩;simp;apply gw<;>intro a
 ·obtain⟨c,hc⟩:=aN (l:=l) (i:=i);simp[E,U,F,hc];refine ck ((G c (aA hc))) ?_;simp;apply gw<;>intro e
  ·have hn:=BI hc h2 (by simp[e]);simp[hn]
  ·simp;refine nxa (i+1) ⟨by omega,(jB hc h2 (by simp[e]))⟩
 ·simp at a;have hf:=mR h2 a;have hx:=qQ hf;simp[hx]
def at5 (l:List Ent)(p:Ent->Bool)(g:FuncId)(b:Nat)(d:D)(F:d.fz=d)(E:Dv.Enters prog g)(U:T (1000000+g)=⟨.no,0,.any 0⟩)(G:∀c∈l,fD prog g [ajR c,.bx false d] (fun r=>r=vB (p c)))(hl:Qle l):yT prog 62 [sI l,.one (.func (.func g) #[] #[.pointer (some ⟨b,0,none⟩)])] [(b,d)] (fun res'=>res'=vB (l.any p)):=by
 refine fB [] ntmps62 fun _ _=> ?_;have hq:decide (0<=ix p l)=l.any p:=by rw[bG,decide_eq_true_eq];exact iW
 simp[F];refine ckB (apX l p g b d F E U G hl) ?_;simp[hq]
def uZ (x:wF):Bool:=kY x.cfg&&iM x.sto&&kL x.ents&&inR x.next 1 9999&& !(x.ents.any fun e=>decide (x.next<=e.id))&&decide (AA (x.ents.map Ent.mem)=AA (aaS x.cfg x.sto))&&decide (x.ref=jS x.sto.vers)
def nSys_fz (x:wF):(nSys x).fz=nSys x:=by simp[D.fz,D.fzs,D.jC]
def kE (x:wF)(hx:yA x):Fk 27 [nSys x] (vB (uZ x)):=by
 refine fE [] ntmps27 fun _ _=> ?_;have hme:∀e∈x.ents,Qle e.mem:=fun e he=>k_Nat_le_trans (PW he) hx.mem;simp;refine ck (NH x.cfg hx.cfg.rules hx.cfg.rule hx.cfg.weights hx.cfg.surv) ?_;simp;apply gv<;>intro e
 ·have e':=e;simp at e';simp[e];grind[uZ]
 ·have e':=e;simp at e';simp[e];refine ck (OY x.sto hx.sto.recs hx.sto.rec1 hx.sto.vers) ?_;simp;apply gv<;>intro f
  ·have f':=f;simp at f';simp[f];grind[uZ]
  ·have f':=f;simp at f';simp[f];refine ck (RO x.ents hx.ents hme) ?_;simp;apply gv<;>intro g
   ·have g':=g;simp at g';simp[g];grind[uZ]
   ·have g':=g;simp at g';simp[g];refine ck (bB x.next 1 9999) ?_;simp;apply gw<;>intro b
    ·simp at b;simp;grind[uZ]
    ·simp at b;have hr1:yR x.cfg x.sto=aaS x.cfg x.sto:=if_pos (by simp[e',f']);have hr2:EZ x.cfg x.sto=jS x.sto.vers:=if_pos (by simp[e',f']);have hro:=X5 x.cfg x.sto;have hrf:=X6 x.cfg x.sto;rw[hr1]at hro;rw[hr2]at hrf;have hel:=(acW g').2;have hms:∀r∈x.ents.map Ent.mem,Qle r:=fun r hr=>by obtain⟨e,he,rfl⟩:=dE.1 hr;exact hme e he
     simp[e',f',g',b];intro bo;refine ckB (at5 x.ents (fun e=>decide (x.next<=e.id)) 63 bo (nSys x) (nSys_fz x) en63 mu63 (fun c _=>KM c x) hx.ents) ?_;simp;apply gw<;>intro q
     ·simp at q;simp;grind[uZ]
     ·simp at q;simp;refine ck (abE x.cfg x.sto e' f' hx.cfg) ?_;simp;refine ck (I8 x.ents hx.ents) ?_;simp;refine ckz (UA (x.ents.map Ent.mem) (aaS x.cfg x.sto) (by simp;omega) (by omega) hms (fun r hr=>by have:=hro.2 r hr;omega)) ?_;simp;apply gv<;>intro w
      ·have w':=w;simp[w];refine ck (uS x.ref (jS x.sto.vers) hx.ref (by omega)) ?_;simp;grind[uZ]
      ·have w':=w;simp[w];grind[uZ]
end Go.Proofs.YtafdbpehjfmnpaaGreatDoor
end
section
namespace Go.Proofs.YtafdbpehjfmnpaaGreatDoor
open Go.Dv Go.Pl
open Go.ChangeShapes Go.WideShapes Go.ChangeAt Go.RowKit Go.Er
section
variable {H:Type}{enc:TypeId×Value->H}{W:World}{cs:List Value}
def aGH (h:Tr enc Tryz.prog W 93 cs):∃e:Ent,e.mem.length<=9223372036854775807/\Rd Tryz.prog W (ajR e) cs:=by
 have hl:=xB Tryz.underlying93 (n:=2) (by kernel_rfl) h;have hf:=xA Tryz.underlying93 h;obtain⟨a,h0⟩:=open_int Tryz.underlying3 (hf 0 _ rfl 0 1 rfl (by kernel_rfl));obtain⟨l,q,h1⟩:=akC (hf 1 _ rfl 1 1 rfl (by kernel_rfl));exact⟨⟨a,l⟩,q,IC (iL h0 (iL h1 (IB hl)))⟩
def aD5 (h:Tr enc Tryz.prog W 34 cs):∃l:List Ent,aE5 l/\Rd Tryz.prog W (sI l) cs:=
 JH Tryz.underlying34 (k:=2) (by kernel_rfl) (by decide) (fun vs h=>aGH h) h
def aA3 (h:Tr enc Tryz.prog W 36 cs):∃x:wF,aBK x/\Rd Tryz.prog W (nSys x) cs:=by
 have hl:=xB Tryz.underlying36 (n:=10) (by kernel_rfl) h;have hf:=xA Tryz.underlying36 h;obtain⟨c,⟨q1,q2,q3⟩,h0⟩:=aGG (hf 0 _ rfl 0 4 rfl (by kernel_rfl));obtain⟨s,⟨q4,q5⟩,h1⟩:=aGL (hf 1 _ rfl 4 3 rfl (by kernel_rfl));obtain⟨e,q6,h2⟩:=aD5 (hf 2 _ rfl 7 1 rfl (by kernel_rfl));obtain⟨n,h3⟩:=open_int Tryz.underlying3 (hf 3 _ rfl 8 1 rfl (by kernel_rfl));obtain⟨l,q7,h4⟩:=asV (hf 4 _ rfl 9 1 rfl (by kernel_rfl));exact⟨⟨c,s,e,n,l⟩,⟨q1,q2,q3,q4,q5,q6,q7⟩,IC (iL h0 (iL h1 (iL h2 (iL h3 (iL h4 (IB hl))))))⟩
end
end Go.Proofs.YtafdbpehjfmnpaaGreatDoor
end
section
namespace Go.Proofs.YtafdbpehjfmnpaaGreatDoor
open Go.Dv Go.Pl Go.Proofs.Tryz
def inL (l:L1)(x:Int):Bool:=l.any fun y=>decide (x=y)
def CJ (l:List Ent)(id:Int):L1:=match l.find? (fun e=>inL e.mem id)with|some e=>e.mem|none=>[]
variable {α:Type}{p:α->Bool}{l:List α}{i:Nat}{c:α}
def arV (hc:l[i]?=some c)(h:(l.take i).any p=false)(hp:p c):l.find? p=some c:=by
 have hi:=dL hc;have hd:l=l.take i++c::l.drop (i+1):=by rw[←drop_at hc,cB]
 rw[hd,List.find?_append,gY.2 (fun x hx=>by have:=dX.1 h x hx;simpa using this),Option.none_or,List.find?_cons,hp]
def arW (h:l.any p=false):l.find? p=none:=gY.2 fun x hx=>by have:=dX.1 h x hx;simpa using this
def aCL (l:L1)(x:Int):(l.any fun y=>decide (x=y))=inL l x:=rfl
def ayO (l:L1)(x:Int):decide (0<=ix (fun y=>decide (y=x)) l)=inL l x:=by
 rw[bG,decide_eq_true_eq,iW,inL,bP,bP];simp only[eq_comm]
def M5 (l:List Ent)(id:Int)(hl:Qle l)(hs:∀e∈l,Qle e.mem):Fk 35 [sI l,dI id] (vN (CJ l id)):=by
 refine fE [15] ntmps35 fun _ _=> ?_;simp;refine wlt Nat (fun i=>([(1,vI id),(7,.val (sI l)),(8,vI l.length),(9,vI i)],l.length-i,(i<=l.length)/\((l.take i).any (fun e=>inL e.mem id)=false))) (0) ⟨by omega,rfl⟩ ?_;rintro i ⟨h1,h2⟩;simp;apply gw<;>intro a
 ·obtain⟨c,hc⟩:=aN (l:=l) (i:=i);have hcl:=hs c (aA hc);obtain⟨r,hr⟩:∃r,inL c.mem id=r:=⟨_,rfl⟩;have hr2:(c.mem.any fun y=>decide (id=y))=r:=hr;simp[hc];first|refine ck (eG c.mem id hcl) ?_|refine ckz (eG c.mem id hcl) ?_
  simp[hr2];apply gw<;>intro b
  ·have hm:CJ l id=c.mem:=by unfold CJ;rw[arV hc h2 (by rw[hr,b])]
   simp[hm]
  ·simp;refine nxa (i+1) ⟨by omega,(jB hc h2 (by simp[hr,b]))⟩ (h3:=by simp[hc,hr2])
 ·simp at a;have hf:=mR h2 a;have hm:CJ l id=[]:=by unfold CJ;rw[arW hf]
  try simp
  refine kQ [] ((LC (L:=[(4,.own (cO []))]) (by simp)).trans (dH 4)) ?_;simp[hm]
def auU {l:List Ent}(id:Int){n:Nat}(hs:∀e∈l,e.mem.length<=n):(CJ l id).length<=n:=by
 unfold CJ;split
 ·rename_i e he;exact hs e (List.mem_of_find?_eq_some he)
 ·simp
abbrev v0:Ver:=⟨0,0,false,0⟩
def P6 {x:wF}(h:uZ x):kY x.cfg=true/\iM x.sto=true/\kL x.ents=true:=by
 simp only[uZ,k_Bool_and_eq_true]at h;exact⟨h.1.1.1.1.1.1,h.1.1.1.1.1.2,h.1.1.1.1.2⟩
def aeC (p q:L1)(hp:Qle p)(hq:Qle q):Fk 45 [nInts p,nInts q] (vI (gV p q)):=by
 refine fE [] ntmps45 fun _ _=> ?_;simp;refine wlt Nat (fun i=>([(0,vN p),(1,vN q),(5,vI i)],p.length-i,(i<=p.length)/\i<=q.length/\(p.take i=q.take i))) (0) ⟨by omega,by omega,rfl⟩ ?_;rintro i ⟨h1,h2,h3⟩;simp;apply gv<;>intro g
 ·have g':=g;simp[g];apply gw<;>intro b
  ·obtain⟨c,hc⟩:=aN (l:=p) (i:=i);obtain⟨d,hd⟩:=aN (l:=q) (i:=i);simp;refine wdr ?_;simp[hc,hd];apply gw<;>intro e
   ·have hx:gV p q=cmpI c d:=by rw[ak7 h3 hc hd e];unfold cmpI;split<;>(try rfl);rw[if_pos (by omega)]
    simp;refine wdt 9 ?_;simp[hc,hd];refine cd (rY c d) ?_;simp[hx]
   ·simp;refine nxa (i+1) ⟨by omega,by omega,(take_same h3 hc (by rw[show c=d by omega];exact hd))⟩
  ·simp at b;have hx:gV p q=cmpI p.length q.length:=by rw[adD h3 g (by omega)];unfold cmpI;rw[if_neg (by omega),if_pos (by omega)]
   simp;refine ck (rY p.length q.length) ?_;simp[hx]
 ·have g':=g;simp at g';have hip:i=p.length:=by omega
  subst hip;rw[dA]at h3;have hx:gV p q=cmpI p.length q.length:=by rw[agW h3];unfold cmpI;split;rw[if_pos (by omega)];rw[if_neg (by omega),if_neg (by omega)]
  simp[g];refine ck (rY p.length q.length) ?_;simp[hx]
variable {o:L1}{x:Int}
def ayU (h:0<=ix (fun y=>decide (y=x)) o):x∈o:=by obtain⟨y,h1,h2⟩:=bP.1 (iW.1 h);rw[←of_decide_eq_true h2];exact h1
def ar5 (h:ix (fun y=>decide (y=x)) o<0):∀y∈o,¬x=y:=fun y hy e=>by have:=(iW (P:=fun y=>decide (y=x)) (l:=o)).2 (bP.2 ⟨y,hy,decide_eq_true e.symm⟩);omega
def UO (G:L2):Nat:=(G.map List.length).sum
def WP (G:L2)(hG:Qle G)(hs:UO G<=1048576):Fk 90 [bV G] (vB (zZ [] G)):=by
 refine fE [] ntmps90 fun _ _=> ?_;simp;refine wlt (Nat×L1) (fun(i,o)=>([(0,.val (bV G)),(3,wN o),(4,vI i)],G.length-i,(i<=G.length)/\(zZ [] G=zZ o (G.drop i))/\(o.length+UO (G.drop i)<=1048576))) ((0,[])) ⟨by omega,rfl,by simpa using hs⟩ ?_;rintro⟨i,o⟩ ⟨h1,h2,h3⟩;simp;apply gw<;>intro a
 ·obtain⟨c,hc⟩:=aN (l:=G) (i:=i);have hdr:=drop_at hc;rw[hdr,zZ]at h2;rw[hdr]at h3;have hls:UO (c::G.drop (i+1))=c.length+UO (G.drop (i+1)):=by simp[UO]
  simp;refine wlt Nat (fun k=>([(0,.val (bV G)),(3,wN o),(4,vI i),(5,vI k)],c.length-k,(k<=c.length)/\((List.range k).all (PV o c)=true))) (0) ⟨by omega,rfl⟩ ?_;rintro k ⟨h4,h5⟩;simp[hc];apply gw<;>intro b
  ·have hx:=aU b;simp;refine wdr ?_;simp[hc,hx];refine cd (bC (at1 c k) 1 399) ?_;simp;apply gv<;>intro e
   ·have e':=e;simp at e';have hn:=PO (o:=o) b (by simp[PV];omega);rw[hn,fV]at h2;simp[e,h2]
   ·have e':=e;simp at e';simp[e];apply gv<;>intro f
    ·have f':=f;have hp:=aU (l:=c) (i:=k-1);simp[hc,hx,f,hp];iterate 2 refine ai ?_
     apply gv<;>intro g
     ·have g':=g;have hn:=PO (o:=o) b (by simp[PV];omega);rw[hn,fV]at h2;simp[g,h2]
     ·have g':=g;simp at g';simp[hc,hx,g];refine cd (kM o (at1 c k) (by omega)) ?_;simp;apply gw<;>intro q
      ·have hn:=PO (o:=o) b (by have:=ayU q;simp[PV];simp_all);rw[hn,fV]at h2;simp[h2]
      ·simp at q;simp;refine nxa (k+1) ⟨by omega,(oK h5 (by have:=ar5 q;simp[PV];exact⟨⟨by omega,by omega⟩,this⟩))⟩
    ·have f':=f;simp at f';simp[hc,hx,f];refine cd (kM o (at1 c k) (by omega)) ?_;simp;apply gw<;>intro q
     ·have hn:=PO (o:=o) b (by have:=ayU q;simp[PV];simp_all);rw[hn,fV]at h2;simp[h2]
     ·simp at q;simp;refine nxa (k+1) ⟨by omega,(oK h5 (by have:=ar5 q;simp[PV];exact⟨⟨by omega,by omega⟩,this⟩))⟩
  ·simp at b;obtain rfl:k=c.length:=by omega
   simp[hc];apply gw<;>intro g
   ·rw[show aeH o c=false by rw[g];rfl,fV]at h2;simp[h2]
   ·rw[show aeH o c=true by unfold aeH;rw[h5];simp[g],eX]at h2;simp[hc];refine nxb (i+1,o++c) ⟨by omega,h2,by rw[aP];omega⟩
 ·simp at a;rw[bO a,zZ]at h2;simp[h2];omega
def W9 (l:List Ent)(hl:Qle l)(hs:∀e∈l,Qle e.mem):Fk 91 [sI l] (.own (mY (l.map Ent.mem))):=by
 refine fE [] ntmps91 fun _ _=> ?_;simp;refine wlt (Nat×L2) (fun(i,o)=>([(0,.val (sI l)),(3,.own (mY o)),(4,vI i)],l.length-i,(i<=l.length)/\(o=(l.take i).map Ent.mem))) ((0,[])) ⟨by omega,rfl⟩ ?_;rintro⟨i,o⟩ ⟨h1,h2⟩;simp;apply gw<;>intro a
 ·obtain⟨c,hc⟩:=aN (l:=l) (i:=i);have hm:=yZ Ent.mem hc;have hol:o.length=i:=by rw[h2];simp;omega
  have hcl:=hs c (aA hc);rw[←h2]at hm;simp[hc];refine nxd (i+1,o++[c.mem]) ⟨by omega,by rw[hm]⟩
 ·simp at a;rw[bS]at h2;have hr:l.map Ent.mem=o:=h2.symm;simp[hr]
def am7 (l:List Ent):UO (l.map Ent.mem)=BN l:=by simp[UO,BN];rfl
def yH (l:List Ent)(hl:Qle l)(hs:BN l<=1048576):Fk 43 [sI l] (vB (kL l)):=by
 refine fE [] ntmps43 fun _ _=> ?_;have hme:∀e∈l,Qle e.mem:=fun e he=>k_Nat_le_trans (PW he) hs;simp;refine wlt Nat (fun i=>([(0,.val (sI l)),(3,vI i)],l.length-i,(i<=l.length)/\((l.take i).all idB=true)/\(adj XG (l.take i)=true))) (0) ⟨by omega,rfl,rfl⟩ ?_;rintro i ⟨h1,h2,h3⟩;simp;apply gw<;>intro a
 ·obtain⟨c,hc⟩:=aN (l:=l) (i:=i);simp;refine wdr ?_;simp[hc];refine cd (bC c.id 1 9999) ?_;simp;apply gv<;>intro e
  ·have e':=e;simp at e';have hn:=fJ hc (P:=idB) (by simp[idB];omega);simp[e];grind[kL]
  ·have e':=e;simp at e';simp[e];apply gv<;>intro f
   ·have f':=f;obtain⟨p,hp⟩:=aN (l:=l) (i:=i-1);have hi1:i-1+1=i:=by omega
    simp[hc,f,hp];iterate 2 refine ai ?_
    apply gw<;>intro b
    ·have hn:=JO hp (by rw[hi1];exact hc) (R:=XG) (by simp[XG];omega);simp;grind[kL]
    ·simp at b;simp;refine nxa (i+1) ⟨by omega,(bW hc h2 (by simp[idB];omega)),by have:=yU (i:=i-1) (by rw[hi1];exact h3) hp (by rw[hi1];exact hc) (by simp[XG];omega);rwa [hi1]at this⟩
   ·have f':=f;simp at f';simp[f];refine nxa (i+1) ⟨by omega,(bW hc h2 (by simp[idB];omega)),(by obtain rfl:i=0:=(by omega);exact vF)⟩
 ·simp at a;have hf:=iO h2 a;rw[bS a]at h3;simp;refine ck (W9 l hl hme) ?_;have hls:=am7 l;simp;refine ckz (WP (l.map Ent.mem) (by simp;omega) (by omega)) ?_;simp;grind[kL]
def awR (p:α->Bool)(h:l[i]?=some c):(l.take (i+1)).any p=((l.take i).any p||p c):=by rw[dV h];simp
def azS (x:wF):uZ x=((kY x.cfg&&iM x.sto)&&kL x.ents&&inR x.next 1 9999&&decide (EZ x.cfg x.sto=x.ref)&&decide ((yR x.cfg x.sto).length=x.ents.length)&&x.ents.all (entOk (yR x.cfg x.sto) x.next)):=by
 by_cases hv:(kY x.cfg&&iM x.sto)=true
 ·have hr1:yR x.cfg x.sto=aaS x.cfg x.sto:=if_pos hv;have hr2:EZ x.cfg x.sto=jS x.sto.vers:=if_pos hv;rw[hr1,hr2,uZ,hv];by_cases ha:kL x.ents=true
  ·have hs:=aAW (aaS x.cfg x.sto) x.next ha;have he:decide (x.ref=jS x.sto.vers)=decide (jS x.sto.vers=x.ref):=by rw[bG];simp[eq_comm]
   rw[ha,he,xM _ _ (x.ents.all _),hs];simp only[eX,xM];rw[Bool.and_comm (decide (AA _=_)) (decide _),Bool.and_left_comm (!_)]
  ·simp[Bool.not_eq_true _▸ha]
 ·rw[Bool.not_eq_true]at hv;rw[uZ,hv];rfl
def qP (x:wF)(hx:yA x):Fk 20 [nSys x] (vB (uZ x)):=by
 rw[azS];refine fE [] ntmps20 fun _ _=> ?_;have hro:=X5 x.cfg x.sto;have hrf:=X6 x.cfg x.sto;simp;refine ck (PH x.cfg x.sto hx.cfg hx.sto) ?_;simp;apply gv<;>intro e
 ·have e':=e;simp at e';simp[e];grind
 ·have e':=e;simp at e';simp[e];refine ck (yH x.ents hx.ents hx.mem) ?_;simp;apply gv<;>intro f
  ·have f':=f;simp at f';simp[f];grind
  ·have f':=f;simp at f';simp[f];refine ck (bC x.next 1 9999) ?_;simp;apply gv<;>intro g
   ·have g':=g;simp at g';simp[g];omega
   ·have g':=g;simp at g';simp[e',f',g'];apply gv<;>intro b
    ·have b':=b;have hn:¬EZ x.cfg x.sto=x.ref:=fun h=>by rw[h]at b;omega
     simp[e',f',g',b,hn]
    ·have b':=b;simp[b];apply gw<;>intro d
     ·have hn:¬(yR x.cfg x.sto).length=x.ents.length:=fun h=>by omega
      simp[e',f',g',hn]
     ·have hge:(yR x.cfg x.sto).length=x.ents.length:=by omega
      have hce:=hx.ents;have hre:(EZ x.cfg x.sto).length=x.ref.length:=by omega
      generalize EZ x.cfg x.sto=R at*
      generalize yR x.cfg x.sto=G at*
      simp[hge];refine wlt Nat (fun i=>([(1,.own (.bx true (nSys x))),(3,.val (bV G)),(4,vV R),(6,vI i)],R.length-i,(i<=R.length)/\(R.take i=x.ref.take i))) (0) ⟨by omega,rfl⟩ ?_;rintro i ⟨h1,h2⟩;simp[b];apply gw<;>intro a
      ·obtain⟨c,hc⟩:=aN (l:=R) (i:=i);obtain⟨v,hd⟩:=aN (l:=x.ref) (i:=i);simp;refine wdr ?_;simp[hc,hd];apply gw<;>intro k
       ·simp at k;have hn:=arS hc hd (by rintro rfl;simp at k);simp[e',f',g',hge,hn]
       ·simp at k;have hcd:c=v:=by cases c;cases v;simp_all
        simp;refine nxa (i+1) ⟨by omega,(RH h2 hc (by rw[hcd];exact hd))⟩
      ·simp at a;have hn:=acO h2;simp[hn];refine wlt Nat (fun i=>([(1,.own (.bx true (nSys x))),(3,.val (bV G)),(4,vV R),(7,vI i)],(x.ents).length-i,(i<=(x.ents).length)/\(((x.ents).take i).all (entOk G x.next)=true))) (0) ⟨by omega,rfl⟩ ?_ (h0:=by simp[e,f,g,e',f',g',b,hge,hn]);rintro i ⟨h1,h2⟩;simp[hn];apply gw<;>intro a
       ·obtain⟨c,hc⟩:=aN (l:=x.ents) (i:=i);have hcl:Qle c.mem:=k_Nat_le_trans (PW (aA hc)) hx.mem;obtain⟨p,hp⟩:∃p:L1->Bool,(fun y=>decide (y=c.mem))=p:=⟨_,rfl⟩;simp;refine wlt (Nat×Bool) (fun(k,s)=>([(1,.own (.bx true (nSys x))),(3,.val (bV G)),(4,vV R),(7,vI i),(8,vB s),(9,vI k)],G.length-k,(k<=G.length)/\(s=(G.take k).any p))) ((0,false)) ⟨by omega,by simp⟩ ?_ (h0:=by simp[e,f,g,e',f',g',b,hge,hn,hc]);rintro⟨k,s⟩ ⟨h3,h4⟩;simp[hge,hn];apply gw<;>intro b2
        ·obtain⟨r,hr⟩:=aN (l:=G) (i:=k);have hrl:=hro.2 r (aA hr);have hany:=awR p hr;rw[←h4]at hany;simp;refine wdt 15 ?_;simp;apply gv<;>intro w
         ·have w':=w;simp[w];refine nxa (k+1,true) ⟨by omega,by rw[hany,w];rfl⟩ (h3:=by simp[e,f,g,e',f',g',b,hge,hn,hc,hr,w])
         ·have w':=w;simp[hc,hr,w];refine cd (aeC r c.mem (by omega) hcl) ?_;simp;refine nxa (k+1,decide (gV r c.mem=0)) ⟨by omega,by rw[hany,w',←hp];simp[apE]⟩ (h3:=by simp[e,f,g,e',f',g',b,hge,hn,hc,hr,w])
        ·simp at b2;have hso:s=azB G c:=by rw[h4,bS,←hp];rfl
         simp;refine wdr ?_;simp;apply gv<;>intro w
         ·have w':=w;simp at w';have hn:=fJ hc (P:=(entOk G x.next)) (by rw[entOk,←hso];simp_all);simp[e',f',g',hge,w,hn]
         ·have w':=w;simp at w';simp[hc,w];apply gw<;>intro q
          ·have hn:=fJ hc (P:=(entOk G x.next)) (by rw[entOk,←hso];simp;omega);simp[e',f',g',hge,hn]
          ·simp at q;simp;refine nxa (i+1) ⟨by omega,(bW hc h2 (by rw[entOk,←hso];simp_all))⟩ (h3:=by simp[e,f,g,e',f',g',b,hge,hn,hc,w])
       ·simp at a;have hf:=iO h2 a;simp[e',f',g',hge,hf];omega
def al8 (id:Int)(r:Rec):Bool:=decide (jQ r=id)
def jV (s:Sto)(id:Int):Int:=ix (al8 id) s.recs
def OW (r:Rec)(id:Int)(hr:bE r):Fk 131 [zA r,.bx false (dI id)] (vB (al8 id r)):=by
 refine fE [] ntmps131 fun _ _=> ?_;have h1:=K9 hr;have h2:inI .i64 (jQ r):=by unfold jQ;simp only[inI];omega
 simp;refine wdt 4 ?_;simp;first|refine cd (sV r h2 (by simp only[inI];omega)) ?_|refine cdz (sV r h2 (by simp only[inI];omega)) ?_
 simp;grind[al8]
def alS (l:List Rec)(p:Rec->Bool)(g:FuncId)(b:Nat)(d:D)(F:d.fz=d)(E:Dv.Enters prog g)(U:T (1000000+g)=⟨.no,0,.any 0⟩)(G:∀c∈l,fD prog g [zA c,.bx false d] (fun r=>r=vB (p c)))(hl:Qle l):yT prog 130 [H6 l,.one (.func (.func g) #[] #[.pointer (some ⟨b,0,none⟩)])] [(b,d)] (fun res'=>res'=vI (ix p l)):=by
 refine fB [] ntmps130 fun _ _=> ?_;simp;refine wlt Nat (fun i=>([(0,vT l),(1,.val (.one (.func (.func g) #[] #[.pointer (some ⟨b,0,none⟩)]))),(7,vI l.length),(8,vI i),(1000000+2*b,.rp (d))],l.length-i,(i<=l.length)/\((l.take i).any p=false))) (0) ⟨by omega,rfl⟩ ?_;rintro i ⟨h1,h2⟩;simp;apply gw<;>intro a
 ·obtain⟨c,hc⟩:=aN (l:=l) (i:=i);simp[E,U,F,hc];first|refine ck ((G c (aA hc))) ?_|refine ckz ((G c (aA hc))) ?_
  simp;apply gw<;>intro e
  ·have hn:=BI hc h2 (by simp[e]);simp[hn]
  ·simp;refine nxa (i+1) ⟨by omega,(jB hc h2 (by simp[e]))⟩ (h3:=by simp[E,U,F,hc])
 ·simp at a;have hf:=mR h2 a;have hx:=qQ hf;simp[hx]
def uH (s:Sto)(id:Int)(hs:Qle s.recs)(hv:∀r∈s.recs,bE r):Fk 68 [NT s,dI id] (vI (jV s id)):=by
 refine fE [] ntmps68 fun _ _=> ?_;simp;intro b;refine ckB (alS s.recs (al8 id) 131 b (dI id) rfl aG4 aHK (fun c hc=>OW c id (hv c hc)) hs) ?_;simp;grind[jV]
def uJ (s:Sto)(id:Int)(hs:Qle s.recs)(hv:∀r∈s.recs,bE r):Fk 46 [NT s,dI id] (vI (jV s id)):=by
 refine fE [] ntmps46 fun _ _=> ?_;simp;refine wlt Nat (fun i=>([(1,vI id),(2,.own (.bx true (NT s))),(5,vI i)],(s.recs).length-i,(i<=(s.recs).length)/\(((s.recs).take i).any (al8 id)=false))) (0) ⟨by omega,rfl⟩ ?_;rintro i ⟨h1,h2⟩;simp;apply gw<;>intro a
 ·obtain⟨c,hc⟩:=aN (l:=s.recs) (i:=i);have hvr:=hv c (aA hc);have h1:=K9 hvr;simp[hc];first|refine ck (tH c (by simp;omega) (by simp;omega)) ?_|refine ckz (tH c (by simp;omega) (by simp;omega)) ?_
  simp;apply gw<;>intro e
  ·have hn:=BI hc h2 (by simp[al8,e]);simp;grind[jV]
  ·simp;refine nxa (i+1) ⟨by omega,(jB hc h2 (by simp[al8,e]))⟩ (h3:=by simp[hc])
 ·simp at a;have hf:=mR h2 a;have hx:=qQ hf;simp;grind[jV]
structure Rsn where
 a:Int
 b:Int
 kind:Int
 rule:Int
deriving instance DecidableEq,Inhabited for Rsn
abbrev EU (r:Rsn):D:= .agg [dI r.a,dI r.b,dI r.kind,dI r.rule]
abbrev r0:Rsn:=⟨0,0,0,0⟩
def SN (s:Sto)(i:Int):Rec:=(s.recs[i.toNat]?).getD default
variable {s:Sto}{id:Int}
def GD (h:0<=jV s id:=by omega):s.recs[(jV s id).toNat]?=some (SN s (jV s id))/\jQ (SN s (jV s id))=id:=by
 obtain⟨i,h1,h2,_,h4⟩:=amE (p:=al8 id) (l:=s.recs) (by unfold jV at h;omega);unfold SN jV;rw[h1,gM,aB h2];exact⟨rfl,of_decide_eq_true (h4 _ (aB h2))⟩
def KF (hv:∀r∈s.recs,bE r)(h:0<=jV s id):inT id/\bE (SN s (jV s id))=true:=by
 obtain⟨h1,h2⟩:=GD h;have h3:=hv _ (aA h1);have h4:=K9 h3;refine⟨?_,h3⟩;rw[←h2,jQ];unfold inT;omega
def kOf (x:wF):L1:=jL (jZ x.sto.vers)
def aaU (x:wF)(i k:Int):Int:=nT x.cfg.rules (pW (SN x.sto i) (SN x.sto k))
def RN (x:wF)(u w:Int):Rsn×Bool:=if at1 (kOf x) u.toNat=at1 (kOf x) w.toNat then(⟨u,w,2,0⟩,true)else if aaU x (jV x.sto u) (jV x.sto w)<0 then(r0,false)else(⟨u,w,1,aaU x (jV x.sto u) (jV x.sto w)⟩,true)
def IM (x:wF)(u w:Int):Rsn×Bool:=if jV x.sto u<0\/jV x.sto w<0\/u=w then(r0,false)else RN x u w
def ai4 (x:wF)(u w:Int):Rsn×Bool:=if uZ x=true then IM x u w else(r0,false)
def Z9 (a b:Rec)(ha:bE a)(hb:bE b):fD prog 72 [zA a,zA b] (fun r=>r= .val (cO (pW a b))):=(KP a b ha hb).ayA
def rH (x:wF)(u w:Int)(hx:yA x)(ho:uZ x):Fk 28 [nSys x,dI u,dI w] (.tup [.val (EU (IM x u w).1),.val (dB (IM x u w).2)]):=by
 refine fE [] ntmps28 fun w0 ow0=> ?_;have hsv:=MS (P6 ho).2.1;have hk8:=aeQ x.sto.vers hsv.2.2.2;have hkv:=UM hsv.2.2.1;simp;refine wdt 8 ?_;simp;first|refine cd (uH x.sto u hx.sto.recs hsv.1) ?_|refine cdz (uH x.sto u hx.sto.recs hsv.1) ?_
 simp;first|refine cd (uH x.sto w hx.sto.recs hsv.1) ?_|refine cdz (uH x.sto w hx.sto.recs hsv.1) ?_
 simp;apply gv<;>intro e
 ·have e':=e;have hd:IM x u w=(r0,false):=if_pos (.inl e);simp[e,hd]
 ·have e':=e;simp at e';simp[e];apply gv<;>intro f
  ·have f':=f;have hd:IM x u w=(r0,false):=if_pos (.inr (.inl f));simp[f,hd]
  ·have f':=f;simp at f';simp[f];apply gw<;>intro d
   ·have hd:IM x u w=(r0,false):=if_pos (.inr (.inr d));simp[hd]
   ·have hd:IM x u w=RN x u w:=if_neg (by omega);have hiu:=KF hsv.1 e';have hiw:=KF hsv.1 f';obtain⟨o,hoo⟩:∃o,jL (jZ x.sto.vers)=o:=⟨_,rfl⟩;have hol:o.length=400:=by rw[←hoo];exact AB _
    have hws:D.ws (o.map dI)=400:=by have:=qN o 400;rw[k_List_take_of_length_le (by (try unfold Qle);rw[aV];omega),hol]at this;simpa using this
    have hou:=agP hol hiu.1;have how:=agP hol hiw.1;have hu0:=hiu.1.1;have hw0:=hiw.1.1;have hu4:=hiu.1.2;have hw4:=hiw.1.2;have hwu:D.ws (List.take u.toNat (o.map dI))=u.toNat:=by rw[qN,hol];omega
    have hww:D.ws (List.take w.toNat (o.map dI))=w.toNat:=by rw[qN,hol];omega
    have hk:kOf x=o:=hoo;simp;first|refine ck (vL x.sto.vers (by omega) hsv.2.2.1) ?_|refine ckz (vL x.sto.vers (by omega) hsv.2.2.1) ?_
    simp;first|refine ck (A9 (jZ x.sto.vers) (by omega) (fun v hv=>⟨(jP (hkv v hv)).1,(jP (hkv v hv)).2.1⟩)) ?_|refine ckz (A9 (jZ x.sto.vers) (by omega) (fun v hv=>⟨(jP (hkv v hv)).1,(jP (hkv v hv)).2.1⟩)) ?_
    simp[hoo,hws,hol];refine wdr ?_;simp[hou,how,hu0,hw0,hwu,hww];iterate 2 refine ai ?_
    apply gw<;>intro g
    ·have hd2:RN x u w=(⟨u,w,2,0⟩,true):=by rw[RN,hk,if_pos g]
     simp[hd,hd2]
    ·have hru:=(GD e').1;have hrw:=(GD f').1;obtain⟨ra,hra⟩:∃ra,SN x.sto (jV x.sto u)=ra:=⟨_,rfl⟩;obtain⟨rb,hrb⟩:∃rb,SN x.sto (jV x.sto w)=rb:=⟨_,rfl⟩;rw[hra]at hru hiu;rw[hrb]at hrw hiw;simp;refine wdt 17 ?_;simp[hru,hrw];iterate 2 refine ai ?_
     first|refine cd (Z9 ra rb hiu.2 hiw.2) ?_|refine cdz (Z9 ra rb hiu.2 hiw.2) ?_
     simp;first|refine cd (A8 x.cfg.rules (pW ra rb) hx.cfg.rules hx.cfg.rule (by simp[pW])) ?_|refine cdz (A8 x.cfg.rules (pW ra rb) hx.cfg.rules hx.cfg.rule (by simp[pW])) ?_
     have hrv:aaU x (jV x.sto u) (jV x.sto w)=nT x.cfg.rules (pW ra rb):=by rw[aaU,hra,hrb]
     obtain⟨z,hz⟩:∃z,nT x.cfg.rules (pW ra rb)=z:=⟨_,rfl⟩;rw[hz]at hrv;simp[hz];apply gw<;>intro y
     ·have hd2:RN x u w=(r0,false):=by rw[RN,hk,if_neg g,hrv,if_pos y]
      simp[hd,hd2]
     ·simp at y;have hd2:RN x u w=(⟨u,w,1,z⟩,true):=by rw[RN,hk,if_neg g,hrv,if_neg (by omega)]
      simp[hd,hd2]
def D8 (x:wF)(u w:Int)(hx:yA x):Fk 8 [nSys x,dI u,dI w] (.tup [.val (EU (ai4 x u w).1),.val (dB (ai4 x u w).2)]):=by
 refine fE [] ntmps8 fun _ _=> ?_;simp;first|refine ck (kE x hx) ?_|refine ckz (kE x hx) ?_
 simp;apply gw<;>intro e
 ·simp at e;have hd:ai4 x u w=(r0,false):=if_neg (by simp[e]);simp[hd]
 ·simp at e;have ho:uZ x:=by simpa using e
  have hd:ai4 x u w=IM x u w:=if_pos ho;simp;first|refine ck (rH x u w hx ho) ?_|refine ckz (rH x u w hx ho) ?_
  simp[hd]
variable {K:List Ver}
def aaG {c:Ver}(h:K[i]?=some c):joined (K.take (i+1))=if c.same then nZ (joined (K.take i)) c.a c.b else joined (K.take i):=by
 unfold joined;rw[MP h];cases c.same<;>simp[k_List_foldl_append]
def aaF (K:List Ver):∀i,i<=K.length->(joined (K.take i)).length<=i/\∀l∈joined (K.take i),l.length<=2^i
 |0,_=>by simp[joined,tZ]
 |i+1,h=>by
  obtain⟨c,hc⟩:=aN (l:=K) (i:=i);have ih:=aaF K i (by omega);have hp2:2^(i+1)=2*2^i:=by omega
  have hj:=UL (m:=2^i) Nat.one_le_two_pow ih.2 c.a c.b;rw[aaG hc,hp2];split
  ·exact⟨by omega,hj.2⟩
  ·exact⟨by omega,fun l hl=>by have:=ih.2 l hl;omega⟩
def amG (hk:K.length<=8)(h:i<=K.length):(joined (K.take i)).length<=8/\∀l∈joined (K.take i),Qle l:=by
 obtain⟨h1,h2⟩:=aaF K i h;have hp:2^i<=256:=k_Nat_le_trans (iR (by omega) (show i<=8 by omega)) (by decide);exact⟨by omega,fun l hl=>by have:=h2 l hl;omega⟩
def vX (x:wF)(hx:yA x)(ho:uZ x):Fk 22 [nSys x] (.val (bV (joined (jZ x.sto.vers)))):=by
 refine fE [] ntmps22 fun _ _=> ?_;have hsv:=MS (P6 ho).2.1;have hk8:=aeQ x.sto.vers hsv.2.2.2;simp;first|refine ck (vM x.sto.vers (by omega) hsv.2.2.1) ?_|refine ckz (vM x.sto.vers (by omega) hsv.2.2.1) ?_
 generalize jZ x.sto.vers=K at*
 simp;refine wld [3] (Nat×L2) (fun(i,g)=>([(1,.own (.bx true (nSys x))),(3,.val (bV g)),(4,vV K),(6,vI i)],K.length-i,(i<=K.length)/\(g=joined (K.take i)))) ((0,[])) ⟨by omega,rfl⟩ ?_;rintro⟨i,g⟩ ⟨h1,h2⟩;simp;apply gw<;>intro a
 ·obtain⟨c,hc⟩:=aN (l:=K) (i:=i);have hm:=aaG hc;have hj:=amG hk8 h1;rw[←h2]at hm hj;simp[hc];apply gw<;>intro b
  ·simp;refine wdt 12 ?_;simp[hc];first|refine cd (zH g c.a c.b (by omega) hj.2) ?_|refine cdz (zH g c.a c.b (by omega) hj.2) ?_
   simp;refine ai ?_;refine nxc (i+1,nZ g c.a c.b) [3] ⟨by omega,by rw[hm,if_pos b]⟩ (h3:=by simp[hc])
  ·simp;refine ai ?_;refine nxc (i+1,g) [3] ⟨by omega,by rw[hm,b];rfl⟩ (h3:=by simp[hc])
 ·simp at a;rw[bS a]at h2;simp[h2]
def aC4 {u w p q:Int}(hp:min u w=p)(hq:max u w=q):(jV s p<0\/jV s q<0\/jV s p=jV s q)↔(jV s u<0\/jV s w<0\/u=w):=by
 have key:∀y z:Int,(jV s y<0\/jV s z<0\/jV s y=jV s z)↔(jV s y<0\/jV s z<0\/y=z):=fun y z=>by
  by_cases h1:jV s y<0
  ·simp[h1]
  ·by_cases h2:jV s z<0
   ·simp[h2]
   ·simp only[h1,h2,false_or];exact⟨fun h=>by rw[←(GD (s:=s) (id:=y)).2,h,(GD (s:=s) (id:=z)).2],fun h=>by rw[h]⟩
 rw[key];rcases Int.le_total u w with h|h
 ·rw[show p=u by omega,show q=w by omega]
 ·rw[show p=w by omega,show q=u by omega];constructor<;>(rintro(h|h|h)<;>simp[h])
def aAI (x:wF){u w p q:Int}(hp:min u w=p)(hq:max u w=q):aaU x (jV x.sto p) (jV x.sto q)=aaU x (jV x.sto u) (jV x.sto w):=by
 rcases Int.le_total u w with h|h
 ·rw[show p=u by omega,show q=w by omega]
 ·rw[show p=w by omega,show q=u by omega,aaU,adW];rfl
def anX (a b:Rec)(ha:bE a)(hb:bE b):fD prog 49 [zA a,zA b] (fun r=>r= .val (cO (pW a b))):=(EE a b ha hb).ayA
def vW (x:wF)(u w:Int)(hx:yA x)(ho:uZ x):Fk 21 [nSys x,bV (joined (jZ x.sto.vers)),dI u,dI w] (.tup [.val (EU (IM x u w).1),.val (dB (IM x u w).2)]):=by
 refine fE [11] ntmps21 fun _ _=> ?_;have hsv:=MS (P6 ho).2.1;have hk8:=aeQ x.sto.vers hsv.2.2.2;have hkv:=UM hsv.2.2.1;obtain⟨p,hp⟩:∃p,min u w=p:=⟨_,rfl⟩;obtain⟨q,hq⟩:∃q,max u w=q:=⟨_,rfl⟩;have hmi:=aC4 (s:=x.sto) hp hq;have hrs:=aAI x hp hq;have hj8:=amG hk8 (k_Nat_le_refl _);rw[dA]at hj8;obtain⟨G,hG⟩:∃G,joined (jZ x.sto.vers)=G:=⟨_,rfl⟩;rw[hG]at hj8;simp[hp,hG];first|refine ck (uJ x.sto p hx.sto.recs hsv.1) ?_|refine ckz (uJ x.sto p hx.sto.recs hsv.1) ?_
 simp[hq];first|refine ck (uJ x.sto q hx.sto.recs hsv.1) ?_|refine ckz (uJ x.sto q hx.sto.recs hsv.1) ?_
 simp;apply gv<;>intro e
 ·have e':=e;have hd:IM x u w=(r0,false):=if_pos (hmi.1 (.inl e));simp[e,hd]
 ·have e':=e;simp at e';simp[e];apply gv<;>intro f
  ·have f':=f;have hd:IM x u w=(r0,false):=if_pos (hmi.1 (.inr (.inl f)));simp[f,hd]
  ·have f':=f;simp at f';simp[f];apply gw<;>intro d
   ·have hd:IM x u w=(r0,false):=if_pos (hmi.1 (.inr (.inr d)));simp[hd]
   ·have hno:=mt hmi.2 (by omega);have hd:IM x u w=RN x u w:=if_neg hno;have hiu:=KF (id:=u) hsv.1 (by omega);have hiw:=KF (id:=w) hsv.1 (by omega);have hcn:at1 (kOf x) u.toNat=at1 (kOf x) w.toNat↔(0<=dW G u/\dW G u=dW G w):=by have:=adI (l:=jZ x.sto.vers) (fun v hv=>⟨(jP (hkv v hv)).1,(jP (hkv v hv)).2.1⟩) rfl hiu.1 hiw.1 (by omega);rw[show xL (tZ (jZ x.sto.vers))=G from hG]at this;exact this
    simp;first|refine ck (iV G u (by omega) hj8.2) ?_|refine ckz (iV G u (by omega) hj8.2) ?_
    simp;refine NV (fun(_:Unit)=>[(2,vI u),(3,vI w),(4,.own (.bx true (nSys x))),(8,.own (.bx true (EU r0))),(10,vI (jV x.sto p)),(11,vI (jV x.sto q))]) (fun(_:Unit)=>(¬(0<=dW G u/\dW G u=dW G w))) ?_ ?_
    ·simp;apply gv<;>intro g
     ·have g':=g;simp[g];first|refine ck (iV G w (by omega) hj8.2) ?_|refine ckz (iV G w (by omega) hj8.2) ?_
      simp;apply gw<;>intro h
      ·have hd2:RN x u w=(⟨u,w,2,0⟩,true):=by rw[RN,if_pos (hcn.2 ⟨g,h⟩)]
       simp[hd,hd2]
      ·simp;refine jn (()) (fun z=>h z.2)
     ·have g':=g;simp at g';simp[g];refine jn (()) (fun z=>g z.1)
    rintro⟨⟩ h5;have hn2:¬at1 (kOf x) u.toNat=at1 (kOf x) w.toNat:=fun e=>h5 (hcn.1 e);have hrp:=(GD (id:=p)).1;have hrq:=(GD (id:=q)).1;have hip:=KF (id:=p) hsv.1 (by omega);have hiq:=KF (id:=q) hsv.1 (by omega);obtain⟨ra,hra⟩:∃ra,SN x.sto (jV x.sto p)=ra:=⟨_,rfl⟩;obtain⟨rb,hrb⟩:∃rb,SN x.sto (jV x.sto q)=rb:=⟨_,rfl⟩;rw[aaU,hra,hrb]at hrs;rw[hra]at hrp hip;rw[hrb]at hrq hiq;simp;refine wdt 17 ?_;simp[hrp,hrq];iterate 2 refine ai ?_
    first|refine cd (anX ra rb hip.2 hiq.2) ?_|refine cdz (anX ra rb hip.2 hiq.2) ?_
    simp;first|refine cd (BB x.cfg.rules (pW ra rb) hx.cfg.rules hx.cfg.rule (by simp[pW])) ?_|refine cdz (BB x.cfg.rules (pW ra rb) hx.cfg.rules hx.cfg.rule (by simp[pW])) ?_
    obtain⟨z,hz⟩:∃z,nT x.cfg.rules (pW ra rb)=z:=⟨_,rfl⟩;rw[hz]at hrs;simp[hz];apply gw<;>intro y2
    ·have hd2:RN x u w=(r0,false):=by rw[RN,if_neg hn2,←hrs,if_pos y2]
     simp[hd,hd2]
    ·simp at y2;have hd2:RN x u w=(⟨u,w,1,z⟩,true):=by rw[RN,if_neg hn2,←hrs,if_neg (by omega)]
     simp[hd,hd2]
def EB (x:wF)(u w:Int)(hx:yA x):Fk 6 [nSys x,dI u,dI w] (.tup [.val (EU (ai4 x u w).1),.val (dB (ai4 x u w).2)]):=by
 refine fE [] ntmps6 fun _ _=> ?_;simp;first|refine ck (qP x hx) ?_|refine ckz (qP x hx) ?_
 simp;apply gw<;>intro e
 ·simp at e;have hd:ai4 x u w=(r0,false):=if_neg (by simp[e]);simp[hd]
 ·simp at e;have ho:uZ x:=by simpa using e
  have hd:ai4 x u w=IM x u w:=if_pos ho;simp;refine wdf [(6,[20,14]),(9,[8]),(10,[8,21]),(11,[22,9])] [(1,vI u),(2,vI w),(3,.own (.bx true (nSys x))),(6,.own (.bx true (EU r0))),(7,vB false)] [] (by simp) ?_;simp;first|refine cd (vX x hx ho) ?_|refine cdz (vX x hx ho) ?_
  simp;first|refine cd (vW x u w hx ho) ?_|refine cdz (vW x u w hx ho) ?_
  simp[hd]
def xI (r:Rsn):Fk 9 [EU r,EU r] (vB true):=by
 refine fE [] ntmps9 fun _ _=> ?_;simp
def FN (x:wF)(u w:Int)(hb:aBK x):Fk 3 [nSys x,dI u,dI w] (vB true):=by
 refine fE [] ntmps3 fun _ _=> ?_;simp;refine eT (KR x 1048576 hb (by omega)) (by simp) ?_;rintro r ⟨v,rfl,hv,hf⟩;refine⟨by simp,?_⟩;simp;apply gw<;>intro e
 ·simp
 ·simp at e;have hx:=hf (by omega);simp;first|refine ck (jR x hx) ?_|refine ckz (jR x hx) ?_
  simp;first|refine ck (EB x u w hx) ?_|refine ckz (EB x u w hx) ?_
  obtain⟨r,hr⟩:∃r,ai4 x u w=r:=⟨_,rfl⟩;simp[hr];first|refine ck (jR x hx) ?_|refine ckz (jR x hx) ?_
  simp;first|refine ck (D8 x u w hx) ?_|refine ckz (D8 x u w hx) ?_
  simp[hr];first|refine ck (xI r.1) ?_|refine ckz (xI r.1) ?_
  simp;refine wdr ?_;simp;first|refine cd (JN x hx) ?_|refine cdz (JN x hx) ?_
  simp;first|refine cd (xJ x hx) ?_|refine cdz (xJ x hx) ?_
  simp
end Go.Proofs.YtafdbpehjfmnpaaGreatDoor
end
section
namespace Go.Proofs.YtafdbpehjfmnpaaGreatDoor
open Go.Dv Go.Pl Go.Proofs.Tryz
open Go.ChangeShapes Go.WideShapes Go.ChangeAt Go.RowKit Go.Er
def aAC:(prog.readableRec 36&&decide (36<prog.types.size))=true:=by kernel_rfl
def ajY:(prog.readableRec 3&&decide (3<prog.types.size))=true:=by kernel_rfl
def aAB:(prog.readableRec 335&&decide (335<prog.types.size))=true:=by kernel_rfl
def pf2:laidOutB prog=true:=by kernel_rfl
def pf3:mapsRowed prog=true:=by kernel_rfl
def pf7:(prog.stops==[])=true:=by kernel_rfl
def pf9:(prog.stopKnobs==[])=true:=by kernel_rfl
end Go.Proofs.YtafdbpehjfmnpaaGreatDoor
end
