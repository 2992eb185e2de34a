/- Lemmas and walks that the law leans on, part 7. No condition. -/
import Derived.Laws.CopyOwn
import Derived.LoopTactic
import Derived.Sort.Grow
import Derived.Still
import Derived.StillTactics
import Derived.Test.YtigjbamofhdchaaGreatDoorV6
set_option linter.unusedVariables false
set_option linter.defProp false
set_option linter.unusedSimpArgs false
set_option linter.unusedSectionVars false
set_option maxRecDepth 10000
set_option maxHeartbeats 1000000
section
namespace Go.Proofs.YtigjbamofhdchaaGreatDoor
open Go.Dv Go.Pl Go.Proofs.Tryz
def xP (n:Int)(l:List Con)(hn: -1048576<=n/\n<=1048576:=by first|omega|grind)(hs:Qle l:=by first|omega|grind):Fk 143 [dI n,jG l] (wN (if cB n l=true then eB n.toNat l else[])):=by
 refine fE [] ntmps143 fun _ _=> ?_;simp;refine ck (tY _ _) ?_;simp;apply gw<;>intro e
 ·simp at e;simp;simp[e]
 ·simp at e;obtain⟨h1,h2,h3,h4⟩:=lQ e;obtain⟨n,rfl⟩:∃k:Nat,n=k:=⟨n.toNat,by omega⟩;simp;refine ck (BV n) ?_;simp;refine wlt (Nat×List (List Bool)) (fun(i,M)=>([(0,vI n),(1,vT l),(5,.own (TQ M)),(6,vI i)],l.length-i,(i<=l.length)/\(M=(l.take i).foldl mustStep (noLinks n))/\(sqB n M))) ((0,(noLinks n))) ⟨by simp,rfl,(aeU n)⟩ ?_;rintro⟨i,M⟩ ⟨h1,h2,h3⟩;simp;apply gw<;>intro a
  ·obtain⟨c,hc⟩:=aQ (l:=l) (i:=i);have hm:=fA mustStep (noLinks n) hc;rw[←h2]at hm;have hb:=h4 c (aA hc);simp[hc];apply gw<;>intro b
   ·obtain⟨r,hr,hrl,hrc⟩:=XH (a:=c.a.toNat) (b:=c.b.toNat) h3;obtain⟨q,hq,hql,hqc⟩:=XH (a:=c.b.toNat) (b:=c.a.toNat) h3;have hne:c.a.toNat≠c.b.toNat:=by omega
    have hne2:¬c.b.toNat=c.a.toNat:=by omega
    have hz1:=XD (k:=c.b.toNat) (v:=true) hr;have hz2:=XD (M:=M.set c.a.toNat (r.set c.b.toNat true)) (i:=c.b.toNat) (k:=c.a.toNat) (v:=true) (r:=q) (by simp[hne,hq]);simp;refine wdt 14 ?_;simp[hc,hr,hrc];iterate 2 refine ai ?_
    refine wdt 14 ?_;simp[hc,hq,hqc,hne];refine nxd (i+1,(M.set c.a.toNat (r.set c.b.toNat true)).set c.b.toNat (q.set c.a.toNat true)) ⟨by omega,by rw[hm,mustStep,if_pos b,hz1,hz2],by rw[←hz2,←hz1];exact sqB_set (sqB_set h3)⟩
   ·simp;refine nxa (i+1,M) ⟨by omega,by rw[hm,mustStep,if_neg (by simp[b])],h3⟩
  ·simp at a;rw[bS a]at h2;subst h2;simp;refine ck (zW n _) ?_;simp;simp[e,eB,mZ]
def FZ (m:L2)(hs:Qle m:=by first|omega|grind):Fk 208 [bZ m] (wN (if bP m=true then oO m else[])):=by
 refine fE [] ntmps208 fun _ _=> ?_;simp;refine ck (eG _) ?_;simp;apply gw<;>intro e
 ·simp at e;simp;simp[e]
 ·simp at e;have hml:=dK e;simp;refine ck (BV m.length) ?_;simp;refine wlt (Nat×List (List Bool)) (fun(i,M)=>([(0,.val (bZ m)),(3,.own (TQ M)),(4,vI i)],m.length-i,(i<=m.length)/\(M=loopN i (noLinks m.length) ((fun i M=>loopN m.length M (posRow m i))))/\(sqB m.length M))) ((0,noLinks m.length)) ⟨by simp,rfl,(aeU _)⟩ ?_;rintro⟨i,M⟩ ⟨h1,h2,h3⟩;simp;apply gw<;>intro a
  ·have hs:=aL i (noLinks m.length) ((fun i M=>loopN m.length M (posRow m i)));rw[←h2]at hs;simp;refine wlt (Nat×List (List Bool)) (fun(k,L)=>([(0,.val (bZ m)),(3,.own (TQ L)),(4,vI i),(5,vI k)],m.length-k,(k<=m.length)/\(L=loopN k (M) (posRow m i))/\(sqB m.length L))) ((0,M)) ⟨by simp,rfl,h3⟩ ?_;rintro⟨k,L⟩ ⟨h1k,h2k,h3k⟩;simp;apply gw<;>intro ak
   ·have hsk:=aL k (M) (posRow m i);rw[←h2k]at hsk;obtain⟨r,hr,hrl,hrc⟩:=XH (a:=i) (b:=k) h3k;obtain⟨q,hq,hqc⟩:=kU e (i:=i) (k:=k);have hz1:=XD (k:=k) (v:=decide (at2 m i k>0)) hr;have hsq:=sqB_set (i:=i) (k:=k) (v:=decide (at2 m i k>0)) h3k;rw[hz1]at hsq;simp;refine wdt 14 ?_;simp[hr,hrc,hq,hqc];refine nxa (k+1,L.set i (r.set k (decide (at2 m i k>0)))) ⟨by omega,by rw[hsk,posRow,hz1],hsq⟩
   ·simp at ak;have hik:m.length=k:=by omega
    subst hik;simp;refine nxa (i+1,L) ⟨by omega,by rw[hs];exact h2k,h3k⟩
  ·simp at a;have hi:m.length=i:=by omega
   subst hi;simp;refine ck (zW m.length _) ?_;simp;simp[e,oO,WW,←h2]
variable {n:Int}{l:List Con}{C:L1}
def aj9 (hC:(if cB n l=true then eB n.toNat l else[])=C)(b:0<C.length):cB n l=true:=by
 cases h:cB n l with
 |true=>rfl
 |false=>subst hC;simp[h]at b
def ah4 (hC:(if cB n l=true then eB n.toNat l else[])=C)(b:¬0<C.length):¬cB n l=true:=by
 intro h;have:=lQ h;subst hC;rw[if_pos h,eB,OW]at b;omega
def ajP (e:¬cB n l=true):¬cB n.toNat l=true:=by
 intro h;by_cases h0:0<=n
 ·rw[show(n.toNat:Int)=n by omega]at h;exact e h
 ·have:=lQ h;omega
def afG (hC:(if cB n l=true then eB n.toNat l else[])=C)(e:cB n.toNat l=true):eB n.toNat l=C:=by
 by_cases h0:0<=n
 ·rw[show(n.toNat:Int)=n by omega]at e;rw[if_pos e]at hC;exact hC
 ·have:=lQ e;omega
def OA (n:Int)(l:List Con)(hn: -1048576<=n/\n<=1048576:=by first|omega|grind)(hs:Qle l:=by first|omega|grind):Fk 206 [dI n,jG l] (vI (vQ n.toNat l)):=by
 refine fE [] ntmps206 fun _ _=> ?_;simp;refine ck (xP n l) ?_;generalize hC:(if cB n l=true then eB n.toNat l else[])=C;have hCl:C.length<=8:=by subst hC;split;(next e=>rw[eB,OW];have:=lQ e;omega);simp
 simp;refine wlt Nat (fun i=>([(0,vI n),(1,vT l),(5,wN C),(6,vI i)],l.length-i,(i<=l.length)/\((l.take i).any (FJ C)=false))) (0) ⟨by omega,rfl⟩ ?_;rintro i ⟨h1,h2⟩;simp;apply gv<;>intro a
 ·have a':=a;simp[a];apply gw<;>intro b
  ·have e:=aj9 hC b;obtain⟨h3,h4,h5,h6⟩:=lQ e;rw[if_pos e]at hC;have hCn:C.length=n.toNat:=by subst hC;exact OW _ _
   obtain⟨c,hc⟩:=aQ (l:=l) (i:=i);have hb:=h6 c (aA hc);have ha1:=aV (l:=C) (i:=c.a.toNat);have hb1:=aV (l:=C) (i:=c.b.toNat);simp;refine wdr ?_;simp[hc];apply gv<;>intro f
   ·have f':=f;simp at f';simp[hc,ha1,hb1,f];iterate 2 refine ai ?_
    apply gw<;>intro g
    ·have hx:ix (FJ C) l=i:=DK hc h2 (by simp[FJ,g];simpa using f);simp;simp[vQ,show(n.toNat:Int)=n by omega,e,hC,hx]
    ·simp;refine nxa (i+1) ⟨by omega,(gV hc h2 (by simp[FJ,g]))⟩
   ·have f':=f;simp at f';simp[f];refine nxa (i+1) ⟨by omega,(gV hc h2 (by simp[FJ];simp_all))⟩
  ·simp at b;have e:=ah4 hC (by simp[b]);have e2:=ajP e;simp;rw[vQ,if_neg e2]
 ·have a':=a;simp at a';have hx:=rV (mJ h2 (by omega));simp[a];have h:=fun e=>afG hC e;unfold vQ;split<;>simp_all
def DF (n:Int)(l:List Con)(hn: -1048576<=n/\n<=1048576:=by first|omega|grind)(hs:Qle l:=by first|omega|grind):Fk 136 [dI n,jG l] (vB (cB n l&&decide (vQ n.toNat l<0))):=by
 refine fE [] ntmps136 fun _ _=> ?_;simp;refine ck (tY _ _) ?_;simp;apply gv<;>intro e
 ·have e':=e;simp[e];refine ck (OA _ _) ?_;simp[e]
 ·have e':=e;simp[e]
def aaX (a b:L1)(ha:Qle a:=by first|omega|grind)(hb:Qle b:=by first|omega|grind):Fk 278 [nInts a,nInts b] (vB (lX a b)):=by
 refine fE [] ntmps278 fun _ _=> ?_;simp;refine ck (lS _) ?_;simp;apply gv<;>intro e
 ·have e':=e;simp[e];refine ck (lS _) ?_;simp;apply gv<;>intro f
  ·have f':=f;simp[f];grind[lX]
  ·have f':=f;simp[f];grind[lX]
 ·have e':=e;simp[e];grind[lX]
def K5 (p q:L1)(ha:Qle p)(hb:Qle q):Fk 207 [nInts p,nInts q] (wN (alH p q)):=by
 refine fE [] ntmps207 fun _ _=> ?_;simp;refine ck (aaX _ _) ?_;simp;apply gw<;>intro e
 ·simp at e;simp;simp[alH,e]
 ·simp at e;obtain⟨h1,h2,h3⟩:=WV e;have h4:=isPart_len h1;simp;refine ck (BV p.length) ?_;simp;refine wlt (Nat×List (List Bool)) (fun(i,M)=>([(0,vN p),(1,vN q),(5,.own (TQ M)),(6,vI i)],p.length-i,(i<=p.length)/\(M=loopN i (noLinks p.length) ((fun i M=>loopN p.length M (ET p q i))))/\(sqB p.length M))) ((0,noLinks p.length)) ⟨by simp,rfl,(aeU _)⟩ ?_;rintro⟨i,M⟩ ⟨h1,h2,h3⟩;simp;apply gw<;>intro a
  ·have hs:=aL i (noLinks p.length) ((fun i M=>loopN p.length M (ET p q i)));rw[←h2]at hs;simp;refine wlt (Nat×List (List Bool)) (fun(k,L)=>([(0,vN p),(1,vN q),(5,.own (TQ L)),(6,vI i),(7,vI k)],p.length-k,(k<=p.length)/\(L=loopN k (M) (ET p q i))/\(sqB p.length L))) ((0,M)) ⟨by simp,rfl,h3⟩ ?_;rintro⟨k,L⟩ ⟨h1k,h2k,h3k⟩;simp;apply gw<;>intro ak
   ·have hsk:=aL k (M) (ET p q i);rw[←h2k]at hsk;obtain⟨r,hr,hrl,hrc⟩:=XH (a:=i) (b:=k) h3k;have ha1:=aV (l:=p) (i:=i);have ha2:=aV (l:=p) (i:=k);have hb1:=aV (l:=q) (i:=i);have hb2:=aV (l:=q) (i:=k);have hz1:=fun v=>XD (k:=k) (v:=v) hr;have hsq:=fun v=>sqB_set (i:=i) (k:=k) (v:=v) h3k;simp;refine wdt 26 ?_;simp[hr,ha1,ha2];apply gv<;>intro e
    ·have e':=e;have hj:ET p q i k L=L.set i (r.set k true):=by rw[ET,hz1];simp[e]
     simp[hr,hrc,e];refine nxa (k+1,L.set i (r.set k true)) ⟨by omega,by rw[hsk,hj],by rw[←hz1];exact hsq _⟩
    ·have e':=e;have hj:ET p q i k L=L.set i (r.set k (decide (at1 q i=at1 q k))):=by rw[ET,hz1];simp[e]
     simp[hr,hrc,hb1,hb2,e];refine nxa (k+1,L.set i (r.set k (decide (at1 q i=at1 q k)))) ⟨by omega,by rw[hsk,hj],by rw[←hz1];exact hsq _⟩
   ·simp at ak;have hik:p.length=k:=by omega
    subst hik;simp;refine nxa (i+1,L) ⟨by omega,by rw[hs];exact h2k,h3k⟩
  ·simp at a;have hi:p.length=i:=by omega
   subst hi;simp;refine ck (zW p.length _) ?_;simp;simp[alH,e,DL,PY,←h2]
def am1 (m:L2):(oO m).length=m.length:=OW _ _
def aiU (n:Nat)(l:List Con):(eB n l).length=n:=OW _ _
def QZ (m:L2)(cs:List Con)(hm:Qle m)(hc:Qle cs):Fk 137 [bZ m,jG cs] (wN (dH m cs)):=by
 refine fE [] ntmps137 fun _ _=> ?_;simp;refine ck (eG _) ?_;simp;apply gv<;>intro e
 ·have e':=e;simp at e';simp[e];grind[dH]
 ·have e':=e;simp at e';simp[e];refine ck (tY _ _) ?_;simp;apply gw<;>intro f
  ·simp at f;simp;grind[dH]
  ·simp at f;have hml:=dK (m:=m) (by simpa using e);simp[e',f];refine ck (FZ _) ?_;simp[e'];refine ck (xP _ _) ?_;simp[f];refine ck (K5 (oO m) (eB m.length cs) (by (try unfold Qle);rw[am1];omega) (by (try unfold Qle);rw[aiU];omega)) ?_;simp;all_goals(simp only[dH,e',f];simp)
def ER (l:List Con)(items:L1)(hs:Qle l)(hi:Qle items):Fk 139 [jG l,nInts items] (vE (iG l items)):=by
 refine fE [] ntmps139 fun _ _=> ?_;simp;refine wlt (Nat×List Con) (fun(i,out)=>([(0,vT l),(1,vN items),(5,vE out),(6,vI i)],l.length-i,(i<=l.length)/\(out=(l.take i).filterMap (yY items))/\(out.length<=i))) ((0,[])) ⟨by omega,rfl,by simp⟩ ?_;rintro⟨i,out⟩ ⟨h1,h2,h3⟩;simp;apply gw<;>intro a
 ·obtain⟨c,hc⟩:=aQ (l:=l) (i:=i);have hm:=zS (yY items) hc;rw[←h2]at hm;simp[hc];refine ck (eT _ _) ?_;simp[hc];refine ck (eT _ _) ?_;simp;apply gv<;>intro e
  ·have e':=e;simp[e];apply gw<;>intro b
   ·have hv:yY items c=some ⟨place items c.a,place items c.b,c.same⟩:=if_pos ⟨by unfold place;omega,by unfold place;omega⟩;simp[hc];refine nxb (i+1,out++[⟨place items c.a,place items c.b,c.same⟩]) ⟨by omega,by rw[hm,hv];rfl,by simp;omega⟩
   ·simp at b;have hv:yY items c=none:=if_neg (by rintro⟨h1,h2⟩;unfold place at h1 h2;omega);simp;refine nxa (i+1,out) ⟨by omega,by rw[hm,hv];simp,by omega⟩
  ·have e':=e;simp at e';have hv:yY items c=none:=if_neg (by rintro⟨h1,h2⟩;unfold place at h1 h2;omega);simp[e];refine nxa (i+1,out) ⟨by omega,by rw[hm,hv];simp,by omega⟩
 ·simp at a;rw[bS a]at h2;simp;grind[iG]
def sM (l:L1)(hs:Qle l):Fk 145 [nInts l] (wN (canon l)):=by
 refine fE [] ntmps145 fun _ _=> ?_;simp;refine wlt (Nat×(L1×L1)) (fun(i,s)=>([(0,vN l),(3,wN s.1),(4,wN s.2),(5,vI i)],l.length-i,(i<=l.length)/\(s=(l.take i).foldl jE ([],[]))/\(s.1.length<=i/\s.2.length<=i))) ((0,([],[]))) ⟨by omega,rfl,by simp⟩ ?_;rintro⟨i,s⟩ ⟨h1,h2,h3⟩;simp;apply gw<;>intro a
 ·obtain⟨c,hc⟩:=aQ (l:=l) (i:=i);have hm:=fA jE ([],[]) hc;rw[←h2]at hm;simp;refine wlt (Nat×Int) (fun(j,t)=>([(0,vN l),(3,wN s.1),(4,wN s.2),(5,vI i),(6,vI t),(7,vI j)],s.2.length-j,(j<=s.2.length)/\(t=loopN j (-1) ((fun j a=>if at1 s.2 j=c then(j:Int)else a)))/\(-1<=t/\t<=j))) ((0, -1)) ⟨by omega,rfl,by omega⟩ ?_;rintro⟨j,t⟩ ⟨h1j,h2j,h3j⟩;simp;apply gw<;>intro aj
  ·have hsj:=aL j (-1) ((fun j a=>if at1 s.2 j=c then(j:Int)else a));rw[←h2j]at hsj;have hj:=aV (l:=s.2) (i:=j);simp;refine wdr ?_;simp[hc,hj];apply gw<;>intro b
   ·simp;refine nxa (j+1,(j:Int)) ⟨by omega,by rw[hsj,if_pos b],by omega⟩
   ·simp;refine nxa (j+1,t) ⟨by omega,by rw[hsj,if_neg b],by omega⟩
  ·simp at aj;have hij:s.2.length=j:=by omega
   subst hij;simp;apply gw<;>intro b
   ·have hx:jE s c=(s.1++[(s.2.length:Int)],s.2++[c]):=if_pos (by rw[uB,←h2j];exact b);simp[hc];refine nxd (i+1,(s.1++[(s.2.length:Int)],s.2++[c])) ⟨by omega,by rw[hm,hx],by simp;omega⟩
   ·simp at b;have hx:jE s c=(s.1++[t],s.2):=by rw[jE,if_neg (by (try unfold Qle);rw[uB,←h2j];omega),uB,←h2j]
    simp;refine nxb (i+1,(s.1++[t],s.2)) ⟨by omega,by rw[hm,hx],by simp;omega⟩
 ·simp at a;rw[bS a]at h2;simp;grind[canon]
def BS (l:L1)(x y:Int)(hs:Qle l)(hx: -1048576<=x/\x<=1048576)(hy: -1048576<=y/\y<=1048576):Fk 215 [nInts l,dI x,dI y] (.tup [wN (rE l x y),vB (xX l x y)]):=by
 refine fE [] ntmps215 fun _ _=> ?_;simp;refine ai ?_;refine wlt (Nat×Int) (fun(i,t)=>([(0,vN l),(1,vI x),(2,vI y),(8,wN l),(9,vI t),(10,vI i)],l.length-i,(i<=l.length)/\(t=loopN i ((-1)) ((fun i t=>max t (at1 l i)))))) ((0,(-1))) ⟨by omega,rfl⟩ ?_;rintro⟨i,t⟩ ⟨h1,h2⟩;simp;apply gw<;>intro a
 ·have hs:=aL i ((-1)) ((fun i t=>max t (at1 l i)));rw[←h2]at hs;have hg:=aV a;simp[hg];refine nxa (i+1,max t (at1 l i)) ⟨(by first|omega|(simp;omega)|grind),(by first|omega|(simp;omega)|grind)⟩
 ·simp at a;have hi:l.length=i:=by omega
  subst hi;have ht:BF l=t:=h2.symm;simp;refine ck (lS l hs) ?_;simp;apply gv<;>intro a
  ·have a':=a;simp at a';have ho:xX l x y=false:=by simp only[xX];rw[a'];simp
   simp[a];simp[rE,ho]
  ·have a':=a;simp at a';have htl:=anU a';simp[a];refine ai ?_;refine ck (bE _ _ _) ?_;simp;apply gv<;>intro b
   ·have b':=b;simp at b';have ho:xX l x y=false:=by simp only[xX];rw[show inR x 0 ((l.length:Int)-1)=false by simp at b|-;omega];simp
    simp[b];simp[rE,ho]
   ·have b':=b;simp at b';simp[b];refine ai ?_;refine ck (bE _ _ _) ?_;simp;apply gw<;>intro d
    ·simp at d;have ho:xX l x y=false:=by simp only[xX,ht];rw[show inR y 0 (t+1)=false by simp at d|-;omega];simp
     simp;simp[rE,ho]
    ·simp at d;have hxb:0<=x/\x<=(l.length:Int)-1:=by simp at b;omega
     have hyb:0<=y/\y<=t+1:=by omega
     have ho:xX l x y:=by simp only[xX,ht];rw[a'];simp;omega
     have hg:=aV (l:=l) (i:=x.toNat);have hx0:=hxb.1;simp[hg,hx0];refine ckz (sM (l.set x.toNat y) (by simp;omega)) ?_;simp;simp[rE,ho]
def YJ (m:L2)(l:L1)(x y:Int)(hm:Qle m)(hs:Qle l)(hx: -1048576<=x/\x<=1048576)(hy: -1048576<=y/\y<=1048576):Fk 281 [bZ m,nInts l,dI x,dI y] (vI (J3 m l x y)):=by
 refine fE [] ntmps281 fun _ _=> ?_;have hml:=P9 l x y;have hp1:=AO m l;have hp2:=AO m (rE l x y);have e1:(if bP m=true/\fQ l=true/\l.length=m.length then dL m l else -1)=vJ m l:=rfl;have e2:(if bP m=true/\fQ (rE l x y)=true/\(rE l x y).length=m.length then dL m (rE l x y)else -1)=vJ m (rE l x y):=rfl;simp;refine ck (BS l x y hs hx hy) ?_;simp;refine ck ((e1▸mM m l hm hs)) ?_;simp;apply gv<;>intro a
 ·have a':=a;simp at a';have hg:J3 m l x y=0:=if_neg (by simp[a']);simp[a,hg]
 ·have a':=a;simp at a';simp[a];apply gw<;>intro b
  ·have hg:J3 m l x y=0:=if_neg (by omega);simp[hg]
  ·simp at b;simp;refine ck ((e2▸mM m (rE l x y) hm)) ?_;have hg:J3 m l x y=vJ m l-vJ m (rE l x y):=if_pos ⟨a',by omega⟩;simp[hg];simp only[inI];omega
abbrev UR (b:Mov):D:= .agg [dI b.item,dI b.block,dI b.gain]
def aj2 (m:L2)(cs:List Con)(l:L1)(i k:Nat)(b:Mov)(h:0<=b.gain/\b.gain<=2000000):0<=(xJ m cs l i k b).gain/\(xJ m cs l i k b).gain<=2000000:=by
 have:=ak6 m l i k;unfold xJ;split
 ·rename_i h2;simp only;omega
 ·exact h
def YI (m:L2)(cs:List Con)(l:L1)(hm:Qle m)(hcs:Qle cs)(hs:l.length<=1048575):Fk 214 [bZ m,jG cs,nInts l] (.tup [.val (UR (mG m cs l)),vB (decide (0<(mG m cs l).gain))]):=by
 refine fE [] ntmps214 fun _ _=> ?_;have hp:=AO m l;have e1:(if bP m=true/\fQ l=true/\l.length=m.length then dL m l else -1)=vJ m l:=rfl;have hkp:(cs.all (xE l)&&fQ l)=keepP cs l:=rfl;have hcm:aj7 m cs l=(decide (0<=vJ m l)&&keepP cs l):=rfl;simp;refine ck ((e1▸mM m l hm)) ?_;simp;apply gv<;>intro a
 ·have a':=a;have hb:mG m cs l=⟨0,0,0⟩:=if_neg (by rw[hcm,decide_eq_false (by omega)];simp);simp[a,hb]
 ·have a':=a;simp at a';simp[a];refine ck ((hkp▸rJ l cs (by omega) hcs)) ?_;simp;apply gw<;>intro d
  ·simp at d;have hb:mG m cs l=⟨0,0,0⟩:=if_neg (by rw[hcm,d];simp);simp[hb]
  ·simp at d;have hb:mG m cs l=loopN l.length ⟨0,0,0⟩ (ab9 m cs l):=if_pos (by rw[hcm,decide_eq_true (by omega),d];rfl);simp;refine wlt (Nat×Mov) (fun(i,b)=>([(0,.val (bZ m)),(1,vT cs),(2,vN l),(6,.own (.bx true (UR ⟨0,0,0⟩))),(8,.own (.bx true (UR b))),(9,vI i)],l.length-i,(i<=l.length)/\(b=loopN i (⟨0,0,0⟩) (ab9 m cs l))/\(0<=b.gain/\b.gain<=2000000))) ((0,⟨0,0,0⟩)) ⟨by omega,rfl,by simp⟩ ?_;rintro⟨i,b⟩ ⟨h1,h2,h3⟩;simp;apply gw<;>intro a
   ·have hs:=aL i (⟨0,0,0⟩) (ab9 m cs l);rw[←h2]at hs;simp;refine wlt (Nat×Mov) (fun(k,c)=>([(0,.val (bZ m)),(1,vT cs),(2,vN l),(6,.own (.bx true (UR ⟨0,0,0⟩))),(8,.own (.bx true (UR c))),(9,vI i),(10,vI k)],(l.length+1)-k,(k<=(l.length+1))/\(c=loopN k (b) (xJ m cs l i))/\(0<=c.gain/\c.gain<=2000000))) ((0,b)) ⟨by omega,rfl,h3⟩ ?_;rintro⟨k,c⟩ ⟨h1k,h2k,h3k⟩;simp;apply gw<;>intro ak
    ·have hsk:=aL k (b) (xJ m cs l i);rw[←h2k]at hsk;have hml:=P9 l i k;have hgl:=ak6 m l i k;have hkp2:(cs.all (xE (rE l i k))&&fQ (rE l i k))=keepP cs (rE l i k):=rfl;have hst:=aj2 m cs l i k c h3k;simp;refine ck (BS l i k (by omega) (by omega) (by omega)) ?_;simp;refine ck (YJ m l i k hm (by omega) (by omega) (by omega)) ?_;simp;apply gv<;>intro e
     ·have e':=e;simp[e];apply gv<;>intro f
      ·have f':=f;simp[f];refine ck ((hkp2▸rJ (rE l i k) cs (by omega) hcs)) ?_;simp;apply gw<;>intro g
       ·have hu:xJ m cs l i k c=⟨i,k,J3 m l i k⟩:=if_pos ⟨by simpa using e,by omega,by simpa using g⟩;rw[hu]at hst;simp;refine nxa (k+1,⟨i,k,J3 m l i k⟩) ⟨by omega,by rw[hsk,hu],hst⟩
       ·have hu:xJ m cs l i k c=c:=if_neg (by simp[g]);simp;refine nxa (k+1,c) ⟨by omega,by rw[hsk,hu],h3k⟩
      ·have f':=f;simp at f';have hu:xJ m cs l i k c=c:=if_neg (by omega);simp[f];refine nxa (k+1,c) ⟨by omega,by rw[hsk,hu],h3k⟩
     ·have e':=e;have hu:xJ m cs l i k c=c:=if_neg (by simp[e]);simp[e];refine nxa (k+1,c) ⟨by omega,by rw[hsk,hu],h3k⟩
    ·simp at ak;have hik:(l.length+1)=k:=by omega
     subst hik;simp;refine nxa (i+1,c) ⟨by omega,by rw[hs,ab9,←h2k],h3k⟩
   ·simp at a;have hi:l.length=i:=by omega
    subst hi;have hbb:mG m cs l=b:=by rw[hb,h2]
    simp;refine jV [] (cO 8) ?_;simp;refine wdf [(4,[6,66]),(5,[69,7])] [(6,.own (.bx true (UR ⟨0,0,0⟩))),(8,.val (.bx false (UR b)))] [] (by simp) ?_;simp[hbb]
def ar9 (m:L2)(cs:List Con)(l:L1):0<=(mG m cs l).item/\(mG m cs l).item<=l.length/\0<=(mG m cs l).block/\(mG m cs l).block<=l.length:=by
 unfold mG;split
 ·refine loopN_inv (n:=l.length) (fun _ (b:Mov)=>0<=b.item/\b.item<=l.length/\0<=b.block/\b.block<=l.length) (by simp) fun i b hi hb=> ?_;refine loopN_inv (n:=l.length+1) (fun _ (b:Mov)=>0<=b.item/\b.item<=l.length/\0<=b.block/\b.block<=l.length) hb fun k c hk hc=> ?_;unfold xJ;split
  ·simp only;omega
  ·exact hc
 ·simp
def IZ (m:L2)(cs:List Con)(l:L1)(hm:Qle m)(hcs:Qle cs)(hs:l.length<=1048575):fP prog 144 [bZ m,jG cs,nInts l] (fun r'=>∃k:Int,r'= .tup [wN (qY m cs 100 l),vI k]):=by
 refine fE [] ntmps144 fun _ _=> ?_;simp;refine ai ?_;refine wlt (Nat×L1) (fun(k,x)=>([(0,.val (bZ m)),(1,vT cs),(8,wN x),(9,vI k)],100-k,(k<=100)/\x.length=l.length/\(qY m cs (100-k) x=qY m cs 100 l))) ((0,l)) ⟨by omega,rfl,rfl⟩ ?_;rintro⟨k,x⟩ ⟨h1,h2,h3⟩;simp;apply gw<;>intro a
 ·have hbl:=ar9 m cs x;have hml:=P9 x (mG m cs x).item (mG m cs x).block;have hgo:qY m cs (100-k) x=if 0<(mG m cs x).gain then qY m cs (100-(k+1)) (rE x (mG m cs x).item (mG m cs x).block)else x:=by rw[show 100-k=(100-(k+1))+1 by omega,qY]
  simp;refine ck (YI m cs x hm hcs (by omega)) ?_;simp;apply gw<;>intro b
  ·simp at b;rw[if_neg (by simpa using b)]at hgo;simp;simp[←h3,hgo]
  ·rw[if_pos (by simpa using b)]at hgo;simp;refine ck (BS x (mG m cs x).item (mG m cs x).block (by omega) (by omega) (by omega)) ?_;simp;refine nxa (k+1,rE x (mG m cs x).item (mG m cs x).block) ⟨by omega,by omega,by rw[←hgo,h3]⟩
 ·simp at a;obtain rfl:k=100:=by omega
  have hgo:qY m cs (100-100) x=x:=rfl;simp;simp[←h3,hgo]
def RA (l:L1)(x y:Int)(hl:1<=l.length/\Qle l)(hx:0<=x/\x<(l.length:Int)):Fk 299 [nInts l,dI x,dI y] (wN (canon (l.set x.toNat y))):=by
 refine fE [] ntmps299 fun _ _=> ?_;have hg:=aV (l:=l) (i:=x.toNat);have hx0:=hx.1;simp;refine ck (nQ l hl) ?_;simp[hg,hx0];refine ckz (sH (l.set x.toNat y) (by simp;omega)) ?_;simp
def auW {l:L1}(h:1<=l.length)(h0: -1<=at1 l 0):at1 l 0=loopN 1 (-1) (fun i t=>max t (at1 l i)):=by
 rw[aL,loopN_zero];omega
def MN (l:L1)(hl:1<=l.length/\Qle l)(h0: -1<=at1 l 0):Fk 378 [nInts l] (vI (BF l)):=by
 refine fE [] ntmps378 fun _ _=> ?_;have hg:=aV (l:=l) (i:=0);have hn:¬(l.length:Int)<1:=by omega
 have hb:=auW hl.1 h0;simp[hg,hn];refine wlt (Nat×Int) (fun(i,t)=>([(0,vN l),(3,vI t),(4,vI i)],l.length-i,(1<=i/\i<=l.length)/\(t=loopN i (-1) (fun i t=>max t (at1 l i))))) ((1,at1 l 0)) ⟨by omega,hb⟩ ?_;rintro⟨i,t⟩ ⟨h1,h2⟩;simp;apply gw<;>intro a
 ·have hgi:=aV (l:=l) (i:=i);have hs:=aL i (-1) (fun i t=>max t (at1 l i));rw[←h2]at hs;simp[hgi];refine nxa (i+1,max t (at1 l i)) ⟨by omega,hs.symm⟩
 ·simp at a;obtain rfl:i=l.length:=by omega
  have hfin:BF l=t:=h2.symm;simp[hfin]
def SI (l:L1)(hp:fQ l):Fk 345 [nInts l] (vI (BF l+1)):=by
 refine fE [] ntmps345 fun _ _=> ?_;have hpl:=isPart_len hp;have ht:=anU hp;have h0:=(isPart_iff.1 hp).1 0 (by omega);simp;refine ck (MN l ⟨by omega,by omega⟩ (by omega)) ?_;simp;simp only[inI];omega
def aaE (m:L2)(cs:List Con)(l:L1)(hm:bP m)(hp:fQ l)(hl:l.length=m.length)(hc:Qle cs):Fk 344 [bZ m,jG cs,nInts l] (vB (mY cs l)):=by
 refine fE [] ntmps344 fun _ _=> ?_;have hpc:=J9 hm hp hl;have h0:=kG hm l;have hn8:=dK hm;simp;refine ck (A8 m l hm (by omega)) ?_;simp[hpc,h0];refine ck (CW l cs) ?_;simp
variable {m:L2}
def aGE {l:L1}(hm:bP m)(hp:fQ l)(hl:l.length=m.length)(i k:Nat): -1000000<=mvGain m l i k/\mvGain m l i k<=1000000:=by
 have h1:=AO m l;have h3:=kG hm l;have h4:=kG hm (canon (l.set i k));have hc:(canon (l.set i k)).length=l.length:=by rw[oV];simp
 have h2:=AO m (canon (l.set i k));rw[J9 hm hp hl]at h1;rw[J9 hm (R4 (by simp;exact isPart_len hp)) (by omega)]at h2;unfold mvGain;omega
def amJ {cs:List Con}{l:L1}{i k:Nat}{b:Mov}(hg:mvGain m l i k<=1000000)(h:0<=b.gain/\b.gain<=1000000):0<=(GH m cs l i k b).gain/\(GH m cs l i k b).gain<=1000000:=by
 unfold GH;split
 ·next hh=>exact⟨by show 0<=mvGain m l i k;omega,hg⟩
 ·exact h
def X4 (m:L2)(cs:List Con)(l:L1)(hm:bP m)(hp:fQ l)(hl:l.length=m.length)(hk:mY cs l)(hc:Qle cs):Fk 298 [bZ m,jG cs,nInts l] (.tup [.val (UR (mvBest m cs l)),vB (decide (0<(mvBest m cs l).gain))]):=by
 refine fE [] ntmps298 fun _ _=> ?_;have hn8:=dK hm;have ht:=anV hp;simp;refine ck (aaE m cs l hm hp hl hc) ?_;simp[hk];refine ck (jY m l hm hl) ?_;simp;refine wlt (Nat×Mov) (fun(i,b)=>([(0,.val (bZ m)),(1,vT cs),(2,vN l),(6,.own (.bx true (UR ⟨0,0,0⟩))),(8,.own (.bx true (UR b))),(9,vI (dL m l)),(24,vI l.length),(25,vI i)],l.length-i,(i<=l.length)/\(b=loopN i (⟨0,0,0⟩) (aq9 m cs l))/\(0<=b.gain/\b.gain<=1000000))) ((0,⟨0,0,0⟩)) ⟨by omega,rfl,by simp⟩ ?_;rintro⟨i,b⟩ ⟨h1,h2,h3⟩;simp;apply gw<;>intro a
 ·have hs:=aL i (⟨0,0,0⟩) (aq9 m cs l);rw[←h2]at hs;simp;refine wlt (Nat×Mov) (fun(k,c)=>([(0,.val (bZ m)),(1,vT cs),(2,vN l),(6,.own (.bx true (UR ⟨0,0,0⟩))),(8,.own (.bx true (UR c))),(9,vI (dL m l)),(10,vI i),(11,vI k),(24,vI l.length),(25,vI i)],(BF l+2).toNat-k,(k<=(BF l+2).toNat)/\(c=loopN k b (GH m cs l i))/\(0<=c.gain/\c.gain<=1000000))) ((0,b)) ⟨by omega,rfl,h3⟩ ?_;rintro⟨k,c⟩ ⟨h4,h5,h6⟩;simp;refine ck (SI l hp) ?_;simp;apply gw<;>intro e
  ·have hs2:=aL k b (GH m cs l i);rw[←h5]at hs2;have hcl:(canon (l.set i k)).length=l.length:=by rw[oV];simp
   have hgl:=aGE hm hp hl i k;have hst:=amJ (cs:=cs) (k:=k) (i:=i) hgl.2 h6;have hmg:dL m l-dL m (canon (l.set i k))=mvGain m l i k:=rfl;simp;refine ck (RA l i k (by omega) (by omega)) ?_;simp;refine ck (jY m (canon (l.set i k)) hm (by omega)) ?_;simp[hmg];refine ai ?_;apply gv<;>intro f
   ·have f':=f;simp[f];refine ck (CW (canon (l.set i k)) cs (by omega) hc) ?_;simp;apply gw<;>intro g
    ·have hu:GH m cs l i k c=⟨i,k,mvGain m l i k⟩:=if_pos ⟨f,g⟩;rw[hu]at hst;simp;refine nxa (k+1,⟨i,k,mvGain m l i k⟩) ⟨by omega,by rw[hs2,hu],hst⟩
    ·have hu:GH m cs l i k c=c:=if_neg (by simp[g]);simp;refine nxa (k+1,c) ⟨by omega,by rw[hs2,hu],h6⟩
   ·have f':=f;simp at f';have hu:GH m cs l i k c=c:=if_neg (by omega);simp[f];refine nxa (k+1,c) ⟨by omega,by rw[hs2,hu],h6⟩
  ·simp at e;obtain rfl:k=(BF l+2).toNat:=by omega
   simp;refine nxa (i+1,c) ⟨by omega,by rw[hs,h5];rfl,h6⟩
 ·simp at a;have hi:l.length=i:=by omega
  subst hi;have hfin:mvBest m cs l=b:=h2.symm;simp;refine wdf [(4,[6,57]),(5,[60,7])] [(6,.own (.bx true (UR ⟨0,0,0⟩))),(8,.own (.bx true (UR b)))] [] (by simp) ?_;simp[hfin]
def IX (m:L2)(cs:List Con)(l:L1)(hm:bP m)(hp:fQ l)(hl:l.length=m.length)(hk:mY cs l)(hc:Qle cs):fP prog 234 [bZ m,jG cs,nInts l] (fun r=>∃k:Int,r= .tup [wN (qY m cs 100 l),vI k]):=by
 refine fE [] ntmps234 fun _ _=> ?_;have hn8:=dK hm;simp;refine ck (nQ l ⟨by omega,by omega⟩) ?_;simp;refine wlt (Nat×L1) (fun(i,o)=>([(0,.val (bZ m)),(1,vT cs),(8,wN o),(14,vI i)],100-i,(i<=100)/\(qY m cs 100 l=qY m cs (100-i) o)/\(fQ o=true)/\o.length=m.length/\(mY cs o=true))) ((0,l)) ⟨by omega,rfl,hp,hl,hk⟩ ?_;rintro⟨i,o⟩ ⟨h1,h2,h3,h4,h5⟩;simp;apply gw<;>intro a
 ·have hst:=ao8 hm h3 h4 h5 (99-i);rw[show 99-i+1=100-i by omega]at hst;have hbo:=(agT (m:=m) (cs:=cs) (l:=o)).2;simp;refine ck (X4 m cs o hm h3 h4 h5 hc) ?_;simp;apply gw<;>intro b
  ·simp at b;have hfin:qY m cs 100 l=o:=by rw[h2,hst];exact if_neg (by simpa using b)
   simp[hfin]
  ·have hb2:0<(mvBest m cs o).gain:=by simpa using b
   have hbb:=hbo hb2;rw[if_pos hb2]at hst;simp;refine ck (RA o (mvBest m cs o).item (mvBest m cs o).block ⟨by omega,by omega⟩ ⟨hbb.1,hbb.2.1⟩) ?_;simp;refine nxa (i+1,canon (o.set (mvBest m cs o).item.toNat (mvBest m cs o).block)) ⟨by omega,by rw[h2,hst,show 100-(i+1)=99-i by omega],(R4 (by simp;omega)),by rw[oV];simp;omega,hbb.2.2.2.2⟩
 ·simp at a;obtain rfl:i=100:=by omega
  have hfin:qY m cs 100 l=o:=by rw[h2];rfl
  simp[hfin]
def bC (l:L1)(x:Int)(hl:Qle l:=by omega):Fk 25 [nInts l,dI x] (vB (l.any fun y=>decide (x=y))):=by
 refine fE [] ntmps25 fun _ _=> ?_;have hq:decide (0<=ix (fun y=>decide (x=y)) l)=l.any (fun y=>decide (x=y)):=by rw[bH,decide_eq_true_eq];exact iV
 simp;refine ck (jF l x) ?_;simp[hq]
def aaB (n:Int)(l:L1)(hn:1<=n/\n<=8)(ho:GA n l)(hl:Qle l):Fk 342 [dI n,nInts l] (vB true):=by
 refine fE [] ntmps342 fun _ _=> ?_;have hon:=ho;simp only[GA,k_Bool_and_eq_true,aI,decide_eq_true_eq]at hon;obtain⟨⟨⟨o1,o2⟩,o3⟩,o4⟩:=hon;subst o4;have o5:=o3.1;have o6:=o3.2;simp;refine ck (bD l.length 1 8) ?_;simp[o5,o6];refine wl (fun(i:Nat)=>[(0,vI l.length),(1,vN l),(16,vN l),(17,vI l.length),(18,vI i)]) (fun(i:Nat)=>l.length-i) (fun(i:Nat)=>(i<=l.length)) (0) (by omega) ?_;rintro i h1;simp;apply gw<;>intro a
 ·obtain⟨c,hc⟩:=aQ (l:=l) (i:=i);have hcn:=o1 c (aA hc);have hno:((l.take i).any fun y=>decide (c=y))=false:=by rw[fD];intro y hy;simp only[decide_eq_true_eq];rintro rfl;obtain⟨j,hj⟩:=dE hy;have hji:=dM hj;simp at hji;rw[bA,if_pos (by omega)]at hj;have e1:=XR hj;have e2:=XR hc;have:=ahT o2 (i:=j) (k:=i) (by omega) (by omega) (by rw[e1,e2]);omega
  simp[hc];refine ck (nG c l.length) ?_;have htk:List.take i (List.map dI l)=(l.take i).map dI:=by rw[uL]
  have hmin:min i l.length=i:=by omega
  simp[hcn];refine ai ?_;refine ckz (bC (l.take i) c (by simp;omega)) ?_;simp[hno];refine nxa (i+1) (by omega)
 ·simp at a;simp
end Go.Proofs.YtigjbamofhdchaaGreatDoor
end
section
namespace Go.Proofs.YtigjbamofhdchaaGreatDoor
open Go.Dv Go.Pl Go.RowKit Go.Proofs.Tryz
def pM (n k:Nat)(v:Int):List Value:=List.replicate k (.int .i64 v)++List.replicate (n-k) (.int .i64 0)
variable {n k:Nat}
def asQ {v:Int}(h:k<=n):(pM n k v).length=n:=by simp[pM];omega
def asP (n:Nat)(v:Int):pM n n v=List.replicate n (.int .i64 v):=by simp[pM]
def UY {j:Nat}{v:Int}(h:k+j<=n):splice (pM n k v) k (List.replicate j (.int .i64 v))=pM n (k+j) v:=by
 have h1:(pM n k v).take k=List.replicate k (.int .i64 v):=by unfold pM;rw[List.take_left' (by simp)]
 have h2:(pM n k v).drop (k+j)=List.replicate (n-(k+j)) (.int .i64 0):=by
  unfold pM;rw[pX,bW (by simp),iM,List.drop_replicate,sP];congr 1;omega
 rw[splice,h1,sP,h2,←List.append_assoc,List.replicate_append_replicate];rfl
def ax3 {z:Value}(n:Nat)(v:Int)(hz:z.cells= #[.int .i64 0]):madeCells z.cells (n*1)=(pM n 0 v).toArray:=by
 rw[hz];apply bT.1;apply jS;intro i;by_cases hi:i<n<;>simp[madeCells,pM,hi,Nat.mod_one]
def apT (v:Int)(n b off cap:Nat)(w:World)(hn:1<=n/\n<=8)(hc:w.cell? ⟨b,off,none⟩=some (.int .i64 v))(hb:b<w.heap.size):
  Calls prog 343 #[.slice (some ⟨b,off,none⟩) 1 cap,.int .i64 n] w fun e w'=>∃g,e= .returned (.slice (some ⟨g,0,none⟩) n n)/\w.heap.size<=g/\w'.heap[g]?=some (.cells (List.replicate n (Value.int .i64 v)).toArray 3 (0,0))/\Below w.heap.size w w':=by
 go_enter func343,ntmps343;have e1:(1*n/18446744073709551616:Nat)=0:=by omega
 have e2:(1*n % 18446744073709551616:Nat)=n:=by omega
 have hm:∀w,Calls prog 377 #[.int .u64 1,.int .u64 n] w fun e w'=>e= .returned (.tuple #[.int .u64 0,.int .u64 n])/\w'=w:=fun w=>by have:=Tryz.bits_Mul 1 n (by omega) (by omega) w;rw[e1,e2]at this;exact this
 obtain⟨hu,i,zv,hi,hsz,hz,hflat,_⟩:=(good 3).of (fun x h e=>by rw[e]at h;cases h);have hby:i.bytes<=4096:=by rename_i h;exact h.2.2.1
 have hzc:zv.cells= #[.int .i64 0]:=by
  have h9:some zv.cells.toList=some [Value.int .i64 0]:=hflat.symm;exact bT.1 (k_Option_some_inj h9)
 have hsz1:i.size=1:=hsz
 have hmk:∀w,(Instr.makeSlice 25 (.int .i64 (n:Int)) (.int .i64 (n:Int))).run prog w= .ok (.slice (some ⟨w.heap.size,0,none⟩) n n) (w.alloc (.cells (pM n 0 v).toArray 3)):=fun w=>by
  have:=run_make (P:=prog) (w:=w) 25 3 i zv underlying25 hi hz .i64 .i64 n n (by omega) (by omega) (by have:(i.bytes:Int)<=4096:=(by omega);have h2:(i.bytes:Int)*n<=4096*n:=lD this (by omega);omega) (by omega);rw[this,hsz1];simp only[iE];rw[ax3 n v hzc]
 have g1:¬(9223372036854775807<(n:Int)):=by omega
 have g2:¬((n:Int)<0):=by omega
 have hinfo:(prog.info? 3).map (·.size)=some 1:=by rw[hi];simp[hsz1]
 have hinf:=hinfo;clear hinfo hi hz hflat hzc hsz hu hby
 have hn0:(w.alloc (.cells (pM n 0 v).toArray 3)).heap[w.heap.size]?=some (.cells (pM n 0 v).toArray 3 (0,0)):=heap_alloc_new w _
 have hc0:(w.alloc (.cells (pM n 0 v).toArray 3)).cell? ⟨b,off,none⟩=some (.int .i64 v):=by
  have e:(w.alloc (.cells (pM n 0 v).toArray 3)).heap[b]?=w.heap[b]?:=by show(w.heap.push _)[b]?=_;rw[Array.getElem?_push,if_neg (by omega)]
  simp only[World.cell?,e]at hc|-;exact hc
 have hsp0:(splice (pM n 0 v) 0 [Value.int .i64 v])=pM n 1 v:=by have:=UY (n:=n) (k:=0) (j:=1) (v:=v) (by omega);simpa using this
 obtain⟨wa,hwa⟩:∃wa,wa=(w.alloc (.cells (pM n 0 v).toArray 3)):=⟨_,rfl⟩;have hBa:Below w.heap.size w wa:=hwa▸(Below.refl _ w).alloc (k_Nat_le_refl _) _;have hmk1:=hmk w;rw[←hwa]at hn0 hc0 hmk1
 have hcp:(Builtin.copy_ #[25,25] 3 #[.slice (some ⟨w.heap.size,0,none⟩) n n,.slice (some ⟨b,off,none⟩) 1 cap]).run prog wa= .ok (goInt 1) (wa.setRow w.heap.size (pM n 1 v).toArray):=by
  have h:=run_copy_row (P:=prog) wa 25 25 3 3 w.heap.size 0 n n ⟨b,off,none⟩ 1 cap (pM n 0 v).toArray 3 [.int .i64 v] underlying25 hinf hn0 (by simp[Nat.min_def];omega) (fun j u hj=> ?_) (by simp[pM];omega) (by simp[Value.oneCell'])
  ·rw[←hsp0];exact h
  ·match j,hj with
   |0,hj=>
    obtain rfl:Value.int .i64 v=u:=by simpa using hj
    exact hc0
   |j+1,hj=>simp at hj
 obtain⟨w2,hw2⟩:∃w2,w2=(wa.setRow w.heap.size (pM n 1 v).toArray):=⟨_,rfl⟩;have hB2:Below w.heap.size w w2:=hw2▸below_setRow hBa (k_Nat_le_refl _) _;have hg2:w2.heap[w.heap.size]?=some (.cells (pM n 1 v).toArray 3 (0,0)):=by rw[hw2];exact setRow_heap _ _ _ _ _ _ hn0
 rw[←hw2]at hcp;clear hmk hn0 hc0 hBa hwa hw2 hsp0
 go_wp2_with (first|(go_at_call 377;refine(hm _).mono ?_;rintro e w1 ⟨rfl,hw1⟩;obtain rfl:=hw1.symm))
 go_loopw [8] (fun x w'=>∃k:Nat,x= .int .i64 k/\1<=k/\k<=n/\w'.heap[w.heap.size]?=some (.cells (pM n k v).toArray 3 (0,0))/\Below w.heap.size w w') (fun x _=>match x with| .int _ i=>n-i.toNat|_=>0)
 case atStart=>exact⟨1,rfl,k_Nat_le_refl _,hn.1,hg2,hB2⟩
 case round=>
  obtain⟨k,rfl,hk1,hk2,hgk,hBk⟩:=hrel
  go_wp2
  ·obtain⟨cs,hcs⟩:∃cs,cs=List.replicate (min k (n-k)) (Value.int .i64 v):=⟨_,rfl⟩;have hl:cs.length=min k (n-k):=by simp[hcs]
   have hrow:∀j u,cs[j]?=some u->wr.cell? ((⟨w.heap.size,0,none⟩:Addr).add j)=some u:=by
    intro j u hj;have hlt:j<min k (n-k):=by rw[←hl];exact(aD.1 hj).1
    obtain rfl:Value.int .i64 v=u:=by rw[hcs]at hj;simpa[eZ,hlt]using hj
    rcases kQ j with rfl|hj0
    ·simp[World.cell?,Addr.add,hgk,pM,lG,show 0<k by omega]
    ·simp[World.cell?,Addr.add,hgk,pM,lG,show j<k by omega,show¬j=0 by omega]
   have hsp:splice (pM n k v) k cs=pM n (k+min k (n-k)) v:=by rw[hcs];exact UY (by omega)
   have h1c:∀x∈cs,x.oneCell':=by intro x hx;rw[hcs]at hx;obtain rfl:=(nI.1 hx).2;rfl
   clear hcs
   go_region_law (refine step_copy_splice rfl (.tmp 41) (.tmp 44) 25 25 rfl 3 underlying25 hinf (some ⟨w.heap.size,k,none⟩) (some ⟨w.heap.size,0,none⟩) (n-k) (n-k) k n (by simp[Act.eval,Act.put,show¬n=k by omega]) (by simp[Act.eval,Act.put]) w.heap.size k (pM n k v) 3 hgk cs hl (fun _=>⟨rfl,_,rfl,hrow⟩) (by (try unfold Qle);rw[hl,asQ hk2];omega) h1c w.heap.size w hBk.drew (k_Nat_le_refl _) ?_;intro w4 hg4 hb4;replace hg4:=hg4.out;rw[hsp]at hg4)
   go_wp2
   have hw:IntKind.i64.wrap ((k:Int)+((min k (n-k):Nat):Int))=((k+min k (n-k):Nat):Int):=by simp[IntKind.wrap,IntKind.bits,IntKind.signed];omega
   rw[hw];refine⟨⟨k+min k (n-k),rfl,by omega,by omega,rfl⟩,?_⟩;simp only[iE];omega
  ·obtain rfl:k=n:=by omega
   rw[asP]at hgk;refine bodyPost_ret (v:= .slice (some ⟨w.heap.size,0,none⟩) k k) ?_ rfl ⟨w.heap.size,rfl,k_Nat_le_refl _,hgk,hBk⟩;simp[results,Tryz.f343,loadVar]
variable {ow:Own}{u v:Value}
def KN {w:World}(h:V prog w ow (D.fz (.one u)) [] v):v=u:=by
 simp only[D.fz,V,R]at h;simpa using h.1
variable {vs:Array Value}
def XQ {w:World}(hs:vs.size=1)(h:∀(i:Nat) (d:D),[D.one u][i]?=some d->V prog w ow d.fz [] (vs.getD i undef)):vs= #[u]:=by
 have h0:=KN (h 0 _ rfl);apply Array.ext
 ·simpa using hs
 ·intro i h1 h2;obtain rfl:i=0:=by simpa using h2
  simpa[aF,h1]using h0
def ahR {w:World}{u':Value}(hs:vs.size=2)(h:∀(i:Nat) (d:D),[D.one u,D.one u'][i]?=some d->V prog w ow d.fz [] (vs.getD i undef)):vs= #[u,u']:=by
 have h0:=KN (h 0 _ rfl);have h1:=KN (h 1 _ rfl);apply Array.ext
 ·simpa using hs
 ·intro i hi h2;have:i=0\/i=1:=by simp at h2;omega
  rcases this with rfl|rfl
  ·simpa[aF,hi]using h0
  ·simpa[aF,hi]using h1
def awX {f:FuncId}{ds:List D}{us:List Value}(hu:∀u∈us,u.oneCell')(h:∀(w:World) (ow:Own) (vs:Array Value),Laid w ow->vs.size=ds.length->(∀(i:Nat) (d:D),ds[i]?=some d->V prog w ow d.fz [] (vs.getD i undef))->Calls prog f vs w fun e w'=>e= .returned (.tuple us.toArray)/\Below w.heap.size w w'):
  fP prog f ds (fun r=>r= .tup (us.map fun u=> .val (.one u))):=by
 intro w ow vs t ht hL hnew hvs hargs;refine(h w ow vs hL hvs hargs).mono ?_;rintro e w' ⟨rfl,hB⟩;refine⟨_,fun b=>if b<w.heap.size then ow b else none,_,rfl,rfl,⟨hB.os,hB.tape,hB.output,hB.size,fun b hb=>⟨hB.block b hb,if_pos hb⟩,fun b hb=>if_neg (by have:=hB.size;omega)⟩,rfl,fun s a=> ?_⟩;refine⟨_,rfl,by simp,fun k x hx=> ?_⟩;rw[aN,aK]at hx;obtain⟨u,hu1,rfl⟩:=hx;have hv:us.toArray.getD k undef=u:=by simp[aF,hu1]
 rw[hv];simp only[D.fz,V,R];simpa using hu u (aA hu1)
def below_grow {w:World}{os:Array Obj}:Below w.heap.size w (Go.Sort.grow (w.drewN k) os):=(show Below w.heap.size w (w.drewN k)from⟨rfl,rfl,rfl,k_Nat_le_refl _,fun _ _=>rfl⟩).trans ⟨rfl,rfl,rfl,by simp[Go.Sort.grow],fun b hb=>by simp[Go.Sort.grow,Array.getElem?_append,hb]⟩
def aA9 {w:World}{l:L1}(h:V prog w ow (D.fz (nInts l)) [] v):∃a cap,v= .slice a l.length cap/\l.length<=cap/\(l=[]\/∃b off,a=some ⟨b,off,none⟩/\b<w.heap.size/\∀(j:Nat) x,l[j]?=some x->w.cell? ⟨b,off+j,none⟩=some (.int .i64 x)):=by
 have hfz:D.fz (nInts l)=nInts l:=by simp[D.fz,D.J2]
 rw[hfz]at h;simp only[V,R]at h;obtain⟨a,cap,h1,h2,h3,h4⟩:=h;have h1:v= .slice a (l.map dI).length cap:=by simpa using h1
 rw[aX]at h1 h2;refine⟨a,cap,h1,h2,?_⟩;rcases h4 with h4|h4|⟨b,off,s,C,e,fz,ha,hh,hn,hs,hr⟩
 ·exact .inl (by simpa using h4.2.1)
 ·exact .inl (by simpa using h4.2)
 ·refine .inr ⟨b,off,ha,lt_of_heap hh,fun j x hx=> ?_⟩;have:=(Rs.iff hh).1 hr j (dI x) (by rw[aN,hx];rfl);obtain⟨hw,C',e',fz',cs,g1,g2,g3⟩:=this;have hs1:s=1:=hw.symm;subst hs1;rw[hh]at g1;obtain⟨rfl,rfl,rfl⟩:C=C'/\e=e'/\fz=fz':=by simpa using g1
  simp only[R]at g3;obtain⟨rfl,_⟩:=g3;rw[cell_of_row w b (off+j) C e fz hh];have:=g2 0 (by simp[D.w]);simpa using this
def aD1 (v:Int)(n:Nat)(hn:1<=n/\n<=8):fP prog 343 [nInts [v],dI n] (fun r=>r=wN (List.replicate n v)):=by
 intro w ow vs t ht hL hnew hsz ha;have h0:=ha 0 _ rfl;have h1:=KN (ha 1 _ rfl);obtain⟨a,cap,hv,hcap,hc⟩:=aA9 h0
 obtain rfl:vs= #[.slice a 1 cap,.int .i64 n]:=by
  apply Array.ext
  ·simpa using hsz
  ·intro i hi h2;have:i=0\/i=1:=by simp at h2;omega
   rcases this with rfl|rfl
   ·simpa[aF,hi]using hv
   ·simpa[aF,hi]using h1
 rcases hc with hc|⟨b,off,rfl,hb,hcell⟩
 ·cases hc
 refine(apT v n b off cap w hn (hcell 0 v rfl) hb).mono ?_;rintro e w' ⟨g,rfl,hg,hrow,hB⟩;have hlt:g<w'.heap.size:=lt_of_heap hrow;refine⟨_,fun b=>if b=g then some [t]else if b<w.heap.size then ow b else none,_,rfl,rfl,⟨hB.os,hB.tape,hB.output,hB.size,fun b hb=>⟨?_,?_⟩,fun b hb=> ?_⟩,rfl,fun s' a=> ?_⟩
 ·exact hB.block b hb
 ·rw[if_neg (by omega),if_pos hb]
 ·have:=hB.size;rw[if_neg (by omega),if_neg (by omega)]
 ·simp only[SV,V,R];refine⟨some ⟨g,0,none⟩,n,by simp,by simp,by unfold maxLen;omega,.inr (.inr ⟨g,0,1,_,3,(0,0),rfl,hrow,(by intro h;cases h),fun t' ht'=> ?_,?_⟩)⟩
  ·obtain rfl:=k_Option_some_inj ht';obtain⟨_,i,zv,hi,hsz,_⟩:=(good 3).of (fun x h e=>by rw[e]at h;cases h);exact⟨by simp,rfl,unfz0 _,rfl,by simp,i,hi,hsz⟩
  ·rw[Rs.iff hrow];intro j x hx;rw[aN,aK]at hx;obtain⟨y,hy,rfl⟩:=hx
   obtain⟨hj,rfl⟩:j<n/\v=y:=by
    have h1:=(aD.1 hy).1;simp at h1;exact⟨h1,by simpa[eZ,h1]using hy⟩
   refine⟨rfl,_,_,_,[.int .i64 v],hrow,fun k hk=> ?_,?_⟩
   ·obtain rfl:k=0:=by simpa[D.w]using hk
    simp[hj]
   ·simp[R,Value.oneCell']
def K7 (s:Str)(hs:Qle s)(ht:s.all zJ):fP prog 224 [dS s,dS [124,59]] (fun r=>r=vB (!s.all uT)):=
 DD (u:= .bool (!s.all uT)) rfl fun w ow vs hL hsz ha=>by
  obtain rfl:=ahR hsz ha;rw[←NF];refine(Tryz.strings_ContainsAny_laid ⟨s.toArray⟩ ⟨[124,59].toArray⟩ w (by simp[ByteArray.size];omega) (by decide) (fun j b hb=> ?_) (fun j b hb=> ?_))
  ·have hb':s[j]?=some b:=hb;have:=aI.1 ht b (aA hb');simp[zJ]at this;omega
  ·have hb':[124,59][j]?=some b:=hb;have:=aA hb';simp at this;rcases this with rfl|rfl<;>decide
def ac3 (s:Str)(hs:Qle s:=by first|omega|grind):Fk 223 [dS s] (vB (isText s)):=by
 refine fE [] ntmps223 fun _ _=> ?_;simp;refine wlt Nat (fun i=>([(0,vS s),(5,vI s.length),(6,vI i)],s.length-i,(i<=s.length)/\((s.take i).all zJ=true))) (0) ⟨by omega,rfl⟩ ?_;rintro i ⟨h1,h2⟩;simp;apply gw<;>intro a
 ·obtain⟨c,hc⟩:=aQ (l:=s) (i:=i);simp[hc];refine ck (bD c.toNat 32 126) ?_;simp;apply gw<;>intro b
  ·simp at b;have hn:=fK hc (P:=zJ) (by simp[zJ];omega);simp;grind[isText]
  ·simp at b;simp;refine nxa (i+1) ⟨by omega,(bV hc h2 (by simp[zJ];omega))⟩
 ·simp at a;have hf:=iP h2 a;simp;grind[isText]
def ao9 {s:Str}(h:isText s):s.all zJ=true:=by simp only[isText,k_Bool_and_eq_true]at h;exact h.1
def aaG (s:Str)(hs:Qle s:=by first|omega|grind):Fk 159 [dS s] (vB (lC s)):=by
 refine fE [] ntmps159 fun _ _=> ?_;simp;refine ck (ac3 _) ?_;simp;apply gv<;>intro e
 ·have e':=e;simp[e];refine ck (K7 s hs (ao9 e)) ?_;simp;simp[lC,e]
 ·have e':=e;simp[e];simp[lC,e]
def JP (s:Str)(hs:Qle s):Fk 158 [dS s] (vB (!lC s)):=by
 refine fE [] ntmps158 fun _ _=> ?_;simp;refine ck (aaG _) ?_;simp
def ao1 (l:List Str)(hl:Qle l)(hs:∀f∈l,aeO f):Fk 222 [mF l,.one (.func (.func 158) #[] #[])] (vI (ix (fun f=> !lC f) l)):=by
 refine fE [] ntmps222 fun _ _=> ?_;simp;refine wlt Nat (fun i=>([(0,vR l),(1,.val (.one (.func (.func 158) #[] #[]))),(7,vI l.length),(8,vI i)],l.length-i,(i<=l.length)/\((l.take i).any (fun f=> !lC f)=false))) (0) ⟨by omega,rfl⟩ ?_;rintro i ⟨h1,h2⟩;simp;apply gw<;>intro a
 ·obtain⟨c,hc⟩:=aQ (l:=l) (i:=i);simp[hc];refine ck (JP c (hs c (aA hc))) ?_;simp;apply gw<;>intro b
  ·simp at b;have hn:=DK hc h2 (by simp[b]);simp[hn]
  ·simp at b;simp;refine nxa (i+1) ⟨by omega,(gV hc h2 (by simp[b]))⟩
 ·simp at a;have hf:=mJ h2 a;have hx:=rV hf;simp[hx]
def asW (l:List Str)(hl:Qle l)(hs:∀f∈l,aeO f):Fk 157 [mF l,.one (.func (.func 158) #[] #[])] (vB (l.any fun f=> !lC f)):=by
 refine fE [] ntmps157 fun _ _=> ?_;have hq:decide (0<=ix (fun f=> !lC f) l)=l.any fun f=> !lC f:=by rw[bH,decide_eq_true_eq];exact iV
 simp;refine ck (ao1 l hl hs) ?_;simp[hq]
def AZ (r:Rec)(hs:EF r:=by first|omega|grind):Fk 97 [DV r] (vB (bQ r)):=by
 refine fE [] ntmps97 fun _ _=> ?_;simp;refine ck (bD _ _ _) ?_;simp;apply gv<;>intro e
 ·have e':=e;simp at e';simp[e];simp[bQ];omega
 ·have e':=e;simp at e';simp[e];refine ck (bD _ _ _) ?_;simp;apply gv<;>intro f
  ·have f':=f;simp at f';simp[f];simp[bQ];omega
  ·have f':=f;simp at f';simp[f];refine ck (bD _ _ _) ?_;simp;apply gw<;>intro g
   ·simp at g;simp;simp[bQ];omega
   ·simp at g;simp;apply gv<;>intro k
    ·have k':=k;simp[k];refine ck (asW r.fields hs.1 hs.2) ?_;simp;have h4:r.fields.length=4:=by omega
     all_goals(simp[bQ,h4,e',f',g];rw[List.not_all_eq_any_not])
    ·have k':=k;simp[k];have h4:¬r.fields.length=4:=by omega
     all_goals simp[bQ,h4]
def ai2 {r:Rec}(h:bQ r):inI .i64 (kR r)/\inI .i64 (100*r.source):=by
 simp only[bQ,inR,k_Bool_and_eq_true,decide_eq_true_eq]at h;simp only[inI,kR];omega
def NS (r:Rec)(hs:EF r):Fk 241 [DV r] (vB (!bQ r)):=by
 refine fE [] ntmps241 fun _ _=> ?_;simp;refine ck (AZ _) ?_;simp
def aoZ (l:List Rec)(hl:Qle l)(hs:∀r∈l,EF r):Fk 303 [IJ l,.one (.func (.func 241) #[] #[])] (vI (ix (fun r=> !bQ r) l)):=by
 refine fE [] ntmps303 fun _ _=> ?_;simp;refine wlt Nat (fun i=>([(0,vC l),(1,.val (.one (.func (.func 241) #[] #[]))),(7,vI l.length),(8,vI i)],l.length-i,(i<=l.length)/\((l.take i).any (fun r=> !bQ r)=false))) (0) ⟨by omega,rfl⟩ ?_;rintro i ⟨h1,h2⟩;simp;apply gw<;>intro a
 ·obtain⟨c,hc⟩:=aQ (l:=l) (i:=i);simp[hc];refine ck (NS c (hs c (aA hc))) ?_;simp;apply gw<;>intro b
  ·simp at b;have hn:=DK hc h2 (by simp[b]);simp[hn]
  ·simp at b;simp;refine nxa (i+1) ⟨by omega,(gV hc h2 (by simp[b]))⟩
 ·simp at a;have hf:=mJ h2 a;have hx:=rV hf;simp[hx]
def asV (l:List Rec)(hl:Qle l)(hs:∀r∈l,EF r):Fk 240 [IJ l,.one (.func (.func 241) #[] #[])] (vB (l.any fun r=> !bQ r)):=by
 refine fE [] ntmps240 fun _ _=> ?_;have hq:decide (0<=ix (fun r=> !bQ r) l)=l.any fun r=> !bQ r:=by rw[bH,decide_eq_true_eq];exact iV
 simp;refine ck (aoZ l hl hs) ?_;simp[hq]
def SH (l:List Rec)(hl:Qle l)(hs:∀r∈l,EF r):Fk 171 [IJ l] (vB (l.all bQ)):=by
 refine fE [] ntmps171 fun _ _=> ?_;simp;refine ck (asV l hl hs) ?_;have hn:=ahQ bQ l;simp[hn]
def NP (s:Sto)(hs:Qle s.recs)(hr:∀r∈s.recs,EF r)(hv:Qle s.vers):Fk 52 [TM s] (vB (iO s)):=by
 refine fE [] ntmps52 fun _ _=> ?_;simp;refine wlt Nat (fun i=>([(1,.own (.bx true (TM s))),(6,vC s.recs),(7,vI s.recs.length),(8,vI i)],(s.recs).length-i,(i<=(s.recs).length)/\((s.recs.take i).all bQ=true)/\(adj (fun a b=>decide (kR a<kR b)) (s.recs.take i)=true))) (0) ⟨by omega,rfl,rfl⟩ ?_;rintro i ⟨h1,h2,h3⟩;simp;apply gw<;>intro a
 ·obtain⟨c,hc⟩:=aQ (l:=s.recs) (i:=i);simp[hc];refine wdr ?_;simp;refine cd (AZ c (hr c (aA hc))) ?_;simp;apply gv<;>intro e
  ·have e':=e;simp at e';have hn:=fK hc (P:=bQ) (by simpa using e);simp[e];grind[iO]
  ·have e':=e;simp at e';simp[e];apply gv<;>intro f
   ·have f':=f;obtain⟨p,hp⟩:=aQ (l:=s.recs) (i:=i-1);have hi1:i-1+1=i:=by omega
    have hvp:bQ p:=aI.1 h2 p (by apply aA (i:=i-1);rw[bA,if_pos (by omega)];exact hp);have hk1:inR p.source 0 3=true/\inR p.key 1 99:=by simp only[bQ,k_Bool_and_eq_true]at hvp;exact⟨hvp.1.1.1.2,hvp.1.1.2⟩
    have hk2:inR c.source 0 3=true/\inR c.key 1 99:=by simp only[bQ,k_Bool_and_eq_true]at e';exact⟨e'.1.1.1.2,e'.1.1.2⟩
    simp[f,hp];iterate 2 refine ai ?_
    refine cd (BP p (ai2 hvp).1 (ai2 hvp).2) ?_;simp;refine cd (BP c (ai2 e').1 (ai2 e').2) ?_;simp;apply gw<;>intro b
    ·have hn:=IR hp (by rw[hi1];exact hc) (R:=fun a b=>decide (kR a<kR b)) (by simp;omega);simp;grind[iO]
    ·simp at b;simp;refine nxa (i+1) ⟨by omega,(bV hc h2 (by simpa using e)),by have:=yA (i:=i-1) (by rw[hi1];exact h3) hp (by rw[hi1];exact hc) (by simp;omega);rwa [hi1]at this⟩
   ·have f':=f;simp at f';simp[f];refine nxa (i+1) ⟨by omega,(bV hc h2 (by simpa using e)),(by obtain rfl:i=0:=(by omega);exact uQ)⟩
 ·simp at a;have hf:=iP h2 a;rw[bS a]at h3;simp;refine ck (bD _ _ _) ?_;simp;apply gv<;>intro g1
  ·have g1':=g1;simp at g1';simp[g1];apply gv<;>intro g2
   ·have g2':=g2;simp[g2];refine ck (EH _) ?_;simp;grind[iO]
   ·have g2':=g2;simp at g2';simp[g2];grind[iO]
  ·have g1':=g1;simp at g1';simp[g1];grind[iO]
end Go.Proofs.YtigjbamofhdchaaGreatDoor
end
section
namespace Go.Proofs.YtigjbamofhdchaaGreatDoor
open Go.Dv Go.Pl Go.Proofs.Tryz
variable {o:L2}{k:Nat}
def aeM (h:k<o.length):o[k]?=some (gat o k):=by
 obtain⟨r,hr⟩:=aQ h;rw[zX hr];exact hr
variable {l:L1}{i:Nat}
def aqL (h:ae3 l i o)(k:Nat):(gat o k).length<=i:=by
 by_cases hk:k<o.length
 ·rw[h.row k hk,aX];exact k_Nat_le_trans (bM _ _) (by simp)
 ·simp[gat,hk]
def afV (h:ae3 l i o)(k:Nat):(gat (blkIn l i o) k).length<=i:=by
 unfold blkIn;split
 ·by_cases hk:k<o.length
  ·have:gat (o++[[]]) k=gat o k:=by simp[gat,lG,hk]
   rw[this];exact aqL h k
  ·have:gat (o++[[]]) k=[]:=by
    by_cases h2:k=o.length
    ·subst h2;simp[gat]
    ·have:(o++[[]]).length<=k:=by simp;omega
     simp[gat,k_List_getElem__eq_none this]
   rw[this];simp
 ·exact aqL h k
def zF (l:L1)(hs:Qle l)(hp:l.length=0\/fQ l):Fk 83 [nInts l] (.own (mQ (blocksP l))):=by
 refine fE [200001] ntmps83 fun _ _=> ?_;have hrg:RG l:=by rcases hp with h|h;(intro k hk;omega);exact(isPart_iff.1 h).1
 have hl8:l.length<=8:=by rcases hp with h|h;omega;exact(isPart_len h).2
 simp;refine wlt (Nat×L2) (fun(i,o)=>([(0,vN l),(3,.own (mQ o)),(4,vI i)],l.length-i,(i<=l.length)/\(o=loopN i [] (oH l)))) ((0,[])) ⟨by omega,rfl⟩ ?_;rintro⟨i,o⟩ ⟨h1,h2⟩;simp;apply gv<;>intro a
 ·have a':=a;simp[a];refine ck (lS l) ?_;have hpp:fQ l:=hp.resolve_left (by omega);have hI:=blocksI hrg h1;rw[←h2]at hI;have hst:=(hI.step hrg a).1;have hle:=hI.le hrg a;have hol:=hI.len;have hlen:=afV hI (at1 l i).toNat;have hs:=aL i [] (oH l);rw[←h2]at hs;have hg:=aV a;simp[hpp];refine MX (fun(_:Unit)=>[(0,vN l),(3,.own (mQ (blkIn l i o))),(4,vI i)]) (fun(_:Unit)=>True) ?_ ?_
  ·simp[hg];apply gw<;>intro b
   ·have hb:blkIn l i o=o++[[]]:=if_pos b;simp;refine ai ?_;refine jn (()) trivial (h3:=by simp[hpp,hg,hb])
   ·have hb:blkIn l i o=o:=if_neg b;simp;refine jn (()) trivial (h3:=by simp[hpp,hg,hb])
  rintro⟨⟩ -
  have hbs:oH l i o=(blkIn l i o).set (at1 l i).toNat (gat (blkIn l i o) (at1 l i).toNat++[(i:Int)]):=rfl;have hr:=aeM hst;have hr2:(blkIn l i o)[(at1 l i).toNat]=gat (blkIn l i o) (at1 l i).toNat:=by rw[aB hst]at hr;exact k_Option_some_inj hr
  generalize blkIn l i o=q at hst hbs hr hr2 hlen|-
  have hset:(q.map dG).set (at1 l i).toNat (D.sl (some 3) ((gat q (at1 l i).toNat).map dI++[D.one (.int .i64 (i:Int))]))=(oH l i o).map dG:=by rw[hbs,kD];simp[dG,dI]
  simp;refine wdh [0] [(13,[39,40]),(14,[38,40,41,3,27,32,37]),(16,[42,41,3,27,32,37,38])] [(0,vN l),(3,.own (mQ q)),(4,vI i),(27,.al 3 [])] [] ?_;simp[hg,hst,hr2,hset];iterate 4 refine ai ?_
  refine nx (i+1,oH l i o) ⟨by omega,hs.symm⟩
 ·have a':=a;simp at a';obtain rfl:i=l.length:=by omega
  have hbl:blocksP l=o:=h2.symm;simp[a,hbl]
variable {n:Nat}{items:L1}
def alG (h:M3 n items)(hi:i<items.length):0<=at1 items i/\at1 items i<n:=h.1 _ (aA (aV hi))
def axJ (h:M3 n items)(hi:i<k)(hk:k<items.length):at1 items i<at1 items k:=by
 have h1:=aV (l:=items) (i:=i);have h2:=aV hk;have:=dN.1 h.2 i k (by omega) hk hi;rw[aB (by omega)]at h1 h2;rw[k_Option_some_inj h1,k_Option_some_inj h2]at this;exact this
def aeW (m:L2)(items:L1)(x:Int):L1:=items.map fun y=>at2 m x.toNat y.toNat
def E8 (m:L2)(items:L1)(x:Int)(k:Nat):L1:=(items.take k).map fun y=>at2 m x.toNat y.toNat
def ajD (m:L2)(items:L1)(x:Int):E8 m items x 0=[]:=rfl
variable {m:L2}
def ajC {x:Int}(h:k<items.length):E8 m items x (k+1)=E8 m items x k++[at2 m x.toNat (at1 items k).toNat]:=yE _ (aV h)
def anM (m:L2)(items:L1)(x:Int):E8 m items x items.length=aeW m items x:=by simp[E8,aeW]
def AR (m:L2)(items:L1)(i:Nat):L2:=(items.take i).map (aeW m items)
def ajB (m:L2)(items:L1):AR m items 0=[]:=rfl
def ajA (h:i<items.length):AR m items (i+1)=AR m items i++[aeW m items (at1 items i)]:=yE _ (aV h)
def anK (m:L2)(items:L1):AR m items items.length=kF m items:=by simp[AR,kF,aeW]
def anL (m:L2)(items:L1)(i:Nat):(AR m items i).length<=items.length:=by simp[AR];omega
def anN (m:L2)(items:L1)(x:Int)(i:Nat):(E8 m items x i).length<=items.length:=by simp[E8];omega
def V4 (m:L2)(items:L1)(hm:bP m)(hi:M3 m.length items)(hl:items.length<=8):Fk 138 [bZ m,nInts items] (.own (mQ (kF m items))):=by
 refine fE [200001] ntmps138 fun _ _=> ?_;have hml:=dK hm;have hz:=ajB m items;have hz2:=ajD m items;have hall:=anK m items;have hall2:=anM m items;simp;refine ck (eG m) ?_;simp[hm];refine wl (fun(i:Nat)=>[(0,.val (bZ m)),(1,vN items),(5,.own (mQ (AR m items i))),(6,vI i)]) (fun(i:Nat)=>items.length-i) (fun(i:Nat)=>(i<=items.length)) (0) (by omega) ?_ (h0:=by simp[hm,hz,hz2]);rintro i h1;simp;apply gw<;>intro a
 ·have hx:=alG hi a;have hg:=aV a;have hms:=ajA (m:=m) a;have hml2:=anL m items i;obtain⟨r,hr,hrl⟩:=CB hm (a:=(at1 items i).toNat) (by omega);simp;refine MX (fun(_:Unit)=>[(0,.val (bZ m)),(1,vN items),(5,.own (mQ (AR m items i))),(6,vI i)]) (fun(_:Unit)=>True) ?_ ?_
  ·have hx1:=hx.1;have hx2:at1 items i<=(m.length:Int)-1:=by omega
   simp;refine wdr ?_;simp[hg];refine ai ?_;refine cd (bE (at1 items i) _ _) ?_;simp[hx1,hx2];apply gv<;>intro e
   ·have e':=e;have hlt:=axJ hi (i:=i-1) (k:=i) (by omega) a;have hlt2:¬at1 items i<=at1 items (i-1):=by omega
    have hg1:=aV (l:=items) (i:=i-1);have hi1:((i:Int)-1).toNat=i-1:=by omega
    simp[hg,e,hg1,hlt2];iterate 2 refine ai ?_
    refine jn (()) trivial
   ·have e':=e;simp at e';simp[e];refine jn (()) trivial
  rintro⟨⟩ -
  simp;refine wl (fun(k:Nat)=>[(0,.val (bZ m)),(1,vN items),(5,.own (mQ (AR m items i))),(6,vI i),(7,wN (E8 m items (at1 items i) k)),(8,vI k)]) (fun(k:Nat)=>items.length-k) (fun(k:Nat)=>(k<=items.length)) (0) (by omega) ?_ (h0:=by simp[hz,hz2]);rintro k h2;simp;apply gw<;>intro b
  ·have hy:=alG hi b;have hk:=aV b;have hks:=ajC (m:=m) (x:=at1 items i) b;have hkl2:=anN m items (at1 items i) k;have hy1:=hy.1;have hy2:at1 items k<=(m.length:Int)-1:=by omega
   obtain⟨q,hq,hqk⟩:=kU hm (i:=(at1 items i).toNat) (k:=(at1 items k).toNat);simp[hk];refine ai ?_;refine ck (bE (at1 items k) _ _) ?_;simp[hy1,hy2];refine wdf [(14,[76,77]),(15,[63,77,78,7]),(16,[78,7])] [(0,.val (bZ m)),(1,vN items),(5,.own (mQ (AR m items i))),(6,vI i),(7,wN (E8 m items (at1 items i) k)),(8,vI k)] [] (by simp) ?_;simp[hg,hk,hy1,hq,hqk];refine nxd (k+1) (by first|omega|(simp;omega)|grind) (h3:=by simp[hz,hz2,hks,hks,hg,hk,hy1,hy2,hq,hqk])
  ·simp at b;obtain rfl:k=items.length:=by omega
   simp[hall2];refine nxb (i+1) (by first|omega|(simp;omega)|grind) (h3:=by simp[hz,hz2,hms,hall2])
 ·simp at a;obtain rfl:i=items.length:=by omega
  simp[hall]
variable {α:Type}
def last_at (l:List α)(a:α)(h:l.length=k):(l++[a])[k]?=some a:=by subst h;simp
def alX (l:List α)(a b:α)(h:l.length=k):(l++[a]).set k b=l++[b]:=by subst h;simp
def NU (l:L1)(hs:Qle l)(hp:l.length=0\/fQ l):Fk 106 [nInts l] (.own (mQ (blocksP l))):=by
 refine fE [] ntmps106 fun _ _=> ?_;have hrg:RG l:=by rcases hp with h|h;(intro k hk;omega);exact(isPart_iff.1 h).1
 have hl8:l.length<=8:=by rcases hp with h|h;omega;exact(isPart_len h).2
 simp;refine wlt (Nat×L2) (fun(i,o)=>([(3,.own (mQ o)),(6,vN l),(7,vI l.length),(8,vI i)],l.length-i,(i<=l.length)/\(o=loopN i [] (oH l)))) ((0,[])) ⟨by omega,rfl⟩ ?_;rintro⟨i,o⟩ ⟨h1,h2⟩;simp;apply gw<;>intro a
 ·have hI:=blocksI hrg h1;rw[←h2]at hI;have hst:=(hI.step hrg a).1;have hle:=hI.le hrg a;have hol:=hI.len;have hlen:=afV hI (at1 l i).toNat;have hs:=aL i [] (oH l);rw[←h2]at hs;have hg:=aV a;have hbs:oH l i o=(blkIn l i o).set (at1 l i).toNat (gat (blkIn l i o) (at1 l i).toNat++[(i:Int)]):=rfl;simp[hg];apply gw<;>intro b
  ·have hb:blkIn l i o=o++[[]]:=if_pos b;rw[hb]at hbs;have hbn:(at1 l i).toNat=o.length:=by omega
   have hq:=last_at (o.map dG) (D.sl none []) (k:=o.length) (by simp);have hq2:=alX (o.map dG) (D.sl none []) (D.any 1) (k:=o.length) (by simp);have hq3:=last_at (o.map dG) (D.any 1) (k:=o.length) (by simp);have hq4:=alX (o.map dG) (D.any 1) (D.sl (some 3) [D.one (.int .i64 (i:Int))]) (k:=o.length) (by simp);have hgl:gat (o++[[]]) o.length=[]:=by simp[gat]
   have hnew:oH l i o=o++[[(i:Int)]]:=by rw[hbs,hbn,hgl];simp
   simp[b];refine nxb (i+1,oH l i o) ⟨by omega,hs.symm⟩ (h3:=by simp[hg,b,hq,hq2,hq3,hq4,hnew])
  ·have hb:blkIn l i o=o:=if_neg b;rw[hb]at hbs hst hlen;have hr:=aeM hst;have hr2:o[(at1 l i).toNat]=gat o (at1 l i).toNat:=by rw[aB hst]at hr;exact k_Option_some_inj hr
   have hset:(o.map dG).set (at1 l i).toNat (D.sl (some 3) ((gat o (at1 l i).toNat).map dI++[D.one (.int .i64 (i:Int))]))=(oH l i o).map dG:=by rw[hbs,kD];simp[dG,dI]
   have ha0:=hle.1;simp[hst,hr2,ha0,hset];refine nxb (i+1,oH l i o) ⟨by omega,hs.symm⟩
 ·simp at a;obtain rfl:i=l.length:=by omega
  have hbl:blocksP l=o:=h2.symm;simp[hbl]
def WI (l:L1)(x:Int):ix (fun y=>decide (x=y)) l=place l x:=by
 unfold place;congr 1;funext y;simp[eq_comm]
def EQ (l:List Con)(items:L1)(hl:Qle l)(hi:Qle items):Fk 166 [jG l,nInts items] (vE (iG l items)):=by
 refine fE [] ntmps166 fun _ _=> ?_;simp;refine wlt (Nat×List Con) (fun(i,o)=>([(1,vN items),(5,vE o),(10,vT l),(11,vI l.length),(12,vI i)],l.length-i,(i<=l.length)/\(o=(l.take i).filterMap (yY items))/\(o.length<=i))) ((0,[])) ⟨by omega,by simp,by simp⟩ ?_;rintro⟨i,o⟩ ⟨h1,h2,h3⟩;simp;apply gw<;>intro a
 ·obtain⟨c,hc⟩:=aQ (l:=l) (i:=i);have hm:=zS (yY items) hc;rw[←h2]at hm;have e1:=WI items c.a;have e2:=WI items c.b;have b1:=axM (fun y=>decide (y=c.a)) items;have b2:=axM (fun y=>decide (y=c.b)) items;simp[hc];refine wdt 8 ?_;simp;refine cd (jF items c.a) ?_;simp;refine cd (jF items c.b) ?_;simp[e1,e2];apply gv<;>intro e
  ·have e':=e;simp[e];apply gw<;>intro f
   ·have hr:yY items c=some ⟨place items c.a,place items c.b,c.same⟩:=if_pos ⟨e,f⟩;rw[hr]at hm;simp;refine nxb (i+1,o++[⟨place items c.a,place items c.b,c.same⟩]) ⟨by omega,by rw[hm];rfl,by simp;omega⟩
   ·simp at f;have hr:yY items c=none:=if_neg (by omega);rw[hr]at hm;simp;refine nxa (i+1,o) ⟨by omega,by rw[hm];simp,by omega⟩
  ·have e':=e;simp at e';have hr:yY items c=none:=if_neg (by omega);rw[hr]at hm;simp[e];refine nxa (i+1,o) ⟨by omega,by rw[hm];simp,by omega⟩
 ·simp at a;rw[bS a]at h2;have hfin:iG l items=o:=h2.symm;simp[hfin]
def ai9 (m:L2)(items:L1)(i k:Nat):Int:=at2 m (at1 items i).toNat (at1 items k).toNat
def U9 (m:L2)(items:L1)(hm:bP m)(hs:M3 m.length items)(hl:Qle items):Fk 165 [bZ m,nInts items] (.own (mQ (kF m items))):=by
 refine fE [] ntmps165 fun _ _=> ?_;have hz:List.replicate items.length (dG (List.replicate items.length 0))=(zeros items.length).map dG:=by simp[zeros]
 simp;refine ck (sJ items.length) ?_;simp[hz];refine wlt (Nat×L2) (fun(i,q)=>([(0,.val (bZ m)),(1,vN items),(5,.own (mQ q)),(13,vN items),(14,vI items.length),(15,vI i)],items.length-i,(i<=items.length)/\(q=loopN i (zeros items.length) (UZ items.length (ai9 m items)))/\(sq2 items.length q))) ((0,zeros items.length)) ⟨by omega,rfl,(pF _)⟩ ?_ (h0:=by simp[hz]);rintro⟨i,q⟩ ⟨h1,h2,h3⟩;simp;apply gw<;>intro a
 ·have hs1:=aL i (zeros items.length) (UZ items.length (ai9 m items));rw[←h2]at hs1;have gi:=aV (l:=items) (i:=i);have si:=hs.1 _ (aA gi);simp[gi];refine wlt (Nat×L2) (fun(k,w)=>([(0,.val (bZ m)),(1,vN items),(5,.own (mQ w)),(6,vI i),(7,vI (at1 items i)),(13,vN items),(14,vI items.length),(15,vI i),(20,vN items),(21,vI items.length),(22,vI k)],items.length-k,(k<=items.length)/\(w=loopN k q (KT (ai9 m items) i))/\(sq2 items.length w))) ((0,q)) ⟨by omega,rfl,h3⟩ ?_;rintro⟨k,w⟩ ⟨h4,h5,h6⟩;simp;apply gw<;>intro b
  ·have hs2:=aL k q (KT (ai9 m items) i);rw[←h5]at hs2;have gk:=aV (l:=items) (i:=k);have sk:=hs.1 _ (aA gk);have hrw:=(rZ h6 (i:=i)).1;have hgw:=LM h6 (i:=i) (k:=k);obtain⟨r,hr,hv⟩:=kU hm (i:=(at1 items i).toNat) (k:=(at1 items k).toNat);have hv2:r[(at1 items k).toNat]?=some (ai9 m items i k):=hv;have hset:(w.map dG).set i (D.sl (some 3) (((gat w i).map dI).set k (dI (ai9 m items i k))))=(KT (ai9 m items) i k w).map dG:=J6 w i k (ai9 m items i k);have p1:=si.1;have p2:=sk.1;simp[gk];refine wdt 13 ?_;simp[hrw,hgw,hr,hv2,hset,p1,p2];refine nxa (k+1,KT (ai9 m items) i k w) ⟨by omega,hs2.symm,(wZ h6 (by omega) _)⟩
  ·simp at b;obtain rfl:k=items.length:=by omega
   simp;refine nxa (i+1,w) ⟨by omega,by rw[hs1,h5];rfl,h6⟩
 ·simp at a;obtain rfl:i=items.length:=by omega
  have hfin:kF m items=q:=by rw[←azK,h2];rfl
  simp[hfin]
end Go.Proofs.YtigjbamofhdchaaGreatDoor
end
section
namespace Go.Proofs.YtigjbamofhdchaaGreatDoor
open Go.Dv Go.Pl Go.RowKit Go.Proofs.Tryz
abbrev akI (t:Tri):D:= .agg [.agg [dI t.a,dI t.b],.agg [dI t.a,dI t.c],.agg [dI t.b,dI t.c]]
structure JD (n:Nat) (t:Tri):Prop where
 a:0<=t.a
 b:t.a<t.b
 c:t.b<t.c
 n:t.c<(n:Int)
def abQ {t:Tri}{n i:Nat}(h:JD n t)(hi:i<3):∃x y:Nat,x<n/\y<n/\[D.agg [dI t.a,dI t.b],D.agg [dI t.a,dI t.c],D.agg [dI t.b,dI t.c]][i]?=some (D.agg [dI x,dI y]):=by
 obtain⟨h1,h2,h3,h4⟩:=h;obtain⟨a,ha⟩:=qL h1;obtain⟨b,hb⟩:=qL (show 0<=t.b by omega);obtain⟨c,hc⟩:=qL (show 0<=t.c by omega);rw[ha,hb,hc];have:i=0\/i=1\/i=2:=by omega
 rcases this with rfl|rfl|rfl
 ·exact⟨a,b,by omega,by omega,rfl⟩
 ·exact⟨a,c,by omega,by omega,rfl⟩
 ·exact⟨b,c,by omega,by omega,rfl⟩
def aCV (a b c d:Int)(w:World):Calls prog 238 #[.agg #[.int .i64 a,.int .i64 b,.int .i64 c,.int .i64 d]] w fun e w'=>e= .returned (.agg #[.int .i64 a,.int .i64 b,.int .i64 a,.int .i64 c,.int .i64 b,.int .i64 c])/\Below w.heap.size w w':=by
 go_enter func238,ntmps238
 go_wp2
 refine bodyPost_ret (v:= .agg #[.int .i64 a,.int .i64 b,.int .i64 a,.int .i64 c,.int .i64 b,.int .i64 c]) ?_ rfl ⟨rfl,((Below.refl _ w).alloc (k_Nat_le_refl _) _).alloc (by simp) _⟩;have z:=Tryz.sizeOf229;have g:=Tryz.isAgg229;simp[results,Tryz.f238,loadVar,asAddr]
 go_simp
def ES (t:Tri):fP prog 238 [akJ t] (fun r=>r= .val (akI t)):=by
 intro w ow vs tt ht hL hnew hvs hargs;have h0:=hargs 0 _ rfl
 have hv:vs= #[.agg #[.int .i64 t.a,.int .i64 t.b,.int .i64 t.c,.int .i64 t.w]]:=by
  simp only[D.fz,D.fzs,V]at h0;obtain⟨cs,h1,h2⟩:=h0;have h3:=R.G9 (cs':=[.int .i64 t.a,.int .i64 t.b,.int .i64 t.c,.int .i64 t.w]) rfl h2;apply Array.ext
  ·simpa using hvs
  ·intro i h4 h5;obtain rfl:i=0:=by simpa using h5
   simp[aF,h4]at h1;simp[h1];apply bT.1;exact h3
 subst hv;refine(aCV t.a t.b t.c t.w w).mono ?_;rintro e w' ⟨rfl,hB⟩;refine⟨_,fun b=>if b<w.heap.size then ow b else none,_,rfl,rfl,⟨hB.os,hB.tape,hB.output,hB.size,fun b hb=>⟨hB.block b hb,if_pos hb⟩,fun b hb=>if_neg (by have:=hB.size;omega)⟩,rfl,fun s a=> ?_⟩;exact⟨_,rfl,R.flat rfl⟩
def adG (t:Tri)(m:L2)(hm:bP m)(ht:JD m.length t):fP prog 302 [akJ t,bZ m] (fun r=>∃b:Bool,r=vB b):=by
 refine fE [] ntmps302 fun _ _=> ?_;simp;refine ck (ES t) ?_;simp;refine wlt (Nat×Int×Int) (fun(i,p,q)=>([(1,.val (bZ m)),(5,vI p),(6,vI q),(11,.val (akI t)),(12,vI i)],3-i,(i<=3)/\(0<=p/\p<=i)/\(0<=q/\q<=i))) ((0,0,0)) ⟨by omega,by omega,by omega⟩ ?_;rintro⟨i,p,q⟩ ⟨h1,h2,h3⟩;simp;apply gw<;>intro a
 ·obtain⟨x,y,hx,hy,hp⟩:=abQ ht (show i<3 by omega);obtain⟨r,hr,hw⟩:=kU hm hx hy;simp[hp];refine ai ?_;refine wdt 9 ?_;simp[hr,hw];apply gw<;>intro b
  ·simp;refine nxb (i+1,p+1,q) ⟨(by first|omega|(simp;omega)|grind),(by first|omega|(simp;omega)|grind),(by first|omega|(simp;omega)|grind)⟩
  ·simp at b;simp;apply gw<;>intro c
   ·simp;refine nxb (i+1,p,q+1) ⟨(by first|omega|(simp;omega)|grind),(by first|omega|(simp;omega)|grind),(by first|omega|(simp;omega)|grind)⟩
   ·simp at c;simp;refine nxa (i+1,p,q) ⟨(by first|omega|(simp;omega)|grind),(by first|omega|(simp;omega)|grind),(by first|omega|(simp;omega)|grind)⟩
 ·simp at a;simp;apply gv<;>intro g1
  ·have g1':=g1;simp[g1]
  ·have g1':=g1;simp[g1]
def as4 (t:Tri)(n:Nat)(hn:n<=1048576):fP prog 346 [akJ t,dI n] (fun r=>∃b:Bool,r=vB b):=by
 refine fE [] ntmps346 fun _ _=> ?_;simp;refine ck (nG t.a n) ?_;simp;apply gv<;>intro e
 ·have e':=e;simp at e';simp[e];refine ck (nG t.b n) ?_;simp;apply gv<;>intro f
  ·have f':=f;simp at f';simp[f];refine ck (nG t.c n) ?_;simp;apply gv<;>intro g
   ·have g':=g;simp at g';simp[g];apply gv<;>intro h
    ·have h':=h;simp[h]
    ·have h':=h;simp at h';simp[h]
   ·have g':=g;simp at g';simp[g]
  ·have f':=f;simp at f';simp[f]
 ·have e':=e;simp at e';simp[e]
end Go.Proofs.YtigjbamofhdchaaGreatDoor
end
