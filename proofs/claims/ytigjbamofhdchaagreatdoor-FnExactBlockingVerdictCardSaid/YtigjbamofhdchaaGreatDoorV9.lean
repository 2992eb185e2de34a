/- Lemmas and walks that the law leans on, part 9. No condition. -/
import Derived.Laws.CopyOwn
import Derived.Lib.AtoiAllCases
import Derived.Lib.AtoiErrMem
import Derived.Lib.OwnBridge
import Derived.Lib.SortBridge
import Derived.LoopTactic
import Derived.Sort.Grow
import Derived.Still
import Derived.StillTactics
import Derived.Test.YtigjbamofhdchaaGreatDoorV8
set_option linter.unusedVariables false
set_option linter.defProp false
set_option linter.unusedSimpArgs false
set_option linter.unusedSectionVars false
set_option maxRecDepth 10000
set_option maxHeartbeats 1000000
section
namespace Go.Proofs.YtigjbamofhdchaaGreatDoor
open Go.Dv Go.Pl Go.Proofs.Tryz
def NK (m:L2)(cs:List Con)(hm:bP m)(hcs:Qle cs):fP prog 103 [bZ m,jG cs] (fun r'=>∃(c:Int) (e:Bool) (g:Int),r'= .tup [.own (Q3 (nE m cs) c e g),vB (eF m.length cs)]):=by
 refine fE [14] ntmps103 fun _ _=> ?_;have hml:=dK hm;simp;refine ck (SK m cs (by omega) (vY hm) hcs) ?_;simp[hm];apply gw<;>intro a
 ·simp at a;have hcA:nE m cs=[]:=if_neg (by simp[a]);have hcn:eF m.length cs=false:=by simpa using a
  simp[hcA,hcn]
 ·simp at a;have hcc:eF m.length cs:=by simpa using a
  have hcA:nE m cs=nN m cs:=if_pos hcc;have hac:=(iU.1 hcc).1;have hsp:=IM hm hac;simp[hcc];refine ai ?_;refine ck (QS m cs hcs hm hac) ?_;simp;refine ck (NU (dH m cs) (by omega) (.inr hsp.2.1)) ?_;have hbs:∀v,v<(blocksP (dH m cs)).length->M3 m.length (gat (blocksP (dH m cs)) v)/\1<=(gat (blocksP (dH m cs)) v).length/\(gat (blocksP (dH m cs)) v).length<=m.length:=fun v hv=>by have:=PO (isPart_iff.1 hsp.2.1).1 hv;rwa [hsp.2.2]at this
  have hcl:nN m cs=canon (afY m cs (blocksP (dH m cs))):=rfl;have hll:=XY m cs (blocksP (dH m cs));have hbl:(blocksP (dH m cs)).length<=m.length:=k_Nat_le_trans (blocksI (isPart_iff.1 hsp.2.1).1 (k_Nat_le_refl _)).len (Nat.le_of_eq hsp.2.2);generalize hbsg:blocksP (dH m cs)=bs at hbs hcl hll hbl|-
  simp;refine wld [23] (Nat×L1×Bool) (fun(i,L,e)=>([(0,.val (bZ m)),(1,vT cs),(4,.own (.bx true (Q3 [] 0 false 0))),(6,.own (.bx true (Q3 L 0 e 0))),(23,.val (bZ bs)),(24,vI bs.length),(25,vI i)],bs.length-i,(i<=bs.length)/\(L=loopN i (List.replicate m.length 0) (EX m cs bs)))) ((0,List.replicate m.length 0,true)) ⟨by omega,rfl⟩ ?_;rintro⟨i,L,e⟩ ⟨h1,h2⟩;simp;apply gw<;>intro b
  ·have hr:=aeM b;have hsel:=hbs i b;have hpt:=ai0 hm hcc hsel.1 hsel.2.1 hsel.2.2;have hok:=ag3 hpt;have hLl:L.length=m.length:=by rw[h2,zH (O5 m cs bs)];simp
   generalize hit:gat bs i=items at hr hsel hpt hok|-
   simp[hr];refine wtc 6 [32,35] ?_;simp;refine ck (U9 m items hm hsel.1 (by omega)) ?_;simp;refine ck (EQ cs items hcs (by omega)) ?_;have hsl:=hpt.len;have hrl:Qle (iG cs items):=by have:=ZU cs items;omega
   have hpS:=ay0 hpt;simp;refine ck (QU (kF m items) (iG cs items) hpt.mat (by rw[hsl];exact hpt.con) hrl) ?_;simp[hpS];refine wlt (Nat×L1) (fun(j,L')=>([(0,.val (bZ m)),(1,vT cs),(4,.own (.bx true (Q3 [] 0 false 0))),(6,.own (.bx true (Q3 L' 0 e 0))),(7,vI i),(8,vN items),(23,.val (bZ bs)),(24,vI bs.length),(25,vI i),(36,vN (partOf m cs items)),(37,.val (dI (partOf m cs items).length)),(38,vI j)],items.length-j,(j<=items.length)/\(L'=loopN j L (aa7 items (partOf m cs items) i)))) ((0,L)) ⟨by omega,rfl⟩ ?_;rintro⟨j,L'⟩ ⟨h5,h6⟩;simp;apply gw<;>intro f
   ·have hg:=aV (l:=items) (i:=j);have hgx:=hsel.1.1 _ (aA hg);have hpl:j<(partOf m cs items).length:=by omega
    have hg2:=aV hpl;have hb2:=avB hok.2 j hpl;have hLl2:L'.length=m.length:=by rw[h6,zH fun k l=>by simp[aa7]];exact hLl
    have hpu:aa7 items (partOf m cs items) i j L'=L'.set (at1 items j).toNat (i*8+at1 (partOf m cs items) j):=rfl;have hput:(L'.map dI).set (at1 items j).toNat (D.one (.int .i64 ((i:Int)*8+at1 (partOf m cs items) j)))=(aa7 items (partOf m cs items) i j L').map dI:=by rw[hpu,kD]
    have hb1:=(hok.2 j hpl).1;have ha0:0<=at1 items j:=hgx.1;obtain⟨u,hu⟩:=aQ (l:=L') (i:=(at1 items j).toNat);generalize partOf m cs items=pp at*
    simp[hg2];refine wdt 11 ?_;simp[hg,hu,ha0,hput];refine nxd (j+1,aa7 items pp i j L') ⟨by omega,by rw[aL,←h6]⟩
   ·simp at f;obtain rfl:j=items.length:=by omega
    have hpA:EX m cs bs i L=L':=by rw[EX,hit,h6]
    simp;apply gv<;>intro g2
    ·have g2':=g2;simp[g2];refine ai ?_;refine nxc (i+1,L',decide ((items.length:Int)<=6)) [23] ⟨by omega,by rw[aL,←h2,hpA]⟩
    ·have g2':=g2;simp[g2];refine ai ?_;refine nxc (i+1,L',false) [23] ⟨by omega,by rw[aL,←h2,hpA]⟩
  ·simp at b;obtain rfl:i=bs.length:=by omega
   have hLc:canon L=nN m cs:=by rw[hcl,h2];rfl
   have hLl:L.length=m.length:=by rw[h2];exact hll
   have hcln:(nN m cs).length=m.length:=by rw[←hLc,oV,hLl]
   simp;refine ck (sH L (by omega)) ?_;simp[hLc];refine ck (jY m (nN m cs) hm hcln) ?_;generalize nN m cs=X at*
   simp;apply gw<;>intro d
   ·simp at d;simp;refine wdx [0,3] (.st 1 (.st 2 (.st 4 (.st 5 (.st 6 (.st 7 OT.fin OT.no) OT.no) OT.no) OT.no) (.st 4 (.st 2 (.st 5 (.st 6 (.st 7 OT.fin OT.no) OT.no) OT.no) OT.no) OT.no)) (.st 4 (.st 1 (.st 2 (.st 5 (.st 6 (.st 7 OT.fin OT.no) OT.no) OT.no) OT.no) OT.no) OT.no)) ?_;simp;refine⟨⟨?_,?_⟩,?_⟩
    ·repeat with_reducible refine ai ?_
     refine fC (uU m hm) (by simp) ?_;rintro r ⟨lT,rfl,hT1,hT2⟩;refine⟨by simp,?_⟩;simp;refine fC (uV m X lT hm (by omega) hT1 hT2) (by simp) ?_;rintro r ⟨gg,rfl⟩;refine⟨by simp,?_⟩;simp[hcc];grind
    ·repeat with_reducible refine ai ?_
     refine fC (uU m hm) (by simp) ?_;rintro r ⟨lT,rfl,hT1,hT2⟩;refine⟨by simp,?_⟩;simp;refine fC (uV m X lT hm (by omega) hT1 hT2) (by simp) ?_;rintro r ⟨gg,rfl⟩;refine⟨by simp,?_⟩;simp[hcc];grind
    ·repeat with_reducible refine ai ?_
     refine fC (uU m hm) (by simp) ?_;rintro r ⟨lT,rfl,hT1,hT2⟩;refine⟨by simp,?_⟩;simp;refine fC (uV m X lT hm (by omega) hT1 hT2) (by simp) ?_;rintro r ⟨gg,rfl⟩;refine⟨by simp,?_⟩;simp[hcc];grind
   ·simp at d;simp[hcc];grind
def qW (r:List (List Tst))(hs:Qle r:=by first|omega|grind)(hr:∀l∈r,Qle l:=by first|omega|grind):Fk 126 [mI r] (vB (iZ r)):=by
 refine fE [] ntmps126 fun _ _=> ?_;simp;refine wlt Nat (fun i=>([(1,.own (.bx true (mI r))),(3,vI i)],r.length-i,(i<=r.length)/\((r.take i).all iX=true))) (0) ⟨by omega,rfl⟩ ?_;rintro i ⟨h1,h2⟩;simp;apply gw<;>intro a
 ·obtain⟨c,hc⟩:=aQ (l:=r) (i:=i);have hcl:=hr c (aA hc);simp[hc];refine wlt Nat (fun k=>([(1,.own (.bx true (mI r))),(3,vI i),(4,.val (.sl none (c.map yT))),(5,vI k)],c.length-k,(k<=c.length)/\((c.take k).all GU=true)/\(adj (fun a b=>decide (a.feature<b.feature)) (c.take k)=true))) (0) ⟨by omega,rfl,rfl⟩ ?_;rintro k ⟨h1k,h2k,h3k⟩;simp;apply gw<;>intro ak
  ·obtain⟨ck,hck⟩:=aQ (l:=c) (i:=k);simp;refine wdr ?_;simp[hck];refine cd (bE _ _ _) ?_;simp;apply gv<;>intro e
   ·have e':=e;simp at e';have hn:=fK hc (P:=iX) (by have:=fK hck (P:=GU) (by simp[GU];omega);simp[iX,this]);simp[e];grind[iZ]
   ·have e':=e;simp at e';simp[hck,e];refine cd (bE _ _ _) ?_;simp;apply gv<;>intro f
    ·have f':=f;simp at f';have hn:=fK hc (P:=iX) (by have:=fK hck (P:=GU) (by simp[GU];omega);simp[iX,this]);simp[f];grind[iZ]
    ·have f':=f;simp at f';simp[f];apply gv<;>intro g
     ·have g':=g;obtain⟨p,hp⟩:=aQ (l:=c) (i:=k-1);have hi1:k-1+1=k:=by omega
      simp[hck,g,hp];iterate 2 refine ai ?_
      apply gw<;>intro b
      ·have hn:=fK hc (P:=iX) (by have:=IR hp (by rw[hi1];exact hck) (R:=fun a b=>decide (a.feature<b.feature)) (by simp;omega);simp[iX,this]);simp;grind[iZ]
      ·simp at b;simp;refine nxa (k+1) ⟨by omega,(bV hck h2k (by simp[GU];omega)),by have:=yA (i:=k-1) (by rw[hi1];exact h3k) hp (by rw[hi1];exact hck) (by simp;omega);rwa [hi1]at this⟩
     ·have g':=g;simp at g';simp[g];refine nxa (k+1) ⟨by omega,(bV hck h2k (by simp[GU];omega)),(by obtain rfl:k=0:=(by omega);exact uQ)⟩
  ·simp at ak;have hfk:=iP h2k ak;rw[bS ak]at h3k;simp;refine ck (bE _ _ _) ?_;simp;apply gw<;>intro b
   ·simp at b;have hn:=fK hc (P:=iX) (by simp[iX,hfk,h3k];omega);simp;grind[iZ]
   ·simp at b;simp;refine nxa (i+1) ⟨by omega,(bV hc h2 (by simp[iX,hfk,h3k];omega))⟩
 ·simp at a;have hf:=iP h2 a;simp;refine ck (bE _ _ _) ?_;simp;grind[iZ]
def MR (c:Cfg)(hs:Qle c.rules)(hr:∀l∈c.rules,Qle l)(hw:Qle c.sco.weights)(hv:Qle c.surv):Fk 77 [afH c] (vB (kS c)):=by
 refine fE [] ntmps77 fun _ _=> ?_;simp;refine ck (qW _) ?_;simp;apply gv<;>intro g1
 ·have g1':=g1;simp[g1];refine ck (oK _) ?_;simp;apply gv<;>intro g2
  ·have g2':=g2;simp[g2];refine ck (IY _) ?_;simp;grind[kS]
  ·have g2':=g2;simp[g2];grind[kS]
 ·have g1':=g1;simp[g1];grind[kS]
def DI (s:Sto)(hs:Qle s.recs:=by first|omega|grind)(hr:∀r∈s.recs,EF r:=by first|omega|grind)(hv:Qle s.vers:=by first|omega|grind):Fk 78 [TM s] (vB (iO s)):=by
 refine fE [] ntmps78 fun _ _=> ?_;simp;refine wlt Nat (fun i=>([(1,.own (.bx true (TM s))),(3,vI i)],(s.recs).length-i,(i<=(s.recs).length)/\((s.recs.take i).all bQ=true)/\(adj (fun a b=>decide (kR a<kR b)) (s.recs.take i)=true))) (0) ⟨by omega,rfl,rfl⟩ ?_;rintro i ⟨h1,h2,h3⟩;simp;apply gw<;>intro a
 ·obtain⟨c,hc⟩:=aQ (l:=s.recs) (i:=i);simp;refine wdr ?_;simp[hc];refine cd (qF _ (hr c (aA hc))) ?_;simp;apply gv<;>intro e
  ·have e':=e;simp at e';have hn:=fK hc (P:=bQ) (by simpa using e);simp[e];grind[iO]
  ·have e':=e;simp at e';simp[e];apply gv<;>intro f
   ·have f':=f;obtain⟨p,hp⟩:=aQ (l:=s.recs) (i:=i-1);have hi1:i-1+1=i:=by omega
    have hvp:bQ p:=aI.1 h2 p (by apply aA (i:=i-1);rw[bA,if_pos (by omega)];exact hp);have hk1:inR p.source 0 3=true/\inR p.key 1 99:=by simp only[bQ,k_Bool_and_eq_true]at hvp;exact⟨hvp.1.1.1.2,hvp.1.1.2⟩
    have hk2:inR c.source 0 3=true/\inR c.key 1 99:=by simp only[bQ,k_Bool_and_eq_true]at e';exact⟨e'.1.1.1.2,e'.1.1.2⟩
    simp[f,hp];iterate 2 refine ai ?_
    refine cd (BU p hk1.1 hk1.2) ?_;simp[hc];refine cd (BU c hk2.1 hk2.2) ?_;simp;apply gw<;>intro b
    ·have hn:=IR hp (by rw[hi1];exact hc) (R:=fun a b=>decide (kR a<kR b)) (by simp;omega);simp;grind[iO]
    ·simp at b;simp;refine nxa (i+1) ⟨by omega,(bV hc h2 (by simpa using e)),by have:=yA (i:=i-1) (by rw[hi1];exact h3) hp (by rw[hi1];exact hc) (by simp;omega);rwa [hi1]at this⟩
   ·have f':=f;simp at f';simp[f];refine nxa (i+1) ⟨by omega,(bV hc h2 (by simpa using e)),(by obtain rfl:i=0:=(by omega);exact uQ)⟩
 ·simp at a;have hf:=iP h2 a;rw[bS a]at h3;simp;refine ck (bE _ _ _) ?_;simp;apply gv<;>intro g1
  ·have g1':=g1;simp at g1';simp[g1];apply gv<;>intro g2
   ·have g2':=g2;simp[g2];refine ck (xO _) ?_;simp;grind[iO]
   ·have g2':=g2;simp at g2';simp[g2];grind[iO]
  ·have g1':=g1;simp at g1';simp[g1];grind[iO]
def TA (s:Sto)(hs:Qle s.recs)(hr:∀r∈s.recs,EF r)(hv:Qle s.vers)(hvs:iO s):Fk 79 [TM s] (wN (s.recs.map kR)):=by
 refine fE [] ntmps79 fun _ _=> ?_;simp;refine wl (fun(i:Nat)=>[(1,.own (.bx true (TM s))),(3,wN ((s.recs.take i).map kR)),(4,vI i)]) (fun(i:Nat)=>s.recs.length-i) (fun(i:Nat)=>(i<=s.recs.length)) (0) (by omega) ?_;rintro i h1;simp;apply gv<;>intro a
 ·have a':=a;simp[a];refine ck (DI _) ?_;obtain⟨c,hc⟩:=aQ (l:=s.recs) (i:=i);have hvr:s.recs.all bQ:=by simp only[iO,k_Bool_and_eq_true]at hvs;exact hvs.1.1.1.1
  have hvc:=aI.1 hvr c (aA hc);have hk:inR c.source 0 3=true/\inR c.key 1 99:=by simp only[bQ,k_Bool_and_eq_true]at hvc;exact⟨hvc.1.1.1.2,hvc.1.1.2⟩
  have hm:=yE kR hc;simp[hvs,hc];refine ck (BU c hk.1 hk.2) ?_;simp;refine nxb (i+1) (by first|omega|(simp;omega)|grind) (h3:=by simp[hvs,hc,hm])
 ·have a':=a;simp at a';rw[bS (by simp;omega)];simp[a]
variable {out:List Ver}{c:Ver}
def ZA (h:out=[]):qR out c=out++[c]:=by subst h;rfl
def acP {p:Ver}(h:out[out.length-1]?=some p):qR out c=if p.a≠c.a\/p.b≠c.b then out++[c]else if p.time<c.time then out.set (out.length-1) c else out:=by unfold qR;rw[h]
def JX (l:List Ver)(hs:Qle l)(hv:kT l):Fk 39 [nVers l] (wV (gM l)):=by
 refine fE [] ntmps39 fun _ _=> ?_;simp;refine wlt (Nat×List Ver) (fun(i,out)=>([(0,vV l),(3,wV out),(4,vI i)],l.length-i,(i<=l.length)/\(out=(l.take i).foldl qR [])/\(out.length<=i))) ((0,[])) ⟨by omega,rfl,by simp⟩ ?_;rintro⟨i,out⟩ ⟨h1,h2,h3⟩;simp;apply gv<;>intro a
 ·have a':=a;simp[a];refine ck (xO _) ?_;obtain⟨c,hc⟩:=aQ (l:=l) (i:=i);have hm:=fA qR [] hc;rw[←h2]at hm;simp[hv];refine wdt 30 ?_;simp;apply gv<;>intro e
  ·have e':=e;have hm2:=ZA (c:=c) e;simp[hc,e];refine nxa (i+1,out++[c]) ⟨by omega,by rw[hm,hm2],by simp;omega⟩ (h3:=by simp[hv,hc,e])
  ·have e':=e;have hpos:0<out.length:=jZ.2 e;obtain⟨p,hp⟩:=aQ (l:=out) (i:=out.length-1);have hm2:=acP (c:=c) hp;simp[hc,e,hp];iterate 2 refine ai ?_
   apply gv<;>intro f
   ·have f':=f;simp[hc,f];refine nxb (i+1,out++[c]) ⟨by omega,by rw[hm,hm2,if_pos (.inl f)],by simp;omega⟩
   ·have f':=f;simp[hc,hp,f];iterate 2 refine ai ?_
    apply gw<;>intro g
    ·simp[hc];refine nxb (i+1,out++[c]) ⟨by omega,by rw[hm,hm2,if_pos (.inr g)],by simp;omega⟩
    ·simp;refine wdt 12 ?_;simp[hc,hp,f];iterate 2 refine ai ?_
     apply gw<;>intro b
     ·simp[hc,hp,f];refine nxd (i+1,out.set (out.length-1) c) ⟨by omega,by rw[hm,hm2,if_neg (by simp_all),if_pos b],by simp;omega⟩
     ·simp at b;simp;refine nxa (i+1,out) ⟨by omega,by rw[hm,hm2,if_neg (by simp_all),if_neg (by omega)],by omega⟩
 ·have a':=a;simp at a';have hi:i=l.length:=by omega
  subst hi;rw[dJ]at h2;simp[a];grind[gM]
def F5 (l:List Ver)(items:L1)(hs:Qle l:=by first|omega|grind)(hi:Qle items:=by first|omega|grind):Fk 134 [nVers l,nInts items] (vE (E9 l items)):=by
 refine fE [] ntmps134 fun _ _=> ?_;simp;refine wlt (Nat×List Con) (fun(i,out)=>([(0,vV l),(1,vN items),(5,vE out),(6,vI i)],l.length-i,(i<=l.length)/\(out=(l.take i).filterMap (GV items))/\(out.length<=i))) ((0,[])) ⟨by omega,rfl,by simp⟩ ?_;rintro⟨i,out⟩ ⟨h1,h2,h3⟩;simp;apply gw<;>intro a
 ·obtain⟨c,hc⟩:=aQ (l:=l) (i:=i);have hm:=zS (GV items) hc;rw[←h2]at hm;simp[hc];refine ck (eT _ _) ?_;simp[hc];refine ck (eT _ _) ?_;simp;apply gv<;>intro e
  ·have e':=e;simp[e];apply gw<;>intro b
   ·have hv:GV items c=some ⟨place items c.a,place items c.b,c.same⟩:=if_pos ⟨by omega,by omega⟩;simp[hc];refine nxb (i+1,out++[⟨place items c.a,place items c.b,c.same⟩]) ⟨by omega,by rw[hm,hv];rfl,by simp;omega⟩
   ·simp at b;have hv:GV items c=none:=if_neg (by rintro⟨h1,h2⟩;unfold place at h1 h2;omega);simp;refine nxa (i+1,out) ⟨by omega,by rw[hm,hv];simp,by omega⟩
  ·have e':=e;simp at e';have hv:GV items c=none:=if_neg (by rintro⟨h1,h2⟩;unfold place at h1 h2;omega);simp[e];refine nxa (i+1,out) ⟨by omega,by rw[hm,hv];simp,by omega⟩
 ·simp at a;rw[bS a]at h2;simp;grind[E9]
def JM (l:List Ver)(hs:Qle l)(hv:kT l):Fk 61 [nVers l] (wV (gM l)):=by
 refine fE [] ntmps61 fun _ _=> ?_;simp;refine ck (EH l) ?_;simp[hv];refine wlt (Nat×List Ver) (fun(i,out)=>([(3,wV out),(10,vV l),(11,vI l.length),(12,vI i)],l.length-i,(i<=l.length)/\(out=(l.take i).foldl qR [])/\(out.length<=i))) ((0,[])) ⟨by omega,rfl,by simp⟩ ?_;rintro⟨i,out⟩ ⟨h1,h2,h3⟩;simp;apply gw<;>intro a
 ·obtain⟨c,hc⟩:=aQ (l:=l) (i:=i);have hm:=fA qR [] hc;rw[←h2]at hm;simp[hc];refine ai ?_;refine wdt 22 ?_;simp;apply gv<;>intro e
  ·have e':=e;have he:out=[]:=k_List_length_eq_zero_iff.1 (by omega);have hm2:=ZA (c:=c) he;simp[e];refine nxb (i+1,out++[c]) ⟨by omega,by rw[hm,hm2],by simp;omega⟩
  ·have e':=e;simp at e';have hpos:0<out.length:=by omega
   obtain⟨p,hp⟩:=aQ (l:=out) (i:=out.length-1);have hm2:=acP (c:=c) hp;simp[e,hp];refine ai ?_;apply gv<;>intro f
   ·have f':=f;simp[f];refine nxb (i+1,out++[c]) ⟨by omega,by rw[hm,hm2,if_pos (.inl (by simpa using f))],by simp;omega⟩
   ·have f':=f;simp[hp,f];refine ai ?_;apply gw<;>intro g
    ·simp;refine nxb (i+1,out++[c]) ⟨by omega,by rw[hm,hm2,if_pos (.inr (by simpa using g))],by simp;omega⟩
    ·simp;refine wdt 8 ?_;simp[hp,f];refine ai ?_;apply gw<;>intro b
     ·simp[hp,f];refine nxb (i+1,out.set (out.length-1) c) ⟨by omega,by rw[hm,hm2,if_neg (by simp_all),if_pos b],by simp;omega⟩
     ·simp at b;simp;refine nxa (i+1,out) ⟨by omega,by rw[hm,hm2,if_neg (by simp_all),if_neg (by omega)],by omega⟩
 ·simp at a;rw[bS a]at h2;have ho:gM l=out:=h2.symm;simp[ho]
variable {α:Type}
def cfB (cf:α->α->Int)(v c:α):Bool:=decide (cf v c<0)
def srt (cf:α->α->Int)(l:List α)(i:Nat):List α:=kJ (cfB cf) (l.take i)
def aeV (cf:α->α->Int)(l:List α)(i:Nat):List α:=srt cf l i++l.drop i
def MW (cf:α->α->Int)(l:List α)(i j:Nat)(v:α):List α:=CO (cfB cf) l i j v
variable {l:List α}{i:Nat}
def arL {cf:α->α->Int}{k:Nat}{c:α}(h:(srt cf l i)[k]?=some c):c∈l:=by
 have h1:=(zY (cfB cf) (l.take i) []).mem_iff (a:=c);rw[iM]at h1;exact iR (h1.1 (aA h))
def anG (cf:α->α->Int)(l:List α):aeV cf l 1=l:=by
 cases l with
 |nil=>rfl
 |cons x l=>rfl
def anF (cf:α->α->Int)(h:l.length<=i):aeV cf l i=kJ (cfB cf) l:=by unfold aeV srt;rw[k_List_take_of_length_le h,bW h,dQ]
def ahF (f:α->D){cf:α->α->Int}{j:Nat}{v c:α}(hi:i<l.length)(hj:0<j/\j<=i)(hc:(srt cf l i)[j-1]?=some c):(((MW cf l i j v).map f).set j (f c)).set (j-1) (f v)=(MW cf l i (j-1) v).map f:=by
 rw[←List.map_set,←List.map_set];have:=auO (p:=cfB cf) (j:=j-1) (v:=v) hi (by omega) hc;rw[show j-1+1=j by omega]at this;exact congrArg _ this
def awT (l:List Ver)(cf:Ver->Ver->Int)(g:FuncId)(E:Dv.Enters prog g)(U:T (1000000+g)=⟨.no,0,.any 0⟩)(G:∀a∈l,∀b∈l,fP prog g [kH a,kH b] (fun r=>r=vI (cf a b)))(hl:Qle l):MZ prog 179 [.one (.bool false),dI 0,dI l.length,.one (.func (.func g) #[] #[])] 0 (oVers l) (fun r d=>r= .tup []/\d=oVers (kJ (cfB cf) l)):=by
 refine fM [] ntmps179 fun w0 ow0 v0=> ?_;have h00:=anG cf l;simp;refine ai ?_;refine wl (fun(i:Nat)=>[(0,wV (aeV cf l i)),(1,vI 0),(2,vI l.length),(3,.val (.one (.func (.func g) #[] #[]))),(8,vI i)]) (fun(i:Nat)=>l.length-i) (fun(i:Nat)=>(1<=i/\i<=l.length+1)) (1) (by omega) ?_ (h0:=by simp[E,U,h00]);rintro i h1;simp;apply gw<;>intro a
 ·obtain⟨v,hv⟩:=aQ (l:=l) (i:=i);have hin:MW cf l i i v=aeV cf l i:=arI (p:=cfB cf) hv;have hsl:=yV (p:=cfB cf) (l:=l) (i:=i);simp;refine wlt Nat (fun j=>([(0,wV (MW cf l i j v)),(1,vI 0),(2,vI l.length),(3,.val (.one (.func (.func g) #[] #[]))),(8,vI i),(9,vI j)],j,(j<=i)/\(∀k c,j<=k->(srt cf l i)[k]?=some c->cfB cf v c=true))) (i) ⟨by omega,(fun k c hk hc=>absurd (dM hc) (by unfold srt;omega))⟩ ?_ (h0:=by simp[E,U,h00,hin]);rintro j ⟨h2,h3⟩;have hnow:(MW cf l i j v)[j]?=some v:=anD a h2;simp;refine wdt 14 ?_;simp;apply gv<;>intro e
  ·have e':=e;obtain⟨c,hc⟩:=aQ (l:=srt cf l i) (i:=j-1) (by unfold srt;omega);have hprev:(MW cf l i j v)[j-1]?=some c:=by have:=ahD (p:=cfB cf) (v:=v) a (show j-1<i by omega) hc;rwa [show j-1+1=j by omega]at this
   have hj1:((j:Int)-1).toNat=j-1:=by omega
   have hsw:=ahF kH (v:=v) a ⟨by omega,h2⟩ hc;have hs2:∀x:D,(((MW cf l i j v).map kH).set j x)[j-1]?=some (kH c):=fun x=>by rw[bJ (by omega),aN,hprev];rfl
   have hj2:(j:Int)-1=((j-1:Nat):Int):=by omega
   simp[E,U,e,hnow,hprev,hj2];refine ai ?_;refine ck ((G v (aA hv) c (arL hc))) ?_;simp;apply gw<;>intro b
   ·simp;refine wdh [2,3] [(15,[51,46,0,37,39,42,45,47,49,50]),(17,[52,50,0,37,39,42,45,46,47,49,51])] [(0,wV (MW cf l i j v)),(1,vI 0),(2,vI l.length),(3,.val (.one (.func (.func g) #[] #[]))),(8,vI i),(9,vI j),(39,.al 0 []),(40,vI j)] [] ?_;simp[hnow,hprev,hsw,hs2,hj2];refine ai ?_;refine nx (j-1) ⟨by omega,(fun k c2 hk hc2=>by by_cases hkj:k=j-1;(subst hkj;rw[hc]at hc2;cases hc2;exact decide_eq_true b);exact h3 k c2 (by omega) hc2)⟩
   ·simp at b;have ho:MW cf l i j v=aeV cf l (i+1):=XF hv h2 h3 (.inr ⟨c,hc,by unfold cfB;exact decide_eq_false (by omega)⟩);simp[ho];refine nxa (i+1) (by omega)
  ·have e':=e;simp at e';have ho:MW cf l i j v=aeV cf l (i+1):=XF hv h2 h3 (.inl (by omega));simp[e,ho];refine nxa (i+1) (by omega)
 ·simp at a;have ho:=anF cf (l:=l) (i:=i) (by omega);simp[ho]
end Go.Proofs.YtigjbamofhdchaaGreatDoor
end
section
namespace Go.Proofs.YtigjbamofhdchaaGreatDoor
open Go.Dv Go.Pl Go.RowKit Go.Proofs.Tryz
def ZE (n:Nat)(hn:n<=1048576):fP prog 119 [.one (.int .u64 n)] (fun r=>r=vI (Lib.bitLen n)):=
 DD (u:= .int .i64 (Lib.bitLen n)) rfl fun w ow vs hL hs ha=>by
  obtain rfl:=XQ hs ha;have:=Tryz.bits_Len n w (by omega) (by omega);exact this.mono fun e w' h=>⟨h.1,h.2▸Below.refl _ _⟩
def as3 (l:List Ver)(cf:Ver->Ver->Int)(g:FuncId)(E:Dv.Enters prog g)(U:T (1000000+g)=⟨.no,0,.any 0⟩)(G:∀a∈l,∀b∈l,fP prog g [kH a,kH b] (fun r=>r=vI (cf a b)))(hl:l.length<=12):MZ prog 113 [.one (.bool false),dI l.length,.one (.func (.func g) #[] #[])] 0 (oVers l) (fun r d=>r= .tup []/\d=oVers (kJ (cfB cf) l)):=by
 refine fM [] ntmps113 fun w0 ow0 v0=> ?_;have hlt:¬(20:Int)<=l.length:=by omega
 have hlt2:¬(20:Int)<l.length:=by omega
 simp;refine wl (fun(i:Nat)=>[(0,wV l),(1,vI l.length),(2,.val (.one (.func (.func g) #[] #[]))),(6,vI 20),(7,vI 0),(8,vI 20)]) (fun(i:Nat)=>0) (fun(i:Nat)=>(i=0)) (0) (rfl) ?_;rintro i h1;simp[hlt];refine mV rfl (awT l cf g E U G (by omega)) ?_;rintro r d ⟨rfl,rfl⟩;simp;refine wl (fun(j:Nat)=>[(0,wV (kJ (cfB cf) l)),(1,vI l.length),(2,.val (.one (.func (.func g) #[] #[]))),(6,vI 20)]) (fun(j:Nat)=>0) (fun(j:Nat)=>(j=0)) (0) (rfl) ?_;rintro j h2;simp[hlt2]
def ao4 (l:List Ver)(cf:Ver->Ver->Int)(g:FuncId)(E:Dv.Enters prog g)(U:T (1000000+g)=⟨.no,0,.any 0⟩)(G:∀a∈l,∀b∈l,fP prog g [kH a,kH b] (fun r=>r=vI (cf a b)))(hl:l.length<=12):MZ prog 62 [.one (.bool false),.one (.func (.func g) #[] #[])] 0 (oVers l) (fun r d=>r= .tup []/\d=oVers (kJ (cfB cf) l)):=by
 refine fM [] ntmps62 fun w0 ow0 v0=> ?_;simp;refine mV rfl (as3 l cf g E U G hl) ?_;rintro r d ⟨rfl,rfl⟩;simp
def aD0 (l:List Ver)(k:Int)(cf:Ver->Ver->Int)(g:FuncId)(E:Dv.Enters prog g)(U:T (1000000+g)=⟨.no,0,.any 0⟩)(G:∀a∈l,∀b∈l,fP prog g [kH a,kH b] (fun r=>r=vI (cf a b)))(hl:l.length<=12):MZ prog 118 [.one (.bool false),dI 0,dI l.length,dI k,.one (.func (.func g) #[] #[])] 0 (oVers l) (fun r d=>r= .tup []/\d=oVers (kJ (cfB cf) l)):=by
 refine fM [] ntmps118 fun w0 ow0 v0=> ?_;simp;refine wl (fun(i:Nat)=>[(0,wV l),(1,vI 0),(2,vI l.length),(3,vI k),(4,.val (.one (.func (.func g) #[] #[])))]) (fun(i:Nat)=>0) (fun(i:Nat)=>(i=0)) (0) (rfl) ?_;rintro i h1;have hlt:(l.length:Int)<=12:=by omega
 simp[hlt];refine ai ?_;refine mV rfl (awT l cf g E U G (by omega)) ?_;rintro r d ⟨rfl,rfl⟩;simp
def akY (l:List Ver)(cf:Ver->Ver->Int)(g:FuncId)(E:Dv.Enters prog g)(U:T (1000000+g)=⟨.no,0,.any 0⟩)(G:∀a∈l,∀b∈l,fP prog g [kH a,kH b] (fun r=>r=vI (cf a b)))(hl:l.length<=12):MZ prog 67 [.one (.bool false),.one (.func (.func g) #[] #[])] 0 (oVers l) (fun r d=>r= .tup []/\d=oVers (kJ (cfB cf) l)):=by
 refine fM [] ntmps67 fun w0 ow0 v0=> ?_;have hw:IntKind.u64.wrap (l.length:Int)=l.length:=by simp[IntKind.wrap,IntKind.bits,IntKind.signed];omega
 simp[hw];refine ck (ZE l.length (by omega)) ?_;simp;refine mV rfl (aD0 l (Lib.bitLen l.length) cf g E U G hl) ?_;rintro r d ⟨rfl,rfl⟩;simp
def JR (a b:Ver):Fk 63 [kH a,kH b] (vI (cmpI b.time a.time)):=by
 refine fE [] ntmps63 fun _ _=> ?_;simp;refine ck (pO _ _) ?_;simp
def ah1 (l:List Ver):kJ (cfB fun a b:Ver=>cmpI b.time a.time) l=tQ l:=by
 have:(cfB fun a b:Ver=>cmpI b.time a.time)=CK:=by
  funext v u;unfold cfB CK cmpI;rw[bH,decide_eq_true_eq,decide_eq_true_eq];show(if u.time<v.time then(-1:Int)else if u.time>v.time then 1 else 0)<0↔_;split
  ·exact⟨fun _=>by assumption,fun _=>by omega⟩
  ·rename_i h1;constructor
   ·intro h;split at h<;>omega
   ·intro h;exact absurd h h1
 unfold kJ tQ;rw[this]
def RO (l:List Ver):kJ (cfB gF) l=iC l:=by
 have:cfB gF=sW:=by
  funext v u;unfold cfB sW;rw[bH,decide_eq_true_eq,decide_eq_true_eq,NE];omega
 unfold kJ iC;rw[this]
def lk0 (i:Nat):L1:=(List.range i).map (fun(k:Nat)=>(k:Int))++List.replicate (400-i) 0
def axX:lk0 0=List.replicate 400 0:=rfl
def aBM:lk0 400=AJ:=by simp[lk0,AJ]
variable {i:Nat}
def aiS (h:i<=400:=by omega):(lk0 i).length=400:=by simp[lk0];omega
def aBO (h:i<400):((lk0 i).map dI).set i (dI (i:Int))=(lk0 (i+1)).map dI:=by
 rw[←List.map_set];congr 1;unfold lk0;rw[gG _ _ (by simp),show(List.map (fun(k:Nat)=>(k:Int)) (List.range i)).length=i by simp,eH,show 400-i=(400-(i+1))+1 by omega,fJ,kN,gD,jB,bO];rfl
def aBN (h:i<400):(lk0 i)[i]?=some 0:=by
 unfold lk0;rw[aY (by simp),show(List.map (fun(k:Nat)=>(k:Int)) (List.range i)).length=i by simp,eH,show 400-i=(400-(i+1))+1 by omega,fJ];rfl
def lkm (o:L1)(f:Int->Int)(k:Nat):L1:=(o.take k).map f++o.drop k
def aq6 (o:L1)(f:Int->Int)(k:Nat):(lkm o f k).length=o.length:=by simp[lkm];omega
variable {o:L1}{f:Int->Int}{k:Nat}
def axY (h:k<o.length):(lkm o f k)[k]?=some (at1 o k):=by
 unfold lkm;rw[aY (by simp;omega),aX,dD,fH (by omega),eH,dR,kE];exact aV h
def aq7 (h:k<o.length):(lkm o f k).set k (f (at1 o k))=lkm o f (k+1):=by
 have hg:=aV h;unfold lkm;have hd:o.drop k=at1 o k::o.drop (k+1):=by rw[bN h];rw[aB h]at hg;rw[k_Option_some_inj hg]
 rw[gG _ _ (by simp;omega),aX,dD,fH (by omega),eH,hd,kN,dX hg,jB,bO];rfl
def axZ (h:k<o.length)(hf:f (at1 o k)=at1 o k):lkm o f k=lkm o f (k+1):=by
 rw[←aq7 h,hf];apply jS;intro m;by_cases hm:k=m
 ·subst hm;rw[axY h,bR (by rw[aq6];exact h)]
 ·rw[bJ hm]
def ax0 (o:L1)(f:Int->Int):lkm o f 0=o:=rfl
def aBP (f:Int->Int):lkm o f o.length=o.map f:=by simp[lkm]
def uP (l:L1)(i:Nat):D.ws (List.take i (l.map dI))=min i l.length:=by
 have h:∀l:L1,D.ws (l.map dI)=l.length:=fun l=>by
  induction l with
  |nil=>rfl
  |cons x l ih=>simp only[gP,D.ws,D.w,ih,aR];omega
 rw[←List.map_take,h,dD]
def aiR (o:L1)(v:Ver):(uM o v).length=o.length:=by unfold uM;split<;>simp
def NV (l:List Ver)(hl:Qle l)(hv:∀v∈l,inT v.a/\inT v.b):Fk 115 [nVers l] (.val (.agg ((jX l).map dI))):=by
 refine fE [] ntmps115 fun _ _=> ?_;have hz:List.replicate 400 (dI 0)=(lk0 0).map dI:=by rw[axX,wD]
 simp[hz];refine wl (fun(i:Nat)=>[(0,vV l),(2,.own (.bx true (.agg ((lk0 0).map dI)))),(3,.own (.bx true (.agg ((lk0 i).map dI)))),(10,vI i)]) (fun(i:Nat)=>400-i) (fun(i:Nat)=>(i<=400)) (0) (by omega) ?_;rintro i h1;simp;apply gw<;>intro a
 ·have hlen:=aiS (i:=i);have hs:=aBO (i:=i) (by omega);have hg:=aBN (i:=i) (by omega);have hws:D.ws (List.take i ((lk0 i).map dI))=i:=by rw[uP,hlen];omega
  simp[hz,hs,hg,hws];refine nxb (i+1) (by omega)
 ·simp at a;obtain rfl:i=400:=by omega
  have hall:=aBM;simp[hall];refine wlt (Nat×L1) (fun(j,o)=>([(0,vV l),(2,.own (.bx true (.agg ((lk0 0).map dI)))),(3,.own (.bx true (.agg (o.map dI)))),(17,vV l),(18,vI l.length),(19,vI j)],l.length-j,(j<=l.length)/\(o=(l.take j).foldl uM AJ)/\(o.length=400))) ((0,AJ)) ⟨by omega,rfl,axW.len⟩ ?_;rintro⟨j,o⟩ ⟨h2,h3,h4⟩;simp;apply gw<;>intro b
  ·obtain⟨c,hc⟩:=aQ (l:=l) (i:=j);have hcv:=hv c (aA hc);have hA:=aV (l:=o) (i:=c.a.toNat) (by have:=hcv.1.2;have:=hcv.1.1;omega);have hB:=aV (l:=o) (i:=c.b.toNat) (by have:=hcv.2.2;have:=hcv.2.1;omega);have hm:=fA uM AJ hc;rw[←h3]at hm;simp[hc];apply gw<;>intro d
   ·simp at d;simp;refine nxa (j+1,o) ⟨by omega,by rw[hm];exact(if_neg (by simp[d])).symm,h4⟩
   ·simp at d;obtain⟨A,hAe⟩:∃A,at1 o c.a.toNat=A:=⟨_,rfl⟩;obtain⟨B,hBe⟩:∃B,at1 o c.b.toNat=B:=⟨_,rfl⟩;rw[hAe]at hA;rw[hBe]at hB;have hz2:=ax0 o (qJ A B);have h90:=hcv.1.1;have h91:=hcv.1.2;have h92:=hcv.2.1;have h93:=hcv.2.2;have hwA:D.ws (List.take c.a.toNat (o.map dI))=c.a.toNat:=by rw[uP,h4];omega
    have hwB:D.ws (List.take c.b.toNat (o.map dI))=c.b.toNat:=by rw[uP,h4];omega
    have hA2:=(aD.1 hA).2;have hB2:=(aD.1 hB).2;simp;refine wdr ?_;simp[hz,hA2,hB2,h4,h90,h91,h92,h93,hwA,hwB];refine wl (fun(k:Nat)=>[(0,vV l),(2,.own (.bx true (.agg ((lk0 0).map dI)))),(3,.own (.bx true (.agg ((lkm o (qJ A B) k).map dI)))),(7,vI A),(8,vI B),(17,vV l),(18,vI l.length),(19,vI j),(34,vI k)]) (fun(k:Nat)=>400-k) (fun(k:Nat)=>(k<=400)) (0) (by omega) ?_ (h0:=by simp[hz,hall,hc,hA2,hB2,hz2,h4,h90,h91,h92,h93,hwA,hwB]);rintro k h5;simp;apply gw<;>intro e
    ·have hkl:k<o.length:=by omega
     have hg:=axY (f:=qJ A B) hkl;have hlen:(lkm o (qJ A B) k).length=400:=by rw[aq6];exact h4
     have hws:D.ws (List.take k ((lkm o (qJ A B) k).map dI))=k:=by rw[uP,hlen];omega
     obtain⟨z,hze⟩:∃z,at1 o k=z:=⟨_,rfl⟩;have hset:=aq7 (f:=qJ A B) hkl;have hsame:=axZ (f:=qJ A B) hkl;rw[hze]at hg hset hsame;simp[hz,hg,hws];refine ai ?_;apply gw<;>intro g
     ·have hf:qJ A B z=min A B:=if_pos g;have hst:((lkm o (qJ A B) k).map dI).set k (dI (min A B))=(lkm o (qJ A B) (k+1)).map dI:=by rw[←List.map_set,←hf,hset]
      simp[hz,hg,hws,hst];refine nxb (k+1) (by omega)
     ·have hs2:=(hsame (if_neg g)).symm;simp;refine nxa (k+1) (by omega) (h3:=by simp[hz,hall,h4,hg,hlen,hws,hs2])
    ·simp at e;obtain rfl:k=400:=by omega
     have hall:lkm o (qJ A B) 400=o.map (qJ A B):=by rw[←h4];exact aBP _
     have hls:uM o c=o.map (qJ A B):=by unfold uM;rw[if_pos (by simpa using d),hAe,hBe]
     simp[hall];refine nxa (j+1,o.map (qJ A B)) ⟨by omega,by rw[hm,hls],by rw[aX];exact h4⟩
  ·simp at b;have hr:jX l=o:=by rw[h3,k_List_take_of_length_le (by omega)];rfl
   have hws4:D.ws (o.map dI)=400:=by have:=uP o 400;rw[k_List_take_of_length_le (by (try unfold Qle);rw[aX];omega),h4]at this;simpa using this
   have hws5:D.ws ((lk0 0).map dI)=400:=by have:=uP (lk0 0) 400;rw[k_List_take_of_length_le (by (try unfold Qle);rw[aX,aiS];omega),aiS]at this;simpa using this
   clear h3;simp[hz,hr,hws4,hws5];grind
def aqK (h:o.length=400){x:Int}(hx:inT x):o[x.toNat]?=some (at1 o x.toNat):=aV (by have:=hx.2;have:=hx.1;omega)
def DR (l:List Ver):(jX l).length=400:=by
 have:∀(l:List Ver) (o:L1),o.length=400->(l.foldl uM o).length=400:=fun l=>by
  induction l with
  |nil=>exact fun o h=>h
  |cons v l ih=>exact fun o h=>ih _ (by rw[aiR];exact h)
 exact this l _ (by simp[AJ])
def acH (o:L1)(v:Ver):Bool:= !v.same&&decide (at1 o v.a.toNat=at1 o v.b.toNat)
def aaF (o:L1)(v:Ver)(ho:o.length=400)(hv:inT v.a/\inT v.b):Fk 117 [kH v,.bx false (.agg (o.map dI))] (vB (acH o v)):=by
 refine fE [] ntmps117 fun _ _=> ?_;have hA:=aqK ho hv.1;have hB:=aqK ho hv.2;have h0:=hv.1.1;have h1:=hv.1.2;have h2:=hv.2.1;have h3:=hv.2.2;have hwA:D.ws (List.take v.a.toNat (o.map dI))=v.a.toNat:=by rw[uP,ho];omega
 have hwB:D.ws (List.take v.b.toNat (o.map dI))=v.b.toNat:=by rw[uP,ho];omega
 simp;refine wdt 14 ?_;simp;apply gv<;>intro e
 ·have e':=e;simp at e';simp[ho,h0,h1,h2,h3,hwA,hwB,e];grind[acH]
 ·have e':=e;simp at e';simp[e];grind[acH]
def ao3 (l:List Ver)(p:Ver->Bool)(g:FuncId)(b:Nat)(d:D)(F:d.fz=d)(E:Dv.Enters prog g)(U:T (1000000+g)=⟨.no,0,.any 0⟩)(G:∀c∈l,fP prog g [kH c,.bx false d] (fun r=>r=vB (p c)))(hl:Qle l):yZ prog 181 [nVers l,.one (.func (.func g) #[] #[.pointer (some ⟨b,0,none⟩)])] [(b,d)] (fun res'=>res'=vI (ix p l)):=by
 refine fB [] ntmps181 fun _ _=> ?_;simp;refine wlt Nat (fun i=>([(0,vV l),(1,.val (.one (.func (.func g) #[] #[.pointer (some ⟨b,0,none⟩)]))),(7,vI l.length),(8,vI i),(1000000+2*b,.rp (d))],l.length-i,(i<=l.length)/\((l.take i).any p=false))) (0) ⟨by omega,rfl⟩ ?_;rintro i ⟨h1,h2⟩;simp;apply gw<;>intro a
 ·obtain⟨c,hc⟩:=aQ (l:=l) (i:=i);simp[E,U,F,hc];refine ck ((G c (aA hc))) ?_;simp;apply gw<;>intro e
  ·have hn:=DK hc h2 (by simp[e]);simp[hn]
  ·simp;refine nxa (i+1) ⟨by omega,(gV hc h2 (by simp[e]))⟩
 ·simp at a;have hf:=mJ h2 a;have hx:=rV hf;simp[hx]
def asY (l:List Ver)(p:Ver->Bool)(g:FuncId)(b:Nat)(d:D)(F:d.fz=d)(E:Dv.Enters prog g)(U:T (1000000+g)=⟨.no,0,.any 0⟩)(G:∀c∈l,fP prog g [kH c,.bx false d] (fun r=>r=vB (p c)))(hl:Qle l):yZ prog 116 [nVers l,.one (.func (.func g) #[] #[.pointer (some ⟨b,0,none⟩)])] [(b,d)] (fun res'=>res'=vB (l.any p)):=by
 refine fB [] ntmps116 fun _ _=> ?_;have hq:decide (0<=ix p l)=l.any p:=by rw[bH,decide_eq_true_eq];exact iV
 simp[F];refine ckB (ao3 l p g b d F E U G hl) ?_;simp[hq]
def ae7 (l:List Ver)(hl:Qle l)(hv:∀v∈l,inT v.a/\inT v.b):Fk 65 [nVers l] (vB (acI l)):=by
 refine fE [] ntmps65 fun _ _=> ?_;simp;refine ck (NV l hl hv) ?_;have hF:(D.agg ((jX l).map dI)).fz=D.agg ((jX l).map dI):=by simp[D.fz,D.jI]
 have hcl:l.any (acH (jX l))=acI l:=rfl;have hws:D.ws ((jX l).map dI)=400:=by have:=uP (jX l) 400;rw[k_List_take_of_length_le (by (try unfold Qle);rw[aX,DR];omega),DR]at this;simpa using this
 have hll:=DR l;simp[hws,hll];intro b;refine ckB (asY l (acH (jX l)) 117 b (.agg ((jX l).map dI)) hF aFN aF2 (fun c hc=>aaF (jX l) c (DR l) (hv c hc)) hl) ?_;simp[hcl]
end Go.Proofs.YtigjbamofhdchaaGreatDoor
end
section
namespace Go.Proofs.YtigjbamofhdchaaGreatDoor
open Go.Dv Go.Pl Go.Proofs.Tryz
abbrev aD9 (l:L2):D:= .sl (some 25) (l.map nInts)
variable {g:L2}
def aw9 (hg:∀l∈g,Qle l)(i:Nat):Qle (gat g i):=by
 unfold gat;rw[aC];cases h:g[i]? with
 |none=>simp
 |some r=>exact hg r (aA h)
def alA (g:L2)(x:Int): -1<=eQ g x/\(eQ g x<g.length\/eQ g x= -1):=by
 have:=axM (grp x) g;unfold eQ;omega
def MB (g:L2)(x y:Int)(hs:Qle g)(hg:∀l∈g,Qle l):Fk 41 [bZ g,dI x,dI y] (.val (bZ (oP g x y))):=by
 refine fE [33,35,100000] ntmps41 fun _ _=> ?_;simp;refine ck (oZ _ _ hs hg) ?_;simp;refine ck (oZ _ _ hs hg) ?_;have hA1:=alA g x;have hB1:=alA g y;generalize hA:eQ g x=A at hA1|-
 generalize hB:eQ g y=B at hB1|-
 simp;refine wlt (Nat×L2) (fun(i,o)=>([(0,.val (bZ g)),(1,vI x),(2,vI y),(7,.own (dG [x])),(8,.own (dG [y])),(9,.own (aD9 o)),(10,vI A),(11,vI B),(12,vI i)],g.length-i,(i<=g.length)/\(o=loopN i ([]) ((fun i o=>if(i:Int)≠A/\(i:Int)≠B then o++[gat g i]else o)))/\(o.length<=i))) ((0,[])) ⟨by omega,rfl,by simp⟩ ?_;rintro⟨i,o⟩ ⟨h1,h2,h3⟩;simp;apply gw<;>intro a
 ·have hs:=aL i ([]) ((fun i o=>if(i:Int)≠A/\(i:Int)≠B then o++[gat g i]else o));rw[←h2]at hs;obtain⟨c,hc⟩:=aQ (l:=g) (i:=i);have hc2:=zX hc;simp;apply gv<;>intro e
  ·have e':=e;simp[e];apply gw<;>intro f
   ·simp[hc];refine nxb (i+1,o++[c]) ⟨by omega,by rw[hs,if_pos ⟨e,f⟩,hc2],by simp;omega⟩
   ·simp;refine nxa (i+1,o) ⟨by omega,by rw[hs,if_neg (by omega)],by omega⟩
  ·have e':=e;simp[e];refine nxa (i+1,o) ⟨by omega,by rw[hs,if_neg (by omega)],by omega⟩ (h3:=by simp[hc,e])
 ·simp at a;have hi:g.length=i:=by omega
  subst hi;have hr:o=yC g A B:=h2;simp;refine an0 (fun(_:Unit)=>[(0,.val (bZ g)),(2,vI y),(7,vN (if 0<=A then gat g A.toNat else[x])),(8,.own (dG [y])),(9,.own (aD9 o)),(10,vI A),(11,vI B)]) (fun(_:Unit)=>True) ?_ ?_
  ·simp;apply gw<;>intro b
   ·obtain⟨c,hc⟩:=aQ (l:=g) (i:=A.toNat);have hc2:=zX hc;simp[hc,b];refine jnc (()) [7] trivial (h3:=by simp[hc,hc2,b])
   ·simp at b;have b':¬0<=A:=by omega
    simp[b'];refine jnc (()) [7] trivial (h3:=by simp[b'])
  rintro⟨⟩ -
  refine MX (fun(_:Unit)=>[(7,vN (if 0<=A then gat g A.toNat else[x])),(8,vN (if 0<=B then gat g B.toNat else[y])),(9,.own (aD9 o)),(10,vI A),(11,vI B)]) (fun(_:Unit)=>True) ?_ ?_
  ·simp;apply gw<;>intro b
   ·obtain⟨c,hc⟩:=aQ (l:=g) (i:=B.toNat);have hc2:=zX hc;simp[hc,b];refine jnc (()) [8] trivial (h3:=by simp[hc,hc2,b])
   ·simp at b;have b':¬0<=B:=by omega
    simp[b'];refine jnc (()) [8] trivial (h3:=by simp[b'])
  rintro⟨⟩ -
  have hLl:Qle (if 0<=A then gat g A.toNat else[x]):=by split;(exact aw9 hg _);simp
  have hRl:Qle (if 0<=B then gat g B.toNat else[y]):=by split;(exact aw9 hg _);simp
  generalize hL:(if 0<=A then gat g A.toNat else[x])=L at hLl|-
  generalize hR:(if 0<=B then gat g B.toNat else[y])=R at hRl|-
  simp;apply gv<;>intro e
  ·have e':=e;simp[e];apply gw<;>intro f
   ·simp;refine ai ?_;refine jV [] (cO 6) ?_;have hj:oP g x y=o++[L]:=by rw[oP,hA,hB,if_pos ⟨e,f⟩,hr,←hL,if_pos e]
    simp;simp[hj]
   ·simp;iterate 3 refine ai ?_
    refine jV [] (cO 6) ?_;have hj:oP g x y=o++[L++R]:=by rw[oP,hA,hB,if_neg (by simp[f]),hr,←hL,←hR]
    simp;simp[hj]
  ·have e':=e;simp at e';simp[e];iterate 3 refine ai ?_
   refine jV [] (cO 6) ?_;have hj:oP g x y=o++[L++R]:=by rw[oP,hA,hB,if_neg (by simp[e]),hr,←hL,←hR]
   simp;simp[hj]
variable {m:Nat}
def V9 (hg:∀l∈g,l.length<=m)(i:Nat):(gat g i).length<=m:=by
 unfold gat;rw[aC];cases h:g[i]? with
 |none=>simp
 |some r=>exact hg r (aA h)
def afC (hg:∀l∈g,l.length<=m)(a b:Int):(yC g a b).length<=g.length/\∀l∈yC g a b,l.length<=m:=by
 refine loopN_inv (fun n (o:L2)=>o.length<=n/\∀l∈o,l.length<=m) (by simp) fun i o _ ho=> ?_;split
 ·refine⟨by simp;omega,fun l hl=> ?_⟩;rcases k_List_mem_append.1 hl with h|h
  ·exact ho.2 l h
  ·obtain rfl:l=gat g i:=by simpa using h
   exact V9 hg i
 ·exact⟨by omega,ho.2⟩
def adT (hm:1<=m)(hg:∀l∈g,l.length<=m)(x y:Int):(oP g x y).length<=g.length+1/\∀l∈oP g x y,l.length<=2*m:=by
 have hr:=afC hg (eQ g x) (eQ g y);unfold oP;split
 ·refine⟨by simp;omega,fun l hl=> ?_⟩;rcases k_List_mem_append.1 hl with h|h
  ·have:=hr.2 l h;omega
  ·obtain rfl:l=gat g (eQ g x).toNat:=by simpa using h
   have:=V9 hg (eQ g x).toNat;omega
 ·refine⟨by simp;omega,fun l hl=> ?_⟩;rcases k_List_mem_append.1 hl with h|h
  ·have:=hr.2 l h;omega
  ·have e:l=_:=k_List_mem_singleton.1 h;subst e;have h1:=V9 hg (eQ g x).toNat;have h2:=V9 hg (eQ g y).toNat;have h3:(if 0<=eQ g x then gat g (eQ g x).toNat else[x]).length<=m:=by split;(exact h1);(simpa using hm)
   have h4:(if 0<=eQ g y then gat g (eQ g y).toNat else[y]).length<=m:=by split;(exact h2);(simpa using hm)
   rw[aO];omega
variable {items:L1}{i k:Nat}
def amL (hk:k<items.length)(hik:i<k)(he:eQ g (at1 items k)=eQ g (at1 items i))(hno:∀j,i<j->j<k->eQ g (at1 items j)≠eQ g (at1 items i)):OZ g items i=some k:=by
 unfold OZ;rw[pY];refine⟨by simp[hik,he],by simpa using hk,fun j hj=> ?_⟩;by_cases hij:i<j
 ·simp[hno j hij hj]
 ·simp[hij]
def amK (hno:∀j,i<j->j<items.length->eQ g (at1 items j)≠eQ g (at1 items i)):OZ g items i=none:=by
 unfold OZ;rw[nH];intro j hj;have hj:=aZ.1 hj;by_cases hij:i<j
 ·simp[hno j hij hj]
 ·simp[hij]
def JB (g:L2)(items:L1)(k:Nat):List Con:=(List.range k).flatMap (rY g items)
def anA (g:L2)(items:L1):JB g items 0=[]:=rfl
def ZZ (g:L2)(items:L1)(k:Nat):JB g items (k+1)=JB g items k++rY g items k:=by simp[JB,gD]
def apX (g:L2)(items:L1)(k:Nat):(JB g items k).length<=k:=by
 induction k with
 |zero=>simp[JB]
 |succ k ih=>have:=ZY g items k;rw[ZZ,aO];omega
variable {l:List Ver}{c:Ver}
def TV (h:l[i]?=some c):uN (l.take (i+1))=uN (l.take i)++if c.same then[c]else[]:=zA _ h
def RX (h:l[i]?=some c):apart (l.take (i+1))=apart (l.take i)++if !c.same then[c]else[]:=zA _ h
def aaY (kept:List Ver)(items:L1)(hk:kept.length<=8)(hi:items.length<=8):Fk 81 [nVers kept,nInts items] (vE (nU kept items)):=by
 refine fE [] ntmps81 fun _ _=> ?_;have hs0:uN []=[]:=rfl;have ha0:apart []=[]:=rfl;simp;refine wlt Nat (fun i=>([(0,vV kept),(1,vN items),(5,wV (uN (kept.take i))),(6,wV (apart (kept.take i))),(7,vI i)],kept.length-i,(i<=kept.length)/\((uN (kept.take i)).length<=8/\(apart (kept.take i)).length<=8))) (0) ⟨by simp,by simp[hs0,ha0]⟩ ?_ (h0:=by simp[hs0,ha0]);rintro i ⟨h1,h2⟩;simp;apply gw<;>intro a
 ·obtain⟨c,hc⟩:=aQ (l:=kept) (i:=i);have h1f:=TV hc;have h2f:=RX hc;have hms:(uN (kept.take (i+1))).length<=8:=k_Nat_le_trans (bM _ _) (by simp;omega);have hma:(apart (kept.take (i+1))).length<=8:=k_Nat_le_trans (bM _ _) (by simp;omega);simp[hc];apply gw<;>intro b
  ·simp only[b,Bool.not_true,dP,if_true,if_false,dQ]at h1f h2f;simp[hc];refine nxb (i+1) ⟨by omega,(⟨hms,hma⟩)⟩ (h3:=by simp[hs0,ha0,hc,h1f,h2f])
  ·simp only[b,wT,dP,if_true,if_false,dQ]at h1f h2f;simp[hc];refine nxb (i+1) ⟨by omega,(⟨hms,hma⟩)⟩ (h3:=by simp[hs0,ha0,hc,h1f,h2f])
 ·simp at a;obtain rfl:i=kept.length:=by omega
  have hms:(uN kept).length<=8:=k_Nat_le_trans (bM _ _) hk;have hma:(apart kept).length<=8:=k_Nat_le_trans (bM _ _) hk;rw[dJ];generalize hM:uN kept=M at*
  generalize hA:apart kept=A at*
  simp;refine wld [8] (Nat×L2) (fun(i,g)=>([(0,vV kept),(1,vN items),(5,wV M),(6,wV A),(8,.val (bZ g)),(9,vI i)],M.length-i,(i<=M.length)/\(g=(M.take i).foldl (fun g v=>oP g v.a v.b) [])/\(g.length<=i/\∀l∈g,l.length<=2^i))) ((0,[])) ⟨by omega,rfl,by simp⟩ ?_;rintro⟨i,g⟩ ⟨h1m,h2m,h3m⟩;simp;apply gw<;>intro am
  ·obtain⟨cm,hcm⟩:=aQ (l:=M) (i:=i);have hm:=fA (fun g v=>oP g v.a v.b) [] hcm;rw[←h2m]at hm;have hp:2^i<=256:=k_Nat_le_trans (jN (by omega) (show i<=8 by omega)) (by decide);have hp2:2^(i+1)=2*2^i:=by omega
   have hp1:1<=2^i:=Nat.one_le_two_pow;have hj:=adT (m:=2^i) hp1 h3m.2 cm.a cm.b;simp;refine wdt 12 ?_;simp[hcm];refine cd (MB g cm.a cm.b (by omega) (fun l hl=>by have:=h3m.2 l hl;omega)) ?_;simp;refine ai ?_;refine nxc (i+1,oP g cm.a cm.b) [8] ⟨by omega,by rw[hm],by rw[hp2];exact⟨by omega,hj.2⟩⟩
  ·simp at am;rw[bS am]at h2m;have hG:g.length<=8/\∀l∈g,l.length<=256:=⟨by omega,fun l hl=>k_Nat_le_trans (h3m.2 l hl) (k_Nat_le_trans (jN (by omega) (show i<=8 by omega)) (by decide))⟩;have hJ:joined kept=g:=by rw[joined,hM,h2m]
   clear h2m h3m h1m am;have hz0:=anA g items;simp;refine wl (fun(i:Nat)=>[(0,vV kept),(1,vN items),(6,wV A),(8,.val (bZ g)),(10,vE (JB g items i)),(11,vI i)]) (fun(i:Nat)=>items.length-i) (fun(i:Nat)=>(i<=items.length)) (0) (by omega) ?_ (h0:=by simp[hs0,ha0,hz0]);rintro i h1i;have hlen:=apX g items i;simp;apply gw<;>intro d
   ·have hd:=aV (l:=items) (i:=i) d;have hfl:=ZZ g items i;simp[hd];refine ck (oZ g (at1 items i) (by omega) (fun l hl=>by have:=hG.2 l hl;omega)) ?_;obtain⟨ga,hga⟩:∃ga,eQ g (at1 items i)=ga:=⟨_,rfl⟩;simp[hga];refine ai ?_;refine wlt Nat (fun k=>([(0,vV kept),(1,vN items),(6,wV A),(8,.val (bZ g)),(10,vE (JB g items i)),(11,vI i),(12,vI ga),(13,vI k)],items.length-k,(i<k/\k<=items.length)/\(∀j,i<j->j<k->eQ g (at1 items j)≠ga))) (i+1) ⟨by omega,(fun j h1 h2=>absurd h2 (by omega))⟩ ?_;rintro k ⟨h1k,h2k⟩;simp;apply gv<;>intro e
    ·have e':=e;simp[e];apply gw<;>intro f
     ·have hdk:=aV (l:=items) (i:=k) e;have h10:((JB g items i).length:Int)<10:=by omega
      simp[hdk];refine ck (oZ g (at1 items k) (by omega) (fun l hl=>by have:=hG.2 l hl;omega)) ?_;simp;apply gv<;>intro m
      ·have m':=m;have hn:=amL e h1k.1 (m'.trans hga.symm) (fun j h1 h2=>by rw[hga];exact h2k j h1 h2);have hsc:rY g items i=[⟨i,k,true⟩]:=by rw[rY,if_pos (by omega),hn]
       rw[hsc]at hfl;simp[h10,m];refine nxb (i+1) (by first|omega|(simp;omega)|grind) (h3:=by simp[hs0,ha0,hz0,hga,hdk,h10,m,hfl])
      ·have m':=m;simp[m];refine nxa (k+1) ⟨by omega,(fun j h1 h2=>by by_cases hj:j=k;(subst hj;exact m);exact h2k j h1 (by omega))⟩
     ·simp at f;have hsc:rY g items i=[]:=by rw[rY,if_neg (by omega)]
      rw[hsc,dQ]at hfl;simp;refine nxa (i+1) (by first|omega|(simp;omega)|grind) (h3:=by simp[hs0,ha0,hz0,hga,e,hfl])
    ·have e':=e;simp at e';have hn:=amK (g:=g) (items:=items) (i:=i) (fun j h1 h2=>by rw[hga];exact h2k j h1 (by omega));have hsc:rY g items i=[]:=by rw[rY,hn];simp
     rw[hsc,dQ]at hfl;simp[e];refine nxa (i+1) (by first|omega|(simp;omega)|grind) (h3:=by simp[hs0,ha0,hz0,hga,e,hfl])
   ·simp at d;obtain rfl:i=items.length:=by omega
    have hvl:(E9 A items).length<=A.length:=jK _ _;have hsg:KD g items=JB g items items.length:=rfl;simp;refine ck (F5 _ _) ?_;simp;refine ai ?_;simp[nU,hJ,hA,hsg]
def EC (l:List Ver)(hl:Qle l:=by omega):Fk 44 [nVers l] (vV (iC l)):=by
 refine fE [11] ntmps44 fun _ _=> ?_;simp;refine wld [3] (Nat×List Ver) (fun(i,out)=>([(0,vV l),(3,vV out),(4,vI i)],l.length-i,(i<=l.length)/\(out=(l.take i).foldl (fun o v=>jW (sW v) o v) [])/\(out.length=i))) ((0,[])) ⟨by omega,rfl,rfl⟩ ?_;rintro⟨i,out⟩ ⟨h1,h2,h3⟩;simp;apply gw<;>intro a
 ·obtain⟨c,hc⟩:=aQ (l:=l) (i:=i);have hm:=fA (fun o v=>jW (sW v) o v) [] hc;rw[←h2]at hm;have hil:=OP (sW c) out c;simp;refine MX (fun(k:Nat)=>[(0,vV l),(3,vV out),(4,vI i),(5,vI k)]) (fun(k:Nat)=>(jW (sW c) out c=out.take k++[c]++out.drop k)/\k<=out.length) ?_ ?_
  ·simp;refine wlt Nat (fun k=>([(0,vV l),(3,vV out),(4,vI i),(5,vI k)],k,(k<=out.length)/\(∀j,k<=j->(h:j<out.length)->sW c out[j]=true))) (out.length) ⟨by omega,(fun j h1 h2=>absurd h2 (by omega))⟩ ?_;rintro k ⟨h1k,h2k⟩;simp;refine wdr ?_;simp;apply gv<;>intro e
   ·have e':=e;obtain⟨d,hd⟩:=aQ (l:=out) (i:=k-1);have hk1:((k:Int)-1).toNat=k-1:=by omega
    have hk2:(k:Int)-1=((k-1:Nat):Int):=by omega
    simp[hc,e,hd,hk2];refine ai ?_;refine cd (sN d c) ?_;simp;apply gw<;>intro f
    ·simp[hk2];refine nxa (k-1) ⟨by omega,(fun j h1 h2=>by by_cases hj:j=k-1;(subst hj;have hdd:out[k-1]=d:=(by simpa[aB h2]using hd);rw[hdd];simp[sW];omega);exact h2k j (by omega) h2)⟩
    ·simp at f;have hb:=M8 (p:=sW c) h1k h2k (.inr ⟨d,hd,by simp[sW];omega⟩);simp;refine jn (k) ⟨by rw[jW,hb],h1k⟩
   ·have e':=e;simp at e';have hb:=M8 (p:=sW c) h1k h2k (.inl (by omega));simp[e];refine jn (k) ⟨by rw[jW,hb],h1k⟩
  rintro k ⟨h5,h6⟩;simp;refine wdf [(0,[32]),(4,[32,35,36]),(9,[40,41]),(10,[36,41,42]),(14,[42,45,46]),(15,[46,3])] [(0,vV l),(3,vV out),(4,vI i),(5,vI k)] [] (by simp) ?_;simp[hc];iterate 6 refine ai ?_
  refine nxc (i+1,out.take k++[c]++out.drop k) [3] ⟨by omega,by rw[hm,h5],by rw[←h5];omega⟩
 ·simp at a;rw[bS a]at h2;simp;grind[iC]
def ajL {v:Ver}(hk:k<=l.length)(h1:(l.take k).all (fun u=>decide (gF u v<0))=true)(h2:k=l.length\/∃c,l[k]?=some c/\¬gF c v<0):ab0 l v=k:=by
 refine ajE hk h1 ?_;rcases h2 with h|⟨c,h3,h4⟩
 ·exact .inl h
 ·exact .inr ⟨c,h3,by simpa using h4⟩
def SX (l:List Ver)(v:Ver)(hl:Qle l):Fk 43 [nVers l,kH v] (.tup [vV (yS l v),vB (FD l v)]):=by
 refine fE [5,7,13] ntmps43 fun _ _=> ?_;have hix:0<=ix (fun y=>decide (y=v)) l↔l.any (fun y=>decide (y=v))=true:=iV;simp;refine ck (xO _) ?_;simp;apply gv<;>intro a
 ·have a':=a;simp at a';have ho:FD l v=false:=by simp[FD,a']
  simp[a];refine ck (uH _) ?_;simp;refine jV [] (cO 4) ?_;simp;simp[yS,ho]
 ·have a':=a;simp at a';simp[a];refine ck (zV _) ?_;simp;apply gv<;>intro b
  ·have b':=b;simp at b';have ho:FD l v=false:=by simp only[FD];rw[b'];simp
   simp[b];refine ck (uH _) ?_;simp;refine jV [] (cO 4) ?_;simp;simp[yS,ho]
  ·have b':=b;simp at b';simp[b];refine ck (ae9 _ _) ?_;simp;apply gv<;>intro d
   ·have d':=d;have ho:FD l v=false:=by simp only[FD];rw[hix.1 d];simp
    simp[d];refine ck (uH _) ?_;simp;refine jV [] (cO 4) ?_;simp;simp[yS,ho]
   ·have d':=d;simp at d';simp[d];apply gw<;>intro e
    ·have ho:FD l v=false:=by simp only[FD];rw[show decide (l.length≠8)=false by simp;omega];simp
     simp;refine ck (uH _) ?_;simp;refine jV [] (cO 4) ?_;simp;simp[yS,ho]
    ·have hna:l.any (fun y=>decide (y=v))=false:=by rw[jR];intro h;exact d (hix.2 h)
     have ho:FD l v:=by simp only[FD];rw[hna,a',b'];simp;omega
     simp;refine MX (fun(k:Nat)=>[(0,vV l),(3,.own (.bx true (kH v))),(6,vI k)]) (fun(k:Nat)=>(ab0 l v=k)/\k<=l.length) ?_ ?_
     ·simp;refine wlt Nat (fun k=>([(0,vV l),(3,.own (.bx true (kH v))),(6,vI k)],l.length-k,(k<=l.length)/\((l.take k).all (fun u=>decide (gF u v<0))=true))) (0) ⟨by omega,rfl⟩ ?_;rintro k ⟨h1k,h2k⟩;simp;refine wdr ?_;simp;apply gv<;>intro f
      ·have f':=f;obtain⟨c,hc⟩:=aQ (l:=l) (i:=k);have hcc:l[k]=c:=by simpa[aB f]using hc
       simp[f,hcc];refine cd (sN c v) ?_;simp;apply gw<;>intro g
       ·simp;refine nxa (k+1) ⟨by omega,(bV hc h2k (by simpa using g))⟩
       ·simp at g;simp;refine jn (k) ⟨(ajL h1k h2k (.inr ⟨c,hc,by omega⟩)),h1k⟩
      ·have f':=f;simp at f';simp[f];refine jn (k) ⟨(ajL h1k h2k (.inl (by omega))),h1k⟩
     rintro k ⟨h5,h6⟩;simp;refine wdf [(0,[43]),(4,[43,46,47]),(6,[48,49]),(7,[47,49,50]),(11,[50,53,54]),(12,[54,4]),(13,[5])] [(0,vV l),(3,.own (.bx true (kH v))),(6,vI k)] [] (by simp) ?_;simp;iterate 5 refine ai ?_
     refine jV [] (cO 4) ?_;simp;simp[yS,ho,h5]
def akF (o:List Ver)(c:Ver):(qR o c).length<=o.length+1:=by
 unfold qR;split
 ·simp
 ·split
  ·simp
  ·split<;>simp
def ZB (l:List Ver):(gM l).length<=l.length:=by
 have:=FC qR akF l [];simpa[gM]using this
def acA (l:List Ver):(tQ l).length=l.length:=by
 have:=CX CK l [];simpa[tQ]using this
def IP (l:List Ver):(iC l).length=l.length:=by
 have:=CX sW l [];simpa[iC]using this
def an4 (l:List Ver)(v:Ver):(yS l v).length<=l.length+1:=by
 unfold yS;split
 ·simp;omega
 ·omega
def aj5 (l:List Ver)(c:Ver):tQ (l++[c])=jW (CK c) (tQ l) c:=by simp[tQ,lU]
def uX (l:List Ver)(hl:l.length<=8)(hv:kT l):Fk 15 [nVers l] (.tup [vV (nK l),vV (jO l)]):=by
 refine fE [19,48] ntmps15 fun _ _=> ?_;have hcl:=ZB l;have hap:apart (gM l)=apart (gM l):=rfl;have hks:nK l=iC (IQ l).2.1:=rfl;have hrs:jO l=iC (IQ l).2.2:=rfl;have hst:IQ l=(tQ (uN (gM l))).foldl (uO (apart (gM l))) ([],apart (gM l),[]):=rfl;simp;refine ck (JX l (by omega) hv) ?_;generalize gM l=cur at hcl hap hst|-
 simp;refine wld [6] (Nat×List Ver×List Ver) (fun(i,A,M)=>([(4,wV cur),(5,wV A),(6,vV M),(7,vI i)],cur.length-i,(i<=cur.length)/\(A=apart (cur.take i)/\M=tQ (uN (cur.take i)))/\(A.length<=i/\M.length<=i))) ((0,[],[])) ⟨by simp,(⟨rfl,rfl⟩),by simp⟩ ?_;rintro⟨i,A,M⟩ ⟨h1,h2,h3⟩;simp;apply gw<;>intro a
 ·obtain⟨c,hc⟩:=aQ (l:=cur) (i:=i);have h1f:=TV hc;have h2f:=RX hc;simp[hc];apply gw<;>intro b
  ·simp at b;simp only[b,wT,dP,if_true,if_false,dQ]at h1f h2f;simp[hc];iterate 2 refine ai ?_
   refine nxc (i+1,A++[c],M) [6] ⟨by omega,(⟨by rw[h2f,h2.1],by rw[h1f,h2.2]⟩),by simp;omega⟩
  ·simp at b;simp only[b,Bool.not_true,dP,if_true,if_false,dQ]at h1f h2f;have hil:=OP (CK c) M c;simp;refine MX (fun(k:Nat)=>[(4,wV cur),(5,wV A),(6,vV M),(7,vI i),(8,vI k)]) (fun(k:Nat)=>(jW (CK c) M c=M.take k++[c]++M.drop k)/\k<=M.length) ?_ ?_
   ·simp;refine wlt Nat (fun k=>([(4,wV cur),(5,wV A),(6,vV M),(7,vI i),(8,vI k)],k,(k<=M.length)/\(∀j,k<=j->(h:j<M.length)->CK c M[j]=true))) (M.length) ⟨by omega,(fun j h1 h2=>absurd h2 (by omega))⟩ ?_;rintro k ⟨h1k,h2k⟩;simp;refine wdr ?_;simp;apply gv<;>intro e
    ·have e':=e;obtain⟨d,hd⟩:=aQ (l:=M) (i:=k-1);have hk1:((k:Int)-1).toNat=k-1:=by omega
     have hk2:(k:Int)-1=((k-1:Nat):Int):=by omega
     simp[hc,e,hd,hk2];refine ai ?_;apply gw<;>intro f
     ·simp[hk2];refine nxa (k-1) ⟨by omega,(fun j h1 h2=>by by_cases hj:j=k-1;(subst hj;have hdd:M[k-1]=d:=(by simpa[aB h2]using hd);rw[hdd];simp[CK];omega);exact h2k j (by omega) h2)⟩
     ·simp at f;have hb:=M8 (p:=CK c) h1k h2k (.inr ⟨d,hd,by simp[CK];omega⟩);simp;refine jn (k) ⟨by rw[jW,hb],h1k⟩
    ·have e':=e;simp at e';have hb:=M8 (p:=CK c) h1k h2k (.inl (by omega));simp[e];refine jn (k) ⟨by rw[jW,hb],h1k⟩
   rintro k ⟨h5,h6⟩;simp;refine wdf [(0,[57]),(4,[57,60,61]),(9,[65,66]),(10,[61,66,67]),(14,[67,70,71]),(15,[71,6])] [(4,wV cur),(5,wV A),(6,vV M),(7,vI i),(8,vI k)] [] (by simp) ?_;simp[hc];iterate 6 refine ai ?_
   refine nxc (i+1,A,M.take k++[c]++M.drop k) [6] ⟨by omega,(⟨by rw[h2f,h2.1],by rw[h1f,aj5,←h2.2,h5]⟩),by rw[←h5];omega⟩
 ·simp at a;rw[bS a]at h2;obtain⟨rfl,rfl⟩:=h2;clear hap;generalize apart cur=A at*
  generalize tQ (uN cur)=M at*
  simp;refine ck (uH _) ?_;simp;refine wld [11,9] (Nat×L2×List Ver×List Ver) (fun(i,g,kp,rf)=>([(5,wV A),(6,vV M),(9,vV kp),(10,wV rf),(11,.val (bZ g)),(12,vI i)],M.length-i,(i<=M.length)/\((g,kp,rf)=(M.take i).foldl (uO A) ([],A,[]))/\(g.length<=i/\∀l∈g,l.length<=2^i)/\(kp.length<=A.length+i/\rf.length<=i))) ((0,[],A,[])) ⟨by simp,rfl,by simp,by simp⟩ ?_;rintro⟨i,g,kp,rf⟩ ⟨h1m,h2m,h3m,h4m⟩;simp;apply gw<;>intro am
  ·obtain⟨cm,hcm⟩:=aQ (l:=M) (i:=i);have hm:=fA (uO A) ([],A,[]) hcm;rw[←h2m]at hm;have hp:2^i<=256:=k_Nat_le_trans (jN (by omega) (show i<=8 by omega)) (by decide);have hp2:2^(i+1)=2*2^i:=by omega
   have hp1:1<=2^i:=Nat.one_le_two_pow;have hj:=adT (m:=2^i) hp1 h3m.2 cm.a cm.b;have hsl:=IP kp;have hal:=an4 (iC kp) cm;simp;refine wdt 12 ?_;simp[hcm];refine cd (MB g cm.a cm.b (by omega) (fun l hl=>by have:=h3m.2 l hl;omega)) ?_;simp;refine ck (YL (oP g cm.a cm.b) A (by omega) (fun l hl=>by have:=hj.2 l hl;omega) (by omega)) ?_;simp;apply gw<;>intro b
   ·simp at b;have hu:uO A (g,kp,rf) cm=(oP g cm.a cm.b,yS (iC kp) cm,rf):=if_pos (by simpa using b);simp;refine wdf [(7,[105,98]),(10,[106,9])] [(5,wV A),(6,vV M),(9,vV kp),(10,wV rf),(11,.val (bZ (oP g cm.a cm.b))),(12,vI i)] [] (by simp) ?_;simp;refine cd (EC kp) ?_;simp[hcm];refine cd (SX (iC kp) cm (by omega)) ?_;simp;refine ai ?_;refine nxc (i+1,oP g cm.a cm.b,yS (iC kp) cm,rf) [11,9] ⟨by omega,by rw[hm,hu],by rw[hp2];exact⟨by omega,hj.2⟩,by omega⟩
   ·simp at b;have hu:uO A (g,kp,rf) cm=(g,kp,rf++[cm]):=if_neg (by simpa using b);simp[hcm];iterate 2 refine ai ?_
    refine nxc (i+1,g,kp,rf++[cm]) [11,9] ⟨by omega,by rw[hm,hu],by rw[hp2];exact⟨by omega,fun l hl=>by have:=h3m.2 l hl;omega⟩,by simp;omega⟩
  ·simp at am;rw[bS am,←hst]at h2m;have e1:(IQ l).2.1=kp:=by rw[←h2m]
   have e2:(IQ l).2.2=rf:=by rw[←h2m]
   rw[hks,hrs,e1,e2];simp;refine jV [] (cO 10) ?_;simp;refine ck (EC kp) ?_;simp;refine ck (EC rf) ?_;simp
def mD (l:List Ver)(hl:Qle l):Fk 66 [nVers l] (wV l):=by
 refine fE [2,5] ntmps66 fun _ _=> ?_;have hle:l.length<=1073741824:=by omega
 simp;refine aGQ 1 ?_;simp[hle];intro hnil;subst hnil;try simp[hle]
 refine jV [] (KE (L:=[(2,.own (oVers []))]) (by simp)) ?_;simp
variable {α:Type}
def as5 {β:Type}(f:β->α->β)(z:β){l:List α}{c:α}(h:l[i]?=some c):(l.take (i+1)).foldl f z=f ((l.take i).foldl f z) c:=fA f z h
def aiT (l:List Ver):(apart l).length+(uN l).length=l.length:=by
 induction l with
 |nil=>rfl
 |cons v l ih=>unfold apart uN at ih|-;cases hv:v.same<;>simp[hv]<;>omega
def byT (a b:Ver):Int:=cmpI b.time a.time
def gT (l:List Ver):∀a∈l,∀b∈l,fP prog 63 [kH a,kH b] (fun r=>r=vI (byT a b)):=fun a _ b _=>JR a b
def gC (l:List Ver):∀a∈l,∀b∈l,fP prog 68 [kH a,kH b] (fun r=>r=vI (gF a b)):=fun a _ b _=>zC a b
def aA7 (h:∀v∈l,fI v)(hc:fI c):∀v∈l++[c],inT v.a/\inT v.b:=fun v hv=>by
 have hv2:fI v:=by
  rcases k_List_mem_append.1 hv with h2|h2
  ·exact h v h2
  ·rw[k_List_mem_singleton.1 h2];exact hc
 exact⟨(rH hv2).1,(rH hv2).2.1⟩
def asB (l:List Ver):kJ (cfB byT) l=tQ l:=ah1 l
def uW (l:List Ver)(hl:Qle l)(hv:kT l):Fk 24 [nVers l] (.tup [wV (nK l),wV (jO l)]):=by
 refine fE [20] ntmps24 fun _ _=> ?_;have h8:=(KM hv).2.2;have hse:=aeT hv;obtain⟨hcv,_⟩:=aoJ hv;have hcl:=acQ l;simp;refine ck (JM l hl hv) ?_;unfold aeS at hse;generalize gM l=cur at*
 simp;refine wlt (Nat×List Ver×List Ver) (fun(i,ke,op)=>([(4,wV ke),(5,.val (.one (.slice none 0 0))),(6,wV op),(12,wV cur),(13,vI cur.length),(14,vI i)],cur.length-i,(i<=cur.length)/\(ke=apart (cur.take i))/\(op=uN (cur.take i)))) ((0,[],[])) ⟨by omega,rfl,rfl⟩ ?_;rintro⟨i,ke,op⟩ ⟨h1,h2,h3⟩;simp;apply gw<;>intro a
 ·obtain⟨c,hc⟩:=aQ (l:=cur) (i:=i);have hs1:=TV hc;have hs2:=RX hc;have hm:=aiT (cur.take i);rw[←h2,←h3]at hm;have htl:(cur.take i).length<=8:=by simp;omega
  simp[hc];apply gw<;>intro b
  ·simp;refine nxb (i+1,ke,op++[c]) ⟨by omega,by rw[hs2,h2];simp[b],by rw[hs1,h3];simp[b]⟩
  ·simp;refine nxb (i+1,ke++[c],op) ⟨by omega,by rw[hs2,h2];simp[b],by rw[hs1,h3];simp[b]⟩
 ·simp at a;have hcur:cur.take i=cur:=k_List_take_of_length_le (by omega);rw[hcur]at h2 h3;have hm:=aiT cur;rw[←h2,←h3]at hm;have hbt:=asB op;have hbl:=acA op;simp;refine mV rfl (ao4 op byT 63 aGW aGY (gT op) (by omega)) ?_;rintro r d ⟨rfl,rfl⟩;have hLv:∀v∈tQ op,fI v:=fun v hv=>hcv v (by have:=(G6 op).mem_iff.1 hv;rw[h3]at this;exact(dY.1 this).1);have hkv:∀v∈ke,fI v:=fun v hv=>hcv v (by rw[h2]at hv;exact(dY.1 hv).1);rw[←h2,←h3]at hse;generalize tQ op=L at*
  simp[hbt];refine jV [] (cO 6) ?_;simp;refine wlt (Nat×List Ver×List Ver) (fun(j,k2,re)=>([(4,wV k2),(5,wV re),(6,vV L),(31,vV L),(32,vI L.length),(33,vI j)],L.length-j,(j<=L.length)/\((L.take j).foldl GR (ke,[])=(k2,re))/\(k2.length+re.length=ke.length+j)/\(∀v∈k2,fI v=true))) ((0,ke,[])) ⟨by omega,rfl,by simp,hkv⟩ ?_;rintro⟨j,k2,re⟩ ⟨h4,h5,h6,h7⟩;simp;apply gw<;>intro d
  ·obtain⟨c,hc⟩:=aQ (l:=L) (i:=j);have hfs:=as5 GR (ke,[]) hc;rw[h5]at hfs;have hcv2:=hLv c (aA hc);have hin:=aA7 h7 hcv2;simp[hc];refine wdf [(1,[37,38,4]),(3,[39,40]),(4,[38,40,41])] [(4,wV k2),(5,wV re),(6,vV L),(10,.own (.bx true (kH c))),(31,vV L),(32,vI L.length),(33,vI j)] [] (by simp) ?_;simp;refine cf (mD k2 (by omega)) ?_;simp;refine ai ?_;refine cdz (ae7 (k2++[c]) (by simp;omega) hin) ?_;simp;apply gw<;>intro e
   ·simp;refine nxb (j+1,k2,re++[c]) ⟨by omega,by rw[hfs,GR,if_pos e],by simp;omega,h7⟩
   ·simp;refine nxb (j+1,k2++[c],re) ⟨by omega,by rw[hfs,GR,if_neg (by simp[e])],by simp;omega,(fun v hv=>by rcases k_List_mem_append.1 hv with h|h;(exact h7 v h);(rw[k_List_mem_singleton.1 h];exact hcv2))⟩
  ·simp at d;rw[k_List_take_of_length_le (by omega)]at h5;rw[h5]at hse;have hk:=RO k2;have hr:=RO re;have hk2:=hse.1;have hr2:=hse.2;simp;refine mV rfl (akY k2 gF 68 aFX aGB (gC k2) (by omega)) ?_;rintro r d ⟨rfl,rfl⟩;simp[hk,hk2];refine mV rfl (akY re gF 68 aFX aGB (gC re) (by omega)) ?_;rintro r d ⟨rfl,rfl⟩;simp[hr,hr2]
def JS (v:Ver):Fk 176 [kH v] (vB v.same):=by
 refine fE [] ntmps176 fun _ _=> ?_;simp
def akX (l:List Ver)(p:Ver->Bool)(g:FuncId)(E:Dv.Enters prog g)(U:T (1000000+g)=⟨.no,0,.any 0⟩)(G:∀c∈l,fP prog g [kH c] (fun r=>r=vB (p c)))(hl:Qle l):Fk 181 [nVers l,.one (.func (.func g) #[] #[])] (vI (ix p l)):=by
 refine fE [] ntmps181 fun _ _=> ?_;simp;refine wlt Nat (fun i=>([(0,vV l),(1,.val (.one (.func (.func g) #[] #[]))),(7,vI l.length),(8,vI i)],l.length-i,(i<=l.length)/\((l.take i).any p=false))) (0) ⟨by omega,rfl⟩ ?_;rintro i ⟨h1,h2⟩;simp;apply gw<;>intro a
 ·obtain⟨c,hc⟩:=aQ (l:=l) (i:=i);simp[E,U,hc];refine ck ((G c (aA hc))) ?_;simp;apply gw<;>intro e
  ·have hn:=DK hc h2 (by simp[e]);simp[hn]
  ·simp;refine nxa (i+1) ⟨by omega,(gV hc h2 (by simp[e]))⟩
 ·simp at a;have hf:=mJ h2 a;have hx:=rV hf;simp[hx]
variable {p:α->Bool}
def axL {l:List α}(h:ix p l≠ -1):∃i:Nat,ix p l=i/\i<l.length/\(∀k c,k<i->l[k]?=some c->p c=false)/\∀c,l[i]?=some c->p c=true:=by
 unfold ix at h|-
 cases hf:l.findIdx? p with
 |none=>rw[hf]at h;exact absurd rfl h
 |some i=>
  rw[eY]at hf;obtain⟨h1,h2,h3⟩:=hf;refine⟨i,rfl,h1,fun k c hk hc=> ?_,fun c hc=> ?_⟩
  ·have hkl:k<l.length:=by omega
   rw[aB hkl]at hc;have:=h3 k hk;rw[k_Option_some_inj hc]at this;simpa using this
  ·rw[aB h1]at hc;rw[k_Option_some_inj hc]at h2;exact h2
def awP {l:List α}(h:∀k c,k<i->l[k]?=some c->p c):(l.take i).filter p=l.take i:=by
 refine mO.2 fun c hc=> ?_;obtain⟨k,hk,hkc⟩:=List.mem_iff_getElem.1 hc;have hk3:k<min i l.length:=by simpa using hk
 have hk4:k<l.length:=by omega
 exact h k c (by omega) (by rw[←hkc,List.getElem_take,aB hk4])
def afK {m:List α}{c:α}(h:i<m.length):(m.set i c).take (i+1)=m.take i++[c]:=by
 rw[dX (c:=c) (by rw[bR h])];congr 1;rw[List.take_set_of_le (k_Nat_le_refl _)]
def aDY (l:List Ver)(p:Ver->Bool)(g:FuncId)(E:Dv.Enters prog g)(U:T (1000000+g)=⟨.no,0,.any 0⟩)(G:∀c∈l,fP prog g [kH c] (fun r=>r=vB (p c)))(hl:Qle l):avA prog 175 [.one (.bool false),.one (.func (.func g) #[] #[])] 0 (oVers l) (fun res'=>res'=vV (l.filter fun v=> !p v)):=by
 refine fT [7,22,24] ntmps175 fun _ _=> ?_;simp;refine ck (akX l p g E U G hl) ?_;simp;apply gw<;>intro a
 ·have hfl:(l.filter fun v=> !p v)=l:=mO.2 fun v hv=>by cases hpv:p v;rfl;exact absurd (iV.2 (cK.2 ⟨v,hv,hpv⟩)) (by omega)
  simp;refine jV [] (cO 4) ?_;simp[hfl]
 ·obtain⟨i0,hi0,hil,hpre,hat⟩:=axL (p:=p) (l:=l) a;obtain⟨c0,hc0⟩:=aQ (l:=l) (i:=i0) hil;have hpc0:=hat c0 hc0;have h40:l.take i0=(l.take (i0+1)).filter fun v=> !p v:=by rw[dX hc0,gY,awP (fun k c hk hc=>by rw[hpre k c hk hc];rfl)];simp[hpc0]
  simp[hi0];refine ai ?_;refine wlt (Nat×Nat×List Ver) (fun(j,i,m)=>([(0,wV m),(1,.val (.one (.func (.func g) #[] #[]))),(5,vI i),(6,vI j)],l.length-j,(j<=l.length)/\i<j/\m.length=l.length/\(m.take i=(l.take j).filter fun v=> !p v)/\(∀k,j<=k->m[k]?=l[k]?))) ((i0+1,i0,l)) ⟨by omega,by omega,rfl,h40,(fun _ _=>rfl)⟩ ?_;rintro⟨j,i,m⟩ ⟨h1,h2,h3,h4,h5⟩;simp[h3];apply gw<;>intro b
  ·obtain⟨c,hc⟩:=aQ (l:=l) (i:=j);have hm:=(h5 j (k_Nat_le_refl _)).trans hc;have hil2:i<m.length:=by omega
   simp[E,U,hm];refine ck ((G c (aA hc))) ?_;simp;apply gw<;>intro d
   ·simp at d;obtain⟨m2,hm2⟩:∃m2,m.set i c=m2:=⟨_,rfl⟩;have hst:(m.map kH).set i (kH c)=m2.map kH:=by rw[←List.map_set,hm2]
    obtain⟨ci,hmi⟩:=aQ (l:=m) (i:=i) hil2;simp[hst,hmi];refine nxb (j+1,i+1,m2) ⟨by omega,by omega,by rw[←hm2,rA];exact h3,by rw[←hm2,afK hil2,h4,dX hc,gY];simp[d],(fun k hk=>by rw[←hm2,bJ (by omega)];exact h5 k (by omega))⟩
   ·simp at d;simp;refine nxa (j+1,i,m) ⟨by omega,by omega,h3,by rw[h4,dX hc,gY];simp[d],(fun k hk=>h5 k (by omega))⟩
  ·simp at b;have hjl:j=l.length:=by omega
   rw[hjl,dJ]at h4;have hil3:i<=m.length:=by omega
   simp;refine aE9 2 ?_;have hz:D.fzs (List.replicate (l.length-i) (D.any 4))=List.replicate (l.length-i) (D.any 4):=by rw[D.jI,wD];rfl
   have hil4:i<=l.length:=by omega
   have hlm:min i l.length=i:=by omega
   have hr:(l.filter fun v=> !p v).map kH=(m.map kH).take i:=by rw[←h4,uL]
   simp[h3];refine ai ?_;refine jV [] (cO 0) ?_;simp[h3,hz,hlm,hr]
   skip
def FP (l:List Ver)(items:L1)(hs:Qle l)(hi:Qle items):Fk 177 [nVers l,nInts items] (vE (E9 l items)):=by
 refine fE [] ntmps177 fun _ _=> ?_;simp;refine wlt (Nat×List Con) (fun(i,out)=>([(1,vN items),(5,vE out),(10,vV l),(11,vI l.length),(12,vI i)],l.length-i,(i<=l.length)/\(out=(l.take i).filterMap (GV items))/\(out.length<=i))) ((0,[])) ⟨by omega,rfl,by simp⟩ ?_;rintro⟨i,out⟩ ⟨h1,h2,h3⟩;simp;apply gw<;>intro a
 ·obtain⟨c,hc⟩:=aQ (l:=l) (i:=i);have hm:=zS (GV items) hc;rw[←h2]at hm;have hpa:=WI items c.a;have hpb:=WI items c.b;simp[hc];refine wdr ?_;simp;refine cd (jF items c.a hi) ?_;simp[hpa];refine cd (jF items c.b hi) ?_;simp[hpb];apply gv<;>intro e
  ·have e':=e;simp[e];apply gw<;>intro b
   ·have hv:GV items c=some ⟨place items c.a,place items c.b,c.same⟩:=if_pos ⟨by omega,by omega⟩;simp;refine nxb (i+1,out++[⟨place items c.a,place items c.b,c.same⟩]) ⟨by omega,by rw[hm,hv];rfl,by simp;omega⟩
   ·simp at b;have hv:GV items c=none:=if_neg (by rintro⟨h1,h2⟩;omega);simp;refine nxa (i+1,out) ⟨by omega,by rw[hm,hv];simp,by omega⟩
  ·have e':=e;simp at e';have hv:GV items c=none:=if_neg (by rintro⟨h1,h2⟩;omega);simp[e];refine nxa (i+1,out) ⟨by omega,by rw[hm,hv];simp,by omega⟩
 ·simp at a;rw[bS a]at h2;simp;grind[E9]
def gS (l:List Ver):∀c∈l,fP prog 176 [kH c] (fun r=>r=vB c.same):=fun c _=>JS c
def MM (kept:List Ver)(items:L1)(hk:kept.length<=8)(hkv:∀v∈kept,inT v.a/\inT v.b)(hi:items.length<=8)(hiv:∀x∈items,inT x):Fk 105 [nVers kept,nInts items] (vE (akE kept items)):=by
 refine fE [] ntmps105 fun _ _=> ?_;simp;refine ck (mD kept (by omega)) ?_;have hap:(kept.filter fun v=> !v.same)=apart kept:=rfl;have hapl:(apart kept).length<=8:=k_Nat_le_trans (bM _ _) hk;simp;refine asD rfl (aDY kept (fun v=>v.same) 176 aFO aF3 (gS kept) (by omega)) ?_;simp[hap];refine ck (FP (apart kept) items (by omega) (by omega)) ?_;simp;refine ck (NV kept (by omega) hkv) ?_;obtain⟨o,ho⟩:∃o,jX kept=o:=⟨_,rfl⟩;have hol:o.length=400:=by rw[←ho];exact DR kept
 obtain⟨V,hV⟩:∃V,E9 (apart kept) items=V:=⟨_,rfl⟩;have hVl:V.length<=8:=by rw[←hV];exact k_Nat_le_trans (jK _ _) hapl
 have hws:D.ws (o.map dI)=400:=by have:=uP o 400;rw[k_List_take_of_length_le (by (try unfold Qle);rw[aX];omega),hol]at this;simpa using this
 simp[ho,hV,hws,hol];refine wlt (Nat×List Con) (fun(b,out)=>([(1,vN items),(6,vE out),(7,.own (.bx true (.agg (o.map dI)))),(18,vN items),(19,vI items.length),(20,vI b)],items.length-b,(b<=items.length)/\(out=V++AC o items b)/\(out.length<=8+b))) ((0,V)) ⟨by omega,by simp[AC],by omega⟩ ?_;rintro⟨b,out⟩ ⟨h1,h2,h3⟩;simp;apply gw<;>intro a
 ·have hb:=aV a;have hbi:=hiv _ (aA hb);have hls:=afE o items b;obtain⟨y,hy⟩:∃y,at1 items b=y:=⟨_,rfl⟩;rw[hy]at hb hbi;have hoy:=aqK hol hbi;have hwy:D.ws (List.take y.toNat (o.map dI))=y.toNat:=by rw[uP,hol];have:=hbi.1;have:=hbi.2;omega
  have hy0:=hbi.1;have hy1:=hbi.2;simp;refine ai ?_;refine wlt Nat (fun k=>([(1,vN items),(6,vE out),(7,.own (.bx true (.agg (o.map dI)))),(8,vI b),(9,vI ((k:Int)-1)),(18,vN items),(19,vI items.length),(20,vI b)],k,(k<=b)/\(LB o items b=match GL (ZN o items b) k with|some a=>[⟨a,b,true⟩]|none=>[]))) (b) ⟨(k_Nat_le_refl _),rfl⟩ ?_;rintro k ⟨h4,h5⟩;simp;apply gw<;>intro d
  ·obtain⟨q,rfl⟩:∃q,k=q+1:=⟨k-1,by omega⟩;have hq:=aV (l:=items) (i:=q);have hqi:=hiv _ (aA hq);obtain⟨x,hx⟩:∃x,at1 items q=x:=⟨_,rfl⟩;rw[hx]at hq hqi;have hox:=aqK hol hqi;have hwx:D.ws (List.take x.toNat (o.map dI))=x.toNat:=by rw[uP,hol];have:=hqi.1;have:=hqi.2;omega
   have hx0:=hqi.1;have hx1:=hqi.2;have hq2:((q+1:Nat):Int)-1=q:=by omega
   have hox2:=(aD.1 hox).2;have hoy2:=(aD.1 hoy).2;have hpg:GL (ZN o items b) (q+1)=if at1 o x.toNat=at1 o y.toNat then some q else GL (ZN o items b) q:=by rw[GL,ZN,hx,hy];simp
   simp;refine wdr ?_;simp[hol,hq,hb,hox2,hoy2,hwx,hwy,hx0,hx1,hy0,hy1];apply gw<;>intro e
   ·simp;refine nxb (b+1,out++[⟨q,b,true⟩]) ⟨by omega,by rw[hls,h5,hpg,if_pos e,h2,bO],by simp;omega⟩
   ·simp;refine nxa (q) ⟨by omega,by rw[h5,hpg,if_neg e]⟩
  ·simp at d;obtain rfl:k=0:=by omega
   rw[GL]at h5;simp;refine nxa (b+1,out) ⟨by omega,by rw[hls,h5,h2];simp,by omega⟩
 ·simp at a;rw[show b=items.length by omega]at h2;have hr:akE kept items=out:=by rw[h2,←hV,←ho];rfl
  simp[hr]
end Go.Proofs.YtigjbamofhdchaaGreatDoor
end
