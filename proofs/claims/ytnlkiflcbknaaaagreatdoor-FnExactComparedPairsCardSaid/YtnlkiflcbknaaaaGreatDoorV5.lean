/- Lemmas and walks that the law leans on, part V5. No condition. -/
import Derived.Lib.AtoiAllCases
import Derived.Lib.AtoiErrMem
import Derived.Lib.OwnBridge
import Derived.Lib.SortBridge
import Derived.Test.YtnlkiflcbknaaaaGreatDoorV4
set_option linter.unusedVariables false
set_option linter.defProp false
set_option linter.unusedSimpArgs false
set_option linter.unusedSectionVars false
set_option maxRecDepth 10000
set_option maxHeartbeats 1000000
section
namespace Go.Proofs.YtnlkiflcbknaaaaGreatDoor
open Go.Dv Go.Pl Go.Proofs.Tryz
abbrev acJ (bc bm bl bf bk:Nat):D:= .one (.func (.func 393) #[] #[Z7 bc,Z7 bm,Z7 bl,Z7 bf,Z7 bk])
abbrev amQ (bn bY bL bF:Nat):D:= .one (.func (.func 435) #[] #[Z7 bn,Z7 bY,Z7 bL,Z7 bF])
def GH {a:Nat}{l:List Nat}(h:∀b∈l,¬a=b)(hl:nJ l):nJ (a::l):=⟨fun b hb=>⟨h b hb,fun e=>h b hb e.symm⟩,hl⟩
def amR (m:L2)(cs:List Con)(bn bY bL bF bc bm bl bf bk d:Nat):Prop:=∀(i nt:Nat) (I N:Int) (l:L1) (s:S20) (k:Int),I=i->N=nt->i+d=m.length->nt<=i->l.length=m.length->
 FnW prog 435 [dI I,dI N] [(bn,some (dI m.length)),(bY,some (acJ bc bm bl bf bk)),(bL,none),(bF,some (amQ bn bY bL bF))] [(bn,dI m.length),(bY,acJ bc bm bl bf bk),(bF,amQ bn bY bL bF),(bc,jN cs),(bm,cZ m)] [(bL,bT l),(bl,dI s.cost),(bf,bT s.best),(bk,dI k)]
  (fun r ds'=>r= .tup []/\∃l' k',(l'.length=m.length/\l'.take i=l.take i)/\ds'=[bT l',dI (pU (mM m cs) d (l.take i) nt s).cost,bT (pU (mM m cs) d (l.take i) nt s).best,dI k'])
def ay8 (m:L2)(cs:List Con)(bn bY bL bF bc bm bl bf bk:Nat)(hA:nJ [bF,bL,bY,bn,bc,bm,bl,bf,bk])(hm:bR m)(hc:Qle cs)(N:Int)(l:L1)(s:S20)(k:Int)(hl:l.length=m.length):FnW prog 435 [dI (m.length:Int),dI N] [(bn,some (dI m.length)),(bY,some (acJ bc bm bl bf bk)),(bL,none),(bF,some (amQ bn bY bL bF))] [(bn,dI m.length),(bY,acJ bc bm bl bf bk),(bF,amQ bn bY bL bF),(bc,jN cs),(bm,cZ m)] [(bL,bT l),(bl,dI s.cost),(bf,bT s.best),(bk,dI k)] (fun r ds'=>r= .tup []/\∃k',ds'=[bT l,dI (mM m cs l s).cost,bT (mM m cs l s).best,dI k']):=by
 refine fW [] ntmps435 fun _ _=> ?_;have hA2:=hA;simp[nJ]at hA2;simp;refine VS (azI m cs l s k bc bm bl bf bk ⟨by omega,by omega,by omega,by omega,by omega,by omega,by omega,by omega,by omega,by omega⟩ hm hl hc) rfl ?_;simp[hA2];refine X3 ?_;rintro _ _ ⟨rfl,k',rfl⟩;simp[hA2]
variable {l:L1}
def axE {l0:L1}{i:Nat}{x:Int}(h:l.take i=l0.take i)(hi:i<l.length):(l.set i x).take (i+1)=l0.take i++[x]:=by
 have h1:(l.set i x)[i]?=some x:=by simp[hi]
 rw[dM h1,List.take_set_of_le (k_Nat_le_refl _),h]
def V3 (m:L2)(cs:List Con)(d:Nat)(l:L1)(nt:Nat)(x:Nat)(s:S20):S20:=pU (mM m cs) d (l++[(x:Int)]) (max nt (x+1)) s
def ay9 (m:L2)(cs:List Con)(bn bY bL bF bc bm bl bf bk d:Nat)(hA:nJ [bF,bL,bY,bn,bc,bm,bl,bf,bk])(hm:bR m)(IH:amR m cs bn bY bL bF bc bm bl bf bk d)(i nt:Nat)(l:L1)(s:S20)(k:Int)(hi:i+d+1=m.length)(hnt:nt<=i)(hl:l.length=m.length):FnW prog 435 [dI (i:Int),dI (nt:Int)] [(bn,some (dI m.length)),(bY,some (acJ bc bm bl bf bk)),(bL,none),(bF,some (amQ bn bY bL bF))] [(bn,dI m.length),(bY,acJ bc bm bl bf bk),(bF,amQ bn bY bL bF),(bc,jN cs),(bm,cZ m)] [(bL,bT l),(bl,dI s.cost),(bf,bT s.best),(bk,dI k)] (fun r ds'=>r= .tup []/\∃l' k',(l'.length=m.length/\l'.take i=l.take i)/\ds'=[bT l',dI (pU (mM m cs) (d+1) (l.take i) nt s).cost,bT (pU (mM m cs) (d+1) (l.take i) nt s).best,dI k']):=by
 refine fW [] ntmps435 fun _ _=> ?_;have hA2:=hA;simp[nJ]at hA2;have hn8:=dN hm;have hin:¬(i:Int)=(m.length:Int):=by omega
 simp[hin];refine wlt (Nat×L1×S20×Int) (fun(x,q,t,j)=>([(0,vI i),(1,vI nt),(2,.rp (dI m.length)),(3,.rp (acJ bc bm bl bf bk)),(4,.rf (1000000+2*bL) [0]),(5,.rp (amQ bn bY bL bF)),(8,vI x),(1000000+2*bn,.rp (dI m.length)),(1000000+2*bY,.rp (acJ bc bm bl bf bk)),(1000000+2*bF,.rp (amQ bn bY bL bF)),(1000000+2*bc,.rp (jN cs)),(1000000+2*bm,.rp (cZ m)),(1000000+2*bL,.own (.bx true (bT q))),(1000000+2*bl,.own (.bx true (dI t.cost))),(1000000+2*bf,.own (.bx true (bT t.best))),(1000000+2*bk,.own (.bx true (dI j)))],nt+1-x,(x<=nt+1)/\(t=loopN x s (V3 m cs d (l.take i) nt))/\q.length=m.length/\(q.take i=l.take i))) ((0,l,s,k)) ⟨by omega,rfl,hl,rfl⟩ ?_ (h0:=by simp[hA2,hin]);rintro⟨x,q,t,j⟩ ⟨h1,h2,h3,h4⟩;simp;apply gw<;>intro a
 ·have hs:=aM x s (V3 m cs d (l.take i) nt);rw[←h2]at hs;have hgi:=aY (l:=q) (i:=i);have hts:=axE (x:=(x:Int)) h4 (by omega);have hst:pU (mM m cs) d (l.take i++[(x:Int)]) (max nt (x+1)) t=V3 m cs d (l.take i) nt x t:=rfl;simp[hA2,hgi];iterate 2 refine ai ?_
  refine VS (IH (i+1) (max nt (x+1)) _ _ (q.set i (x:Int)) t j (by omega) (by omega) (by omega) (by omega) (by simp;omega)) rfl ?_;simp[hA2];refine X3 ?_;rintro _ _ ⟨rfl,q2,j2,⟨e1,e2⟩,rfl⟩;rw[hts]at e2;have e3:q2.take i=l.take i:=by have:=congrArg (List.take i) e2;rw[List.take_left' (by simp;omega),List.take_take,fP (by omega)]at this;exact this
  simp[hts,hst];refine nxa (x+1,q2,V3 m cs d (l.take i) nt x t,j2) ⟨by omega,hs.symm,e1,e3⟩ (h3:=by simp[hA2,hin,hgi,hts,hst])
 ·simp at a;obtain rfl:x=nt+1:=by omega
  have hfin:pU (mM m cs) (d+1) (l.take i) nt s=t:=h2.symm;simp[hA2,hfin];exact⟨q,⟨h3,h4⟩,rfl⟩
variable {m:L2}
def as9 {cs:List Con}{bn bY bL bF bc bm bl bf bk:Nat}(hA:nJ [bF,bL,bY,bn,bc,bm,bl,bf,bk])(hm:bR m)(hc:Qle cs):∀d,amR m cs bn bY bL bF bc bm bl bf bk d
 |0=>fun i nt I N l s k hI hN hi hnt hl=>by
  obtain rfl:i=m.length:=by omega
  subst hI;refine(ay8 m cs bn bY bL bF bc bm bl bf bk hA hm hc N l s k hl).mono ?_;rintro r ds' ⟨h1,k',h2⟩;have ht:l.take m.length=l:=by rw[←hl,bV]
  exact⟨h1,l,k',⟨hl,rfl⟩,by rw[h2,ht];rfl⟩
 |d+1=>fun i nt I N l s k hI hN hi hnt hl=>by
  subst hI;subst hN;exact ay9 m cs bn bY bL bF bc bm bl bf bk d hA hm (as9 hA hm hc d) i nt l s k (by omega) hnt hl
def aDY (m:L2)(cs:List Con)(s:S20)(k:Int)(bc bm bl bf bk:Nat)(hA:nJ [bc,bm,bl,bf,bk])(hm:bR m)(hc:Qle cs):FnW prog 392 [dI (m.length:Int),acJ bc bm bl bf bk] [] [(bc,jN cs),(bm,cZ m)] [(bl,dI s.cost),(bf,bT s.best),(bk,dI k)] (fun r ds'=>r= .tup []/\∃k',ds'=[dI (pU (mM m cs) m.length [] 0 s).cost,bT (pU (mM m cs) m.length [] 0 s).best,dI k']):=by
 refine fW [] ntmps392 fun _ _=> ?_;have hA2:=hA;simp[nJ]at hA2;have hn8:=dN hm;simp;refine ai ?_;refine arO (pI (dI m.length) (by simp) fun bn x1=> ?_);have n1:=oK.nr x1 (b':=bc) (d:=jN cs) (by simp[hA2]);have n2:=oK.nr x1 (b':=bm) (d:=cZ m) (by simp[hA2]);have n3:=oK.ne x1 (b':=bl) (o:=true) (d:=dI s.cost) (by simp);have n4:=oK.ne x1 (b':=bf) (o:=true) (d:=bT s.best) (by simp[hA2]);have n5:=oK.ne x1 (b':=bk) (o:=true) (d:=dI k) (by simp[hA2]);have hB1:nJ [bn,bc,bm,bl,bf,bk]:=GH (by simp[n1,n2,n3,n4,n5]) hA;have hB1':=hB1;simp[nJ]at hB1';refine pI (acJ bc bm bl bf bk) (by simp) fun bY x2=> ?_;have m0:=oK.ne x2 (b':=bn) (o:=true) (d:=dI m.length) (by simp);have m1:=oK.nr x2 (b':=bc) (d:=jN cs) (by simp[hB1']);have m2:=oK.nr x2 (b':=bm) (d:=cZ m) (by simp[hB1']);have m3:=oK.ne x2 (b':=bl) (o:=true) (d:=dI s.cost) (by simp[hB1']);have m4:=oK.ne x2 (b':=bf) (o:=true) (d:=bT s.best) (by simp[hB1']);have m5:=oK.ne x2 (b':=bk) (o:=true) (d:=dI k) (by simp[hB1']);have hB2:nJ [bY,bn,bc,bm,bl,bf,bk]:=GH (by simp[m0,m1,m2,m3,m4,m5]) hB1;have hB2':=hB2;simp[nJ]at hB2';refine pI (bT (List.replicate m.length 0)) (by simp) fun bL x3=> ?_;have p0:=oK.ne x3 (b':=bn) (o:=true) (d:=dI m.length) (by simp[hB2']);have p9:=oK.ne x3 (b':=bY) (o:=true) (d:=acJ bc bm bl bf bk) (by simp);have p1:=oK.nr x3 (b':=bc) (d:=jN cs) (by simp[hB2']);have p2:=oK.nr x3 (b':=bm) (d:=cZ m) (by simp[hB2']);have p3:=oK.ne x3 (b':=bl) (o:=true) (d:=dI s.cost) (by simp[hB2']);have p4:=oK.ne x3 (b':=bf) (o:=true) (d:=bT s.best) (by simp[hB2']);have p5:=oK.ne x3 (b':=bk) (o:=true) (d:=dI k) (by simp[hB2']);have hB3:nJ [bL,bY,bn,bc,bm,bl,bf,bk]:=GH (by simp[p0,p1,p2,p3,p4,p5,p9]) hB2;have hB3':=hB3;simp[nJ]at hB3';refine pI (.one .nilFunc) (by simp) fun bF x4=> ?_;have q0:=oK.ne x4 (b':=bn) (o:=true) (d:=dI m.length) (by simp[hB3']);have q9:=oK.ne x4 (b':=bY) (o:=true) (d:=acJ bc bm bl bf bk) (by simp[hB3']);have q8:=oK.ne x4 (b':=bL) (o:=true) (d:=bT (List.replicate m.length 0)) (by simp);have q1:=oK.nr x4 (b':=bc) (d:=jN cs) (by simp[hB3']);have q2:=oK.nr x4 (b':=bm) (d:=cZ m) (by simp[hB3']);have q3:=oK.ne x4 (b':=bl) (o:=true) (d:=dI s.cost) (by simp[hB3']);have q4:=oK.ne x4 (b':=bf) (o:=true) (d:=bT s.best) (by simp[hB3']);have q5:=oK.ne x4 (b':=bk) (o:=true) (d:=dI k) (by simp[hB3']);have hB4:nJ [bF,bL,bY,bn,bc,bm,bl,bf,bk]:=GH (by simp[q0,q1,q2,q3,q4,q5,q8,q9]) hB3;have hB4':=hB4;simp[nJ]at hB4';refine Y6 ?_;clear x1 x2 x3 x4 hA2 hB1' hB2' hB3';simp;refine VS (as9 hB4 hm hc m.length 0 0 0 0 (List.replicate m.length 0) s k rfl rfl (by omega) (by omega) (by simp)) rfl ?_;simp[hB4'];refine X3 ?_;rintro _ _ ⟨rfl,l2,k2,⟨e1,e2⟩,rfl⟩;simp[hB4']
def ajX (m:L2)(cs:List Con)(hm:bR m)(hc:Qle cs):fK prog 334 [cZ m,jN cs] (fun r=>∃k:Int,r= .tup [.val (nInts (yE m cs).best),.val (dI (yE m cs).cost),vI k]):=by
 refine fE [] ntmps334 fun _ _=> ?_;have hn8:=dN hm;simp;refine arO (pI (jN cs) (by simp) fun bc x1=> ?_);refine pI (cZ m) (by simp) fun bm x2=> ?_;have m0:=oK.ne x2 (b':=bc) (o:=true) (d:=jN cs) (by simp);have hB2:nJ [bm,bc]:=GH (by simp[m0]) ⟨by simp,trivial⟩;have hB2':=hB2;simp[nJ]at hB2';refine pI (dI (-1)) (by simp) fun bl x3=> ?_;have p0:=oK.ne x3 (b':=bc) (o:=true) (d:=jN cs) (by simp[hB2']);have p1:=oK.ne x3 (b':=bm) (o:=true) (d:=cZ m) (by simp);have hB3:nJ [bl,bm,bc]:=GH (by simp[p0,p1]) hB2;have hB3':=hB3;simp[nJ]at hB3';refine pI (bT []) (by simp) fun bf x4=> ?_;have q0:=oK.ne x4 (b':=bc) (o:=true) (d:=jN cs) (by simp[hB3']);have q1:=oK.ne x4 (b':=bm) (o:=true) (d:=cZ m) (by simp[hB3']);have q2:=oK.ne x4 (b':=bl) (o:=true) (d:=dI (-1)) (by simp);have hB4:nJ [bf,bl,bm,bc]:=GH (by simp[q0,q1,q2]) hB3;have hB4':=hB4;simp[nJ]at hB4';refine pI (dI 0) (by simp) fun bk x5=> ?_;have r0:=oK.ne x5 (b':=bc) (o:=true) (d:=jN cs) (by simp[hB4']);have r1:=oK.ne x5 (b':=bm) (o:=true) (d:=cZ m) (by simp[hB4']);have r2:=oK.ne x5 (b':=bl) (o:=true) (d:=dI (-1)) (by simp[hB4']);have r3:=oK.ne x5 (b':=bf) (o:=true) (d:=bT []) (by simp);have hB5:nJ [bc,bm,bl,bf,bk]:=GH (by simp[hB4',r0.symm]) (GH (by simp[hB4',r1.symm]) (GH (by simp[hB4',r2.symm]) (GH (by simp[r3.symm]) ⟨by simp,trivial⟩)));have hB5':=hB5;simp[nJ]at hB5';refine Y6 ?_;clear x1 x2 x3 x4 x5 hB2' hB3' hB4';simp;refine VS (aDY m cs ⟨[], -1,0⟩ 0 bc bm bl bf bk hB5 hm hc) rfl ?_;simp[hB5'];refine X3 ?_;rintro _ _ ⟨rfl,k2,rfl⟩;have hbe:pU (mM m cs) m.length [] 0 ⟨[], -1,0⟩=yE m cs:=rfl;simp[hbe];refine jX [] (apM (d:=bT (yE m cs).best) 7 (1000000+2*bf) (by simp[hB5',hbe]) (by simp[hB5',hbe]) (by decide)) ?_;simp[hB5'];refine wdr ?_;simp[hB5']
def ak9 (n:Nat)(v:Int):D.nI (List.replicate n (dI v))=true:=by
 induction n with
 |zero=>rfl
 |succ n ih=>rw[fU];simp only[D.nI,k_Bool_and_eq_true];exact⟨rfl,ih⟩
variable {p:Nat}{v:Int}{q:L1}{k:Nat}
def atV {l:L1}(h:pvB m p k (at1 q k)=false):gstep (pvB m p) v k q=q:=if_neg (by simp[h])
def pv_set {l:L1}(h:pvB m p k (at1 q k)):gstep (pvB m p) v k q=q.set k v:=if_pos h
def MH (m:L2)(o:L1)(hm:bR m)(ho:IA m.length o):Fk 395 [cZ m,nInts o] (wN (kS m o)):=by
 refine fE [] ntmps395 fun _ _=> ?_;have hml:=dN hm;have hoo:=XY ho;have hpe:=aBZ hm ho;simp;refine ck (iH m (by omega) (wY hm)) ?_;simp[hm];refine ck (abL m.length o ⟨by omega,by omega⟩ ho (by omega)) ?_;have hao:D.nI (List.replicate m.length (dI (-1)))=true:=ak9 m.length (-1);simp;refine ck ((aG6 (-1) m.length hml)) ?_;simp[hao];refine wlt (Nat×L1) (fun(i,l)=>([(0,.val (cZ m)),(1,vN o),(5,wN l),(24,vN o),(25,vI o.length),(26,vI i)],o.length-i,(i<=o.length)/\(l=loopN i (List.replicate m.length (-1)) (aa6 m o))/\(l.length=m.length))) ((0,List.replicate m.length (-1))) ⟨by omega,rfl,by simp⟩ ?_;rintro⟨i,l⟩ ⟨h1,h2,h3⟩;simp;apply gw<;>intro a
 ·have hoi:=hoo.2.2.2.2 i a;have hg:=aY a;have hgl:=aY (l:=l) (i:=(at1 o i).toNat);have hs:=aM i (List.replicate m.length (-1)) (aa6 m o);rw[←h2]at hs;simp[hg,hgl];refine ai ?_;apply gw<;>intro b
  ·have hu:aa6 m o i l=l:=if_pos b;simp;refine nxa (i+1,l) ⟨by omega,by rw[hs,hu],h3⟩
  ·simp at b;have hu:aa6 m o i l=loopN m.length (l.set (at1 o i).toNat (at1 o i)) (gstep (pvB m (at1 o i).toNat) (at1 o i)):=if_neg (by omega);obtain⟨r,hr,hrl⟩:=DJ hm (a:=(at1 o i).toNat) (by omega);have hrk:∀k<m.length,r[k]?=some (at2 m (at1 o i).toNat k):=fun k hk=>by obtain⟨r2,e1,e2⟩:=lD hm (i:=(at1 o i).toNat) (k:=k) (by omega) hk;rw[hr]at e1;rw[k_Option_some_inj e1];exact e2
   simp[hgl,hr,hrl];refine ai ?_;refine wlt (Nat×L1) (fun(k,q)=>([(0,.val (cZ m)),(1,vN o),(5,wN q),(7,vI (at1 o i)),(24,vN o),(25,vI o.length),(26,vI i),(42,vN r),(43,vI m.length),(44,vI k)],m.length-k,(k<=m.length)/\(q=loopN k (l.set (at1 o i).toNat (at1 o i)) (gstep (pvB m (at1 o i).toNat) (at1 o i)))/\(q.length=m.length))) ((0,l.set (at1 o i).toNat (at1 o i))) ⟨by omega,rfl,by simp[h3]⟩ ?_;rintro⟨k,q⟩ ⟨h1k,h2k,h3k⟩;simp;apply gw<;>intro d
   ·have hgk:=aY (l:=q) (i:=k);have hk:=hrk k d;have hsk:=aM k (l.set (at1 o i).toNat (at1 o i)) (gstep (pvB m (at1 o i).toNat) (at1 o i));rw[←h2k]at hsk;simp[hk];apply gv<;>intro e
    ·have e':=e;simp[hgk,e];apply gw<;>intro f
     ·simp[hgk];refine nxa (k+1,q.set k (at1 o i)) ⟨by omega,by rw[hsk];exact(pv_set (l:=l) (by simp[pvB,e,f])).symm,by simp[h3k]⟩
     ·simp at f;simp;refine nxa (k+1,q) ⟨by omega,by rw[hsk];exact(atV (l:=l) (by simp[pvB,f])).symm,h3k⟩
    ·have e':=e;simp at e';simp[e];refine nxa (k+1,q) ⟨by omega,by rw[hsk];exact(atV (l:=l) (by simp[pvB,e])).symm,h3k⟩
   ·simp at d;obtain rfl:k=m.length:=by omega
    simp;refine nxa (i+1,q) ⟨by omega,by rw[hs,hu];exact h2k,h3k⟩
 ·simp at a;obtain rfl:i=o.length:=by omega
  have hp:canon l=kS m o:=by rw[h2];exact hpe
  simp;refine ck (tH l (by omega)) ?_;simp[hp]
end Go.Proofs.YtnlkiflcbknaaaaGreatDoor
end
section
namespace Go
def rR:= @BitVec.toNat_ofNat
end Go
end
section
namespace Go.Proofs.YtnlkiflcbknaaaaGreatDoor
open Go.Dv Go.Pl Go.Proofs.Tryz
variable {n:Nat}
def wrap_small (h:n<9223372036854775808:=by omega):IntKind.i64.wrap (n:Int)=n:=by
 simp[IntKind.wrap,IntKind.bits,IntKind.signed];omega
def RI (n:Nat):BitVec.ofInt 64 (n:Int)=BitVec.ofNat 64 n:=by
 apply BitVec.eq_of_toNat_eq;simp
def ayC (s:Nat)(h:s<256):aaF .and .i64 (s:Int) 1=((s % 2:Nat):Int):=by
 have e:(1:Int)=((1:Nat):Int):=rfl;show IntKind.i64.wrap ((((BitVec.ofInt 64 (s:Int))&&&(BitVec.ofInt 64 (1:Int))).toNat:Nat):Int)=_;rw[e,RI,RI,BitVec.toNat_and,rR,rR,jT (by omega),jT (by omega),Nat.and_one_is_mod,wrap_small]
def aDB (s t:Nat)(h:s<256)(h2:t<256):aaF .or .i64 (s:Int) (t:Int)=((s|||t:Nat):Int):=by
 have h3:s|||t<2^8:=Nat.or_lt_two_pow (n:=8) h h2;show IntKind.i64.wrap ((((BitVec.ofInt 64 (s:Int))|||(BitVec.ofInt 64 (t:Int))).toNat:Nat):Int)=_;rw[RI,RI,BitVec.toNat_or,rR,rR,jT (by omega),jT (by omega),wrap_small]
variable {s:Nat}{x:Int}
def aCB (hs:s<256)(hx:0<=x/\x<=7):(aaF .and .i64 ((s:Int).fdiv (2^min x.toNat 64)) 1=1)=(s.testBit x.toNat=true):=by
 have e:(s:Int).fdiv (2^min x.toNat 64)=((s/2^x.toNat:Nat):Int):=by
  rw[fP (by omega)];have:((2:Int)^x.toNat)=((2^x.toNat:Nat):Int):=by simp
  rw[this];exact Int.ofNat_fdiv s (2^x.toNat)|>.symm
 have h1:s/2^x.toNat<=s:=Nat.div_le_self _ _;rw[e,ayC _ (by omega),Nat.testBit_eq_decide_div_mod_eq,decide_eq_true_eq];exact propext ⟨fun h=>by omega,fun h=>by omega⟩
def aFM (hs:s<256)(hx:0<=x/\x<=7):aaF .or .i64 (s:Int) (IntKind.i64.wrap (2^min x.toNat 64))=((s|||2^x.toNat:Nat):Int):=by
 have hpow:2^x.toNat<2^8:=Nat.pow_lt_pow_right (by omega) (by omega);have this:((2:Int)^x.toNat)=((2^x.toNat:Nat):Int):=by simp
 rw[fP (by omega),this,wrap_small,aDB _ _ hs hpow]
def ab3 (n:Int)(l:L1)(hn: -1048576<=n/\n<=1048576:=by first|omega|grind)(hl:Qle l:=by first|omega|grind):Fk 311 [dI n,nInts l] (vB (IA n l)):=by
 refine fE [] ntmps311 fun _ _=> ?_;simp;refine wlt (Nat×Nat) (fun(i,s)=>([(0,vI n),(1,vN l),(5,vI s),(6,vI i)],l.length-i,(i<=l.length)/\(awT n l i s))) ((0,0)) ⟨by omega,(awV n l)⟩ ?_;rintro⟨i,s⟩ ⟨h1,h2⟩;simp;apply gw<;>intro a
 ·have hg:=aY a;simp[hg];refine ai ?_;refine ck (bJ _ _ _) ?_;simp;apply gv<;>intro b
  ·have b':=b;simp at b';have ho:=afS h2 a (.inl (by simp at b;omega));simp[b];simp[ho]
  ·have b':=b;simp at b';simp[b];apply gv<;>intro d
   ·have d':=d;have ho:=afS h2 a (.inr (.inl (by omega)));simp[d];simp[ho]
   ·have d':=d;simp at d';have hx:0<=at1 l i/\at1 l i<=7:=by simp at b;omega
    have hsb:=aCB h2.2.1 hx;have hso:=aFM h2.2.1 hx;simp[hg,d,hsb];refine ai ?_;apply gw<;>intro e
    ·have ho:=afS h2 a (.inr (.inr e));simp;simp[ho]
    ·have hst:=awU h2 a ⟨by omega,by omega⟩ (by omega) (by simpa using e);simp[hg,hso];refine nxb (i+1,s|||2^(at1 l i).toNat) ⟨by omega,hst⟩
 ·simp at a;obtain rfl:i=l.length:=by omega
  have ho:=aBW h2;simp;refine ck (bJ _ _ _) ?_;simp;apply gv<;>intro f
  ·have f':=f;simp at f';simp[f];simp[ho,f]
  ·have f':=f;simp at f';simp[f];simp[ho,f]
def ML (m:L2)(o:L1)(hm:bR m)(ho:IA m.length o):Fk 241 [cZ m,nInts o] (wN (kS m o)):=by
 refine fE [] ntmps241 fun _ _=> ?_;have hml:=dN hm;have hoo:=XY ho;simp;refine ck (eQ m) ?_;simp[hm];refine ck (ab3 m.length o) ?_;simp[ho];refine wl (fun(i:Nat)=>[(0,.val (cZ m)),(1,vN o),(5,wN (List.replicate i (-1))),(6,vI i)]) (fun(i:Nat)=>m.length-i) (fun(i:Nat)=>(i<=m.length)) (0) (by omega) ?_;rintro i h1;simp;apply gw<;>intro a
 ·have hx:=lS (n:=i) (a:=(-1:Int));simp;refine nxb (i+1) (by first|omega|(simp;omega)|grind) (h3:=by simp[hx])
 ·simp at a;obtain rfl:i=m.length:=by omega
  simp;refine wlt (Nat×L1) (fun(i,l)=>([(0,.val (cZ m)),(1,vN o),(5,wN l),(7,vI i)],o.length-i,(i<=o.length)/\(l=loopN i (List.replicate m.length (-1)) (pivOne m o))/\(l.length=m.length))) ((0,List.replicate m.length (-1))) ⟨by omega,rfl,by simp⟩ ?_;rintro⟨i,l⟩ ⟨h1,h2,h3⟩;simp;apply gw<;>intro a
  ·have hs:=aM i (List.replicate m.length (-1)) (pivOne m o);rw[←h2]at hs;have hoi:=hoo.2.2.2.2 i a;have hg:=aY a;have hgl:=aY (l:=l) (i:=(at1 o i).toNat);simp[hg,hgl];refine ai ?_;apply gw<;>intro b
   ·have hu:pivOne m o i l=l:=if_pos b;simp;refine nxa (i+1,l) ⟨by omega,by rw[hs,hu],h3⟩
   ·simp at b;have hu:pivOne m o i l=loopN m.length l (zP m (at1 o i) i):=if_neg (by omega);simp;refine wlt (Nat×L1) (fun(k,q)=>([(0,.val (cZ m)),(1,vN o),(5,wN q),(7,vI i),(8,vI (at1 o i)),(9,vI k)],m.length-k,(k<=m.length)/\(q=loopN k (l) (zP m (at1 o i) i))/\(q.length=m.length))) ((0,l)) ⟨by omega,rfl,by omega⟩ ?_;rintro⟨k,q⟩ ⟨h1k,h2k,h3k⟩;simp;apply gw<;>intro ak
    ·have hsk:=aM k (l) (zP m (at1 o i) i);rw[←h2k]at hsk;have hgk:=aY (l:=q) (i:=k);obtain⟨r,hr,hrk⟩:=lD hm (i:=(at1 o i).toNat) (k:=k) (by omega) ak;simp[hgk];apply gv<;>intro e
     ·have e':=e;simp[e];apply gv<;>intro f
      ·have f':=f;have hv:zP m (at1 o i) i k q=q.set k i:=if_pos ⟨e,.inl (by omega)⟩;have hk0:(at1 o i).toNat=k:=by omega
       have hgk2:q[(at1 o i).toNat]?=some (at1 q k):=by rw[hk0];exact hgk
       simp[f,hgk2];refine nxb (k+1,q.set (at1 o i).toNat i) ⟨by omega,by rw[hsk,hv,hk0],by simp[h3k]⟩ (h3:=by simp[hg,hgk,hr,hrk,h3k,e,f,hgk2])
      ·have f':=f;simp[hr,hrk,f];refine ai ?_;apply gw<;>intro g
       ·have hv:zP m (at1 o i) i k q=q.set k i:=if_pos ⟨e,.inr g⟩;simp[hgk];refine nxa (k+1,q.set k i) ⟨by omega,by rw[hsk,hv],by simp[h3k]⟩
       ·simp at g;have hv:zP m (at1 o i) i k q=q:=if_neg (by omega);simp;refine nxa (k+1,q) ⟨by omega,by rw[hsk,hv],h3k⟩
     ·have e':=e;simp at e';have hv:zP m (at1 o i) i k q=q:=if_neg (by omega);simp[e];refine nxa (k+1,q) ⟨by omega,by rw[hsk,hv],h3k⟩
    ·simp at ak;have hik:m.length=k:=by omega
     subst hik;simp;refine nxa (i+1,q) ⟨by omega,by rw[hs,hu];exact h2k,h3k⟩
  ·simp at a;have hi:o.length=i:=by omega
   subst hi;have hp:kS m o=canon l:=by rw[kS,ac2,←h2]
   simp;refine ck (tL l (by omega)) ?_;simp;simp[hp]
def aB7 (n s i:Nat):(List.range (i+1)).map (fun i=>(((s+i) % n:Nat):Int))=(List.range i).map (fun i=>(((s+i) % n:Nat):Int))++[(((s+i) % n:Nat):Int)]:=by simp[dY]
def aoY (n s i:Nat):L1:=(List.range i).map fun i=>(((s+i) % n:Nat):Int)
def aiT (n s:Nat):aoY n s 0=[]:=rfl
def aiS (n s i:Nat):aoY n s (i+1)=aoY n s i++[(((s+i) % n:Nat):Int)]:=aB7 n s i
def aoZ (n s:Nat):aoY n s n=rot n s:=rfl
def ao0 (n s i:Nat):(aoY n s i).length=i:=by simp[aoY]
def apO (n a b:Nat):((a:Int)+(b:Int)).tmod n=(((a+b) % n:Nat):Int):=by
 rw[←Int.natCast_add];exact(Int.ofNat_tmod _ _).symm
def XE (m:L2)(hm:bR m):Fk 164 [cZ m] (.tup [.val (nInts (lJ m).1),.val (dI (lJ m).2)]):=by
 refine fE [] ntmps164 fun _ _=> ?_;have hml:=dN hm;simp;refine wld [4] (Nat×L1×Int) (fun(i,b,c)=>([(0,.val (cZ m)),(4,vN b),(5,vI c),(6,vI i)],m.length-i,(i<=m.length)/\((b,c)=loopN i ([], -1) (yG m)))) ((0,[], -1)) ⟨by omega,rfl⟩ ?_;rintro⟨i,b,c⟩ ⟨h1,h2⟩;simp;apply gv<;>intro a
 ·have a':=a;simp[a];refine ck (eQ m) ?_;have hs:=aM i ([], -1) (yG m);rw[←h2]at hs;have hz:=aiT m.length i;simp[hm];refine wl (fun(k:Nat)=>[(0,.val (cZ m)),(4,vN b),(5,vI c),(6,vI i),(7,wN (aoY m.length i k)),(8,vI k)]) (fun(k:Nat)=>m.length-k) (fun(k:Nat)=>(k<=m.length)) (0) (by omega) ?_ (h0:=by simp[hm,hz]);rintro k h1k;simp;apply gw<;>intro d
  ·have hrl:=ao0 m.length i k;have hrs:=aiS m.length i k;have htm:=apO m.length i k;have hne:¬m=[]:=by intro e;rw[e]at hml;simp at hml
   simp[htm,hne];refine nxd (k+1) (by first|omega|(simp;omega)|grind) (h3:=by simp[hrs,htm,hne])
  ·simp at d;obtain rfl:k=m.length:=by omega
   rw[aoZ];have hpl:=U8 m (rot m.length i);simp;refine ck (ML m (rot m.length i) hm (atY hml a)) ?_;simp;refine ck (NE m (kS m (rot m.length i)) hm hpl) ?_;simp;apply gv<;>intro e
   ·have e':=e;have hu:yG m i (b,c)=(kS m (rot m.length i),dP m (kS m (rot m.length i))):=if_pos (.inl e);simp[e];refine ai ?_;refine nxc (i+1,kS m (rot m.length i),dP m (kS m (rot m.length i))) [4] ⟨by omega,by rw[hs,hu]⟩
   ·have e':=e;simp at e';simp[e];apply gw<;>intro f
    ·have hu:yG m i (b,c)=(kS m (rot m.length i),dP m (kS m (rot m.length i))):=if_pos (.inr f);simp;refine ai ?_;refine nxc (i+1,kS m (rot m.length i),dP m (kS m (rot m.length i))) [4] ⟨by omega,by rw[hs,hu]⟩
    ·simp at f;have hu:yG m i (b,c)=(b,c):=if_neg (by simp only;omega);simp;refine ai ?_;refine nxc (i+1,b,c) [4] ⟨by omega,by rw[hs,hu]⟩
 ·have a':=a;simp at a';obtain rfl:i=m.length:=by omega
  have hb:lJ m=(b,c):=h2.symm;simp[a];simp[hb]
def aqQ:Nat->L1->D
 |0,_=> .one (.slice none 0 0)
 |_+1,b=>nInts b
def avG (b:L1):aqQ 0 b= .one (.slice none 0 0):=rfl
def avF (i:Nat)(b:L1):aqQ (i+1) b=nInts b:=rfl
variable {m:L2}{i:Nat}
def ay7 {b:L1}{c:Int}(h2:(b,c)=loopN i ([], -1) (yG m))(hc:0<=c):aqQ i b=nInts b:=by
 cases i with
 |zero=>have e:(b,c)=(([]:L1),(-1:Int)):=h2
        have:c= -1:=congrArg Prod.snd e;omega
 |succ j=>rfl
def V9 (m:L2)(hm:bR m):Fk 335 [cZ m] (.tup [.val (nInts (lJ m).1),.val (dI (lJ m).2)]):=by
 refine fE [] ntmps335 fun _ _=> ?_;have hml:=dN hm;simp;refine ck (iH m (by omega) (wY hm)) ?_;have hf0:=avG [];simp[hm];refine wld [4] (Nat×L1×Int) (fun(i,b,c)=>([(0,.val (cZ m)),(4,.val (aqQ i b)),(5,vI c),(15,vI m.length),(16,vI i)],m.length-i,(i<=m.length)/\((b,c)=loopN i ([], -1) (yG m)))) ((0,[], -1)) ⟨by omega,rfl⟩ ?_ (h0:=by simp[hm,hf0]);rintro⟨i,b,c⟩ ⟨h1,h2⟩;simp;apply gw<;>intro a
 ·have hs:=aM i ([], -1) (yG m);rw[←h2]at hs;have hf1:=avF i;have hi0:0<=c->aqQ i b=nInts b:=ay7 h2;have hz:=aiT m.length i;simp;refine wl (fun(k:Nat)=>[(0,.val (cZ m)),(4,.val (aqQ i b)),(5,vI c),(6,vI i),(7,wN (aoY m.length i k)),(15,vI m.length),(16,vI i),(20,vI m.length),(21,vI k)]) (fun(k:Nat)=>m.length-k) (fun(k:Nat)=>(k<=m.length)) (0) (by omega) ?_ (h0:=by simp[hm,hf0,hf1,hz]);rintro k h1k;simp;apply gw<;>intro d
  ·have hrl:=ao0 m.length i k;have hrs:=aiS m.length i k;have htm:=apO m.length i k;have hne:¬m=[]:=by intro e;rw[e]at hml;simp at hml
   simp[htm,hne];refine nxd (k+1) (by first|omega|(simp;omega)|grind) (h3:=by simp[hf0,hf1,hrs,htm,hne])
  ·simp at d;obtain rfl:k=m.length:=by omega
   rw[aoZ];have hpl:=U8 m (rot m.length i);simp;refine ck (MH m (rot m.length i) hm (atY hml a)) ?_;simp;refine ck (kI m (kS m (rot m.length i)) hm hpl) ?_;simp;apply gv<;>intro e
   ·have e':=e;have hu:yG m i (b,c)=(kS m (rot m.length i),dP m (kS m (rot m.length i))):=if_pos (.inl e);simp[e];refine ai ?_;refine nxc (i+1,kS m (rot m.length i),dP m (kS m (rot m.length i))) [4] ⟨by omega,by rw[hs,hu]⟩ (h3:=by simp[hf0,hf1,e])
   ·have e':=e;simp at e';simp[e];apply gw<;>intro f
    ·have hu:yG m i (b,c)=(kS m (rot m.length i),dP m (kS m (rot m.length i))):=if_pos (.inr f);simp;refine ai ?_;refine nxc (i+1,kS m (rot m.length i),dP m (kS m (rot m.length i))) [4] ⟨by omega,by rw[hs,hu]⟩ (h3:=by simp[hf0,hf1,e])
    ·simp at f;have hu:yG m i (b,c)=(b,c):=if_neg (by simp only;omega);have hi1:=hi0 (by omega);simp[hi1];refine ai ?_;refine nxc (i+1,b,c) [4] ⟨by omega,by rw[hs,hu]⟩ (h3:=by simp[hf0,hf1,e,hi1])
 ·simp at a;obtain rfl:i=m.length:=by omega
  have hb:lJ m=(b,c):=h2.symm;have hfm:aqQ m.length b=nInts b:=by obtain⟨j,hj⟩:∃j,m.length=j+1:=⟨m.length-1,by omega⟩;rw[hj];rfl
  simp[hfm];simp[hb]
def aoT (s:L2)(q:List Con):L1:=if 6<s.length then rP s q 100 (lX s q)else(yE s q).best
def aBY {cs:List Con}{items:L1}(h:Part m cs items):aoT (kN m items) (iM cs items)=partOf m cs items:=by
 unfold aoT partOf;rw[h.len,YO h.mat (by rw[h.len];exact h.are)]
def apD {s:L2}{q:List Con}(h:eP s.length q):nE q (lX s q)=true:=by
 unfold lX;split
 ·rename_i hk;unfold keepP at hk;simp only[k_Bool_and_eq_true]at hk;exact hk.1
 ·exact SX h
def R5 (s:L2)(q:List Con)(hm:bR s)(hcS:eP s.length q)(hq:Qle q):Fk 271 [cZ s,jN q] (vN (aoT s q)):=by
 refine fE [9,17] ntmps271 fun _ _=> ?_;have hml:=dN hm;have hare:=(iZ.1 hcS).1;have hst:=VG hm hare;have hsk:=apD hcS;have hsp:gD (lX s q):=isPart_iff.2 ⟨hst.2,by omega⟩;have hbp:=TQ hm;have hbI:gD (lJ s).1:=isPart_iff.2 ⟨hbp.2.1,by omega⟩;have hkp:keepP q (lJ s).1=nE q (lJ s).1:=by unfold keepP nE;rw[hbI,Bool.and_true]
 simp;apply gw<;>intro a
 ·have hpS:aoT s q=(yE s q).best:=if_neg (by omega);simp;refine fG (ajX s q hm hq) (by simp) ?_;rintro r ⟨kk,rfl⟩;refine⟨by simp,?_⟩;simp[hpS]
 ·simp at a;have hpS:aoT s q=rP s q 100 (lX s q):=if_pos (by omega);simp;refine ck (V9 s hm) ?_;simp;refine QU (fun(_:Unit)=>[(0,.val (cZ s)),(1,vC q),(8,vN (lX s q))]) (fun(_:Unit)=>True) ?_ ?_
  ·simp;refine ck (D9 (lJ s).1 q (by omega) hq) ?_;simp;apply gw<;>intro d
   ·simp at d;have hs1:lX s q=eH s.length q:=if_neg (by rw[hkp,d];simp);simp;refine ck (yJ s.length q (by omega) hq hare) ?_;simp;refine jnc (()) [8] trivial (h3:=by simp[hpS,hs1])
   ·simp at d;have hs1:lX s q=(lJ s).1:=if_pos (by rw[hkp];simpa using d);simp;refine jnc (()) [8] trivial (h3:=by simp[hpS,hs1])
  rintro⟨⟩ -
  simp;refine fG (JZ s q (lX s q) hm hsp hst.1 hsk hq) (by simp) ?_;rintro r ⟨kk,rfl⟩;refine⟨by simp,?_⟩;simp;refine jX [] (dK 4) ?_;simp[hpS]
abbrev sS (m:L2)(cs:List Con)(s:S20):D:= .agg [cZ m,jN cs,bT s.best,dI s.cost,dI s.count]
abbrev nS (m:L2)(cs:List Con)(s:S20):D:= .bx false (.agg [cZ m,jN cs,nInts s.best,dI s.cost,dI s.count])
def auW (l:L1)(c:Con):Bool:=decide (c.b=(l.length:Int)-1)&&(decide (at1 l c.a.toNat=at1 l (l.length-1)) !=c.same)
def aC8 (cs:List Con)(l:L1):ap7 cs l=cs.any (auW l):=rfl
def aeS (m:L2)(cs:List Con)(s:S20)(l:L1)(hcs:∀c∈cs,0<=c.a/\c.a<c.b)(hl:1<=l.length/\Qle l)(hs:Qle cs):Fk 374 [nS m cs s,nInts l] (vB (ap7 cs l)):=by
 refine fE [] ntmps374 fun _ _=> ?_;have hbe:=aC8 cs l;simp;refine ai ?_;refine wlt Nat (fun i=>([(0,.val (nS m cs s)),(1,vN l),(5,vI ((l.length:Int)-1)),(6,vI i)],cs.length-i,(i<=cs.length)/\((cs.take i).any (auW l)=false))) (0) ⟨by omega,rfl⟩ ?_;rintro i ⟨h1,h2⟩;simp;apply gw<;>intro a
 ·obtain⟨c,hc⟩:=aR (l:=cs) (i:=i);simp;refine wdr ?_;simp[hc];apply gv<;>intro e
  ·have e':=e;have hcc:=hcs c (J8 hc);have hga:=aY (l:=l) (i:=c.a.toNat);have hgb:=aY (l:=l) (i:=l.length-1);have hln:((l.length:Int)-1).toNat=l.length-1:=by omega
   simp[hc,e,hga,hgb,hln];iterate 2 refine ai ?_
   apply gw<;>intro f
   ·simp at f;have hn:=asT hc (P:=(auW l)) (by simp[auW,e];simpa using f);simp[hbe,hn]
   ·simp at f;simp;refine nxa (i+1) ⟨by omega,(kL hc h2 (by simp[auW,e];simpa using f))⟩
  ·have e':=e;simp[e];refine nxa (i+1) ⟨by omega,(kL hc h2 (by simp[auW,e]))⟩
 ·simp at a;have hf:=oL h2 a;simp[hbe,hf]
def aF3 (m:L2)(cs:List Con)(d:Nat):Prop:=∀(l:L1) (top cost:Int) (s:S20),l.length+d=m.length-> -1<=top/\top+1<=l.length->0<=cost/\cost<=8000*l.length->0<=s.count/\s.count+(9^d:Nat)<=4611686018427387904->
 FO prog 310 [.one (.bool false),nInts l,dI top,dI cost] 0 (.bx true (sS m cs s)) (fun r' d'=>r'= .tup []/\d'= .bx true (sS m cs (walk20 m cs d l top cost s)))
def aAB (m:L2)(cs:List Con)(d:Nat)(l:L1)(top cost:Int)(s:S20)(hm:bR m)(hcs:dA m.length cs)(hrec:∀e,d=e+1->aF3 m cs e)(hd:l.length+d=m.length)(ht: -1<=top/\top+1<=l.length)(hco:0<=cost/\cost<=8000*l.length)(hcn:0<=s.count/\s.count+(9^d:Nat)<=4611686018427387904):FO prog 310 [.one (.bool false),nInts l,dI top,dI cost] 0 (.bx true (sS m cs s)) (fun r' d'=>r'= .tup []/\d'= .bx true (sS m cs (walk20 m cs d l top cost s))):=by
 refine fMs [42] ntmps310 fun w0 ow0 v0=> ?_;have hml:=dN hm;have hco2:=mE hcs;have hcut:∀d l top cost s,TZ cost s->walk20 m cs d l top cost s=s:=fun d l top cost s h=>by cases d;(rw[walk20,if_pos h]);(rw[walk20_succ,if_pos h])
 refine QU (fun(_:Unit)=>[(0,.own (.bx true (sS m cs s))),(1,vN l),(2,vI top),(3,vI cost)]) (fun(_:Unit)=>(¬TZ cost s)) ?_ ?_
 ·simp;apply gv<;>intro a
  ·have a':=a;simp[a];apply gw<;>intro b
   ·have hw:=hcut d l top cost s ⟨a,b⟩;simp;simp[hw]
   ·simp at b;simp;refine jn (()) (by unfold TZ;omega)
  ·have a':=a;simp at a';simp[a];refine jn (()) (by unfold TZ;omega)
 rintro⟨⟩ h5;simp;apply gw<;>intro e
 ·obtain rfl:d=0:=by omega
  have hw:walk20 m cs 0 l top cost s=UY l cost s:=by rw[walk20,if_neg h5]
  simp;apply gv<;>intro f
  ·have f':=f;have hw2:UY l cost s=⟨l,cost,1⟩:=if_pos (.inl f);simp[f];iterate 2 refine ai ?_
   simp[hw,hw2]
  ·have f':=f;simp at f';simp[f];apply gw<;>intro g
   ·have hw2:UY l cost s=⟨l,cost,1⟩:=if_pos (.inr g);simp;iterate 2 refine ai ?_
    simp[hw,hw2]
   ·simp at g;have hw2:UY l cost s=⟨s.best,s.cost,s.count+1⟩:=if_neg (by omega);simp;refine ai ?_;simp[hw,hw2]
 ·obtain⟨d,rfl⟩:∃e,d=e+1:=⟨d-1,by omega⟩;have hwk:=hrec d rfl;have hw:walk20 m cs (d+1) l top cost s=loopN (top+2).toNat s (DR m cs d l top cost):=by rw[walk20_succ,if_neg h5]
  have hp9:=aJL d;have hps:9^(d+1)=9*9^d:=by rw[Nat.pow_succ,qK]
  simp;refine wlt (Nat×S20) (fun(k,x)=>([(0,.own (.bx true (sS m cs x))),(1,vN l),(2,vI top),(3,vI cost),(8,vI l.length),(9,vI k)],(top+2).toNat-k,(k<=(top+2).toNat)/\(x=loopN k s (DR m cs d l top cost))/\(0<=x.count/\x.count<=s.count+(k*9^d:Nat)))) ((0,s)) ⟨by omega,rfl,by simp;omega⟩ ?_;rintro⟨k,x⟩ ⟨h1,h2,h3⟩;simp;refine ai ?_;apply gw<;>intro b
  ·have hs:=aM k s (DR m cs d l top cost);rw[←h2]at hs;have hbl:(l++[(k:Int)]).length=l.length+1:=by simp
   have hkm:k*9^d+9^d<=9*9^d:=by have:(k+1)*9^d<=9*9^d:=aZ _ (by omega);rw[k_Nat_add_mul,Nat.one_mul]at this;exact this
   have hk1:(k+1)*9^d=k*9^d+9^d:=by rw[k_Nat_add_mul,Nat.one_mul]
   simp;iterate 2 refine ai ?_
   refine ckz (aeS m cs x (l++[(k:Int)]) (fun c hc=>⟨(hco2.2.2.2 c hc).1,(hco2.2.2.2 c hc).2.1⟩) (by omega) (by omega)) ?_;simp;apply gw<;>intro f
   ·have hn:DR m cs d l top cost k x=x:=if_pos f;simp;refine nxa (k+1,x) ⟨by omega,by rw[hs,hn],by rw[hk1];omega⟩
   ·have hn:DR m cs d l top cost k x=walk20 m cs d (l++[(k:Int)]) (max top k) (adB m l k l.length cost) x:=if_neg (by simp[f]);simp;refine wlt (Nat×Int) (fun(i,c)=>([(0,.own (.bx true (sS m cs x))),(1,vN l),(2,vI top),(3,vI cost),(8,vI l.length),(9,vI k),(10,wN (l++[(k:Int)])),(11,vI c),(12,vI i)],l.length-i,(i<=l.length)/\(c=loopN i cost (fun i s=>s+BV m l k l.length i))/\(cost<=c/\c<=cost+1000*i))) ((0,cost)) ⟨by omega,rfl,by omega⟩ ?_;rintro⟨i,c⟩ ⟨h1i,h2i,h3i⟩;simp;apply gw<;>intro u
    ·have hsi:=aM i cost (fun i s=>s+BV m l k l.length i);rw[←h2i]at hsi;obtain⟨r,hr,hrk⟩:=lD hm (i:=i) (k:=l.length);have hi:=aY u;have hmb:=iP hm i l.length;simp[hr,hrk];apply gv<;>intro p
     ·have p':=p;simp[hi,p];apply gw<;>intro q
      ·have hc:BV m l k l.length i=at2 m i l.length:=if_pos ⟨p,q⟩;simp[hr,hrk];refine ai ?_;apply gv<;>intro g
       ·have g':=g;exfalso;omega
       ·have g':=g;simp at g';simp[g];refine nxa (i+1,c+at2 m i l.length) ⟨by omega,by rw[hsi,hc],by omega⟩
      ·simp[hr,hrk];apply gv<;>intro g
       ·have g':=g;exfalso;omega
       ·have g':=g;simp at g';have hc:BV m l k l.length i=0:=by rw[BV,if_neg (by simp[q]),if_neg (by omega)]
        simp[g];refine nxa (i+1,c) ⟨by omega,by rw[hsi,hc];simp,by omega⟩
     ·have p':=p;simp at p';simp[hr,hrk,p];apply gv<;>intro g
      ·have g':=g;simp[hi,g];apply gw<;>intro q
       ·have hc:BV m l k l.length i= - at2 m i l.length:=by rw[BV,if_neg (by omega),if_pos ⟨g,q⟩]
        simp[hr,hrk];refine nxb (i+1,c-at2 m i l.length) ⟨by omega,by rw[hsi,hc];omega,by omega⟩
       ·have hc:BV m l k l.length i=0:=by rw[BV,if_neg (by omega),if_neg (by simp[q])]
        simp;refine nxa (i+1,c) ⟨by omega,by rw[hsi,hc];simp,by omega⟩
      ·have g':=g;simp at g';have hc:BV m l k l.length i=0:=by rw[BV,if_neg (by omega),if_neg (by omega)]
       simp[g];refine nxa (i+1,c) ⟨by omega,by rw[hsi,hc];simp,by omega⟩
    ·simp at u;obtain rfl:i=l.length:=by omega
     have ha:adB m l k l.length cost=c:=h2i.symm;rw[ha]at hn;have hW:=apV (m:=m) (cs:=cs) d (l++[(k:Int)]) (max top k) c x (by omega);simp;refine jX [] (dK 10) ?_;have hcl:=hwk (l++[(k:Int)]) (max top k) c x (by omega) (by omega) (by omega) (by omega);rw[show nInts (l++[(k:Int)])=D.sl none (l.map dI++[dI k]) by simp]at hcl;simp;refine gY rfl (hcl) ?_;rintro r d ⟨rfl,rfl⟩;simp;refine nxa (k+1,walk20 m cs d (l++[(k:Int)]) (max top k) c x) ⟨by omega,by rw[hs,hn],by have:=hW.lo h3.1;have:=hW.hi h3.1;rw[hk1];omega⟩
  ·simp at b;obtain rfl:k=(top+2).toNat:=by omega
   simp;simp[hw,h2]
def NF (m:L2)(cs:List Con)(hm:bR m)(hcs:dA m.length cs):∀d,aF3 m cs d
 |0=>fun l top cost s h1 h2 h3 h4=>aAB m cs 0 l top cost s hm hcs (fun e he=>by omega) h1 h2 h3 h4
 |d+1=>fun l top cost s h1 h2 h3 h4=>aAB m cs (d+1) l top cost s hm hcs (fun e he=>by obtain rfl:d=e:=(by omega);exact NF m cs hm hcs d) h1 h2 h3 h4
def aeT (m:L2)(cs:List Con)(hm:bR m:=by first|omega|grind)(hcs:eP m.length cs:=by first|omega|grind):Fk 240 [cZ m,jN cs] (.tup [.own (sS m cs (abA m cs)),vB true]):=by
 refine fE [] ntmps240 fun _ _=> ?_;have hml:=dN hm;have hc1:dA m.length cs:=by simp only[eP,k_Bool_and_eq_true]at hcs;exact hcs.1
 have hc2:wT m.length cs<0:=by simp only[eP,k_Bool_and_eq_true,decide_eq_true_eq]at hcs;exact hcs.2
 have hco2:=mE hc1;simp;refine ck (eQ m) ?_;simp[hm];refine ck (EH m.length cs) ?_;have hp9:(9^m.length:Nat)<=9^8:=jU (by omega) hml.2;have hw:=NF m cs hm hc1 m.length [] (-1) 0 ⟨[], -1,0⟩ (by simp) (by simp) (by simp) ⟨by simp,by show(0:Int)+((9^m.length:Nat):Int)<=_;omega⟩;simp[hc1,hc2];refine gY rfl (hw) ?_;rintro r d ⟨rfl,rfl⟩;have hr:walk20 m cs m.length [] (-1) 0 ⟨[], -1,0⟩=abA m cs:=rfl;simp[hr]
def NU (m:L2)(cs:List Con)(hm:bR m)(hcs:eP m.length cs):Fk 163 [cZ m,jN cs] (.tup [.val (nInts (abA m cs).best),.val (dI (abA m cs).cost),vB true]):=by
 refine fE [] ntmps163 fun _ _=> ?_;simp;refine ck (aeT m cs) ?_;simp;refine jX [] (dK 7) ?_;simp;refine wdr ?_;simp
variable {l:List Tri}
def axK (h:∀t∈l,0<=t.w)(x y:Int):0<=AR l x y:=by
 have key:∀(l:List Tri) (s:Int),0<=s->(∀t∈l,0<=t.w)->0<=l.foldl (fun s t=>if I1 x y t=true then s+t.w else s) s:=by
  intro l
  induction l with
  |nil=>intro s hs _;exact hs
  |cons t l ih=>
   intro s hs h;have h1:=h t (by simp);rw[k_List_foldl_cons];exact ih _ (by split<;>omega) (fun t ht=>h t (aV _ ht))
 exact key l 0 (by omega) h
def asK (m:L2)(t:Tri):Bool:=wR m t.a t.b t.c&&inR t.w 1 1000
def axJ (m:L2)(l:List Tri)(x y:Nat):Bool:=decide (AR l x y<=AV (at2 m x y))
def ak2 (m:L2)(l:List Tri)(x:Nat):Bool:=(List.range m.length).all fun y=>decide (y<=x)||axJ m l x y
def TE (m:L2)(l:List Tri):Bool:=l.all (asK m)&&(List.range m.length).all (ak2 m l)&&decide (l.length<=100)
def aHW {x y:Nat}{P:Nat->Bool}(hx:x<y)(hy:y<n)(h:P y=false):(List.range n).all (fun y=>decide (y<=x)||P y)=false:=mZ hy (by simp[h];omega)
def XI (m:L2)(l:List Tri)(hm:bR m)(hl:Qle l)(hw:∀t∈l, -1048576<=t.w/\t.w<=1048576):Fk 313 [cZ m,IJ l] (vB (TE m l)):=by
 refine fE [] ntmps313 fun _ _=> ?_;have hml:=dN hm;simp;refine wlt Nat (fun i=>([(0,.val (cZ m)),(1,.val (IJ l)),(5,vI i)],l.length-i,(i<=l.length)/\((l.take i).all (asK m)=true))) (0) ⟨by omega,rfl⟩ ?_;rintro i ⟨h1,h2⟩;simp;apply gw<;>intro a
 ·obtain⟨c,hc⟩:=aR (l:=l) (i:=i);simp;refine wdr ?_;simp[hc];refine cd (CF m c.a c.b c.c) ?_;simp;apply gv<;>intro e
  ·have e':=e;simp at e';have hn:=fV hc (P:=(asK m)) (by simp[asK];simp at e;simp[e]);have hp:TE m l=false:=by simp only[TE];rw[hn];rfl
   simp[e,hp]
  ·have e':=e;simp at e';simp[hc,e];refine cd (bJ c.w 1 1000) ?_;simp;apply gw<;>intro f
   ·simp at f;have hn:=fV hc (P:=(asK m)) (by simp only[asK];rw[show inR c.w 1 1000=false by simp;omega];simp);have hp:TE m l=false:=by simp only[TE];rw[hn];rfl
    simp[hp]
   ·simp at f;simp;refine nxa (i+1) ⟨by omega,(bX hc h2 (by simp only[asK];rw[show inR c.w 1 1000=true by simp;omega,e'];rfl))⟩
 ·simp at a;have hf:=iX h2 a;simp;refine wlt Nat (fun x=>([(0,.val (cZ m)),(1,.val (IJ l)),(6,vI x)],m.length-x,(x<=m.length)/\((List.range x).all (ak2 m l)=true))) (0) ⟨by omega,rfl⟩ ?_;rintro x ⟨h1x,h2x⟩;simp;apply gw<;>intro ax
  ·simp;refine ai ?_;refine wlt Nat (fun y=>([(0,.val (cZ m)),(1,.val (IJ l)),(6,vI x),(7,vI y)],m.length-y,(x<y/\y<=m.length)/\(∀z<y,(decide (z<=x)||axJ m l x z)=true))) (x+1) ⟨by omega,(fun z hz=>by simp;omega)⟩ ?_;rintro y ⟨h3,h4⟩;simp;apply gw<;>intro d
   ·obtain⟨r,hr,hrk⟩:=lD hm (i:=x) (k:=y);have hb:=iP hm x y;simp;refine wdr ?_;simp;refine cd (eQ m) ?_;simp[hm];refine cd (zM l x y) ?_;simp[hr,hrk];refine cd (oC (at2 m x y)) ?_;simp;apply gw<;>intro e
    ·have hu:axJ m l x y=false:=by simp[axJ];omega
     have hp:TE m l=false:=by simp only[TE];rw[mZ ax (aHW (by omega) d hu)];simp
     simp[hp]
    ·simp at e;have hu:axJ m l x y:=by simp[axJ];omega
     simp;refine nxa (y+1) ⟨by omega,(fun z hz=>by by_cases hzy:z=y;(subst hzy;rw[hu];simp);exact h4 z (by omega))⟩
   ·simp at d;have hrow:ak2 m l x:=by rw[ak2,aI];intro z hz;exact h4 z (by have:=bB.1 hz;omega)
    simp;refine nxa (x+1) ⟨by omega,(oH h2x hrow)⟩
  ·simp at ax;have hfx:=LJ (n:=m.length) h2x;simp;refine ck (eQ m) ?_;have hp:TE m l=decide (l.length<=100):=by simp only[TE];rw[hf,hfx];simp
   simp[hm,hp];omega
def YE (m:L2)(l:List Tri):Int:=if TE m l=true then l.foldl (fun s t=>s+t.w) 0 else -1
def amO (h:∀t∈l, -1048576<=t.w/\t.w<=1048576)(i:Nat): -(1048576*(i:Int))<=(l.take i).foldl (fun(s:Int) t=>s+t.w) (0:Int)/\(l.take i).foldl (fun(s:Int) t=>s+t.w) (0:Int)<=1048576*(i:Int):=by
 induction i with
 |zero=>rw[List.take_zero,List.foldl_nil];omega
 |succ i ih=>
  by_cases hi:i<l.length
  ·obtain⟨t,ht⟩:=aR hi;have h1:=h t (J8 ht);have h2:=fH (fun(s:Int) (t:Tri)=>s+t.w) 0 ht;rw[h2];omega
  ·have e:l.take (i+1)=l.take i:=by rw[bS,bS]
   rw[e];omega
def aBX (h:∀t∈l, -1048576<=t.w/\t.w<=1048576)(hl:Qle l): -1099511627777<=YE m l/\YE m l<=1099511627777:=by
 have:=amO h l.length;rw[bV]at this;unfold YE;split<;>omega
def PN (m:L2)(l:List Tri)(hm:bR m)(hl:Qle l)(hw:∀t∈l, -1048576<=t.w/\t.w<=1048576):Fk 247 [cZ m,IJ l] (vI (YE m l)):=by
 refine fE [] ntmps247 fun _ _=> ?_;simp;refine ck (XI m l hm hl hw) ?_;simp;apply gw<;>intro a
 ·simp at a;have hp:YE m l= -1:=if_neg (by simp[a]);simp[hp]
 ·simp at a;have hp:YE m l=l.foldl (fun s t=>s+t.w) 0:=if_pos (by simpa using a);simp;refine wlt (Nat×Int) (fun(i,s)=>([(1,.val (IJ l)),(5,vI s),(6,vI i)],l.length-i,(i<=l.length)/\(s=(l.take i).foldl (fun s t=>s+t.w) 0))) ((0,0)) ⟨by omega,rfl⟩ ?_;rintro⟨i,s⟩ ⟨h1,h2⟩;have hfb:=amO hw i;rw[←h2]at hfb;simp;apply gw<;>intro b
  ·obtain⟨t,ht⟩:=aR b;have hwt:=hw t (J8 ht);have hm2:=fH (fun(s:Int) (t:Tri)=>s+t.w) 0 ht;rw[←h2]at hm2;simp[ht];refine nxb (i+1,s+t.w) ⟨by omega,hm2.symm⟩
  ·simp at b;rw[bS b]at h2;simp;simp[hp,h2]
def gw3 (m:L2)(o:List Tri)(t:Tri):Int:=min (AV (at2 m t.a.toNat t.b.toNat)-AR o t.a t.b) (min (AV (at2 m t.a.toNat t.c.toNat)-AR o t.a t.c) (AV (at2 m t.b.toNat t.c.toNat)-AR o t.b t.c))
def TB (m:L2)(o:List Tri)(t:Tri):List Tri:=if 0<gw3 m o t then o++[⟨t.a,t.b,t.c,gw3 m o t⟩]else o
def aj2 (m:L2):List Tri:=(FQ m).foldl (TB m) []
variable {k:Nat}
def amU (hm:bR m){o:List Tri}{t:Tri}(h:LU m k o)(ht:YY m.length t):LU m (k+1) (TB m o t):=by
 unfold TB;split
 ·rename_i hpos;have z1:=axK (fun t ht=>(h.2 t ht).2.2.2.2.1) t.a t.b;have v1:=LV (iP hm t.a.toNat t.b.toNat);have hle:gw3 m o t<=1000:=by unfold gw3;omega
  refine⟨by have:=h.1;simp;omega,fun t' ht'=> ?_⟩;rcases k_List_mem_append.1 ht' with h2|h2
  ·exact h.2 t' h2
  ·rw[k_List_mem_singleton.1 h2];unfold YY at ht|-;simp only;omega
 ·exact⟨by have:=h.1;omega,h.2⟩
def avX (hm:bR m):LU m 512 (aj2 m):=by
 have hb:=adL hm m.length;have h8:=dN hm
 have key:∀(L o:List Tri) (k:Nat),(∀t∈L,YY m.length t)->LU m k o->LU m (k+L.length) (L.foldl (TB m) o):=by
  intro L
  induction L with
  |nil=>intro o k _ h;exact h
  |cons t L ih=>
   intro o k hL h;have:=ih (TB m o t) (k+1) (fun t ht=>hL t (aV _ ht)) (amU hm h (hL t (by simp)));rw[k_List_foldl_cons,aS,show k+(L.length+1)=k+1+L.length by omega];exact this
 have h1:=key (FQ m) [] 0 hb.2 ⟨by simp,by simp⟩;have hbl:(FQ m).length<=64*m.length:=hb.1;exact⟨k_Nat_le_trans h1.1 (by omega),h1.2⟩
def NW (m:L2)(hm:bR m):Fk 171 [cZ m] (vE (aj2 m)):=by
 refine fE [] ntmps171 fun _ _=> ?_;have hml:=dN hm;have hb:=adL hm m.length;have hgr:aj2 m=(FQ m).foldl (TB m) []:=rfl;have hL512:(FQ m).length<=512:=k_Nat_le_trans hb.1 (by omega);have hLt:∀t∈FQ m,YY m.length t:=hb.2;simp;refine ck (PG m hm) ?_;clear hb;generalize FQ m=L at*
 simp;refine wlt (Nat×List Tri) (fun(i,o)=>([(0,.val (cZ m)),(3,vE o),(4,vE L),(5,vI i)],L.length-i,(i<=L.length)/\(o=(L.take i).foldl (TB m) [])/\(LU m i o))) ((0,[])) ⟨by omega,rfl,(⟨by simp,by simp⟩)⟩ ?_;rintro⟨i,o⟩ ⟨h1,h2,h3⟩;simp;apply gw<;>intro a
 ·obtain⟨t,ht⟩:=aR a;have hk0:=hLt t (J8 ht);have hok:=amU hm h3 hk0;have hk:=hk0;unfold YY at hk;have hm2:=fH (TB m) [] ht;rw[←h2]at hm2;obtain⟨r,hr,hrb⟩:=lD hm (i:=t.a.toNat) (k:=t.b.toNat);obtain⟨r',hr',hrc⟩:=lD hm (i:=t.a.toNat) (k:=t.c.toNat);obtain rfl:r=r':=by rw[hr]at hr';exact k_Option_some_inj hr'
  obtain⟨q,hq,hqc⟩:=lD hm (i:=t.b.toNat) (k:=t.c.toNat);have ha0:0<=t.a:=hk.1;have hb0:0<=t.b:=by omega
  have hc0:0<=t.c:=by omega
  have hol:=h3.1;have hwo:∀t∈o, -1000<=t.w/\t.w<=1000:=fun t ht=>by have:=h3.2 t ht;unfold YY at this;omega
  have hwo2:∀t∈o, -1048576<=t.w/\t.w<=1048576:=fun t ht=>by have:=hwo t ht;omega
  have u1:=agI (by omega) hwo t.a t.b;have u2:=agI (by omega) hwo t.a t.c;have u3:=agI (by omega) hwo t.b t.c;have v1:=LV (iP hm t.a.toNat t.b.toNat);have v2:=LV (iP hm t.a.toNat t.c.toNat);have v3:=LV (iP hm t.b.toNat t.c.toNat);have hgw:min (AV (at2 m t.a.toNat t.b.toNat)-AR o t.a t.b) (min (AV (at2 m t.a.toNat t.c.toNat)-AR o t.a t.c) (AV (at2 m t.b.toNat t.c.toNat)-AR o t.b t.c))=gw3 m o t:=rfl;simp[ht];refine wdt 52 ?_;simp[hr,hrb,ha0,hb0];refine cd (oC (at2 m t.a.toNat t.b.toNat) (by have:=iP hm t.a.toNat t.b.toNat;omega)) ?_;simp;refine cd (zM o t.a t.b (by omega) hwo2) ?_;simp[hr,hrc,ha0,hc0];refine ai ?_;refine cd (oC (at2 m t.a.toNat t.c.toNat) (by have:=iP hm t.a.toNat t.c.toNat;omega)) ?_;simp;refine cd (zM o t.a t.c (by omega) hwo2) ?_;simp[hq,hqc,hb0,hc0];refine ai ?_;refine cd (oC (at2 m t.b.toNat t.c.toNat) (by have:=iP hm t.b.toNat t.c.toNat;omega)) ?_;simp;refine cd (zM o t.b t.c (by omega) hwo2) ?_;simp[hgw];refine ai ?_;apply gw<;>intro f
  ·have hu:TB m o t=o++[⟨t.a,t.b,t.c,gw3 m o t⟩]:=if_pos f;rw[hu]at hok;simp;refine nxb (i+1,o++[⟨t.a,t.b,t.c,gw3 m o t⟩]) ⟨by omega,by rw[hm2,hu],hok⟩
  ·simp at f;have hu:TB m o t=o:=if_neg (by omega);rw[hu]at hok;simp;refine nxa (i+1,o) ⟨by omega,by rw[hm2,hu],hok⟩
 ·simp at a;rw[bS a]at h2;simp;simp[hgr,←h2]
def aD5 (m:L2)(x:L1)(l:List Tri):Int:=if wL m x<0\/YE m l<0 then -1 else wL m x-YE m l
def NZ (m:L2)(x:L1)(l:List Tri)(hm:bR m)(hx:Qle x)(hl:Qle l)(hw:∀t∈l, -1048576<=t.w/\t.w<=1048576):Fk 170 [cZ m,nInts x,IJ l] (vI (aD5 m x l)):=by
 refine fE [] ntmps170 fun _ _=> ?_;have hml:=dN hm;have hp:=BP m x;have hq:=aBX (m:=m) hw hl;have e1:(if bR m=true/\gD x=true/\x.length=m.length then dP m x else -1)=wL m x:=rfl;simp;refine ck ((e1▸mW m x (by omega) hx)) ?_;simp;refine ck (PN m l hm hl hw) ?_;simp;apply gv<;>intro a
 ·have a':=a;simp[a];grind[aD5]
 ·have a':=a;simp at a';simp[a];apply gw<;>intro d
  ·simp;grind[aD5]
  ·simp at d;have hg:aD5 m x l=wL m x-YE m l:=if_neg (by omega);simp[hg];simp only[inI];omega
abbrev SK (l:L1)(c:Int)(e:Bool)(g:Int):D:= .agg [bT l,dI c,dB e,dI g]
def aa7 (l:List Con)(items:L1):(iM l items).length<=l.length:=jR _ _
def PI (m:L2)(cs:List Con)(hm:bR m)(hcs:Qle cs):fK prog 95 [cZ m,jN cs] (fun r'=>∃(c:Int) (e:Bool) (g:Int),r'= .tup [.own (SK (nK m cs) c e g),vB (eP m.length cs)]):=by
 refine fE [22,23,29] ntmps95 fun _ _=> ?_;have hml:=dN hm;have ecs:(dA (m.length:Int) cs&&decide (wT m.length cs<0))=eP m.length cs:=rfl;simp;refine ck (eQ m) ?_;simp[hm];refine ck (EH m.length cs (by omega) hcs) ?_;simp[ecs];apply gw<;>intro a
 ·simp at a;have hcA:nK m cs=[]:=if_neg (by simp[a]);simp[hcA];omega
 ·simp at a;have hcc:eP m.length cs:=by simpa using a
  have hcA:nK m cs=nR m cs:=if_pos hcc;have hac:=(iZ.1 hcc).1;have hsp:=JQ hm hac;simp;refine ck (SG m cs (by omega) hcs) ?_;simp;refine ck (AC (dJ m cs) (by omega) (.inr hsp.2.1)) ?_;have hbs:∀v,v<(blocksP (dJ m cs)).length->OC m.length (gat (blocksP (dJ m cs)) v)/\1<=(gat (blocksP (dJ m cs)) v).length/\(gat (blocksP (dJ m cs)) v).length<=m.length:=fun v hv=>by have:=QX (isPart_iff.1 hsp.2.1).1 hv;rwa [hsp.2.2]at this
  have hcl:nR m cs=canon (ahG m cs (blocksP (dJ m cs))):=rfl;have hll:=Y8 m cs (blocksP (dJ m cs));have hbl:(blocksP (dJ m cs)).length<=m.length:=k_Nat_le_trans (blocksI (isPart_iff.1 hsp.2.1).1 (k_Nat_le_refl _)).len (Nat.le_of_eq hsp.2.2);generalize hbsg:blocksP (dJ m cs)=bs at hbs hcl hll hbl|-
  simp;refine ai ?_;refine wlt (Nat×L1×Bool) (fun(i,L,e)=>([(0,.val (cZ m)),(1,vC cs),(4,.own (.bx true (SK [] 0 false 0))),(6,.own (mY bs)),(7,wN L),(8,.own (.bx true (SK [] 0 e 0))),(9,vI i)],bs.length-i,(i<=bs.length)/\(L=loopN i (List.replicate m.length 0) (FZ m cs bs)))) ((0,List.replicate m.length 0,true)) ⟨by omega,rfl⟩ ?_;rintro⟨i,L,e⟩ ⟨h1,h2⟩;simp;apply gw<;>intro b
  ·have hr:=af2 b;have hsel:=hbs i b;have hpt:=akM hm hcc hsel.1 hsel.2.1 hsel.2.2;have hok:=aiO hpt;have hLl:L.length=m.length:=by rw[h2,AL (QE m cs bs)];simp
   generalize hit:gat bs i=items at hr hsel hpt hok|-
   have hsl:=hpt.len;simp[hr];refine ck (XM m items hm hsel.1 (by omega)) ?_;simp[hr];refine ck (FU cs items hcs (by omega)) ?_;have hmS:=hpt.mat;have hcS:eP (kN m items).length (iM cs items):=by rw[hsl];exact hpt.con
   have hrl:Qle (iM cs items):=by have:=aa7 cs items;omega
   have hst:=VG hmS (r:=iM cs items) (by rw[hsl];exact hpt.are);have hsO:lX (kN m items) (iM cs items)=if keepP (iM cs items) (lJ (kN m items)).1=true then(lJ (kN m items)).1 else eH (kN m items).length (iM cs items):=rfl
   have hpO:partOf m cs items=if 6<items.length then rP (kN m items) (iM cs items) 100 (lX (kN m items) (iM cs items))else(abA (kN m items) (iM cs items)).best:=rfl
   have hbp:=TQ hmS;have hare:dA (kN m items).length (iM cs items):=by rw[hsl];exact hpt.are
   generalize kN m items=s at*
   generalize iM cs items=q at*
   simp;refine jX [] (uY.trans (dK 10) (dK 11)) ?_;simp;refine ck (NU s q hmS hcS) ?_;simp;refine QU (fun(e2:Bool)=>[(0,.val (cZ m)),(1,vC cs),(4,.own (.bx true (SK [] 0 false 0))),(6,.own (mY bs)),(7,wN L),(8,.own (.bx true (SK [] 0 e2 0))),(9,vI i),(12,vN (partOf m cs items))]) (fun(e2:Bool)=>True) ?_ ?_
   ·simp[hr];apply gw<;>intro c
    ·simp;refine ck (XE s hmS) ?_;simp;refine QU (fun(_:Unit)=>[(0,.val (cZ m)),(1,vC cs),(4,.own (.bx true (SK [] 0 false 0))),(6,.own (mY bs)),(7,wN L),(8,.own (.bx true (SK [] 0 false 0))),(9,vI i),(10,.val (cZ s)),(11,vC q),(15,vN (lX s q))]) (fun(_:Unit)=>True) ?_ ?_
     ·simp;refine ck (sD (lJ s).1 q (by omega) hrl) ?_;have hkO:(q.all (yB (lJ s).1)&&gD (lJ s).1)=keepP q (lJ s).1:=rfl;simp[hkO];apply gw<;>intro d
      ·simp at d;have hs1:lX s q=eH s.length q:=by rw[hsO];exact if_neg (by simpa using d)
       simp;refine ck (yL s.length q (by omega) hrl) ?_;have hs2:(if dA s.length q=true then eH s.length q else[])=eH s.length q:=if_pos hare;simp[hs2];refine jnc (()) [15] trivial (h3:=by simp[hm,ecs,hr,hkO,hs1,hs2])
      ·simp at d;have hs1:lX s q=(lJ s).1:=by rw[hsO];exact if_pos (by simpa using d)
       simp;refine jnc (()) [15] trivial (h3:=by simp[hm,ecs,hr,hkO,hs1])
     rintro⟨⟩ -
     simp;refine fG (J3 s q (lX s q) (by omega) hrl (by omega)) (by simp) ?_;rintro r ⟨kk,rfl⟩;refine⟨by simp,?_⟩;have hp1:partOf m cs items=rP s q 100 (lX s q):=by rw[hpO];exact if_pos (by omega)
     simp;refine jnc (false) [12] trivial (h3:=by simp[hm,ecs,hr,hp1])
    ·simp at c;have hp1:partOf m cs items=(abA s q).best:=by rw[hpO];exact if_neg (by omega)
     simp;refine jnc (e) [12] trivial (h3:=by simp[hm,ecs,hr,hp1])
   rintro e2 -
   simp;refine wlt (Nat×L1) (fun(j,L')=>([(0,.val (cZ m)),(1,vC cs),(4,.own (.bx true (SK [] 0 false 0))),(6,.own (mY bs)),(7,wN L'),(8,.own (.bx true (SK [] 0 e2 0))),(9,vI i),(12,vN (partOf m cs items)),(17,vI j)],items.length-j,(j<=items.length)/\(L'=loopN j L (acG items (partOf m cs items) i)))) ((0,L)) ⟨by omega,rfl⟩ ?_;rintro⟨j,L'⟩ ⟨h5,h6⟩;simp[hr];apply gw<;>intro f
   ·have hg:=aY f;have hgx:=hsel.1.1 _ (aA hg);have hpl:j<(partOf m cs items).length:=by omega
    have hg2:=aY hpl;have hb2:=axU hok.2 j hpl;have hLl2:L'.length=m.length:=by rw[h6,AL fun k l=>by simp[acG]];exact hLl
    have hpu:acG items (partOf m cs items) i j L'=L'.set (at1 items j).toNat (i*8+at1 (partOf m cs items) j):=rfl;have hput:(L'.map dI).set (at1 items j).toNat (D.one (.int .i64 ((i:Int)*8+at1 (partOf m cs items) j)))=(acG items (partOf m cs items) i j L').map dI:=by rw[hpu,jA]
    have hb1:=(hok.2 j hpl).1;have ha0:0<=at1 items j:=hgx.1;obtain⟨u,hu⟩:=aR (l:=L') (i:=(at1 items j).toNat);generalize partOf m cs items=pp at*
    simp;refine wdt 16 ?_;simp[hr,hg,hg2,hu,ha0,hput];refine nxd (j+1,acG items pp i j L') ⟨by omega,by rw[aM,←h6]⟩
   ·simp at f;obtain rfl:j=items.length:=by omega
    have hpA:FZ m cs bs i L=L':=by rw[FZ,hit,h6]
    simp;refine nxa (i+1,L',e2) ⟨by omega,by rw[aM,←h2,hpA]⟩
  ·simp at b;obtain rfl:i=bs.length:=by omega
   have hLc:canon L=nR m cs:=by rw[hcl,h2];rfl
   have hLl:L.length=m.length:=by rw[h2];exact hll
   have hcln:(nR m cs).length=m.length:=by rw[←hLc,pG,hLl]
   simp;refine ck (tL L (by omega)) ?_;have hpc:(if bR m=true/\gD (nR m cs)=true/\(nR m cs).length=m.length then dP m (nR m cs)else -1)=wL m (nR m cs):=rfl;simp[hLc];refine ck ((hpc▸mW m (nR m cs))) ?_;generalize nR m cs=X at*
   simp;apply gw<;>intro d
   ·simp at d;have hgr:=avX hm;obtain rfl:e=false:=d;simp;refine wdf [(4,[128,129]),(7,[131,130,8,126,127])] [(0,.val (cZ m)),(4,.own (.bx true (SK [] 0 false 0))),(8,.own (.bx true (SK X (wL m X) false 0)))] [] (by simp) ?_;simp;refine cf (NW m hm) ?_;simp;refine cd (NZ m X (aj2 m) hm (by omega) (by have:=hgr.1;omega) (fun t ht=>by have:=hgr.2 t ht;unfold YY at this;omega)) ?_;simp;first|exact hcA|exact hcA.symm|exact⟨hcA.symm,hcc.symm⟩|simp[hcA,hcc]
   ·simp at d;obtain rfl:e=true:=d;simp;first|exact hcA|exact hcA.symm|exact⟨hcA.symm,hcc.symm⟩|simp[hcA,hcc]
def OZ (m:L2)(cs:List Con)(hm:bR m)(hcs:Qle cs):fK prog 184 [cZ m,jN cs] (fun r'=>∃(c:Int) (e:Bool) (g:Int),r'= .tup [.own (SK (nK m cs) c e g),vB (eP m.length cs)]):=by
 refine fE [14] ntmps184 fun _ _=> ?_;have hml:=dN hm;simp;refine ck (UI m cs (by omega) (wY hm) hcs) ?_;simp[hm];apply gw<;>intro a
 ·simp at a;have hcA:nK m cs=[]:=if_neg (by simp[a]);have hcn:eP m.length cs=false:=by simpa using a
  simp[hcA,hcn]
 ·simp at a;have hcc:eP m.length cs:=by simpa using a
  have hcA:nK m cs=nR m cs:=if_pos hcc;have hac:=(iZ.1 hcc).1;have hsp:=JQ hm hac;simp[hcc];refine ai ?_;refine ck (R4 m cs hcs hm hac) ?_;simp;refine ck (O9 (dJ m cs) (by omega) (.inr hsp.2.1)) ?_;have hbs:∀v,v<(blocksP (dJ m cs)).length->OC m.length (gat (blocksP (dJ m cs)) v)/\1<=(gat (blocksP (dJ m cs)) v).length/\(gat (blocksP (dJ m cs)) v).length<=m.length:=fun v hv=>by have:=QX (isPart_iff.1 hsp.2.1).1 hv;rwa [hsp.2.2]at this
  have hcl:nR m cs=canon (ahG m cs (blocksP (dJ m cs))):=rfl;have hll:=Y8 m cs (blocksP (dJ m cs));have hbl:(blocksP (dJ m cs)).length<=m.length:=k_Nat_le_trans (blocksI (isPart_iff.1 hsp.2.1).1 (k_Nat_le_refl _)).len (Nat.le_of_eq hsp.2.2);generalize hbsg:blocksP (dJ m cs)=bs at hbs hcl hll hbl|-
  simp;refine wld [23] (Nat×L1×Bool) (fun(i,L,e)=>([(0,.val (cZ m)),(1,vC cs),(4,.own (.bx true (SK [] 0 false 0))),(6,.own (.bx true (SK L 0 e 0))),(23,.val (cZ bs)),(24,vI bs.length),(25,vI i)],bs.length-i,(i<=bs.length)/\(L=loopN i (List.replicate m.length 0) (FZ m cs bs)))) ((0,List.replicate m.length 0,true)) ⟨by omega,rfl⟩ ?_;rintro⟨i,L,e⟩ ⟨h1,h2⟩;simp;apply gw<;>intro b
  ·have hr:=af2 b;have hsel:=hbs i b;have hpt:=akM hm hcc hsel.1 hsel.2.1 hsel.2.2;have hok:=aiO hpt;have hLl:L.length=m.length:=by rw[h2,AL (QE m cs bs)];simp
   generalize hit:gat bs i=items at hr hsel hpt hok|-
   simp[hr];refine wtc 6 [32,35] ?_;simp;refine ck (WI m items hm hsel.1 (by omega)) ?_;simp;refine ck (FT cs items hcs (by omega)) ?_;have hsl:=hpt.len;have hrl:Qle (iM cs items):=by have:=aa7 cs items;omega
   have hpS:=aBY hpt;simp;refine ck (R5 (kN m items) (iM cs items) hpt.mat (by rw[hsl];exact hpt.con) hrl) ?_;simp[hpS];refine wlt (Nat×L1) (fun(j,L')=>([(0,.val (cZ m)),(1,vC cs),(4,.own (.bx true (SK [] 0 false 0))),(6,.own (.bx true (SK L' 0 e 0))),(7,vI i),(8,vN items),(23,.val (cZ bs)),(24,vI bs.length),(25,vI i),(36,vN (partOf m cs items)),(37,.val (dI (partOf m cs items).length)),(38,vI j)],items.length-j,(j<=items.length)/\(L'=loopN j L (acG items (partOf m cs items) i)))) ((0,L)) ⟨by omega,rfl⟩ ?_;rintro⟨j,L'⟩ ⟨h5,h6⟩;simp;apply gw<;>intro f
   ·have hg:=aY (l:=items) (i:=j);have hgx:=hsel.1.1 _ (aA hg);have hpl:j<(partOf m cs items).length:=by omega
    have hg2:=aY hpl;have hb2:=axU hok.2 j hpl;have hLl2:L'.length=m.length:=by rw[h6,AL fun k l=>by simp[acG]];exact hLl
    have hpu:acG items (partOf m cs items) i j L'=L'.set (at1 items j).toNat (i*8+at1 (partOf m cs items) j):=rfl;have hput:(L'.map dI).set (at1 items j).toNat (D.one (.int .i64 ((i:Int)*8+at1 (partOf m cs items) j)))=(acG items (partOf m cs items) i j L').map dI:=by rw[hpu,jA]
    have hb1:=(hok.2 j hpl).1;have ha0:0<=at1 items j:=hgx.1;obtain⟨u,hu⟩:=aR (l:=L') (i:=(at1 items j).toNat);generalize partOf m cs items=pp at*
    simp[hg2];refine wdt 11 ?_;simp[hg,hu,ha0,hput];refine nxd (j+1,acG items pp i j L') ⟨by omega,by rw[aM,←h6]⟩
   ·simp at f;obtain rfl:j=items.length:=by omega
    have hpA:FZ m cs bs i L=L':=by rw[FZ,hit,h6]
    simp;apply gv<;>intro g2
    ·have g2':=g2;simp[g2];refine ai ?_;refine nxc (i+1,L',decide ((items.length:Int)<=6)) [23] ⟨by omega,by rw[aM,←h2,hpA]⟩
    ·have g2':=g2;simp[g2];refine ai ?_;refine nxc (i+1,L',false) [23] ⟨by omega,by rw[aM,←h2,hpA]⟩
  ·simp at b;obtain rfl:i=bs.length:=by omega
   have hLc:canon L=nR m cs:=by rw[hcl,h2];rfl
   have hLl:L.length=m.length:=by rw[h2];exact hll
   have hcln:(nR m cs).length=m.length:=by rw[←hLc,pG,hLl]
   simp;refine ck (tH L (by omega)) ?_;simp[hLc];refine ck (kI m (nR m cs) hm hcln) ?_;generalize nR m cs=X at*
   simp;apply gw<;>intro d
   ·simp at d;simp;refine wdx [0,3] (.st 1 (.st 2 (.st 4 (.st 5 (.st 6 (.st 7 OT.fin OT.no) OT.no) OT.no) OT.no) (.st 4 (.st 2 (.st 5 (.st 6 (.st 7 OT.fin OT.no) OT.no) OT.no) OT.no) OT.no)) (.st 4 (.st 1 (.st 2 (.st 5 (.st 6 (.st 7 OT.fin OT.no) OT.no) OT.no) OT.no) OT.no) OT.no)) ?_;simp;refine⟨⟨?_,?_⟩,?_⟩
    ·repeat with_reducible refine ai ?_
     refine fG (wB m hm) (by simp) ?_;rintro r ⟨lT,rfl,hT1,hT2⟩;refine⟨by simp,?_⟩;simp;refine fG (wD m X lT hm (by omega) hT1 hT2) (by simp) ?_;rintro r ⟨gg,rfl⟩;refine⟨by simp,?_⟩;simp[hcc];grind
    ·repeat with_reducible refine ai ?_
     refine fG (wB m hm) (by simp) ?_;rintro r ⟨lT,rfl,hT1,hT2⟩;refine⟨by simp,?_⟩;simp;refine fG (wD m X lT hm (by omega) hT1 hT2) (by simp) ?_;rintro r ⟨gg,rfl⟩;refine⟨by simp,?_⟩;simp[hcc];grind
    ·repeat with_reducible refine ai ?_
     refine fG (wB m hm) (by simp) ?_;rintro r ⟨lT,rfl,hT1,hT2⟩;refine⟨by simp,?_⟩;simp;refine fG (wD m X lT hm (by omega) hT1 hT2) (by simp) ?_;rintro r ⟨gg,rfl⟩;refine⟨by simp,?_⟩;simp[hcc];grind
   ·simp at d;simp[hcc];grind
def rJ (r:List (List Tst))(hs:Qle r:=by first|omega|grind)(hr:∀l∈r,Qle l:=by first|omega|grind):Fk 116 [mU r] (vB (jH r)):=by
 refine fE [] ntmps116 fun _ _=> ?_;simp;refine wlt Nat (fun i=>([(1,.own (.bx true (mU r))),(3,vI i)],r.length-i,(i<=r.length)/\((r.take i).all jD=true))) (0) ⟨by omega,rfl⟩ ?_;rintro i ⟨h1,h2⟩;simp;apply gw<;>intro a
 ·obtain⟨c,hc⟩:=aR (l:=r) (i:=i);have hcl:=hr c (aA hc);simp[hc];refine wlt Nat (fun k=>([(1,.own (.bx true (mU r))),(3,vI i),(4,.val (.sl none (c.map uI))),(5,vI k)],c.length-k,(k<=c.length)/\((c.take k).all IW=true)/\(adj (fun a b=>decide (a.feature<b.feature)) (c.take k)=true))) (0) ⟨by omega,rfl,rfl⟩ ?_;rintro k ⟨h1k,h2k,h3k⟩;simp;apply gw<;>intro ak
  ·obtain⟨ck,hck⟩:=aR (l:=c) (i:=k);simp;refine wdr ?_;simp[hck];refine cd (bJ _ _ _) ?_;simp;apply gv<;>intro e
   ·have e':=e;simp at e';have hn:=fV hc (P:=jD) (by have:=fV hck (P:=IW) (by simp[IW];omega);simp[jD,this]);simp[e];grind[jH]
   ·have e':=e;simp at e';simp[hck,e];refine cd (bJ _ _ _) ?_;simp;apply gv<;>intro f
    ·have f':=f;simp at f';have hn:=fV hc (P:=jD) (by have:=fV hck (P:=IW) (by simp[IW];omega);simp[jD,this]);simp[f];grind[jH]
    ·have f':=f;simp at f';simp[f];apply gv<;>intro g
     ·have g':=g;obtain⟨p,hp⟩:=aR (l:=c) (i:=k-1);have hi1:k-1+1=k:=by omega
      simp[hck,g,hp];iterate 2 refine ai ?_
      apply gw<;>intro b
      ·have hn:=fV hc (P:=jD) (by have:=JV hp (by rw[hi1];exact hck) (R:=fun a b=>decide (a.feature<b.feature)) (by simp;omega);simp[jD,this]);simp;grind[jH]
      ·simp at b;simp;refine nxa (k+1) ⟨by omega,(bX hck h2k (by simp[IW];omega)),by have:=yZ (i:=k-1) (by rw[hi1];exact h3k) hp (by rw[hi1];exact hck) (by simp;omega);rwa [hi1]at this⟩
     ·have g':=g;simp at g';simp[g];refine nxa (k+1) ⟨by omega,(bX hck h2k (by simp[IW];omega)),(by obtain rfl:k=0:=(by omega);exact vW)⟩
  ·simp at ak;have hfk:=iX h2k ak;rw[bS ak]at h3k;simp;refine ck (bJ _ _ _) ?_;simp;apply gw<;>intro b
   ·simp at b;have hn:=fV hc (P:=jD) (by simp[jD,hfk,h3k];omega);simp;grind[jH]
   ·simp at b;simp;refine nxa (i+1) ⟨by omega,(bX hc h2 (by simp[jD,hfk,h3k];omega))⟩
 ·simp at a;have hf:=iX h2 a;simp;refine ck (bJ _ _ _) ?_;simp;grind[jH]
def NY (c:Cfg)(hs:Qle c.rules)(hr:∀l∈c.rules,Qle l)(hw:Qle c.sco.weights)(hv:Qle c.surv):Fk 91 [agZ c] (vB (kZ c)):=by
 refine fE [] ntmps91 fun _ _=> ?_;simp;refine ck (rJ _) ?_;simp;apply gv<;>intro g1
 ·have g1':=g1;simp[g1];refine ck (oP _) ?_;simp;apply gv<;>intro g2
  ·have g2':=g2;simp[g2];refine ck (J2 _) ?_;simp;grind[kZ]
  ·have g2':=g2;simp[g2];grind[kZ]
 ·have g1':=g1;simp[g1];grind[kZ]
def rM (s:Sto)(hs:Qle s.recs:=by first|omega|grind)(hr:∀r∈s.recs,DW r:=by first|omega|grind)(hv:Qle s.vers:=by first|omega|grind):Fk 48 [MS s] (vB (gN s)):=by
 refine fE [] ntmps48 fun _ _=> ?_;simp;refine wlt Nat (fun i=>([(1,.own (.bx true (MS s))),(3,vI i)],(s.recs).length-i,(i<=(s.recs).length)/\((s.recs.take i).all bG=true)/\(adj (fun a b=>decide (eG a<eG b)) (s.recs.take i)=true))) (0) ⟨by omega,rfl,rfl⟩ ?_;rintro i ⟨h1,h2,h3⟩;simp;apply gw<;>intro a
 ·obtain⟨c,hc⟩:=aR (l:=s.recs) (i:=i);simp;refine wdr ?_;simp[hc];refine cd (qQ _ (hr c (aA hc))) ?_;simp;apply gv<;>intro e
  ·have e':=e;simp at e';have hn:=fV hc (P:=bG) (by simpa using e);simp[e];grind[gN]
  ·have e':=e;simp at e';simp[e];apply gv<;>intro f
   ·have f':=f;obtain⟨p,hp⟩:=aR (l:=s.recs) (i:=i-1);have hi1:i-1+1=i:=by omega
    have hvp:bG p:=aI.1 h2 p (by apply aA (i:=i-1);rw[bC,if_pos (by omega)];exact hp);have hk1:inR p.source 0 3=true/\inR p.key 1 99:=by simp only[bG,k_Bool_and_eq_true]at hvp;exact⟨hvp.1.1.1.2,hvp.1.1.2⟩
    have hk2:inR c.source 0 3=true/\inR c.key 1 99:=by simp only[bG,k_Bool_and_eq_true]at e';exact⟨e'.1.1.1.2,e'.1.1.2⟩
    simp[f,hp];iterate 2 refine ai ?_
    refine cd (tO p hk1.1 hk1.2) ?_;simp[hc];refine cd (tO c hk2.1 hk2.2) ?_;simp;apply gw<;>intro b
    ·have hn:=JV hp (by rw[hi1];exact hc) (R:=fun a b=>decide (eG a<eG b)) (by simp;omega);simp;grind[gN]
    ·simp at b;simp;refine nxa (i+1) ⟨by omega,(bX hc h2 (by simpa using e)),by have:=yZ (i:=i-1) (by rw[hi1];exact h3) hp (by rw[hi1];exact hc) (by simp;omega);rwa [hi1]at this⟩
   ·have f':=f;simp at f';simp[f];refine nxa (i+1) ⟨by omega,(bX hc h2 (by simpa using e)),(by obtain rfl:i=0:=(by omega);exact vW)⟩
 ·simp at a;have hf:=iX h2 a;rw[bS a]at h3;simp;refine ck (bJ _ _ _) ?_;simp;apply gv<;>intro g1
  ·have g1':=g1;simp at g1';simp[g1];apply gv<;>intro g2
   ·have g2':=g2;simp[g2];refine ck (yK _) ?_;simp;grind[gN]
   ·have g2':=g2;simp at g2';simp[g2];grind[gN]
  ·have g1':=g1;simp at g1';simp[g1];grind[gN]
def zU (s:Sto)(hs:Qle s.recs)(hr:∀r∈s.recs,DW r)(hv:Qle s.vers)(hvs:gN s):Fk 20 [MS s] (wN (s.recs.map eG)):=by
 refine fE [] ntmps20 fun _ _=> ?_;simp;refine wl (fun(i:Nat)=>[(1,.own (.bx true (MS s))),(3,wN ((s.recs.take i).map eG)),(4,vI i)]) (fun(i:Nat)=>s.recs.length-i) (fun(i:Nat)=>(i<=s.recs.length)) (0) (by omega) ?_;rintro i h1;simp;apply gv<;>intro a
 ·have a':=a;simp[a];refine ck (rM _) ?_;obtain⟨c,hc⟩:=aR (l:=s.recs) (i:=i);have hvr:s.recs.all bG:=by simp only[gN,k_Bool_and_eq_true]at hvs;exact hvs.1.1.1.1
  have hvc:=aI.1 hvr c (aA hc);have hk:inR c.source 0 3=true/\inR c.key 1 99:=by simp only[bG,k_Bool_and_eq_true]at hvc;exact⟨hvc.1.1.1.2,hvc.1.1.2⟩
  have hm:=uA eG hc;simp[hvs,hc];refine ck (tO c hk.1 hk.2) ?_;simp;refine nxb (i+1) (by first|omega|(simp;omega)|grind) (h3:=by simp[hvs,hc,hm])
 ·have a':=a;simp at a';rw[bS (by simp;omega)];simp[a]
variable {out:List Ver}{c:Ver}
def aaO (h:out=[]):rF out c=out++[c]:=by subst h;rfl
def ad4 {p:Ver}(h:out[out.length-1]?=some p):rF out c=if p.a≠c.a\/p.b≠c.b then out++[c]else if p.time<c.time then out.set (out.length-1) c else out:=by unfold rF;rw[h]
def K6 (l:List Ver)(hs:Qle l)(hv:lC l):Fk 148 [nVers l] (wV (iD l)):=by
 refine fE [] ntmps148 fun _ _=> ?_;simp;refine wlt (Nat×List Ver) (fun(i,out)=>([(0,vV l),(3,wV out),(4,vI i)],l.length-i,(i<=l.length)/\(out=(l.take i).foldl rF [])/\(out.length<=i))) ((0,[])) ⟨by omega,rfl,by simp⟩ ?_;rintro⟨i,out⟩ ⟨h1,h2,h3⟩;simp;apply gv<;>intro a
 ·have a':=a;simp[a];refine ck (yK _) ?_;obtain⟨c,hc⟩:=aR (l:=l) (i:=i);have hm:=fH rF [] hc;rw[←h2]at hm;simp[hv];refine wdt 30 ?_;simp;apply gv<;>intro e
  ·have e':=e;have hm2:=aaO (c:=c) e;simp[hc,e];refine nxa (i+1,out++[c]) ⟨by omega,by rw[hm,hm2],by simp;omega⟩ (h3:=by simp[hv,hc,e])
  ·have e':=e;have hpos:0<out.length:=kJ.2 e;obtain⟨p,hp⟩:=aR (l:=out) (i:=out.length-1);have hm2:=ad4 (c:=c) hp;simp[hc,e,hp];iterate 2 refine ai ?_
   apply gv<;>intro f
   ·have f':=f;simp[hc,f];refine nxb (i+1,out++[c]) ⟨by omega,by rw[hm,hm2,if_pos (.inl f)],by simp;omega⟩
   ·have f':=f;simp[hc,hp,f];iterate 2 refine ai ?_
    apply gw<;>intro g
    ·simp[hc];refine nxb (i+1,out++[c]) ⟨by omega,by rw[hm,hm2,if_pos (.inr g)],by simp;omega⟩
    ·simp;refine wdt 12 ?_;simp[hc,hp,f];iterate 2 refine ai ?_
     apply gw<;>intro b
     ·simp[hc,hp,f];refine nxd (i+1,out.set (out.length-1) c) ⟨by omega,by rw[hm,hm2,if_neg (by simp_all),if_pos b],by simp;omega⟩
     ·simp at b;simp;refine nxa (i+1,out) ⟨by omega,by rw[hm,hm2,if_neg (by simp_all),if_neg (by omega)],by omega⟩
 ·have a':=a;simp at a';have hi:i=l.length:=by omega
  subst hi;rw[bV]at h2;simp[a];grind[iD]
def H5 (l:List Ver)(items:L1)(hs:Qle l:=by first|omega|grind)(hi:Qle items:=by first|omega|grind):Fk 157 [nVers l,nInts items] (vG (F7 l items)):=by
 refine fE [] ntmps157 fun _ _=> ?_;simp;refine wlt (Nat×List Con) (fun(i,out)=>([(0,vV l),(1,vN items),(5,vG out),(6,vI i)],l.length-i,(i<=l.length)/\(out=(l.take i).filterMap (IX items))/\(out.length<=i))) ((0,[])) ⟨by omega,rfl,by simp⟩ ?_;rintro⟨i,out⟩ ⟨h1,h2,h3⟩;simp;apply gw<;>intro a
 ·obtain⟨c,hc⟩:=aR (l:=l) (i:=i);have hm:=A9 (IX items) hc;rw[←h2]at hm;simp[hc];refine ck (oD _ _) ?_;simp[hc];refine ck (oD _ _) ?_;simp;apply gv<;>intro e
  ·have e':=e;simp[e];apply gw<;>intro b
   ·have hv:IX items c=some ⟨place items c.a,place items c.b,c.same⟩:=if_pos ⟨by omega,by omega⟩;simp[hc];refine nxb (i+1,out++[⟨place items c.a,place items c.b,c.same⟩]) ⟨by omega,by rw[hm,hv];rfl,by simp;omega⟩
   ·simp at b;have hv:IX items c=none:=if_neg (by rintro⟨h1,h2⟩;unfold place at h1 h2;omega);simp;refine nxa (i+1,out) ⟨by omega,by rw[hm,hv];simp,by omega⟩
  ·have e':=e;simp at e';have hv:IX items c=none:=if_neg (by rintro⟨h1,h2⟩;unfold place at h1 h2;omega);simp[e];refine nxa (i+1,out) ⟨by omega,by rw[hm,hv];simp,by omega⟩
 ·simp at a;rw[bS a]at h2;simp;grind[F7]
def KQ (l:List Ver)(hs:Qle l)(hv:lC l):Fk 262 [nVers l] (wV (iD l)):=by
 refine fE [] ntmps262 fun _ _=> ?_;simp;refine ck (FJ l) ?_;simp[hv];refine wlt (Nat×List Ver) (fun(i,out)=>([(3,wV out),(10,vV l),(11,vI l.length),(12,vI i)],l.length-i,(i<=l.length)/\(out=(l.take i).foldl rF [])/\(out.length<=i))) ((0,[])) ⟨by omega,rfl,by simp⟩ ?_;rintro⟨i,out⟩ ⟨h1,h2,h3⟩;simp;apply gw<;>intro a
 ·obtain⟨c,hc⟩:=aR (l:=l) (i:=i);have hm:=fH rF [] hc;rw[←h2]at hm;simp[hc];refine ai ?_;refine wdt 22 ?_;simp;apply gv<;>intro e
  ·have e':=e;have he:out=[]:=k_List_length_eq_zero_iff.1 (by omega);have hm2:=aaO (c:=c) he;simp[e];refine nxb (i+1,out++[c]) ⟨by omega,by rw[hm,hm2],by simp;omega⟩
  ·have e':=e;simp at e';have hpos:0<out.length:=by omega
   obtain⟨p,hp⟩:=aR (l:=out) (i:=out.length-1);have hm2:=ad4 (c:=c) hp;simp[e,hp];refine ai ?_;apply gv<;>intro f
   ·have f':=f;simp[f];refine nxb (i+1,out++[c]) ⟨by omega,by rw[hm,hm2,if_pos (.inl (by simpa using f))],by simp;omega⟩
   ·have f':=f;simp[hp,f];refine ai ?_;apply gw<;>intro g
    ·simp;refine nxb (i+1,out++[c]) ⟨by omega,by rw[hm,hm2,if_pos (.inr (by simpa using g))],by simp;omega⟩
    ·simp;refine wdt 8 ?_;simp[hp,f];refine ai ?_;apply gw<;>intro b
     ·simp[hp,f];refine nxb (i+1,out.set (out.length-1) c) ⟨by omega,by rw[hm,hm2,if_neg (by simp_all),if_pos b],by simp;omega⟩
     ·simp at b;simp;refine nxa (i+1,out) ⟨by omega,by rw[hm,hm2,if_neg (by simp_all),if_neg (by omega)],by omega⟩
 ·simp at a;rw[bS a]at h2;have ho:iD l=out:=h2.symm;simp[ho]
variable {α:Type}
def cfB (cf:α->α->Int)(v c:α):Bool:=decide (cf v c<0)
def srt (cf:α->α->Int)(l:List α)(i:Nat):List α:=kT (cfB cf) (l.take i)
def agC (cf:α->α->Int)(l:List α)(i:Nat):List α:=srt cf l i++l.drop i
def OA (cf:α->α->Int)(l:List α)(i j:Nat)(v:α):List α:=DX (cfB cf) l i j v
def at7 {cf:α->α->Int}{l:List α}{c:α}(h:(srt cf l i)[k]?=some c):c∈l:=by
 have h1:=(BH (cfB cf) (l.take i) []).mem_iff (a:=c);rw[iV]at h1;exact fI (h1.1 (aA h))
def apA (cf:α->α->Int)(l:List α):agC cf l 1=l:=by
 cases l with
 |nil=>rfl
 |cons x l=>rfl
def ao9 (cf:α->α->Int){l:List α}(h:l.length<=i):agC cf l i=kT (cfB cf) l:=by unfold agC srt;rw[k_List_take_of_length_le h,bO h,bZ]
def ai1 (f:α->D){cf:α->α->Int}{l:List α}{j:Nat}{v c:α}(hi:i<l.length)(hj:0<j/\j<=i)(hc:(srt cf l i)[j-1]?=some c):(((OA cf l i j v).map f).set j (f c)).set (j-1) (f v)=(OA cf l i (j-1) v).map f:=by
 rw[←List.map_set,←List.map_set];have:=aw8 (p:=cfB cf) (j:=j-1) (v:=v) hi (by omega) hc;rw[show j-1+1=j by omega]at this;exact congrArg _ this
def azA (l:List Ver)(cf:Ver->Ver->Int)(g:FuncId)(E:Dv.Enters prog g)(U:T (1000000+g)=⟨.no,0,.any 0⟩)(G:∀a∈l,∀b∈l,fK prog g [kH a,kH b] (fun r=>r=vI (cf a b)))(hl:Qle l):FO prog 376 [.one (.bool false),dI 0,dI l.length,.one (.func (.func g) #[] #[])] 0 (oVers l) (fun r d=>r= .tup []/\d=oVers (kT (cfB cf) l)):=by
 refine fM [] ntmps376 fun w0 ow0 v0=> ?_;have h00:=apA cf l;simp;refine ai ?_;refine wl (fun(i:Nat)=>[(0,wV (agC cf l i)),(1,vI 0),(2,vI l.length),(3,.val (.one (.func (.func g) #[] #[]))),(8,vI i)]) (fun(i:Nat)=>l.length-i) (fun(i:Nat)=>(1<=i/\i<=l.length+1)) (1) (by omega) ?_ (h0:=by simp[E,U,h00]);rintro i h1;simp;apply gw<;>intro a
 ·obtain⟨v,hv⟩:=aR (l:=l) (i:=i);have hin:OA cf l i i v=agC cf l i:=atZ (p:=cfB cf) hv;have hsl:=zV (p:=cfB cf) (l:=l) (i:=i);simp;refine wlt Nat (fun j=>([(0,wV (OA cf l i j v)),(1,vI 0),(2,vI l.length),(3,.val (.one (.func (.func g) #[] #[]))),(8,vI i),(9,vI j)],j,(j<=i)/\(∀k c,j<=k->(srt cf l i)[k]?=some c->cfB cf v c=true))) (i) ⟨by omega,(fun k c hk hc=>absurd (dF hc) (by unfold srt;omega))⟩ ?_ (h0:=by simp[E,U,h00,hin]);rintro j ⟨h2,h3⟩;have hnow:(OA cf l i j v)[j]?=some v:=ao7 a h2;simp;refine wdt 14 ?_;simp;apply gv<;>intro e
  ·have e':=e;obtain⟨c,hc⟩:=aR (l:=srt cf l i) (i:=j-1) (by unfold srt;omega);have hprev:(OA cf l i j v)[j-1]?=some c:=by have:=aiZ (p:=cfB cf) (v:=v) a (show j-1<i by omega) hc;rwa [show j-1+1=j by omega]at this
   have hj1:((j:Int)-1).toNat=j-1:=by omega
   have hsw:=ai1 kH (v:=v) a ⟨by omega,h2⟩ hc;have hs2:∀x:D,(((OA cf l i j v).map kH).set j x)[j-1]?=some (kH c):=fun x=>by rw[bK (by omega),aQ,hprev];rfl
   have hj2:(j:Int)-1=((j-1:Nat):Int):=by omega
   simp[E,U,e,hnow,hprev,hj2];refine ai ?_;refine ck ((G v (aA hv) c (at7 hc))) ?_;simp;apply gw<;>intro b
   ·simp;refine wdh [2,3] [(15,[51,46,0,37,39,42,45,47,49,50]),(17,[52,50,0,37,39,42,45,46,47,49,51])] [(0,wV (OA cf l i j v)),(1,vI 0),(2,vI l.length),(3,.val (.one (.func (.func g) #[] #[]))),(8,vI i),(9,vI j),(39,.al 0 []),(40,vI j)] [] ?_;simp[hnow,hprev,hsw,hs2,hj2];refine ai ?_;refine nx (j-1) ⟨by omega,(fun k c2 hk hc2=>by by_cases hkj:k=j-1;(subst hkj;rw[hc]at hc2;cases hc2;exact decide_eq_true b);exact h3 k c2 (by omega) hc2)⟩
   ·simp at b;have ho:OA cf l i j v=agC cf l (i+1):=YS hv h2 h3 (.inr ⟨c,hc,by unfold cfB;exact decide_eq_false (by omega)⟩);simp[ho];refine nxa (i+1) (by omega)
  ·have e':=e;simp at e';have ho:OA cf l i j v=agC cf l (i+1):=YS hv h2 h3 (.inl (by omega));simp[e,ho];refine nxa (i+1) (by omega)
 ·simp at a;have ho:=ao9 cf (l:=l) (i:=i) (by omega);simp[ho]
end Go.Proofs.YtnlkiflcbknaaaaGreatDoor
end
section
namespace Go.Proofs.YtnlkiflcbknaaaaGreatDoor
open Go.Dv Go.Pl Go.RowKit Go.Proofs.Tryz
def aaS (n:Nat)(hn:n<=1048576):fK prog 286 [.one (.int .u64 n)] (fun r=>r=vI (Lib.bitLen n)):=
 EG (u:= .int .i64 (Lib.bitLen n)) rfl fun w ow vs hL hs ha=>by
  obtain rfl:=Y3 hs ha;have:=Tryz.bits_Len n w (by omega) (by omega);exact this.mono fun e w' h=>⟨h.1,h.2▸Below.refl _ _⟩
def avR (l:List Ver)(cf:Ver->Ver->Int)(g:FuncId)(E:Dv.Enters prog g)(U:T (1000000+g)=⟨.no,0,.any 0⟩)(G:∀a∈l,∀b∈l,fK prog g [kH a,kH b] (fun r=>r=vI (cf a b)))(hl:l.length<=12):FO prog 323 [.one (.bool false),dI l.length,.one (.func (.func g) #[] #[])] 0 (oVers l) (fun r d=>r= .tup []/\d=oVers (kT (cfB cf) l)):=by
 refine fM [] ntmps323 fun w0 ow0 v0=> ?_;have hlt:¬(20:Int)<=l.length:=by omega
 have hlt2:¬(20:Int)<l.length:=by omega
 simp;refine wl (fun(i:Nat)=>[(0,wV l),(1,vI l.length),(2,.val (.one (.func (.func g) #[] #[]))),(6,vI 20),(7,vI 0),(8,vI 20)]) (fun(i:Nat)=>0) (fun(i:Nat)=>(i=0)) (0) (rfl) ?_;rintro i h1;simp[hlt];refine gY rfl (azA l cf g E U G (by omega)) ?_;rintro r d ⟨rfl,rfl⟩;simp;refine wl (fun(j:Nat)=>[(0,wV (kT (cfB cf) l)),(1,vI l.length),(2,.val (.one (.func (.func g) #[] #[]))),(6,vI 20)]) (fun(j:Nat)=>0) (fun(j:Nat)=>(j=0)) (0) (rfl) ?_;rintro j h2;simp[hlt2]
def aq0 (l:List Ver)(cf:Ver->Ver->Int)(g:FuncId)(E:Dv.Enters prog g)(U:T (1000000+g)=⟨.no,0,.any 0⟩)(G:∀a∈l,∀b∈l,fK prog g [kH a,kH b] (fun r=>r=vI (cf a b)))(hl:l.length<=12):FO prog 263 [.one (.bool false),.one (.func (.func g) #[] #[])] 0 (oVers l) (fun r d=>r= .tup []/\d=oVers (kT (cfB cf) l)):=by
 refine fM [] ntmps263 fun w0 ow0 v0=> ?_;simp;refine gY rfl (avR l cf g E U G hl) ?_;rintro r d ⟨rfl,rfl⟩;simp
def aG5 (l:List Ver)(k:Int)(cf:Ver->Ver->Int)(g:FuncId)(E:Dv.Enters prog g)(U:T (1000000+g)=⟨.no,0,.any 0⟩)(G:∀a∈l,∀b∈l,fK prog g [kH a,kH b] (fun r=>r=vI (cf a b)))(hl:l.length<=12):FO prog 327 [.one (.bool false),dI 0,dI l.length,dI k,.one (.func (.func g) #[] #[])] 0 (oVers l) (fun r d=>r= .tup []/\d=oVers (kT (cfB cf) l)):=by
 refine fM [] ntmps327 fun w0 ow0 v0=> ?_;simp;refine wl (fun(i:Nat)=>[(0,wV l),(1,vI 0),(2,vI l.length),(3,vI k),(4,.val (.one (.func (.func g) #[] #[])))]) (fun(i:Nat)=>0) (fun(i:Nat)=>(i=0)) (0) (rfl) ?_;rintro i h1;have hlt:(l.length:Int)<=12:=by omega
 simp[hlt];refine ai ?_;refine gY rfl (azA l cf g E U G (by omega)) ?_;rintro r d ⟨rfl,rfl⟩;simp
def amN (l:List Ver)(cf:Ver->Ver->Int)(g:FuncId)(E:Dv.Enters prog g)(U:T (1000000+g)=⟨.no,0,.any 0⟩)(G:∀a∈l,∀b∈l,fK prog g [kH a,kH b] (fun r=>r=vI (cf a b)))(hl:l.length<=12):FO prog 268 [.one (.bool false),.one (.func (.func g) #[] #[])] 0 (oVers l) (fun r d=>r= .tup []/\d=oVers (kT (cfB cf) l)):=by
 refine fM [] ntmps268 fun w0 ow0 v0=> ?_;have hw:IntKind.u64.wrap (l.length:Int)=l.length:=by simp[IntKind.wrap,IntKind.bits,IntKind.signed];omega
 simp[hw];refine ck (aaS l.length (by omega)) ?_;simp;refine gY rfl (aG5 l (Lib.bitLen l.length) cf g E U G hl) ?_;rintro r d ⟨rfl,rfl⟩;simp
def KW (a b:Ver):Fk 264 [kH a,kH b] (vI (cmpI b.time a.time)):=by
 refine fE [] ntmps264 fun _ _=> ?_;simp;refine ck (pW _ _) ?_;simp
def ajL (l:List Ver):kT (cfB fun a b:Ver=>cmpI b.time a.time) l=uL l:=by
 have:(cfB fun a b:Ver=>cmpI b.time a.time)=DT:=by
  funext v u;unfold cfB DT cmpI;rw[bQ,decide_eq_true_eq,decide_eq_true_eq];show(if u.time<v.time then(-1:Int)else if u.time>v.time then 1 else 0)<0↔_;split
  ·exact⟨fun _=>by assumption,fun _=>by omega⟩
  ·rename_i h1;constructor
   ·intro h;split at h<;>omega
   ·intro h;exact absurd h h1
 unfold kT uL;rw[this]
def TI (l:List Ver):kT (cfB gX) l=iK l:=by
 have:cfB gX=tY:=by
  funext v u;unfold cfB tY;rw[bQ,decide_eq_true_eq,decide_eq_true_eq,OQ];omega
 unfold kT iK;rw[this]
end Go.Proofs.YtnlkiflcbknaaaaGreatDoor
end
section
namespace Go
def xC:= @List.map_replicate
end Go
end
section
namespace Go.Proofs.YtnlkiflcbknaaaaGreatDoor
open Go.Dv Go.Pl Go.RowKit Go.Proofs.Tryz
def lk0 (i:Nat):L1:=(List.range i).map (fun(k:Nat)=>(k:Int))++List.replicate (400-i) 0
def aAF:lk0 0=List.replicate 400 0:=rfl
def aEK:lk0 400=BM:=by simp[lk0,BM]
variable {i:Nat}
def akC (h:i<=400:=by omega):(lk0 i).length=400:=by simp[lk0];omega
def aEM (h:i<400):((lk0 i).map dI).set i (dI (i:Int))=(lk0 (i+1)).map dI:=by
 rw[←List.map_set];congr 1;unfold lk0;rw[gZ _ _ (by simp),show(List.map (fun(k:Nat)=>(k:Int)) (List.range i)).length=i by simp,cO,show 400-i=(400-(i+1))+1 by omega,fU,eF,dY,eB,bH];rfl
def aEL (h:i<400):(lk0 i)[i]?=some 0:=by
 unfold lk0;rw[aN (by simp),show(List.map (fun(k:Nat)=>(k:Int)) (List.range i)).length=i by simp,cO,show 400-i=(400-(i+1))+1 by omega,fU];rfl
def lkm (o:L1)(f:Int->Int)(k:Nat):L1:=(o.take k).map f++o.drop k
def atK (o:L1)(f:Int->Int)(k:Nat):(lkm o f k).length=o.length:=by simp[lkm];omega
variable {o:L1}{f:Int->Int}{k:Nat}
def aAG (h:k<o.length):(lkm o f k)[k]?=some (at1 o k):=by
 unfold lkm;rw[aN (by simp;omega),aK,dE,fP (by omega),cO,dV,kM];exact aY h
def atL (h:k<o.length):(lkm o f k).set k (f (at1 o k))=lkm o f (k+1):=by
 have hg:=aY h;unfold lkm;have hd:o.drop k=at1 o k::o.drop (k+1):=by rw[aX h];rw[aB h]at hg;rw[k_Option_some_inj hg]
 rw[gZ _ _ (by simp;omega),aK,dE,fP (by omega),cO,hd,eF,dM hg,eB,bH];rfl
def aAH (h:k<o.length)(hf:f (at1 o k)=at1 o k):lkm o f k=lkm o f (k+1):=by
 rw[←atL h,hf];apply kC;intro m;by_cases hm:k=m
 ·subst hm;rw[aAG h,bE (by rw[atK];exact h)]
 ·rw[bK hm]
def aAI (o:L1)(f:Int->Int):lkm o f 0=o:=rfl
def aEN (f:Int->Int):lkm o f o.length=o.map f:=by simp[lkm]
def vU (l:L1)(i:Nat):D.ws (List.take i (l.map dI))=min i l.length:=by
 have h:∀l:L1,D.ws (l.map dI)=l.length:=fun l=>by
  induction l with
  |nil=>rfl
  |cons x l ih=>simp only[fC,D.ws,D.w,ih,aS];omega
 rw[←List.map_take,h,dE]
def akB (o:L1)(v:Ver):(vM o v).length=o.length:=by unfold vM;split<;>simp
def PD (l:List Ver)(hl:Qle l)(hv:∀v∈l,inT v.a/\inT v.b):Fk 284 [nVers l] (.val (.agg ((kG l).map dI))):=by
 refine fE [] ntmps284 fun _ _=> ?_;have hz:List.replicate 400 (dI 0)=(lk0 0).map dI:=by rw[aAF,xC]
 simp[hz];refine wl (fun(i:Nat)=>[(0,vV l),(2,.own (.bx true (.agg ((lk0 0).map dI)))),(3,.own (.bx true (.agg ((lk0 i).map dI)))),(10,vI i)]) (fun(i:Nat)=>400-i) (fun(i:Nat)=>(i<=400)) (0) (by omega) ?_;rintro i h1;simp;apply gw<;>intro a
 ·have hlen:=akC (i:=i);have hs:=aEM (i:=i) (by omega);have hg:=aEL (i:=i) (by omega);have hws:D.ws (List.take i ((lk0 i).map dI))=i:=by rw[vU,hlen];omega
  simp[hz,hs,hg,hws];refine nxb (i+1) (by omega)
 ·simp at a;obtain rfl:i=400:=by omega
  have hall:=aEK;simp[hall];refine wlt (Nat×L1) (fun(j,o)=>([(0,vV l),(2,.own (.bx true (.agg ((lk0 0).map dI)))),(3,.own (.bx true (.agg (o.map dI)))),(17,vV l),(18,vI l.length),(19,vI j)],l.length-j,(j<=l.length)/\(o=(l.take j).foldl vM BM)/\(o.length=400))) ((0,BM)) ⟨by omega,rfl,aAE.len⟩ ?_;rintro⟨j,o⟩ ⟨h2,h3,h4⟩;simp;apply gw<;>intro b
  ·obtain⟨c,hc⟩:=aR (l:=l) (i:=j);have hcv:=hv c (aA hc);have hA:=aY (l:=o) (i:=c.a.toNat) (by have:=hcv.1.2;have:=hcv.1.1;omega);have hB:=aY (l:=o) (i:=c.b.toNat) (by have:=hcv.2.2;have:=hcv.2.1;omega);have hm:=fH vM BM hc;rw[←h3]at hm;simp[hc];apply gw<;>intro d
   ·simp at d;simp;refine nxa (j+1,o) ⟨by omega,by rw[hm];exact(if_neg (by simp[d])).symm,h4⟩
   ·simp at d;obtain⟨A,hAe⟩:∃A,at1 o c.a.toNat=A:=⟨_,rfl⟩;obtain⟨B,hBe⟩:∃B,at1 o c.b.toNat=B:=⟨_,rfl⟩;rw[hAe]at hA;rw[hBe]at hB;have hz2:=aAI o (qW A B);have h90:=hcv.1.1;have h91:=hcv.1.2;have h92:=hcv.2.1;have h93:=hcv.2.2;have hwA:D.ws (List.take c.a.toNat (o.map dI))=c.a.toNat:=by rw[vU,h4];omega
    have hwB:D.ws (List.take c.b.toNat (o.map dI))=c.b.toNat:=by rw[vU,h4];omega
    have hA2:=(aD.1 hA).2;have hB2:=(aD.1 hB).2;simp;refine wdr ?_;simp[hz,hA2,hB2,h4,h90,h91,h92,h93,hwA,hwB];refine wl (fun(k:Nat)=>[(0,vV l),(2,.own (.bx true (.agg ((lk0 0).map dI)))),(3,.own (.bx true (.agg ((lkm o (qW A B) k).map dI)))),(7,vI A),(8,vI B),(17,vV l),(18,vI l.length),(19,vI j),(34,vI k)]) (fun(k:Nat)=>400-k) (fun(k:Nat)=>(k<=400)) (0) (by omega) ?_ (h0:=by simp[hz,hall,hc,hA2,hB2,hz2,h4,h90,h91,h92,h93,hwA,hwB]);rintro k h5;simp;apply gw<;>intro e
    ·have hkl:k<o.length:=by omega
     have hg:=aAG (f:=qW A B) hkl;have hlen:(lkm o (qW A B) k).length=400:=by rw[atK];exact h4
     have hws:D.ws (List.take k ((lkm o (qW A B) k).map dI))=k:=by rw[vU,hlen];omega
     obtain⟨z,hze⟩:∃z,at1 o k=z:=⟨_,rfl⟩;have hset:=atL (f:=qW A B) hkl;have hsame:=aAH (f:=qW A B) hkl;rw[hze]at hg hset hsame;simp[hz,hg,hws];refine ai ?_;apply gw<;>intro g
     ·have hf:qW A B z=min A B:=if_pos g;have hst:((lkm o (qW A B) k).map dI).set k (dI (min A B))=(lkm o (qW A B) (k+1)).map dI:=by rw[←List.map_set,←hf,hset]
      simp[hz,hg,hws,hst];refine nxb (k+1) (by omega)
     ·have hs2:=(hsame (if_neg g)).symm;simp;refine nxa (k+1) (by omega) (h3:=by simp[hz,hall,h4,hg,hlen,hws,hs2])
    ·simp at e;obtain rfl:k=400:=by omega
     have hall:lkm o (qW A B) 400=o.map (qW A B):=by rw[←h4];exact aEN _
     have hls:vM o c=o.map (qW A B):=by unfold vM;rw[if_pos (by simpa using d),hAe,hBe]
     simp[hall];refine nxa (j+1,o.map (qW A B)) ⟨by omega,by rw[hm,hls],by rw[aK];exact h4⟩
  ·simp at b;have hr:kG l=o:=by rw[h3,k_List_take_of_length_le (by omega)];rfl
   have hws4:D.ws (o.map dI)=400:=by have:=vU o 400;rw[k_List_take_of_length_le (by (try unfold Qle);rw[aK];omega),h4]at this;simpa using this
   have hws5:D.ws ((lk0 0).map dI)=400:=by have:=vU (lk0 0) 400;rw[k_List_take_of_length_le (by (try unfold Qle);rw[aK,akC];omega),akC]at this;simpa using this
   clear h3;simp[hz,hr,hws4,hws5];grind
def asV (h:o.length=400){x:Int}(hx:inT x):o[x.toNat]?=some (at1 o x.toNat):=aY (by have:=hx.2;have:=hx.1;omega)
def EN (l:List Ver):(kG l).length=400:=by
 have:∀(l:List Ver) (o:L1),o.length=400->(l.foldl vM o).length=400:=fun l=>by
  induction l with
  |nil=>exact fun o h=>h
  |cons v l ih=>exact fun o h=>ih _ (by rw[akB];exact h)
 exact this l _ (by simp[BM])
def adV (o:L1)(v:Ver):Bool:= !v.same&&decide (at1 o v.a.toNat=at1 o v.b.toNat)
def abP (o:L1)(v:Ver)(ho:o.length=400)(hv:inT v.a/\inT v.b):Fk 326 [kH v,.bx false (.agg (o.map dI))] (vB (adV o v)):=by
 refine fE [] ntmps326 fun _ _=> ?_;have hA:=asV ho hv.1;have hB:=asV ho hv.2;have h0:=hv.1.1;have h1:=hv.1.2;have h2:=hv.2.1;have h3:=hv.2.2;have hwA:D.ws (List.take v.a.toNat (o.map dI))=v.a.toNat:=by rw[vU,ho];omega
 have hwB:D.ws (List.take v.b.toNat (o.map dI))=v.b.toNat:=by rw[vU,ho];omega
 simp;refine wdt 14 ?_;simp;apply gv<;>intro e
 ·have e':=e;simp at e';simp[ho,h0,h1,h2,h3,hwA,hwB,e];grind[adV]
 ·have e':=e;simp at e';simp[e];grind[adV]
def aqZ (l:List Ver)(p:Ver->Bool)(g:FuncId)(b:Nat)(d:D)(F:d.fz=d)(E:Dv.Enters prog g)(U:T (1000000+g)=⟨.no,0,.any 0⟩)(G:∀c∈l,fK prog g [kH c,.bx false d] (fun r=>r=vB (p c)))(hl:Qle l):yY prog 346 [nVers l,.one (.func (.func g) #[] #[.pointer (some ⟨b,0,none⟩)])] [(b,d)] (fun res'=>res'=vI (ix p l)):=by
 refine fB [] ntmps346 fun _ _=> ?_;simp;refine wlt Nat (fun i=>([(0,vV l),(1,.val (.one (.func (.func g) #[] #[.pointer (some ⟨b,0,none⟩)]))),(7,vI l.length),(8,vI i),(1000000+2*b,.rp (d))],l.length-i,(i<=l.length)/\((l.take i).any p=false))) (0) ⟨by omega,rfl⟩ ?_;rintro i ⟨h1,h2⟩;simp;apply gw<;>intro a
 ·obtain⟨c,hc⟩:=aR (l:=l) (i:=i);simp[E,U,F,hc];refine ck ((G c (aA hc))) ?_;simp;apply gw<;>intro e
  ·have hn:=CK hc h2 (by simp[e]);simp[hn]
  ·simp;refine nxa (i+1) ⟨by omega,(kL hc h2 (by simp[e]))⟩
 ·simp at a;have hf:=oL h2 a;have hx:=rQ hf;simp[hx]
def avM (l:List Ver)(p:Ver->Bool)(g:FuncId)(b:Nat)(d:D)(F:d.fz=d)(E:Dv.Enters prog g)(U:T (1000000+g)=⟨.no,0,.any 0⟩)(G:∀c∈l,fK prog g [kH c,.bx false d] (fun r=>r=vB (p c)))(hl:Qle l):yY prog 325 [nVers l,.one (.func (.func g) #[] #[.pointer (some ⟨b,0,none⟩)])] [(b,d)] (fun res'=>res'=vB (l.any p)):=by
 refine fB [] ntmps325 fun _ _=> ?_;have hq:decide (0<=ix p l)=l.any p:=by rw[bQ,decide_eq_true_eq];exact jB
 simp[F];refine ckB (aqZ l p g b d F E U G hl) ?_;simp[hq]
def agP (l:List Ver)(hl:Qle l)(hv:∀v∈l,inT v.a/\inT v.b):Fk 266 [nVers l] (vB (adW l)):=by
 refine fE [] ntmps266 fun _ _=> ?_;simp;refine ck (PD l hl hv) ?_;have hF:(D.agg ((kG l).map dI)).fz=D.agg ((kG l).map dI):=by simp[D.fz,D.jP]
 have hcl:l.any (adV (kG l))=adW l:=rfl;have hws:D.ws ((kG l).map dI)=400:=by have:=vU (kG l) 400;rw[k_List_take_of_length_le (by (try unfold Qle);rw[aK,EN];omega),EN]at this;simpa using this
 have hll:=EN l;simp[hws,hll];intro b;refine ckB (avM l (adV (kG l)) 326 b (.agg ((kG l).map dI)) hF aIX aJC (fun c hc=>abP (kG l) c (EN l) (hv c hc)) hl) ?_;simp[hcl]
end Go.Proofs.YtnlkiflcbknaaaaGreatDoor
end
section
namespace Go.Proofs.YtnlkiflcbknaaaaGreatDoor
open Go.Dv Go.Pl Go.Proofs.Tryz
abbrev aHF (l:L2):D:= .sl (some 25) (l.map nInts)
variable {g:L2}
def azS (hg:∀l∈g,Qle l)(i:Nat):Qle (gat g i):=by
 unfold gat;rw[aC];cases h:g[i]? with
 |none=>simp
 |some r=>exact hg r (aA h)
def amZ (g:L2)(x:Int): -1<=eX g x/\(eX g x<g.length\/eX g x= -1):=by
 have:=az4 (grp x) g;unfold eX;omega
def NG (g:L2)(x y:Int)(hs:Qle g)(hg:∀l∈g,Qle l):Fk 150 [cZ g,dI x,dI y] (.val (cZ (oZ g x y))):=by
 refine fE [33,35,100000] ntmps150 fun _ _=> ?_;simp;refine ck (pJ _ _ hs hg) ?_;simp;refine ck (pJ _ _ hs hg) ?_;have hA1:=amZ g x;have hB1:=amZ g y;generalize hA:eX g x=A at hA1|-
 generalize hB:eX g y=B at hB1|-
 simp;refine wlt (Nat×L2) (fun(i,o)=>([(0,.val (cZ g)),(1,vI x),(2,vI y),(7,.own (bT [x])),(8,.own (bT [y])),(9,.own (aHF o)),(10,vI A),(11,vI B),(12,vI i)],g.length-i,(i<=g.length)/\(o=loopN i ([]) ((fun i o=>if(i:Int)≠A/\(i:Int)≠B then o++[gat g i]else o)))/\(o.length<=i))) ((0,[])) ⟨by omega,rfl,by simp⟩ ?_;rintro⟨i,o⟩ ⟨h1,h2,h3⟩;simp;apply gw<;>intro a
 ·have hs:=aM i ([]) ((fun i o=>if(i:Int)≠A/\(i:Int)≠B then o++[gat g i]else o));rw[←h2]at hs;obtain⟨c,hc⟩:=aR (l:=g) (i:=i);have hc2:=BG hc;simp;apply gv<;>intro e
  ·have e':=e;simp[e];apply gw<;>intro f
   ·simp[hc];refine nxb (i+1,o++[c]) ⟨by omega,by rw[hs,if_pos ⟨e,f⟩,hc2],by simp;omega⟩
   ·simp;refine nxa (i+1,o) ⟨by omega,by rw[hs,if_neg (by omega)],by omega⟩
  ·have e':=e;simp[e];refine nxa (i+1,o) ⟨by omega,by rw[hs,if_neg (by omega)],by omega⟩ (h3:=by simp[hc,e])
 ·simp at a;have hi:g.length=i:=by omega
  subst hi;have hr:o=zB g A B:=h2;simp;refine auS (fun(_:Unit)=>[(0,.val (cZ g)),(2,vI y),(7,vN (if 0<=A then gat g A.toNat else[x])),(8,.own (bT [y])),(9,.own (aHF o)),(10,vI A),(11,vI B)]) (fun(_:Unit)=>True) ?_ ?_
  ·simp;apply gw<;>intro b
   ·obtain⟨c,hc⟩:=aR (l:=g) (i:=A.toNat);have hc2:=BG hc;simp[hc,b];refine jnc (()) [7] trivial (h3:=by simp[hc,hc2,b])
   ·simp at b;have b':¬0<=A:=by omega
    simp[b'];refine jnc (()) [7] trivial (h3:=by simp[b'])
  rintro⟨⟩ -
  refine QU (fun(_:Unit)=>[(7,vN (if 0<=A then gat g A.toNat else[x])),(8,vN (if 0<=B then gat g B.toNat else[y])),(9,.own (aHF o)),(10,vI A),(11,vI B)]) (fun(_:Unit)=>True) ?_ ?_
  ·simp;apply gw<;>intro b
   ·obtain⟨c,hc⟩:=aR (l:=g) (i:=B.toNat);have hc2:=BG hc;simp[hc,b];refine jnc (()) [8] trivial (h3:=by simp[hc,hc2,b])
   ·simp at b;have b':¬0<=B:=by omega
    simp[b'];refine jnc (()) [8] trivial (h3:=by simp[b'])
  rintro⟨⟩ -
  have hLl:Qle (if 0<=A then gat g A.toNat else[x]):=by split;(exact azS hg _);simp
  have hRl:Qle (if 0<=B then gat g B.toNat else[y]):=by split;(exact azS hg _);simp
  generalize hL:(if 0<=A then gat g A.toNat else[x])=L at hLl|-
  generalize hR:(if 0<=B then gat g B.toNat else[y])=R at hRl|-
  simp;apply gv<;>intro e
  ·have e':=e;simp[e];apply gw<;>intro f
   ·simp;refine ai ?_;refine jX [] (dK 6) ?_;have hj:oZ g x y=o++[L]:=by rw[oZ,hA,hB,if_pos ⟨e,f⟩,hr,←hL,if_pos e]
    simp;simp[hj]
   ·simp;iterate 3 refine ai ?_
    refine jX [] (dK 6) ?_;have hj:oZ g x y=o++[L++R]:=by rw[oZ,hA,hB,if_neg (by simp[f]),hr,←hL,←hR]
    simp;simp[hj]
  ·have e':=e;simp at e';simp[e];iterate 3 refine ai ?_
   refine jX [] (dK 6) ?_;have hj:oZ g x y=o++[L++R]:=by rw[oZ,hA,hB,if_neg (by simp[e]),hr,←hL,←hR]
   simp;simp[hj]
variable {m:Nat}
def XR (hg:∀l∈g,l.length<=m)(i:Nat):(gat g i).length<=m:=by
 unfold gat;rw[aC];cases h:g[i]? with
 |none=>simp
 |some r=>exact hg r (aA h)
def agU (hg:∀l∈g,l.length<=m)(a b:Int):(zB g a b).length<=g.length/\∀l∈zB g a b,l.length<=m:=by
 refine loopN_inv (fun n (o:L2)=>o.length<=n/\∀l∈o,l.length<=m) (by simp) fun i o _ ho=> ?_;split
 ·refine⟨by simp;omega,fun l hl=> ?_⟩;rcases k_List_mem_append.1 hl with h|h
  ·exact ho.2 l h
  ·obtain rfl:l=gat g i:=by simpa using h
   exact XR hg i
 ·exact⟨by omega,ho.2⟩
def ae9 (hm:1<=m)(hg:∀l∈g,l.length<=m)(x y:Int):(oZ g x y).length<=g.length+1/\∀l∈oZ g x y,l.length<=2*m:=by
 have hr:=agU hg (eX g x) (eX g y);unfold oZ;split
 ·refine⟨by simp;omega,fun l hl=> ?_⟩;rcases k_List_mem_append.1 hl with h|h
  ·have:=hr.2 l h;omega
  ·obtain rfl:l=gat g (eX g x).toNat:=by simpa using h
   have:=XR hg (eX g x).toNat;omega
 ·refine⟨by simp;omega,fun l hl=> ?_⟩;rcases k_List_mem_append.1 hl with h|h
  ·have:=hr.2 l h;omega
  ·have e:l=_:=k_List_mem_singleton.1 h;subst e;have h1:=XR hg (eX g x).toNat;have h2:=XR hg (eX g y).toNat;have h3:(if 0<=eX g x then gat g (eX g x).toNat else[x]).length<=m:=by split;(exact h1);(simpa using hm)
   have h4:(if 0<=eX g y then gat g (eX g y).toNat else[y]).length<=m:=by split;(exact h2);(simpa using hm)
   rw[aP];omega
variable {items:L1}{i k:Nat}
def aoG (hk:k<items.length)(hik:i<k)(he:eX g (at1 items k)=eX g (at1 items i))(hno:∀j,i<j->j<k->eX g (at1 items j)≠eX g (at1 items i)):P9 g items i=some k:=by
 unfold P9;rw[qH];refine⟨by simp[hik,he],by simpa using hk,fun j hj=> ?_⟩;by_cases hij:i<j
 ·simp[hno j hij hj]
 ·simp[hij]
def aoF (hno:∀j,i<j->j<items.length->eX g (at1 items j)≠eX g (at1 items i)):P9 g items i=none:=by
 unfold P9;rw[xB];intro j hj;have hj:=bB.1 hj;by_cases hij:i<j
 ·simp[hno j hij hj]
 ·simp[hij]
def KE (g:L2)(items:L1)(k:Nat):List Con:=(List.range k).flatMap (sV g items)
def ao4 (g:L2)(items:L1):KE g items 0=[]:=rfl
def abC (g:L2)(items:L1)(k:Nat):KE g items (k+1)=KE g items k++sV g items k:=by simp[KE,dY]
def ar7 (g:L2)(items:L1)(k:Nat):(KE g items k).length<=k:=by
 induction k with
 |zero=>simp[KE]
 |succ k ih=>have:=abB g items k;rw[abC,aP];omega
variable {l:List Ver}{c:Ver}
def VC (h:l[i]?=some c):vP (l.take (i+1))=vP (l.take i)++if c.same then[c]else[]:=zZ _ h
def TP (h:l[i]?=some c):apart (l.take (i+1))=apart (l.take i)++if !c.same then[c]else[]:=zZ _ h
def ab8 (kept:List Ver)(items:L1)(hk:kept.length<=8)(hi:items.length<=8):Fk 94 [nVers kept,nInts items] (vG (nZ kept items)):=by
 refine fE [] ntmps94 fun _ _=> ?_;have hs0:vP []=[]:=rfl;have ha0:apart []=[]:=rfl;simp;refine wlt Nat (fun i=>([(0,vV kept),(1,vN items),(5,wV (vP (kept.take i))),(6,wV (apart (kept.take i))),(7,vI i)],kept.length-i,(i<=kept.length)/\((vP (kept.take i)).length<=8/\(apart (kept.take i)).length<=8))) (0) ⟨by simp,by simp[hs0,ha0]⟩ ?_ (h0:=by simp[hs0,ha0]);rintro i ⟨h1,h2⟩;simp;apply gw<;>intro a
 ·obtain⟨c,hc⟩:=aR (l:=kept) (i:=i);have h1f:=VC hc;have h2f:=TP hc;have hms:(vP (kept.take (i+1))).length<=8:=k_Nat_le_trans (bN _ _) (by simp;omega);have hma:(apart (kept.take (i+1))).length<=8:=k_Nat_le_trans (bN _ _) (by simp;omega);simp[hc];apply gw<;>intro b
  ·simp only[b,Bool.not_true,dR,if_true,if_false,bZ]at h1f h2f;simp[hc];refine nxb (i+1) ⟨by omega,(⟨hms,hma⟩)⟩ (h3:=by simp[hs0,ha0,hc,h1f,h2f])
  ·simp only[b,xQ,dR,if_true,if_false,bZ]at h1f h2f;simp[hc];refine nxb (i+1) ⟨by omega,(⟨hms,hma⟩)⟩ (h3:=by simp[hs0,ha0,hc,h1f,h2f])
 ·simp at a;obtain rfl:i=kept.length:=by omega
  have hms:(vP kept).length<=8:=k_Nat_le_trans (bN _ _) hk;have hma:(apart kept).length<=8:=k_Nat_le_trans (bN _ _) hk;rw[bV];generalize hM:vP kept=M at*
  generalize hA:apart kept=A at*
  simp;refine wld [8] (Nat×L2) (fun(i,g)=>([(0,vV kept),(1,vN items),(5,wV M),(6,wV A),(8,.val (cZ g)),(9,vI i)],M.length-i,(i<=M.length)/\(g=(M.take i).foldl (fun g v=>oZ g v.a v.b) [])/\(g.length<=i/\∀l∈g,l.length<=2^i))) ((0,[])) ⟨by omega,rfl,by simp⟩ ?_;rintro⟨i,g⟩ ⟨h1m,h2m,h3m⟩;simp;apply gw<;>intro am
  ·obtain⟨cm,hcm⟩:=aR (l:=M) (i:=i);have hm:=fH (fun g v=>oZ g v.a v.b) [] hcm;rw[←h2m]at hm;have hp:2^i<=256:=k_Nat_le_trans (jU (by omega) (show i<=8 by omega)) (by decide);have hp2:2^(i+1)=2*2^i:=by omega
   have hp1:1<=2^i:=Nat.one_le_two_pow;have hj:=ae9 (m:=2^i) hp1 h3m.2 cm.a cm.b;simp;refine wdt 12 ?_;simp[hcm];refine cd (NG g cm.a cm.b (by omega) (fun l hl=>by have:=h3m.2 l hl;omega)) ?_;simp;refine ai ?_;refine nxc (i+1,oZ g cm.a cm.b) [8] ⟨by omega,by rw[hm],by rw[hp2];exact⟨by omega,hj.2⟩⟩
  ·simp at am;rw[bS am]at h2m;have hG:g.length<=8/\∀l∈g,l.length<=256:=⟨by omega,fun l hl=>k_Nat_le_trans (h3m.2 l hl) (k_Nat_le_trans (jU (by omega) (show i<=8 by omega)) (by decide))⟩;have hJ:joined kept=g:=by rw[joined,hM,h2m]
   clear h2m h3m h1m am;have hz0:=ao4 g items;simp;refine wl (fun(i:Nat)=>[(0,vV kept),(1,vN items),(6,wV A),(8,.val (cZ g)),(10,vG (KE g items i)),(11,vI i)]) (fun(i:Nat)=>items.length-i) (fun(i:Nat)=>(i<=items.length)) (0) (by omega) ?_ (h0:=by simp[hs0,ha0,hz0]);rintro i h1i;have hlen:=ar7 g items i;simp;apply gw<;>intro d
   ·have hd:=aY (l:=items) (i:=i) d;have hfl:=abC g items i;simp[hd];refine ck (pJ g (at1 items i) (by omega) (fun l hl=>by have:=hG.2 l hl;omega)) ?_;obtain⟨ga,hga⟩:∃ga,eX g (at1 items i)=ga:=⟨_,rfl⟩;simp[hga];refine ai ?_;refine wlt Nat (fun k=>([(0,vV kept),(1,vN items),(6,wV A),(8,.val (cZ g)),(10,vG (KE g items i)),(11,vI i),(12,vI ga),(13,vI k)],items.length-k,(i<k/\k<=items.length)/\(∀j,i<j->j<k->eX g (at1 items j)≠ga))) (i+1) ⟨by omega,(fun j h1 h2=>absurd h2 (by omega))⟩ ?_;rintro k ⟨h1k,h2k⟩;simp;apply gv<;>intro e
    ·have e':=e;simp[e];apply gw<;>intro f
     ·have hdk:=aY (l:=items) (i:=k) e;have h10:((KE g items i).length:Int)<10:=by omega
      simp[hdk];refine ck (pJ g (at1 items k) (by omega) (fun l hl=>by have:=hG.2 l hl;omega)) ?_;simp;apply gv<;>intro m
      ·have m':=m;have hn:=aoG e h1k.1 (m'.trans hga.symm) (fun j h1 h2=>by rw[hga];exact h2k j h1 h2);have hsc:sV g items i=[⟨i,k,true⟩]:=by rw[sV,if_pos (by omega),hn]
       rw[hsc]at hfl;simp[h10,m];refine nxb (i+1) (by first|omega|(simp;omega)|grind) (h3:=by simp[hs0,ha0,hz0,hga,hdk,h10,m,hfl])
      ·have m':=m;simp[m];refine nxa (k+1) ⟨by omega,(fun j h1 h2=>by by_cases hj:j=k;(subst hj;exact m);exact h2k j h1 (by omega))⟩
     ·simp at f;have hsc:sV g items i=[]:=by rw[sV,if_neg (by omega)]
      rw[hsc,bZ]at hfl;simp;refine nxa (i+1) (by first|omega|(simp;omega)|grind) (h3:=by simp[hs0,ha0,hz0,hga,e,hfl])
    ·have e':=e;simp at e';have hn:=aoF (g:=g) (items:=items) (i:=i) (fun j h1 h2=>by rw[hga];exact h2k j h1 (by omega));have hsc:sV g items i=[]:=by rw[sV,hn];simp
     rw[hsc,bZ]at hfl;simp[e];refine nxa (i+1) (by first|omega|(simp;omega)|grind) (h3:=by simp[hs0,ha0,hz0,hga,e,hfl])
   ·simp at d;obtain rfl:i=items.length:=by omega
    have hvl:(F7 A items).length<=A.length:=jR _ _;have hsg:LM g items=KE g items items.length:=rfl;simp;refine ck (H5 _ _) ?_;simp;refine ai ?_;simp[nZ,hJ,hA,hsg]
def FB (l:List Ver)(hl:Qle l:=by omega):Fk 153 [nVers l] (vV (iK l)):=by
 refine fE [11] ntmps153 fun _ _=> ?_;simp;refine wld [3] (Nat×List Ver) (fun(i,out)=>([(0,vV l),(3,vV out),(4,vI i)],l.length-i,(i<=l.length)/\(out=(l.take i).foldl (fun o v=>kF (tY v) o v) [])/\(out.length=i))) ((0,[])) ⟨by omega,rfl,rfl⟩ ?_;rintro⟨i,out⟩ ⟨h1,h2,h3⟩;simp;apply gw<;>intro a
 ·obtain⟨c,hc⟩:=aR (l:=l) (i:=i);have hm:=fH (fun o v=>kF (tY v) o v) [] hc;rw[←h2]at hm;have hil:=PW (tY c) out c;simp;refine QU (fun(k:Nat)=>[(0,vV l),(3,vV out),(4,vI i),(5,vI k)]) (fun(k:Nat)=>(kF (tY c) out c=out.take k++[c]++out.drop k)/\k<=out.length) ?_ ?_
  ·simp;refine wlt Nat (fun k=>([(0,vV l),(3,vV out),(4,vI i),(5,vI k)],k,(k<=out.length)/\(∀j,k<=j->(h:j<out.length)->tY c out[j]=true))) (out.length) ⟨by omega,(fun j h1 h2=>absurd h2 (by omega))⟩ ?_;rintro k ⟨h1k,h2k⟩;simp;refine wdr ?_;simp;apply gv<;>intro e
   ·have e':=e;obtain⟨d,hd⟩:=aR (l:=out) (i:=k-1);have hk1:((k:Int)-1).toNat=k-1:=by omega
    have hk2:(k:Int)-1=((k-1:Nat):Int):=by omega
    simp[hc,e,hd,hk2];refine ai ?_;refine cd (tN d c) ?_;simp;apply gw<;>intro f
    ·simp[hk2];refine nxa (k-1) ⟨by omega,(fun j h1 h2=>by by_cases hj:j=k-1;(subst hj;have hdd:out[k-1]=d:=(by simpa[aB h2]using hd);rw[hdd];simp[tY];omega);exact h2k j (by omega) h2)⟩
    ·simp at f;have hb:=OJ (p:=tY c) h1k h2k (.inr ⟨d,hd,by simp[tY];omega⟩);simp;refine jn (k) ⟨by rw[kF,hb],h1k⟩
   ·have e':=e;simp at e';have hb:=OJ (p:=tY c) h1k h2k (.inl (by omega));simp[e];refine jn (k) ⟨by rw[kF,hb],h1k⟩
  rintro k ⟨h5,h6⟩;simp;refine wdf [(0,[32]),(4,[32,35,36]),(9,[40,41]),(10,[36,41,42]),(14,[42,45,46]),(15,[46,3])] [(0,vV l),(3,vV out),(4,vI i),(5,vI k)] [] (by simp) ?_;simp[hc];iterate 6 refine ai ?_
  refine nxc (i+1,out.take k++[c]++out.drop k) [3] ⟨by omega,by rw[hm,h5],by rw[←h5];omega⟩
 ·simp at a;rw[bS a]at h2;simp;grind[iK]
def ak7 {v:Ver}(hk:k<=l.length)(h1:(l.take k).all (fun u=>decide (gX u v<0))=true)(h2:k=l.length\/∃c,l[k]?=some c/\¬gX c v<0):adC l v=k:=by
 refine ak0 hk h1 ?_;rcases h2 with h|⟨c,h3,h4⟩
 ·exact .inl h
 ·exact .inr ⟨c,h3,by simpa using h4⟩
def UO (l:List Ver)(v:Ver)(hl:Qle l):Fk 152 [nVers l,kH v] (.tup [vV (zS l v),vB (GD l v)]):=by
 refine fE [5,7,13] ntmps152 fun _ _=> ?_;have hix:0<=ix (fun y=>decide (y=v)) l↔l.any (fun y=>decide (y=v))=true:=jB;simp;refine ck (yK _) ?_;simp;apply gv<;>intro a
 ·have a':=a;simp at a';have ho:GD l v=false:=by simp[GD,a']
  simp[a];refine ck (vF _) ?_;simp;refine jX [] (dK 4) ?_;simp;simp[zS,ho]
 ·have a':=a;simp at a';simp[a];refine ck (BC _) ?_;simp;apply gv<;>intro b
  ·have b':=b;simp at b';have ho:GD l v=false:=by simp only[GD];rw[b'];simp
   simp[b];refine ck (vF _) ?_;simp;refine jX [] (dK 4) ?_;simp;simp[zS,ho]
  ·have b':=b;simp at b';simp[b];refine ck (agR _ _) ?_;simp;apply gv<;>intro d
   ·have d':=d;have ho:GD l v=false:=by simp only[GD];rw[hix.1 d];simp
    simp[d];refine ck (vF _) ?_;simp;refine jX [] (dK 4) ?_;simp;simp[zS,ho]
   ·have d':=d;simp at d';simp[d];apply gw<;>intro e
    ·have ho:GD l v=false:=by simp only[GD];rw[show decide (l.length≠8)=false by simp;omega];simp
     simp;refine ck (vF _) ?_;simp;refine jX [] (dK 4) ?_;simp;simp[zS,ho]
    ·have hna:l.any (fun y=>decide (y=v))=false:=by rw[jZ];intro h;exact d (hix.2 h)
     have ho:GD l v:=by simp only[GD];rw[hna,a',b'];simp;omega
     simp;refine QU (fun(k:Nat)=>[(0,vV l),(3,.own (.bx true (kH v))),(6,vI k)]) (fun(k:Nat)=>(adC l v=k)/\k<=l.length) ?_ ?_
     ·simp;refine wlt Nat (fun k=>([(0,vV l),(3,.own (.bx true (kH v))),(6,vI k)],l.length-k,(k<=l.length)/\((l.take k).all (fun u=>decide (gX u v<0))=true))) (0) ⟨by omega,rfl⟩ ?_;rintro k ⟨h1k,h2k⟩;simp;refine wdr ?_;simp;apply gv<;>intro f
      ·have f':=f;obtain⟨c,hc⟩:=aR (l:=l) (i:=k);have hcc:l[k]=c:=by simpa[aB f]using hc
       simp[f,hcc];refine cd (tN c v) ?_;simp;apply gw<;>intro g
       ·simp;refine nxa (k+1) ⟨by omega,(bX hc h2k (by simpa using g))⟩
       ·simp at g;simp;refine jn (k) ⟨(ak7 h1k h2k (.inr ⟨c,hc,by omega⟩)),h1k⟩
      ·have f':=f;simp at f';simp[f];refine jn (k) ⟨(ak7 h1k h2k (.inl (by omega))),h1k⟩
     rintro k ⟨h5,h6⟩;simp;refine wdf [(0,[43]),(4,[43,46,47]),(6,[48,49]),(7,[47,49,50]),(11,[50,53,54]),(12,[54,4]),(13,[5])] [(0,vV l),(3,.own (.bx true (kH v))),(6,vI k)] [] (by simp) ?_;simp;iterate 5 refine ai ?_
     refine jX [] (dK 4) ?_;simp;simp[zS,ho,h5]
def al3 (o:List Ver)(c:Ver):(rF o c).length<=o.length+1:=by
 unfold rF;split
 ·simp
 ·split
  ·simp
  ·split<;>simp
def aaP (l:List Ver):(iD l).length<=l.length:=by
 have:=F9 rF al3 l [];simpa[iD]using this
def adN (l:List Ver):(uL l).length=l.length:=by
 have:=EA DT l [];simpa[uL]using this
def JR (l:List Ver):(iK l).length=l.length:=by
 have:=EA tY l [];simpa[iK]using this
def apZ (l:List Ver)(v:Ver):(zS l v).length<=l.length+1:=by
 unfold zS;split
 ·simp;omega
 ·omega
def alT (l:List Ver)(c:Ver):uL (l++[c])=kF (DT c) (uL l) c:=by simp[uL,mG]
def N7 (l:List Ver)(hl:l.length<=8)(hv:lC l):Fk 92 [nVers l] (.tup [vV (sH l),vV (jV l)]):=by
 refine fE [19,48] ntmps92 fun _ _=> ?_;have hcl:=aaP l;have hap:apart (iD l)=apart (iD l):=rfl;have hks:sH l=iK (JS l).2.1:=rfl;have hrs:jV l=iK (JS l).2.2:=rfl;have hst:JS l=(uL (vP (iD l))).foldl (vQ (apart (iD l))) ([],apart (iD l),[]):=rfl;simp;refine ck (K6 l (by omega) hv) ?_;generalize iD l=cur at hcl hap hst|-
 simp;refine wld [6] (Nat×List Ver×List Ver) (fun(i,A,M)=>([(4,wV cur),(5,wV A),(6,vV M),(7,vI i)],cur.length-i,(i<=cur.length)/\(A=apart (cur.take i)/\M=uL (vP (cur.take i)))/\(A.length<=i/\M.length<=i))) ((0,[],[])) ⟨by simp,(⟨rfl,rfl⟩),by simp⟩ ?_;rintro⟨i,A,M⟩ ⟨h1,h2,h3⟩;simp;apply gw<;>intro a
 ·obtain⟨c,hc⟩:=aR (l:=cur) (i:=i);have h1f:=VC hc;have h2f:=TP hc;simp[hc];apply gw<;>intro b
  ·simp at b;simp only[b,xQ,dR,if_true,if_false,bZ]at h1f h2f;simp[hc];iterate 2 refine ai ?_
   refine nxc (i+1,A++[c],M) [6] ⟨by omega,(⟨by rw[h2f,h2.1],by rw[h1f,h2.2]⟩),by simp;omega⟩
  ·simp at b;simp only[b,Bool.not_true,dR,if_true,if_false,bZ]at h1f h2f;have hil:=PW (DT c) M c;simp;refine QU (fun(k:Nat)=>[(4,wV cur),(5,wV A),(6,vV M),(7,vI i),(8,vI k)]) (fun(k:Nat)=>(kF (DT c) M c=M.take k++[c]++M.drop k)/\k<=M.length) ?_ ?_
   ·simp;refine wlt Nat (fun k=>([(4,wV cur),(5,wV A),(6,vV M),(7,vI i),(8,vI k)],k,(k<=M.length)/\(∀j,k<=j->(h:j<M.length)->DT c M[j]=true))) (M.length) ⟨by omega,(fun j h1 h2=>absurd h2 (by omega))⟩ ?_;rintro k ⟨h1k,h2k⟩;simp;refine wdr ?_;simp;apply gv<;>intro e
    ·have e':=e;obtain⟨d,hd⟩:=aR (l:=M) (i:=k-1);have hk1:((k:Int)-1).toNat=k-1:=by omega
     have hk2:(k:Int)-1=((k-1:Nat):Int):=by omega
     simp[hc,e,hd,hk2];refine ai ?_;apply gw<;>intro f
     ·simp[hk2];refine nxa (k-1) ⟨by omega,(fun j h1 h2=>by by_cases hj:j=k-1;(subst hj;have hdd:M[k-1]=d:=(by simpa[aB h2]using hd);rw[hdd];simp[DT];omega);exact h2k j (by omega) h2)⟩
     ·simp at f;have hb:=OJ (p:=DT c) h1k h2k (.inr ⟨d,hd,by simp[DT];omega⟩);simp;refine jn (k) ⟨by rw[kF,hb],h1k⟩
    ·have e':=e;simp at e';have hb:=OJ (p:=DT c) h1k h2k (.inl (by omega));simp[e];refine jn (k) ⟨by rw[kF,hb],h1k⟩
   rintro k ⟨h5,h6⟩;simp;refine wdf [(0,[57]),(4,[57,60,61]),(9,[65,66]),(10,[61,66,67]),(14,[67,70,71]),(15,[71,6])] [(4,wV cur),(5,wV A),(6,vV M),(7,vI i),(8,vI k)] [] (by simp) ?_;simp[hc];iterate 6 refine ai ?_
   refine nxc (i+1,A,M.take k++[c]++M.drop k) [6] ⟨by omega,(⟨by rw[h2f,h2.1],by rw[h1f,alT,←h2.2,h5]⟩),by rw[←h5];omega⟩
 ·simp at a;rw[bS a]at h2;obtain⟨rfl,rfl⟩:=h2;clear hap;generalize apart cur=A at*
  generalize uL (vP cur)=M at*
  simp;refine ck (vF _) ?_;simp;refine wld [11,9] (Nat×L2×List Ver×List Ver) (fun(i,g,kp,rf)=>([(5,wV A),(6,vV M),(9,vV kp),(10,wV rf),(11,.val (cZ g)),(12,vI i)],M.length-i,(i<=M.length)/\((g,kp,rf)=(M.take i).foldl (vQ A) ([],A,[]))/\(g.length<=i/\∀l∈g,l.length<=2^i)/\(kp.length<=A.length+i/\rf.length<=i))) ((0,[],A,[])) ⟨by simp,rfl,by simp,by simp⟩ ?_;rintro⟨i,g,kp,rf⟩ ⟨h1m,h2m,h3m,h4m⟩;simp;apply gw<;>intro am
  ·obtain⟨cm,hcm⟩:=aR (l:=M) (i:=i);have hm:=fH (vQ A) ([],A,[]) hcm;rw[←h2m]at hm;have hp:2^i<=256:=k_Nat_le_trans (jU (by omega) (show i<=8 by omega)) (by decide);have hp2:2^(i+1)=2*2^i:=by omega
   have hp1:1<=2^i:=Nat.one_le_two_pow;have hj:=ae9 (m:=2^i) hp1 h3m.2 cm.a cm.b;have hsl:=JR kp;have hal:=apZ (iK kp) cm;simp;refine wdt 12 ?_;simp[hcm];refine cd (NG g cm.a cm.b (by omega) (fun l hl=>by have:=h3m.2 l hl;omega)) ?_;simp;refine ck (ZU (oZ g cm.a cm.b) A (by omega) (fun l hl=>by have:=hj.2 l hl;omega) (by omega)) ?_;simp;apply gw<;>intro b
   ·simp at b;have hu:vQ A (g,kp,rf) cm=(oZ g cm.a cm.b,zS (iK kp) cm,rf):=if_pos (by simpa using b);simp;refine wdf [(7,[105,98]),(10,[106,9])] [(5,wV A),(6,vV M),(9,vV kp),(10,wV rf),(11,.val (cZ (oZ g cm.a cm.b))),(12,vI i)] [] (by simp) ?_;simp;refine cd (FB kp) ?_;simp[hcm];refine cd (UO (iK kp) cm (by omega)) ?_;simp;refine ai ?_;refine nxc (i+1,oZ g cm.a cm.b,zS (iK kp) cm,rf) [11,9] ⟨by omega,by rw[hm,hu],by rw[hp2];exact⟨by omega,hj.2⟩,by omega⟩
   ·simp at b;have hu:vQ A (g,kp,rf) cm=(g,kp,rf++[cm]):=if_neg (by simpa using b);simp[hcm];iterate 2 refine ai ?_
    refine nxc (i+1,g,kp,rf++[cm]) [11,9] ⟨by omega,by rw[hm,hu],by rw[hp2];exact⟨by omega,fun l hl=>by have:=h3m.2 l hl;omega⟩,by simp;omega⟩
  ·simp at am;rw[bS am,←hst]at h2m;have e1:(JS l).2.1=kp:=by rw[←h2m]
   have e2:(JS l).2.2=rf:=by rw[←h2m]
   rw[hks,hrs,e1,e2];simp;refine jX [] (dK 10) ?_;simp;refine ck (FB kp) ?_;simp;refine ck (FB rf) ?_;simp
def mO (l:List Ver)(hl:Qle l):Fk 267 [nVers l] (wV l):=by
 refine fE [2,5] ntmps267 fun _ _=> ?_;have hle:l.length<=1073741824:=by omega
 simp;refine aJS 1 ?_;simp[hle];intro hnil;subst hnil;try simp[hle]
 refine jX [] (GA (L:=[(2,.own (oVers []))]) (by simp)) ?_;simp
variable {α:Type}
def avT {β:Type}(f:β->α->β)(z:β){l:List α}{c:α}(h:l[i]?=some c):(l.take (i+1)).foldl f z=f ((l.take i).foldl f z) c:=fH f z h
def akF (l:List Ver):(apart l).length+(vP l).length=l.length:=by
 induction l with
 |nil=>rfl
 |cons v l ih=>unfold apart vP at ih|-;cases hv:v.same<;>simp[hv]<;>omega
def byT (a b:Ver):Int:=cmpI b.time a.time
def gT (l:List Ver):∀a∈l,∀b∈l,fK prog 264 [kH a,kH b] (fun r=>r=vI (byT a b)):=fun a _ b _=>KW a b
def gC (l:List Ver):∀a∈l,∀b∈l,fK prog 259 [kH a,kH b] (fun r=>r=vI (gX a b)):=fun a _ b _=>AA a b
def aD7 (h:∀v∈l,fQ v)(hc:fQ c):∀v∈l++[c],inT v.a/\inT v.b:=fun v hv=>by
 have hv2:fQ v:=by
  rcases k_List_mem_append.1 hv with h2|h2
  ·exact h v h2
  ·rw[k_List_mem_singleton.1 h2];exact hc
 exact⟨(rZ hv2).1,(rZ hv2).2.1⟩
def au0 (l:List Ver):kT (cfB byT) l=uL l:=ajL l
def NQ (l:List Ver)(hl:Qle l)(hv:lC l):Fk 182 [nVers l] (.tup [wV (sH l),wV (jV l)]):=by
 refine fE [20] ntmps182 fun _ _=> ?_;have h8:=(LW hv).2.2;have hse:=agA hv;obtain⟨hcv,_⟩:=aqE hv;have hcl:=ad5 l;simp;refine ck (KQ l hl hv) ?_;unfold af9 at hse;generalize iD l=cur at*
 simp;refine wlt (Nat×List Ver×List Ver) (fun(i,ke,op)=>([(4,wV ke),(5,.val (.one (.slice none 0 0))),(6,wV op),(12,wV cur),(13,vI cur.length),(14,vI i)],cur.length-i,(i<=cur.length)/\(ke=apart (cur.take i))/\(op=vP (cur.take i)))) ((0,[],[])) ⟨by omega,rfl,rfl⟩ ?_;rintro⟨i,ke,op⟩ ⟨h1,h2,h3⟩;simp;apply gw<;>intro a
 ·obtain⟨c,hc⟩:=aR (l:=cur) (i:=i);have hs1:=VC hc;have hs2:=TP hc;have hm:=akF (cur.take i);rw[←h2,←h3]at hm;have htl:(cur.take i).length<=8:=by simp;omega
  simp[hc];apply gw<;>intro b
  ·simp;refine nxb (i+1,ke,op++[c]) ⟨by omega,by rw[hs2,h2];simp[b],by rw[hs1,h3];simp[b]⟩
  ·simp;refine nxb (i+1,ke++[c],op) ⟨by omega,by rw[hs2,h2];simp[b],by rw[hs1,h3];simp[b]⟩
 ·simp at a;have hcur:cur.take i=cur:=k_List_take_of_length_le (by omega);rw[hcur]at h2 h3;have hm:=akF cur;rw[←h2,←h3]at hm;have hbt:=au0 op;have hbl:=adN op;simp;refine gY rfl (aq0 op byT 264 aIS aI7 (gT op) (by omega)) ?_;rintro r d ⟨rfl,rfl⟩;have hLv:∀v∈uL op,fQ v:=fun v hv=>hcv v (by have:=(I5 op).mem_iff.1 hv;rw[h3]at this;exact(dW.1 this).1);have hkv:∀v∈ke,fQ v:=fun v hv=>hcv v (by rw[h2]at hv;exact(dW.1 hv).1);rw[←h2,←h3]at hse;generalize uL op=L at*
  simp[hbt];refine jX [] (dK 6) ?_;simp;refine wlt (Nat×List Ver×List Ver) (fun(j,k2,re)=>([(4,wV k2),(5,wV re),(6,vV L),(31,vV L),(32,vI L.length),(33,vI j)],L.length-j,(j<=L.length)/\((L.take j).foldl IV (ke,[])=(k2,re))/\(k2.length+re.length=ke.length+j)/\(∀v∈k2,fQ v=true))) ((0,ke,[])) ⟨by omega,rfl,by simp,hkv⟩ ?_;rintro⟨j,k2,re⟩ ⟨h4,h5,h6,h7⟩;simp;apply gw<;>intro d
  ·obtain⟨c,hc⟩:=aR (l:=L) (i:=j);have hfs:=avT IV (ke,[]) hc;rw[h5]at hfs;have hcv2:=hLv c (aA hc);have hin:=aD7 h7 hcv2;simp[hc];refine wdf [(1,[37,38,4]),(3,[39,40]),(4,[38,40,41])] [(4,wV k2),(5,wV re),(6,vV L),(10,.own (.bx true (kH c))),(31,vV L),(32,vI L.length),(33,vI j)] [] (by simp) ?_;simp;refine cf (mO k2 (by omega)) ?_;simp;refine ai ?_;refine cdz (agP (k2++[c]) (by simp;omega) hin) ?_;simp;apply gw<;>intro e
   ·simp;refine nxb (j+1,k2,re++[c]) ⟨by omega,by rw[hfs,IV,if_pos e],by simp;omega,h7⟩
   ·simp;refine nxb (j+1,k2++[c],re) ⟨by omega,by rw[hfs,IV,if_neg (by simp[e])],by simp;omega,(fun v hv=>by rcases k_List_mem_append.1 hv with h|h;(exact h7 v h);(rw[k_List_mem_singleton.1 h];exact hcv2))⟩
  ·simp at d;rw[k_List_take_of_length_le (by omega)]at h5;rw[h5]at hse;have hk:=TI k2;have hr:=TI re;have hk2:=hse.1;have hr2:=hse.2;simp;refine gY rfl (amN k2 gX 259 aF7 aGD (gC k2) (by omega)) ?_;rintro r d ⟨rfl,rfl⟩;simp[hk,hk2];refine gY rfl (amN re gX 259 aF7 aGD (gC re) (by omega)) ?_;rintro r d ⟨rfl,rfl⟩;simp[hr,hr2]
def KX (v:Ver):Fk 282 [kH v] (vB v.same):=by
 refine fE [] ntmps282 fun _ _=> ?_;simp
def amM (l:List Ver)(p:Ver->Bool)(g:FuncId)(E:Dv.Enters prog g)(U:T (1000000+g)=⟨.no,0,.any 0⟩)(G:∀c∈l,fK prog g [kH c] (fun r=>r=vB (p c)))(hl:Qle l):Fk 346 [nVers l,.one (.func (.func g) #[] #[])] (vI (ix p l)):=by
 refine fE [] ntmps346 fun _ _=> ?_;simp;refine wlt Nat (fun i=>([(0,vV l),(1,.val (.one (.func (.func g) #[] #[]))),(7,vI l.length),(8,vI i)],l.length-i,(i<=l.length)/\((l.take i).any p=false))) (0) ⟨by omega,rfl⟩ ?_;rintro i ⟨h1,h2⟩;simp;apply gw<;>intro a
 ·obtain⟨c,hc⟩:=aR (l:=l) (i:=i);simp[E,U,hc];refine ck ((G c (aA hc))) ?_;simp;apply gw<;>intro e
  ·have hn:=CK hc h2 (by simp[e]);simp[hn]
  ·simp;refine nxa (i+1) ⟨by omega,(kL hc h2 (by simp[e]))⟩
 ·simp at a;have hf:=oL h2 a;have hx:=rQ hf;simp[hx]
variable {p:α->Bool}
def am7 {l:List α}(h:ix p l≠ -1):∃i:Nat,ix p l=i/\i<l.length/\(∀k c,k<i->l[k]?=some c->p c=false)/\∀c,l[i]?=some c->p c=true:=by
 unfold ix at h|-
 cases hf:l.findIdx? p with
 |none=>rw[hf]at h;exact absurd rfl h
 |some i=>
  rw[fD]at hf;obtain⟨h1,h2,h3⟩:=hf;refine⟨i,rfl,h1,fun k c hk hc=> ?_,fun c hc=> ?_⟩
  ·have hkl:k<l.length:=by omega
   rw[aB hkl]at hc;have:=h3 k hk;rw[k_Option_some_inj hc]at this;simpa using this
  ·rw[aB h1]at hc;rw[k_Option_some_inj hc]at h2;exact h2
def ay6 {l:List α}(h:∀k c,k<i->l[k]?=some c->p c):(l.take i).filter p=l.take i:=by
 refine jG.2 fun c hc=> ?_;obtain⟨k,hk,hkc⟩:=List.mem_iff_getElem.1 hc;have hk3:k<min i l.length:=by simpa using hk
 have hk4:k<l.length:=by omega
 exact h k c (by omega) (by rw[←hkc,List.getElem_take,aB hk4])
def ag2 {m:List α}{c:α}(h:i<m.length):(m.set i c).take (i+1)=m.take i++[c]:=by
 rw[dM (c:=c) (by rw[bE h])];congr 1;rw[List.take_set_of_le (k_Nat_le_refl _)]
def aG3 (l:List Ver)(p:Ver->Bool)(g:FuncId)(E:Dv.Enters prog g)(U:T (1000000+g)=⟨.no,0,.any 0⟩)(G:∀c∈l,fK prog g [kH c] (fun r=>r=vB (p c)))(hl:Qle l):ac8 prog 281 [.one (.bool false),.one (.func (.func g) #[] #[])] 0 (oVers l) (fun res'=>res'=vV (l.filter fun v=> !p v)):=by
 refine fT [7,22,24] ntmps281 fun _ _=> ?_;simp;refine ck (amM l p g E U G hl) ?_;simp;apply gw<;>intro a
 ·have hfl:(l.filter fun v=> !p v)=l:=jG.2 fun v hv=>by cases hpv:p v;rfl;exact absurd (jB.2 (dH.2 ⟨v,hv,hpv⟩)) (by omega)
  simp;refine jX [] (dK 4) ?_;simp[hfl]
 ·obtain⟨i0,hi0,hil,hpre,hat⟩:=am7 (p:=p) (l:=l) a;obtain⟨c0,hc0⟩:=aR (l:=l) (i:=i0) hil;have hpc0:=hat c0 hc0;have h40:l.take i0=(l.take (i0+1)).filter fun v=> !p v:=by rw[dM hc0,fA,ay6 (fun k c hk hc=>by rw[hpre k c hk hc];rfl)];simp[hpc0]
  simp[hi0];refine ai ?_;refine wlt (Nat×Nat×List Ver) (fun(j,i,m)=>([(0,wV m),(1,.val (.one (.func (.func g) #[] #[]))),(5,vI i),(6,vI j)],l.length-j,(j<=l.length)/\i<j/\m.length=l.length/\(m.take i=(l.take j).filter fun v=> !p v)/\(∀k,j<=k->m[k]?=l[k]?))) ((i0+1,i0,l)) ⟨by omega,by omega,rfl,h40,(fun _ _=>rfl)⟩ ?_;rintro⟨j,i,m⟩ ⟨h1,h2,h3,h4,h5⟩;simp[h3];apply gw<;>intro b
  ·obtain⟨c,hc⟩:=aR (l:=l) (i:=j);have hm:=(h5 j (k_Nat_le_refl _)).trans hc;have hil2:i<m.length:=by omega
   simp[E,U,hm];refine ck ((G c (aA hc))) ?_;simp;apply gw<;>intro d
   ·simp at d;obtain⟨m2,hm2⟩:∃m2,m.set i c=m2:=⟨_,rfl⟩;have hst:(m.map kH).set i (kH c)=m2.map kH:=by rw[←List.map_set,hm2]
    obtain⟨ci,hmi⟩:=aR (l:=m) (i:=i) hil2;simp[hst,hmi];refine nxb (j+1,i+1,m2) ⟨by omega,by omega,by rw[←hm2,nX];exact h3,by rw[←hm2,ag2 hil2,h4,dM hc,fA];simp[d],(fun k hk=>by rw[←hm2,bK (by omega)];exact h5 k (by omega))⟩
   ·simp at d;simp;refine nxa (j+1,i,m) ⟨by omega,by omega,h3,by rw[h4,dM hc,fA];simp[d],(fun k hk=>h5 k (by omega))⟩
  ·simp at b;have hjl:j=l.length:=by omega
   rw[hjl,bV]at h4;have hil3:i<=m.length:=by omega
   simp;refine aIB 2 ?_;have hz:D.fzs (List.replicate (l.length-i) (D.any 4))=List.replicate (l.length-i) (D.any 4):=by rw[D.jP,xC];rfl
   have hil4:i<=l.length:=by omega
   have hlm:min i l.length=i:=by omega
   have hr:(l.filter fun v=> !p v).map kH=(m.map kH).take i:=by rw[←h4,vL]
   simp[h3];refine ai ?_;refine jX [] (dK 0) ?_;simp[h3,hz,hlm,hr]
   skip
def GU (l:List Ver)(items:L1)(hs:Qle l)(hi:Qle items):Fk 283 [nVers l,nInts items] (vG (F7 l items)):=by
 refine fE [] ntmps283 fun _ _=> ?_;simp;refine wlt (Nat×List Con) (fun(i,out)=>([(1,vN items),(5,vG out),(10,vV l),(11,vI l.length),(12,vI i)],l.length-i,(i<=l.length)/\(out=(l.take i).filterMap (IX items))/\(out.length<=i))) ((0,[])) ⟨by omega,rfl,by simp⟩ ?_;rintro⟨i,out⟩ ⟨h1,h2,h3⟩;simp;apply gw<;>intro a
 ·obtain⟨c,hc⟩:=aR (l:=l) (i:=i);have hm:=A9 (IX items) hc;rw[←h2]at hm;have hpa:=XZ items c.a;have hpb:=XZ items c.b;simp[hc];refine wdr ?_;simp;refine cd (jM items c.a hi) ?_;simp[hpa];refine cd (jM items c.b hi) ?_;simp[hpb];apply gv<;>intro e
  ·have e':=e;simp[e];apply gw<;>intro b
   ·have hv:IX items c=some ⟨place items c.a,place items c.b,c.same⟩:=if_pos ⟨by omega,by omega⟩;simp;refine nxb (i+1,out++[⟨place items c.a,place items c.b,c.same⟩]) ⟨by omega,by rw[hm,hv];rfl,by simp;omega⟩
   ·simp at b;have hv:IX items c=none:=if_neg (by rintro⟨h1,h2⟩;omega);simp;refine nxa (i+1,out) ⟨by omega,by rw[hm,hv];simp,by omega⟩
  ·have e':=e;simp at e';have hv:IX items c=none:=if_neg (by rintro⟨h1,h2⟩;omega);simp[e];refine nxa (i+1,out) ⟨by omega,by rw[hm,hv];simp,by omega⟩
 ·simp at a;rw[bS a]at h2;simp;grind[F7]
def gS (l:List Ver):∀c∈l,fK prog 282 [kH c] (fun r=>r=vB c.same):=fun c _=>KX c
def NS (kept:List Ver)(items:L1)(hk:kept.length<=8)(hkv:∀v∈kept,inT v.a/\inT v.b)(hi:items.length<=8)(hiv:∀x∈items,inT x):Fk 186 [nVers kept,nInts items] (vG (al2 kept items)):=by
 refine fE [] ntmps186 fun _ _=> ?_;simp;refine ck (mO kept (by omega)) ?_;have hap:(kept.filter fun v=> !v.same)=apart kept:=rfl;have hapl:(apart kept).length<=8:=k_Nat_le_trans (bN _ _) hk;simp;refine zY rfl (aG3 kept (fun v=>v.same) 282 aIU aI9 (gS kept) (by omega)) ?_;simp[hap];refine ck (GU (apart kept) items (by omega) (by omega)) ?_;simp;refine ck (PD kept (by omega) hkv) ?_;obtain⟨o,ho⟩:∃o,kG kept=o:=⟨_,rfl⟩;have hol:o.length=400:=by rw[←ho];exact EN kept
 obtain⟨V,hV⟩:∃V,F7 (apart kept) items=V:=⟨_,rfl⟩;have hVl:V.length<=8:=by rw[←hV];exact k_Nat_le_trans (jR _ _) hapl
 have hws:D.ws (o.map dI)=400:=by have:=vU o 400;rw[k_List_take_of_length_le (by (try unfold Qle);rw[aK];omega),hol]at this;simpa using this
 simp[ho,hV,hws,hol];refine wlt (Nat×List Con) (fun(b,out)=>([(1,vN items),(6,vG out),(7,.own (.bx true (.agg (o.map dI)))),(18,vN items),(19,vI items.length),(20,vI b)],items.length-b,(b<=items.length)/\(out=V++BL o items b)/\(out.length<=8+b))) ((0,V)) ⟨by omega,by simp[BL],by omega⟩ ?_;rintro⟨b,out⟩ ⟨h1,h2,h3⟩;simp;apply gw<;>intro a
 ·have hb:=aY a;have hbi:=hiv _ (aA hb);have hls:=agW o items b;obtain⟨y,hy⟩:∃y,at1 items b=y:=⟨_,rfl⟩;rw[hy]at hb hbi;have hoy:=asV hol hbi;have hwy:D.ws (List.take y.toNat (o.map dI))=y.toNat:=by rw[vU,hol];have:=hbi.1;have:=hbi.2;omega
  have hy0:=hbi.1;have hy1:=hbi.2;simp;refine ai ?_;refine wlt Nat (fun k=>([(1,vN items),(6,vG out),(7,.own (.bx true (.agg (o.map dI)))),(8,vI b),(9,vI ((k:Int)-1)),(18,vN items),(19,vI items.length),(20,vI b)],k,(k<=b)/\(MQ o items b=match IL (aa1 o items b) k with|some a=>[⟨a,b,true⟩]|none=>[]))) (b) ⟨(k_Nat_le_refl _),rfl⟩ ?_;rintro k ⟨h4,h5⟩;simp;apply gw<;>intro d
  ·obtain⟨q,rfl⟩:∃q,k=q+1:=⟨k-1,by omega⟩;have hq:=aY (l:=items) (i:=q);have hqi:=hiv _ (aA hq);obtain⟨x,hx⟩:∃x,at1 items q=x:=⟨_,rfl⟩;rw[hx]at hq hqi;have hox:=asV hol hqi;have hwx:D.ws (List.take x.toNat (o.map dI))=x.toNat:=by rw[vU,hol];have:=hqi.1;have:=hqi.2;omega
   have hx0:=hqi.1;have hx1:=hqi.2;have hq2:((q+1:Nat):Int)-1=q:=by omega
   have hox2:=(aD.1 hox).2;have hoy2:=(aD.1 hoy).2;have hpg:IL (aa1 o items b) (q+1)=if at1 o x.toNat=at1 o y.toNat then some q else IL (aa1 o items b) q:=by rw[IL,aa1,hx,hy];simp
   simp;refine wdr ?_;simp[hol,hq,hb,hox2,hoy2,hwx,hwy,hx0,hx1,hy0,hy1];apply gw<;>intro e
   ·simp;refine nxb (b+1,out++[⟨q,b,true⟩]) ⟨by omega,by rw[hls,h5,hpg,if_pos e,h2,bH],by simp;omega⟩
   ·simp;refine nxa (q) ⟨by omega,by rw[h5,hpg,if_neg e]⟩
  ·simp at d;obtain rfl:k=0:=by omega
   rw[IL]at h5;simp;refine nxa (b+1,out) ⟨by omega,by rw[hls,h5,h2];simp,by omega⟩
 ·simp at a;rw[show b=items.length by omega]at h2;have hr:al2 kept items=out:=by rw[h2,←hV,←ho];rfl
  simp[hr]
def AZ (x:Int):Bool:= !inR x 0 1000
def IZ (x:Int):Fk 293 [dI x] (vB (AZ x)):=by
 refine fE [] ntmps293 fun _ _=> ?_;simp;refine ck (bI x 0 1000) ?_;simp;grind[AZ]
def amK (l:L1)(hl:Qle l):Fk 316 [nInts l,.one (.func (.func 293) #[] #[])] (vI (ix AZ l)):=by
 refine fE [] ntmps316 fun _ _=> ?_;simp;refine wlt Nat (fun i=>([(0,vN l),(1,.val (.one (.func (.func 293) #[] #[]))),(7,vI l.length),(8,vI i)],l.length-i,(i<=l.length)/\((l.take i).any AZ=false))) (0) ⟨by omega,rfl⟩ ?_;rintro i ⟨h1,h2⟩;simp;apply gw<;>intro a
 ·obtain⟨c,hc⟩:=aR (l:=l) (i:=i);simp[hc];refine ck (IZ c) ?_;simp;apply gw<;>intro b
  ·have hn:=CK hc h2 (by simp[b]);simp[hn]
  ·simp;refine nxa (i+1) ⟨by omega,(kL hc h2 (by simp[b]))⟩
 ·simp at a;have hf:=oL h2 a;have hx:=rQ hf;simp[hx]
def aqS (l:L1)(hl:Qle l):Fk 252 [nInts l,.one (.func (.func 293) #[] #[])] (vB (l.any AZ)):=by
 refine fE [] ntmps252 fun _ _=> ?_;have hq:decide (0<=ix AZ l)=l.any AZ:=by rw[bQ,decide_eq_true_eq];exact jB
 simp;refine ck (amK l hl) ?_;simp[hq]
def aw4 (l:L1):l.any AZ= !(l.all IP):=by
 induction l with
 |nil=>rfl
 |cons x l ih=>rw[List.any_cons,vJ,ih,AZ,IP];simp
def nT (l:L1)(hl:Qle l:=by first|omega|grind):Fk 213 [nInts l] (vB (vH l)):=by
 refine fE [] ntmps213 fun _ _=> ?_;simp;apply gv<;>intro e
 ·have e':=e;simp[e];refine ck (aqS l hl) ?_;simp;rw[aw4,vH,decide_eq_true (show l.length=6 by omega)];simp
 ·have e':=e;simp[e];rw[vH,decide_eq_false (show¬l.length=6 by omega)];simp
def NN (l w:L1)(hl:Qle l:=by first|omega|grind)(hw:Qle w:=by first|omega|grind):Fk 403 [nInts l,nInts w] (vI (oN l w)):=by
 refine fE [] ntmps403 fun _ _=> ?_;simp;apply gw<;>intro e
 ·simp;simp[oN];omega
 ·simp;refine wlt (Nat×Int×Int) (fun(i,s,t)=>([(0,vN l),(1,vN w),(5,vI s),(6,vI t),(14,vN l),(15,vI l.length),(16,vI i)],l.length-i,(i<=l.length)/\((List.range i).all (sZ l w)=true)/\(s=xL l w i)/\(t=uM w i))) ((0,0,0)) ⟨by omega,rfl,rfl,rfl⟩ ?_;rintro⟨i,s,t⟩ ⟨h1,h2,h3,h4⟩;simp;apply gw<;>intro a
  ·have hl1:=aY (l:=l) (i:=i);have hw1:=aY (l:=w) (i:=i);have hb:∀j<i,sZ l w j:=fun j hj=>aI.1 h2 j (bB.2 hj);have hN:=CU i hb;have hD:=CS i hb;simp[hl1];refine ck (bI (at1 l i) 0 1000) ?_;simp;apply gv<;>intro e
   ·have e':=e;simp at e';have hn:=mZ a (P:=sZ l w) (by simp[sZ]at*;omega);simp[e];all_goals simp[oN,hn]
   ·have e':=e;simp at e';simp[hw1,e];refine ck (bI (at1 w i) 0 1000) ?_;simp;apply gw<;>intro f
    ·simp at f;have hn:=mZ a (P:=sZ l w) (by simp[sZ]at*;omega);simp;all_goals simp[oN,hn]
    ·simp at f;have hc:sZ l w i:=by simp[sZ]at*;omega
     have hp1:0<=at1 l i*at1 w i:=Int.mul_nonneg (by simp at*;omega) (by simp at*;omega);have hp2:at1 l i*at1 w i<=1000*1000:=Int.mul_le_mul (by simp at*;omega) (by simp at*;omega) (by simp at*;omega) (by omega);simp[hw1];iterate 4 refine ai ?_
     refine nx (i+1,s+at1 l i*at1 w i,t+at1 w i) ⟨by omega,(oH h2 hc),by rw[h3,xL,xL,aM],by rw[h4,uM,uM,aM]⟩
  ·simp at a;have hi:l.length=i:=by omega
   subst hi;have hb:∀j<l.length,sZ l w j:=fun j hj=>aI.1 h2 j (bB.2 hj);have hN:=CU l.length hb;have hD:=CS l.length hb;simp;apply gw<;>intro b
   ·simp;all_goals simp[oN,←h4,b]
   ·simp;iterate 2 refine ai ?_
    all_goals(rw[oN,if_pos ⟨by omega,h2⟩,←h4,if_neg b,←h3])
def WF (s:Sco)(f:L1)(hs:Qle s.weights:=by first|omega|grind)(hf:Qle f:=by first|omega|grind):Fk 345 [II s,nInts f] (vI (mI s f)):=by
 refine fE [] ntmps345 fun _ _=> ?_;simp;refine ck (oO s hs) ?_;simp;apply gv<;>intro e
 ·have e':=e;simp at e';simp[e];grind[mI]
 ·have e':=e;simp at e';simp[e];refine ck (nT f hf) ?_;simp;apply gw<;>intro b
  ·simp at b;simp;grind[mI]
  ·simp at b;simp;refine ck (NN _ _) ?_;simp;grind[mI]
def WH (t:Tst)(f:L1)(hf:Qle f:=by first|omega|grind):Fk 216 [uI t,nInts f] (vB (pO f t)):=by
 refine fE [] ntmps216 fun _ _=> ?_;simp;refine wdt 20 ?_;simp;refine cd (nT _) ?_;simp;apply gv<;>intro e
 ·have e':=e;simp[e];refine cd (JE _) ?_;simp;apply gv<;>intro g
  ·have g':=g;simp at g';have h6:f.length=6:=by simp only[vH,k_Bool_and_eq_true,decide_eq_true_eq]at e;exact e.2
   have hx:=aY (l:=f) (i:=t.feature.toNat);simp[g,hx];refine ai ?_;all_goals(simp only[pO];rw[e',show inR t.feature 0 5=true by simp;omega];simp;by_cases hq:at1 f t.feature.toNat<t.threshold<;>simp[hq,Int.not_lt.symm]<;>omega)
  ·have g':=g;simp at g';simp[g];all_goals(simp only[pO];rw[e',show inR t.feature 0 5=false by simp;omega];simp)
 ·have e':=e;simp[e];all_goals simp[pO,e']
def R3 (t:Tst)(f:L1)(hf:Qle f):Fk 215 [uI t,.bx false (nInts f)] (vB (!pO f t)):=by
 refine fE [] ntmps215 fun _ _=> ?_;simp;refine ck (WH _ _) ?_;simp
def aqY (l:List Tst)(p:Tst->Bool)(g:FuncId)(b:Nat)(d:D)(F:d.fz=d)(E:Dv.Enters prog g)(U:T (1000000+g)=⟨.no,0,.any 0⟩)(G:∀c∈l,fK prog g [uI c,.bx false d] (fun r=>r=vB (p c)))(hl:Qle l):yY prog 294 [D.sl none (l.map uI),.one (.func (.func g) #[] #[.pointer (some ⟨b,0,none⟩)])] [(b,d)] (fun res'=>res'=vI (ix p l)):=by
 refine fB [] ntmps294 fun _ _=> ?_;simp;refine wlt Nat (fun i=>([(0,.val (D.sl none (l.map uI))),(1,.val (.one (.func (.func g) #[] #[.pointer (some ⟨b,0,none⟩)]))),(7,vI l.length),(8,vI i),(1000000+2*b,.rp (d))],l.length-i,(i<=l.length)/\((l.take i).any p=false))) (0) ⟨by omega,rfl⟩ ?_;rintro i ⟨h1,h2⟩;simp;apply gw<;>intro a
 ·obtain⟨c,hc⟩:=aR (l:=l) (i:=i);simp[E,U,F,hc];refine ck ((G c (aA hc))) ?_;simp;apply gw<;>intro e
  ·have hn:=CK hc h2 (by simp[e]);simp[hn]
  ·simp;refine nxa (i+1) ⟨by omega,(kL hc h2 (by simp[e]))⟩
 ·simp at a;have hf:=oL h2 a;have hx:=rQ hf;simp[hx]
def avL (l:List Tst)(p:Tst->Bool)(g:FuncId)(b:Nat)(d:D)(F:d.fz=d)(E:Dv.Enters prog g)(U:T (1000000+g)=⟨.no,0,.any 0⟩)(G:∀c∈l,fK prog g [uI c,.bx false d] (fun r=>r=vB (p c)))(hl:Qle l):yY prog 214 [D.sl none (l.map uI),.one (.func (.func g) #[] #[.pointer (some ⟨b,0,none⟩)])] [(b,d)] (fun res'=>res'=vB (l.any p)):=by
 refine fB [] ntmps214 fun _ _=> ?_;have hq:decide (0<=ix p l)=l.any p:=by rw[bQ,decide_eq_true_eq];exact jB
 simp[F];refine ckB (aqY l p g b d F E U G hl) ?_;simp[hq]
def aqW (l:List (List Tst))(p:List Tst->Bool)(g:FuncId)(b:Nat)(d:D)(F:d.fz=d)(E:Dv.Enters prog g)(U:T (1000000+g)=⟨.no,0,.any 0⟩)(G:∀c∈l,fK prog g [wK c,.bx false d] (fun r=>r=vB (p c)))(hl:Qle l):yY prog 129 [.sl none (l.map wK),.one (.func (.func g) #[] #[.pointer (some ⟨b,0,none⟩)])] [(b,d)] (fun res'=>res'=vI (ix p l)):=by
 refine fB [] ntmps129 fun _ _=> ?_;simp;refine wlt Nat (fun i=>([(0,.val (.sl none (l.map wK))),(1,.val (.one (.func (.func g) #[] #[.pointer (some ⟨b,0,none⟩)]))),(7,vI l.length),(8,vI i),(1000000+2*b,.rp (d))],l.length-i,(i<=l.length)/\((l.take i).any p=false))) (0) ⟨by omega,rfl⟩ ?_;rintro i ⟨h1,h2⟩;simp;apply gw<;>intro a
 ·obtain⟨c,hc⟩:=aR (l:=l) (i:=i);simp[E,U,F,hc];refine ck ((G c (aA hc))) ?_;simp;apply gw<;>intro e
  ·have hn:=CK hc h2 (by simp[e]);simp[hn]
  ·simp;refine nxa (i+1) ⟨by omega,(kL hc h2 (by simp[e]))⟩
 ·simp at a;have hf:=oL h2 a;have hx:=rQ hf;simp[hx]
def WG (r:List Tst)(f:L1)(hr:Qle r:=by first|omega|grind)(hf:Qle f:=by first|omega|grind):Fk 131 [wK r,nInts f] (vB (uE f r)):=by
 refine fE [] ntmps131 fun _ _=> ?_;simp;refine ck (nT f hf) ?_;simp;apply gv<;>intro e
 ·have e':=e;simp[e];intro b;refine ckB (avL r (fun t=> !pO f t) 215 b (nInts f) (XQ _) aIQ aI6 (fun t _=>R3 t f hf) hr) ?_;simp;all_goals simp[uE,e',ajC]
 ·have e':=e;simp[e];all_goals simp[uE,e']
def RY (r:List Tst)(f:L1)(hr:Qle r)(hf:Qle f):Fk 130 [wK r,.bx false (nInts f)] (vB (uE f r)):=by
 refine fE [] ntmps130 fun _ _=> ?_;simp;refine ck (WG _ _) ?_;simp
def WB (rs:List (List Tst))(f:L1)(hs:Qle rs:=by first|omega|grind)(hr:∀l∈rs,Qle l:=by first|omega|grind)(hf:Qle f:=by first|omega|grind):Fk 81 [mU rs,nInts f] (vI (tF rs f)):=by
 refine fE [] ntmps81 fun _ _=> ?_;simp;refine ck (rH rs hs hr) ?_;simp;apply gw<;>intro a
 ·simp at a;simp;grind[tF]
 ·simp at a;simp;intro b;refine ckB (aqW rs (uE f) 130 b (nInts f) (XQ _) aIO aI4 (fun r hm=>RY r f (hr r hm) hf) hs) ?_;simp;grind[tF]
def BA (rs:List (List Tst))(f:L1)(hs:Qle rs:=by first|omega|grind)(hr:∀l∈rs,Qle l:=by first|omega|grind)(hf:Qle f:=by first|omega|grind):Fk 41 [mU rs,nInts f] (vB (decide (0<=tF rs f))):=by
 refine fE [] ntmps41 fun _ _=> ?_;simp;refine ck (WB _ _) ?_;simp
def UD (rs:List (List Tst))(s:Sco)(f:L1)(hs:Qle rs)(hr:∀l∈rs,Qle l)(hw:Qle s.weights)(hf:Qle f):Fk 280 [mU rs,II s,nInts f] (vI (iY rs s f)):=by
 refine fE [] ntmps280 fun _ _=> ?_;simp;refine ck (rH rs hs hr) ?_;simp;apply gv<;>intro e
 ·have e':=e;simp at e';simp[e];grind[iY]
 ·have e':=e;simp at e';simp[e];refine ck (oO s hw) ?_;simp;apply gv<;>intro g
  ·have g':=g;simp at g';simp[g];grind[iY]
  ·have g':=g;simp at g';simp[g];refine ck (nT f hf) ?_;simp;apply gw<;>intro b
   ·simp at b;simp;grind[iY]
   ·simp at b;have hp:=YF s f hf;have hb:0<=s.bias/\s.bias<=1000:=by simp only[lZ,k_Bool_and_eq_true,decide_eq_true_eq]at g';exact g'.2
    simp;refine wdt 6 ?_;simp;refine cd (WF _ _) ?_;simp;refine ai ?_;refine ck (BA _ _) ?_;simp;apply gw<;>intro d
    ·simp;grind[iY]
    ·simp at d;simp;grind[iY]
end Go.Proofs.YtnlkiflcbknaaaaGreatDoor
end
section
namespace Go.Proofs.YtnlkiflcbknaaaaGreatDoor
open Go.Dv Go.Pl Go.RowKit Go.Lib Go.Sort Go.Proofs.Tryz
def acT (x:Str):encStr x= .string ⟨x.toArray⟩:=by simp[encStr]
variable {os:Array Obj}{v:Value}
def awW {w:World}{base:Nat}{e:TypeId}{n:Nat}{xs:List Value}(h:w.ownsRow base e 1 v n xs):(grow w os).ownsRow base e 1 v n xs:=by
 refine⟨h.1,h.2.imp_right ?_⟩;rintro⟨g,cap,cur,h1,h2,h3,h4⟩;exact⟨g,cap,cur,h1,h2,by show(w.heap++os)[g]?=_;rw[eY (Go.Dv.lt_of_heap h3)];exact h3,h4⟩
variable {w':World}
def alH {B:Nat}{w:World}(h:Below B w w')(hB:B<=w'.heap.size):Below B w (Go.Sort.grow w' os):=h.trans ⟨rfl,rfl,rfl,by simp[Go.Sort.grow],fun b hb=>by
 show(w'.heap++os)[b]?=_;rw[eY (by omega)]⟩
def adX (l:List Str)(a:Addr)(cap:Nat)(w:World)(hl:l.length<=262144)(hc:l=[]\/(a.spot=none/\∀(j:Nat) x,l[j]?=some x->w.cell? ⟨a.block,a.off+j,none⟩=some (.string ⟨x.toArray⟩))):
  Calls prog 224 #[.slice (some a) l.length cap] w fun e w1=>∃v1,e= .returned v1/\w1.ownsRow w.heap.size 9 1 v1 l.length (l.map encStr)/\v1≠ .slice none 0 0/\Below w.heap.size w w1:=by
 rcases hc with rfl|⟨ha,hcell⟩
 ·exact Tryz.slices_Clone_string_zero a cap w
 ·have:=Tryz.slices_Clone_string a.block a.off l.length cap (l.map fun x=>(⟨x.toArray⟩:ByteArray)) w (by simp) (by omega) (fun j hj=>by
   have hj':j<l.length:=by simpa using hj
   rw[hcell j _ (aB hj')];simp[List.getD,hj'])
  have hae:(⟨a.block,a.off,none⟩:Addr)=a:=by cases a;cases ha;rfl
  rw[hae]at this;refine this.mono fun e w1 ⟨v1,h1,h2,h4,h3⟩=>⟨v1,h1,?_,h4,h3⟩
  have he:(((l.map fun x=>(⟨x.toArray⟩:ByteArray)).take l.length).map Value.string)=l.map encStr:=by
   rw[k_List_take_of_length_le (by simp),qI];exact wG fun x _=>(acT x).symm
  rwa [he]at h2
def aw7 (l:List Str)(g c base:Nat)(w1:World)(hl:l.length<=262144)(h:w1.ownsRow base 9 1 (.slice (some ⟨g,0,none⟩) l.length c) l.length (l.map encStr))(hb:base<=w1.heap.size):
  Calls prog 225 #[.slice (some ⟨g,0,none⟩) l.length c] w1 fun e w2=>e= .returned (.tuple #[])/\w2.ownsRow base 9 1 (.slice (some ⟨g,0,none⟩) l.length c) l.length ((sO l).map encStr)/\Below base w1 w2:=by
 obtain⟨g',c',he,hbg,hlt,hn,hm,_,hH⟩:=holds_of_ownsRow h (by simp);obtain⟨rfl,rfl⟩:g=g'/\c=c':=by simpa using he
 refine(Tryz.slices_Sort_string g 0 c l w1 hH hlt (by omega)).mono ?_;rintro e w2 ⟨h1,n,os,rfl⟩;have hy:=ownsRow_putRow (q:=n) (ys:=sO l) (k:=l.length) h (uG l) (k_Nat_le_refl _);rw[k_List_take_of_length_le (by (try unfold Qle);rw[uG];omega)]at hy;refine⟨h1,awW hy,?_⟩;exact alH (below_putRow (Below.refl _ _) hbg) (k_Nat_le_trans hb (below_putRow (Below.refl base w1) hbg).size)
def au6 (l:List Str)(g c base:Nat)(w1:World)(hl:l.length<=262144)(hk:(Lib.compact l).length<=l.length)(h:w1.ownsRow base 9 1 (.slice (some ⟨g,0,none⟩) l.length c) l.length (l.map encStr)):
  Calls prog 226 #[.slice (some ⟨g,0,none⟩) l.length c] w1 fun e w2=>e= .returned (.slice (some ⟨g,0,none⟩) (Lib.compact l).length c)/\w2.ownsRow base 9 1 (.slice (some ⟨g,0,none⟩) (Lib.compact l).length c) (Lib.compact l).length ((Lib.compact l).map encStr)/\Below base w1 w2:=by
 obtain⟨g',c',he,hbg,hlt,hn,hm,_,hH⟩:=holds_of_ownsRow h (by simp);obtain⟨rfl,rfl⟩:g=g'/\c=c':=by simpa using he
 refine(Tryz.slices_Compact_string g 0 c l w1 hH (by omega) hn).mono ?_;rintro e w2 ⟨h1,n,rfl⟩;have hy:=ownsRow_putRow (q:=n) (ys:=Lib.compact l++List.replicate (l.length-(Lib.compact l).length) []) (k:=(Lib.compact l).length) h (by simp;omega) hk;rw[List.take_left' rfl]at hy;exact⟨h1,hy,below_putRow (Below.refl _ _) hbg⟩
def ajV:fK prog 286 [.one (.int .u64 0)] (fun r=>r=vI 0):=
 EG (u:= .int .i64 0) rfl fun w ow vs hL hs ha=>by
  obtain rfl:=Y3 hs ha;have:=Tryz.bits_Len 0 w (by decide) (by decide);exact this.mono fun e w' h=>⟨h.1,h.2▸Below.refl _ _⟩
def aDZ:Fk 362 [.one (.slice none 0 0),dI 0,dI 0] (.tup []):=by
 refine fE [] ntmps362 fun _ _=> ?_;simp;refine ai ?_;refine wl (fun(i:Nat)=>[(0,.val (.one (.slice none 0 0))),(1,vI 0),(2,vI 0),(6,vI 1)]) (fun(i:Nat)=>0) (fun(i:Nat)=>(i=1)) (1) (rfl) ?_;rintro i h1;simp
def aD1 (k:Int):Fk 304 [.one (.slice none 0 0),dI 0,dI 0,dI k] (.tup []):=by
 refine fE [] ntmps304 fun _ _=> ?_;simp;refine wl (fun(i:Nat)=>[(0,.val (.one (.slice none 0 0))),(1,vI 0),(2,vI 0),(3,vI k)]) (fun(i:Nat)=>0) (fun(i:Nat)=>(i=0)) (0) (rfl) ?_;rintro i h1;simp;refine ai ?_;refine ck (aDZ) ?_;simp
def azE:Fk 225 [.one (.slice none 0 0)] (.tup []):=by
 refine fE [] ntmps225 fun _ _=> ?_;simp;refine ck (ajV) ?_;simp;refine ck (aD1 0) ?_;simp
def ar9 (cap:Nat)(w:World)(hs:Calls prog 225 #[.slice none 0 0] w fun e w'=>e= .returned (.tuple #[])/\Below w.heap.size w w'):Calls prog 135 #[.slice none 0 cap] w fun e w'=>e= .returned (.slice none 0 0)/\Below w.heap.size w w':=by
 have h1:=Tryz.slices_Clone_string_nil 0 cap w;have h3:=fun w2=>Tryz.slices_Compact_string_empty none 0 w2;go_enter func135,ntmps135
 go_wp2_with (first|(go_at_call 224;refine h1.mono ?_;rintro e w1 ⟨rfl,hw1⟩;obtain rfl:=hw1.symm)|(go_at_call 225;refine hs.mono ?_;rintro e w2 ⟨rfl,q2⟩)|(go_at_call 226;refine(h3 w2).mono ?_;rintro e w3 ⟨rfl,hw3⟩;obtain rfl:=hw3.symm))
 exact bodyPost_ret (v:= .slice none 0 0) (by simp[results,Tryz.f135,loadVar]) rfl ⟨rfl,q2⟩
def asA (l:List Str)(a:Addr)(cap:Nat)(w:World)(hl:l.length<=262144)(hc:l=[]\/(a.spot=none/\∀(j:Nat) x,l[j]?=some x->w.cell? ⟨a.block,a.off+j,none⟩=some (.string ⟨x.toArray⟩))):
  Calls prog 135 #[.slice (some a) l.length cap] w fun e w'=>∃v,e= .returned v/\w'.ownsRow w.heap.size 9 1 v (BQ l).length ((BQ l).map encStr)/\Below w.heap.size w w':=by
 have h1:=adX l a cap w hl hc;have h2:=fun g c w1=>aw7 l g c w.heap.size w1 hl;have h3:=fun g c w1=>au6 (sO l) g c w.heap.size w1 (by rw[uG];exact hl) (by rw[uG];exact QI l);simp only[uG]at h3;go_enter func135,ntmps135
 go_wp2_with (first|(go_at_call 224;refine h1.mono ?_;rintro e w1 ⟨v1,rfl,k1,k2,k3⟩;obtain⟨g,c,rfl,k4,k5,_⟩:=holds_of_ownsRow k1 k2)|(go_at_call 225;refine(h2 g c w1 k1 k3.size).mono ?_;rintro e w2 ⟨rfl,q1,q2⟩)|(go_at_call 226;refine(h3 g c w2 q1).mono ?_;rintro e w3 ⟨rfl,r1,r2⟩))
 exact bodyPost_ret (v:= .slice (some ⟨g,0,none⟩) (Lib.compact (sO l)).length c) (by simp[results,Tryz.f135,loadVar]) rfl ⟨_,rfl,r1,(k3.trans q2).trans r2⟩
variable {ow:Own}{l:List Str}
def afU {w:World}{t:Nat}(hB:Below w.heap.size w w')(h:w'.ownsRow w.heap.size 9 1 v l.length (l.map encStr)):∃ow',After w ow w' ow'/\∀(s:St) (a:Act),SV prog w' ow' s a t (wE l) v:=by
 rcases h.2 with⟨rfl,h0⟩|⟨g,cap,cur,rfl,hg,hrow,hn,hm,hs,ht⟩
 ·obtain rfl:l=[]:=bD h0;refine⟨fun b=>if b<w.heap.size then ow b else none,⟨hB.os,hB.tape,hB.output,hB.size,fun b hb=>⟨hB.block b hb,if_pos hb⟩,fun b hb=>if_neg (by have:=hB.size;omega)⟩,fun s a=> ?_⟩;exact akI
 ·have hlt:g<w'.heap.size:=Go.Dv.lt_of_heap hrow;refine⟨fun b=>if b=g then some [t]else if b<w.heap.size then ow b else none,⟨hB.os,hB.tape,hB.output,hB.size,fun b hb=>⟨hB.block b hb,?_⟩,fun b hb=> ?_⟩,fun s' a=> ?_⟩
  ·rw[if_neg (by omega),if_pos hb]
  ·have:=hB.size;rw[if_neg (by omega),if_neg (by omega)]
  ·simp only[SV,V,R];refine⟨some ⟨g,0,none⟩,cap,by simp,by simpa using hn,hm,.inr (.inr ⟨g,0,1,_,9,(0,0),rfl,hrow,(by intro h;cases h),fun t' ht'=> ?_,?_⟩)⟩
   ·obtain rfl:=k_Option_some_inj ht';obtain⟨_,i,zv,hi,hsz,_⟩:=(good 9).of (fun x h e=>by rw[e]at h;cases h);exact⟨by simp,rfl,unfz0 _,rfl,by simpa using hs,i,hi,hsz⟩
   ·rw[Rs.iff hrow];intro j x hx;rw[aQ,aL]at hx;obtain⟨y,hy,rfl⟩:=hx
    have hc:cur[j]?=some (.string ⟨y.toArray⟩):=by
     have hj:=dF hy;have h1:(cur.toList.take (l.length*1))[j]?=some (encStr y):=by rw[ht,aQ,hy];rfl
     rw[bC,if_pos (by omega)]at h1;rw[←Array.getElem?_toList,h1,acT]
    refine⟨rfl,_,_,_,[.string ⟨y.toArray⟩],hrow,fun k hk=> ?_,?_⟩
    ·obtain rfl:k=0:=by simpa[D.w]using hk
     simpa using hc
    ·simp[R,Value.oneCell']
def auA {w:World}(h:V prog w ow (D.fz (mQ l)) [] v):∃a cap,v= .slice a l.length cap/\l.length<=cap/\(l=[]\/∃b off,a=some ⟨b,off,none⟩/\b<w.heap.size/\∀(j:Nat) x,l[j]?=some x->w.cell? ⟨b,off+j,none⟩=some (.string ⟨x.toArray⟩)):=by
 have hfz:D.fz (mQ l)=mQ l:=by simp[D.fz,D.K9]
 rw[hfz]at h;simp only[V,R]at h;obtain⟨a,cap,h1,h2,h3,h4⟩:=h;have h1:v= .slice a (l.map dS).length cap:=by simpa using h1
 rw[aK]at h1 h2;refine⟨a,cap,h1,h2,?_⟩;rcases h4 with h4|h4|⟨b,off,s,C,e,fz,ha,hh,hn,hs,hr⟩
 ·exact .inl (by simpa using h4.2.1)
 ·exact .inl (by simpa using h4.2)
 ·refine .inr ⟨b,off,ha,Go.Dv.lt_of_heap hh,fun j x hx=> ?_⟩;have:=(Rs.iff hh).1 hr j (dS x) (by rw[aQ,hx];rfl);obtain⟨hw,C',e',fz',cs,g1,g2,g3⟩:=this;have hs1:s=1:=hw.symm;subst hs1;rw[hh]at g1;obtain⟨rfl,rfl,rfl⟩:C=C'/\e=e'/\fz=fz':=by simpa using g1
  simp only[R]at g3;obtain⟨rfl,_⟩:=g3;rw[cell_of_row w b (off+j) C e fz hh];have:=g2 0 (by simp[D.w]);simpa using this
def JG (l:List Str)(hl:l.length<=262144):fK prog 135 [mQ l] (fun r=>r=wE (BQ l)):=by
 intro w ow vs t ht hL hnew hsz ha;obtain⟨a,cap,hv,hcap,hc⟩:=auA (ha 0 _ rfl)
 obtain rfl:vs= #[.slice a l.length cap]:=by
  apply Array.ext
  ·simpa using hsz
  ·intro i hi h2;obtain rfl:i=0:=by simpa using h2
   simpa[aF,hi]using hv
 cases a with
 |none=>
  obtain rfl:l=[]:=by
   rcases hc with h|⟨b,off,h,_⟩
   ·exact h
   ·cases h
  have he:BQ []=[]:=bD (by have:=QI [];simpa using this)
  have hsort:Calls prog 225 #[.slice none 0 0] w fun e w'=>e= .returned (.tuple #[])/\Below w.heap.size w w':=by
   refine(azE w ow _ t ht hL hnew rfl fun i d hd=> ?_).mono ?_
   ·match i,hd with
    |0,hd=>obtain rfl:=k_Option_some_inj hd;simp[D.fz,V,R,Value.oneCell']
    |i+1,hd=>simp at hd
   ·rintro e w' ⟨v,ow',r,rfl,rfl,h3,_,h5⟩;have hv:=h5 (fun _=> .un) ⟨#[],[]⟩;obtain⟨us,rfl,hu,_⟩:=hv;have:us= #[]:=by apply Array.eq_empty_of_size_eq_zero;simpa using hu
    subst this;exact⟨rfl,⟨h3.os,h3.tape,h3.output,h3.size,fun b hb=>(h3.old b hb).1⟩⟩
  refine(ar9 cap w hsort).mono ?_;rintro e w' ⟨rfl,hB⟩;refine⟨_,fun b=>if b<w.heap.size then ow b else none,_,rfl,rfl,⟨hB.os,hB.tape,hB.output,hB.size,fun b hb=>⟨hB.block b hb,if_pos hb⟩,fun b hb=>if_neg (by have:=hB.size;omega)⟩,rfl,fun s a=> ?_⟩;rw[he];exact akI
 |some a=>
  have hc':l=[]\/(a.spot=none/\∀(j:Nat) x,l[j]?=some x->w.cell? ⟨a.block,a.off+j,none⟩=some (.string ⟨x.toArray⟩)):=by
   rcases hc with h|⟨b,off,h,_,h2⟩
   ·exact .inl h
   ·cases h;exact .inr ⟨rfl,h2⟩
  refine(asA l a cap w hl hc').mono ?_;rintro e w' ⟨v,rfl,h1,h2⟩;obtain⟨ow',h3,h4⟩:=afU (ow:=ow) (t:=t) h2 h1;exact⟨_,ow',_,rfl,rfl,h3,rfl,h4⟩
end Go.Proofs.YtnlkiflcbknaaaaGreatDoor
end
section
namespace Go.Proofs.YtnlkiflcbknaaaaGreatDoor
open Go.Dv Go.Pl Go.RowKit Go.Proofs.Tryz
def ND (c:UInt8):Fk 305 [dC c] (vB (decide (97<=c.toNat)&&decide (c.toNat<=122))):=by
 refine fE [] ntmps305 fun _ _=> ?_;simp;apply gv<;>intro e
 ·have e':=e;simp[e];grind
 ·have e':=e;simp at e';simp[e];omega
def zL (c:UInt8):Fk 231 [dC c] (vB (decide (48<=c.toNat)&&decide (c.toNat<=57))):=by
 refine fE [] ntmps231 fun _ _=> ?_;simp;apply gv<;>intro e
 ·have e':=e;simp[e];grind
 ·have e':=e;simp at e';simp[e];omega
def UJ (c:UInt8):Fk 299 [dC c] (vB (xJ c)):=by
 refine fE [] ntmps299 fun _ _=> ?_;simp;refine ck (ND _) ?_;simp;apply gv<;>intro e
 ·have e':=e;simp at e';simp[e];grind[xJ]
 ·have e':=e;simp at e';simp[e];apply gv<;>intro f
  ·have f':=f;simp[f];apply gv<;>intro g1
   ·have g1':=g1;simp[g1];grind[xJ]
   ·have g1':=g1;simp at g1';simp[g1];refine ck (zL _) ?_;simp;grind[xJ]
  ·have f':=f;simp at f';simp[f];refine ck (zL _) ?_;simp;grind[xJ]
def UC (c:UInt8):Fk 300 [dC c] (.val (dC (iU c))):=by
 refine fE [] ntmps300 fun _ _=> ?_;simp;apply gv<;>intro e
 ·have e':=e;simp[e];apply gw<;>intro f
  ·have hu:=acW (c:=c) (by omega) (by omega);simp[hu];simp only[inI];omega
  ·simp at f;have hu:=RD (c:=c);simp[hu]
 ·have e':=e;simp at e';have hu:=RD (c:=c);simp[e,hu]
def O6 (c:UInt8):Fk 298 [dC c] (.val (dC (QV c))):=by
 refine fE [] ntmps298 fun _ _=> ?_;simp;refine ck (UJ _) ?_;simp;apply gw<;>intro b
 ·have hu:QV c=c:=if_pos b;simp[hu]
 ·have hu:QV c=32:=if_neg (by simpa using b);simp[hu]
def aI3 {s:Str}{i:Nat}{c:UInt8}{f:UInt8->UInt8}(h:s[i]?=some c):((s.take i).map f++s.drop i)[i]?=some c/\((s.take i).map f++s.drop i).set i (f c)=(s.take (i+1)).map f++s.drop (i+1):=by
 have hi:=dF h;have hl:((s.take i).map f).length=i:=by simp;omega
 have hd:s.drop i=c::s.drop (i+1):=by rw[aX hi];rw[aB hi]at h;rw[k_Option_some_inj h]
 constructor
 ·rw[aN (by omega),hl,hd];simp
 ·rw[gZ _ _ (by omega),hl,hd,List.take_succ_eq_append_getElem hi];rw[aB hi]at h;rw[k_Option_some_inj h];simp
def aAM (f:UInt8->UInt8)(s:Str):Str:=s.map f
def arB (f:UInt8->UInt8)(s:Str)(i:Nat):Str:=(s.take i).map f++s.drop i
def ahY (s:Str)(f:UInt8->UInt8)(g:FuncId)(E:Dv.Enters prog g)(U:T (1000000+g)=⟨.no,0,.any 0⟩)(G:∀c∈s,fK prog g [dC c] (fun r=>r= .val (dC (f c))))(hs:Qle s):Fk 296 [dS s,.one (.func (.func g) #[] #[])] (vS (aAM f s)):=by
 refine fE [] ntmps296 fun _ _=> ?_;have hm0:arB f s 0=s:=rfl;simp;refine ai ?_;refine wl (fun(i:Nat)=>[(0,vS s),(1,.val (.one (.func (.func g) #[] #[]))),(5,.own (oBs (arB f s i))),(10,.al 5 []),(11,vI s.length),(12,vI i)]) (fun(i:Nat)=>s.length-i) (fun(i:Nat)=>(i<=s.length)) (0) (by omega) ?_ (h0:=by simp[E,U,hm0]);rintro i h1;simp;apply gw<;>intro a
 ·obtain⟨c,hc⟩:=aR (l:=s) (i:=i);have hm:=aI3 (f:=f) hc;have hc1:(arB f s i)[i]?=some c:=hm.1;have hc2:((arB f s i).map dU).set i (dC (f c))=(arB f s (i+1)).map dU:=by rw[←List.map_set (f:=dU)];exact congrArg _ hm.2
  simp[E,U,hc1];refine ck ((G c (aA hc))) ?_;simp[hc1,hc2];refine nxa (i+1) (by omega)
 ·simp at a;have hm:arB f s i=aAM f s:=by have:i=List.length s:=(by omega);subst this;simp[arB,aAM]
  simp[hm]
def aGP {w:World}{ow:Own}{vs:Array Value}{u u' u2:Value}(hs:vs.size=3)(h:∀(i:Nat) (d:D),[D.one u,D.one u',D.one u2][i]?=some d->V prog w ow d.fz [] (vs.getD i undef)):vs= #[u,u',u2]:=by
 have h0:=LX (h 0 _ rfl);have h1:=LX (h 1 _ rfl);have h3:=LX (h 2 _ rfl);apply Array.ext
 ·simpa using hs
 ·intro i hi h2;have:i=0\/i=1\/i=2:=by simp at h2;omega
  rcases this with rfl|rfl|rfl
  ·simpa[aF,hi]using h0
  ·simpa[aF,hi]using h1
  ·simpa[aF,hi]using h3
def aoI (s:Str):Str:=s.filter fun c=> !decide (c=39)
def N8 (s:Str)(hs:Qle s):fK prog 297 [dS s,dS [39],dS []] (fun r=>r=vS (aoI s)):=
 EG (u:= .string ⟨(aoI s).toArray⟩) rfl fun w ow vs hL hsz ha=>by
  obtain rfl:=aGP hsz ha;obtain⟨m,hm⟩:=(MP hL).2.2.2.1;have hc:Lib.countB ⟨s.toArray⟩ ⟨[39].toArray⟩=s.count 39:=Lib.count_one 39 s;refine(Tryz.strings_ReplaceAll ⟨s.toArray⟩ ⟨[39].toArray⟩ ⟨[].toArray⟩ m w (by simp[ByteArray.size];omega) hm (by simp[ByteArray.size]) (by rw[hc];simp[ByteArray.size];omega)).mono fun e w' ⟨h1,h2⟩=>⟨?_,h2⟩;rw[h1];show Ending.returned (.string ⟨(Lib.replaceAll s [39] []).toArray⟩)=_;rw[af0];rfl
def N9 (s:Str)(hs:Qle s:=by first|omega|grind):fK prog 295 [dS s,dS [32]] (fun r=>r=vS (ai6 s)):=
 EG (u:= .string ⟨(ai6 s).toArray⟩) rfl fun w ow vs hL hsz ha=>by
  obtain rfl:=ajD hsz ha;rw[aCW,←aCY];exact(Tryz.strings_TrimSuffix ⟨s.toArray⟩ ⟨[32].toArray⟩ w (by simp[ByteArray.size];omega)).mono fun e w' ⟨h1,h2⟩=>⟨h1,h2▸Below.refl _ _⟩
def asN (x:Nat)(hx:x<=1114111)(w:World):Calls prog 228 #[.int .i32 x] w fun e w'=>e= .returned (.bool (isSp x))/\Below w.heap.size w w':=by
 go_enter func228,ntmps228
 go_wp2
 refine bodyPost_ret (v:= .bool (decide ((x:Int)=32))) (by simp[results,Tryz.f228,loadVar]) rfl ⟨?_,Below.refl _ _⟩;have:decide ((x:Int)=32)=isSp x:=by unfold isSp;rw[bQ,decide_eq_true_eq,decide_eq_true_eq];omega
 rw[this]
def KS (s:Str)(hs:Qle s:=by first|omega|grind):Fk 219 [dS s] (vS (wJ s)):=by
 refine fE [] ntmps219 fun _ _=> ?_;have hm:aAM iU s=wJ s:=rfl;simp;refine ck (ahY s iU 300 aIW aJB (fun c _=>UC c) hs) ?_;simp[hm]
def UF (s:Str)(hs:Qle s):Fk 218 [dS s] (vS (yX s)):=by
 refine fE [] ntmps218 fun _ _=> ?_;have hm:aAM QV (aoI s)=yX s:=aCI s;have hl:(aoI s).length<=s.length:=bN _ _;simp;refine ck (N8 s hs) ?_;simp;refine ck (ahY (aoI s) QV 298 aIV aJA (fun c _=>O6 c) (by omega)) ?_;simp[hm]
def MC (s:Str)(hs:Qle s):Fk 217 [dS s] (vS (ED s)):=by
 refine fE [] ntmps217 fun _ _=> ?_;simp;refine wlt (Nat×Str) (fun(i,o)=>([(0,vS s),(3,.own (oBs o)),(5,vS s),(6,vI s.length),(7,vI i)],s.length-i,(i<=s.length)/\(o=(s.take i).foldl VT [])/\(o.length<=i))) ((0,[])) ⟨by omega,rfl,by simp⟩ ?_;rintro⟨i,o⟩ ⟨h1,h2,h3⟩;simp;apply gw<;>intro a
 ·obtain⟨c,hc⟩:=aR (l:=s) (i:=i);have hm:=fH VT [] hc;rw[←h2]at hm;simp[hc];apply gv<;>intro e
  ·have e':=e;have hu:VT o c=o++[c]:=if_pos (.inl (by rintro rfl;simp at e));simp[hc,e];refine nxb (i+1,o++[c]) ⟨by omega,by rw[hm,hu],by simp;omega⟩
  ·have e':=e;have hc32:c=32:=k_UInt8_toNat_inj.1 (show c.toNat=32 by omega);simp[e];apply gv<;>intro f
   ·have f':=f;obtain⟨x,hx⟩:=aR (l:=o) (i:=o.length-1);have hj:((o.length:Int)-1).toNat=o.length-1:=by omega
    have hg:o.getLast?=some x:=by rw[List.getLast?_eq_getElem?];exact hx
    simp[f,hx,hj];iterate 2 refine ai ?_
    apply gw<;>intro b
    ·have hu:VT o c=o++[c]:=if_pos (.inr ⟨by rintro rfl;simp at f,by rw[hg];rintro h;cases h;simp at b⟩);simp[hc,e];refine nxb (i+1,o++[c]) ⟨by omega,by rw[hm,hu],by simp;omega⟩ (h3:=by simp[hc,e,f,hx,hj])
    ·have hx32:x=32:=k_UInt8_toNat_inj.1 (show x.toNat=32 by omega);have hu:VT o c=o:=if_neg (by rw[hg,hc32,hx32];simp);simp;refine nxa (i+1,o) ⟨by omega,by rw[hm,hu],by omega⟩
   ·have f':=f;simp at f';have ho:o=[]:=bD (by omega);have hu:VT o c=o:=if_neg (by rw[ho,hc32];simp);simp[f];refine nxa (i+1,o) ⟨by omega,by rw[hm,hu],by omega⟩
 ·simp at a;rw[bS a]at h2;have hce:=aaL s;rw[←h2]at hce;simp;refine ck (N9 _) ?_;simp[hce]
def nU (s:Str)(hs:Qle s:=by omega):Fk 132 [dS s] (vS (normal s)):=by
 refine fE [] ntmps132 fun _ _=> ?_;have h1:=DF s;have h2:=IU (wJ s);have hn:ED (yX (wJ s))=normal s:=rfl;simp;refine ck (KS s (by omega)) ?_;simp;refine ck (UF (wJ s) (by omega)) ?_;simp;refine ck (MC (yX (wJ s)) (by omega)) ?_;simp[hn]
end Go.Proofs.YtnlkiflcbknaaaaGreatDoor
end
section
namespace Go.Proofs.YtnlkiflcbknaaaaGreatDoor
open Go.Dv Go.Pl Go.RowKit Go.Lib Go.Proofs.Tryz
def alZ:∀(s o:Str) (c:UInt8),c∈s.foldl VT o->c∈o\/c∈s
 |[],o,c,h=> .inl h
 |d::s,o,c,h=>by
  rcases alZ s (VT o d) c h with h|h
  ·unfold VT at h;split at h
   ·rcases k_List_mem_append.1 h with h|h
    ·exact .inl h
    ·exact .inr (by rw[k_List_mem_singleton.1 h];exact iW)
   ·exact .inl h
  ·exact .inr (aV _ h)
variable {s:Str}{c:UInt8}
def axC (h:c∈yX s):c.toNat<128:=by
 unfold yX at h;obtain⟨d,_,hd⟩:=List.mem_flatMap.1 h;unfold BR at hd;split at hd
 ·rename_i hw;rw[k_List_mem_singleton.1 hd];rcases hw with hw|hw
  ·unfold xJ at hw;simp only[bM,k_Bool_and_eq_true,decide_eq_true_eq]at hw;omega
  ·omega
 ·split at hd
  ·rw[k_List_mem_singleton.1 hd];decide
  ·cases hd
def arQ (h:c∈normal s):c.toNat<128:=by
 unfold normal at h;rw[aaL]at h
 have h2:c∈(yX (wJ s)).foldl VT []:=by
  unfold ai6 at h;split at h
  ·exact(List.dropLast_sublist _).subset h
  ·exact h
 rcases alZ _ _ _ h2 with h3|h3
 ·cases h3
 ·exact axC h3
def LG (s:Str):(normal s).length<=2*s.length:=by
 have h1:=DF s;have h2:=IU (wJ s);have h3:=VU (yX (wJ s));unfold normal;omega
def ai8 (s:Str):(M9 s).length<=s.length+1:=k_Nat_le_trans (bN _ _) (OV 32 s []).1
def avN (s:Str)(hs:Qle s)(hA:∀c∈s,c.toNat<128):fK prog 227 [dS s,.one (.func (.func 228) #[] #[])] (fun r=>r=wE (M9 s)):=by
 intro w ow vs t ht hL hnew hsz ha;obtain rfl:=ajD hsz ha;refine(Tryz.strings_FieldsFunc_grows 228 #[] aIR isSp ⟨s.toArray⟩ w (by simp[ByteArray.size];omega) (fun W x hx hb=>asN x hx W)).mono ?_;rintro e w' ⟨A,rfl,_,h1,h2⟩;have hm:=map_encStr (Lib.goFieldsP isSp ⟨s.toArray⟩);rw[ahQ hA]at hm;have hl:(Lib.goFieldsP isSp ⟨s.toArray⟩).length=(M9 s).length:=by rw[←ahQ hA,aK]
 rw[←hm,hl]at h1;obtain⟨ow',h3,h4⟩:=afU (ow:=ow) (t:=t) h2 h1;exact⟨_,ow',_,by rw[hl],rfl,h3,rfl,h4⟩
def agQ (s:Str)(hs:Qle s)(hA:∀c∈s,c.toNat<128):Fk 136 [dS s] (wE (M9 s)):=by
 refine fE [] ntmps136 fun _ _=> ?_;simp;refine ck (avN s hs hA) ?_;simp
def GR (s:Str)(hs:s.length<=65536:=by omega):Fk 84 [dS s] (wE (tokens s)):=by
 refine fE [] ntmps84 fun _ _=> ?_;have hn:=LG s;have hw:=ai8 (normal s);have ht:=TK s;simp;first|refine ck (nU s) ?_|refine ckz (nU s) ?_
 simp;refine ck (agQ (normal s) (by omega) (fun c hc=>arQ hc)) ?_;simp;refine ck (JG (M9 (normal s)) (by omega)) ?_;simp[ht]
end Go.Proofs.YtnlkiflcbknaaaaGreatDoor
end
section
namespace Go.Proofs.YtnlkiflcbknaaaaGreatDoor
open Go.Dv Go.Pl Go.Proofs.Tryz
def MI (s:Str)(hs:Qle s):Fk 361 [dS s] (vB (s.all JW)):=by
 refine fE [] ntmps361 fun _ _=> ?_;simp;refine wlt Nat (fun i=>([(0,vS s),(5,vI s.length),(6,vI i)],s.length-i,(i<=s.length)/\((s.take i).all JW=true))) (0) ⟨by omega,rfl⟩ ?_;rintro i ⟨h1,h2⟩;simp;apply gw<;>intro a
 ·obtain⟨c,hc⟩:=aR (l:=s) (i:=i);simp[hc];refine ck (ND c) ?_;simp;apply gv<;>intro e
  ·have e':=e;simp at e';simp[hc,e];refine ck (zL c) ?_;simp;apply gw<;>intro b
   ·simp at b;have hn:=fV hc (P:=JW) (by simp[JW]at*;omega);simp[hn]
   ·simp at b;simp;refine nxa (i+1) ⟨by omega,(bX hc h2 (by simp[JW]at*;omega))⟩
  ·have e':=e;simp at e';simp[e];refine nxa (i+1) ⟨by omega,(bX hc h2 (by simp[JW]at*;omega))⟩
 ·simp at a;have hf:=iX h2 a;simp[hf]
def aFQ {c:Str}(h:c≠[]):SN c=c.all JW:=by rw[aFR];simp[h]
def GQ (l:List Str)(hl:Qle l)(hs:∀x∈l,Qle x):Fk 302 [mQ l] (vB (qA l)):=by
 refine fE [] ntmps302 fun _ _=> ?_;simp;refine wlt Nat (fun i=>([(0,vR l),(5,vR l),(6,vI l.length),(7,vI i)],l.length-i,(i<=l.length)/\((l.take i).all SN=true)/\(adj ltL (l.take i)=true))) (0) ⟨by omega,rfl,rfl⟩ ?_;rintro i ⟨h1,h2,h3⟩;simp;apply gw<;>intro a
 ·obtain⟨c,hc⟩:=aR (l:=l) (i:=i);simp[hc];apply gv<;>intro e
  ·have e':=e;have hn:=fV hc (P:=SN) (by simp[SN,e]);simp[e];grind[qA]
  ·have e':=e;have hne:c≠[]:=by simpa using e
   have hta:=aFQ hne;simp[e];refine ck (MI c (hs c (J8 hc))) ?_;simp;apply gv<;>intro g
   ·have g':=g;simp at g';have hn:=fV hc (P:=SN) (by rw[hta];simpa using g);simp[g];grind[qA]
   ·have g':=g;simp at g';simp[g];apply gv<;>intro f
    ·have f':=f;obtain⟨p,hp⟩:=aR (l:=l) (i:=i-1);have hi1:i-1+1=i:=by omega
     have hj1:((i:Int)-1).toNat=i-1:=by omega
     simp[f,hp,hj1];iterate 2 refine ai ?_
     apply gw<;>intro b
     ·simp at b;have hn:=JV hp (by rw[hi1];exact hc) (R:=ltL) (by simpa using b);simp;grind[qA]
     ·simp at b;simp;refine nxa (i+1) ⟨by omega,(bX hc h2 (by rw[hta];simpa using g)),by have:=yZ (i:=i-1) (by rw[hi1];exact h3) hp (by rw[hi1];exact hc) (R:=ltL) (by simpa using b);rwa [hi1]at this⟩
    ·have f':=f;simp at f';simp[f];refine nxa (i+1) ⟨by omega,(bX hc h2 (by rw[hta];simpa using g)),(by obtain rfl:i=0:=(by omega);exact vW)⟩
 ·simp at a;have hf:=iX h2 a;rw[bS a]at h3;simp;grind[qA]
def O8 (a b:List Str)(ha:Qle a)(hsa:∀x∈a,Qle x)(hb:Qle b)(hsb:∀x∈b,Qle x):Fk 221 [mQ a,mQ b] (vB (wO a b)):=by
 refine fE [] ntmps221 fun _ _=> ?_;simp;refine ck (GQ a ha hsa) ?_;simp;apply gv<;>intro e
 ·have e':=e;simp[e];refine ck (GQ b hb hsb) ?_;simp;grind[wO]
 ·have e':=e;simp[e];grind[wO]
def ZF (n d:Int)(hn:0<=n/\n<=1000000000000)(hd:0<=d/\d<=1000000000):Fk 223 [dI n,dI d] (vI (if d=0 then 1000 else n.tdiv d)):=by
 refine fE [] ntmps223 fun _ _=> ?_;simp;apply gw<;>intro b
 ·simp;omega
 ·simp;iterate 2 refine ai ?_
  omega
end Go.Proofs.YtnlkiflcbknaaaaGreatDoor
end
section
namespace Go.Proofs.YtnlkiflcbknaaaaGreatDoor
open Go.Dv Go.Pl Go.RowKit Go.Proofs.Tryz
def axA:∀k<26,QJ.getD k 0=codeOf (97+k):=by decide
def af7 {w:World}(h:CQ w){k:Nat}(hk:k<26):w.cell? ⟨0,k,none⟩=some (.int .i64 (codeOf (97+k))):=by
 have hv:=h.2.2.2.2;have hg:prog.globalNamed "loop.example/g01923/impl.soundCodes" =some 0:=by kernel_rfl
 rw[←axA k hk];simp only[World.var?,hg,nD]at hv;have hl:k<QJ.length:=hk;cases hh:w.heap[0]? with
 |none=>rw[hh]at hv;simp at hv
 |some o=>
  rw[hh]at hv;cases o with
  |cells cs e fz=>
   simp only[nD]at hv;obtain rfl:=k_Option_some_inj hv;simp only[World.cell?,hh];simp[List.getD,hl]
  |_=>simp at hv
def aHX (c:UInt8)(w:World)(h:CQ w):Calls prog 229 #[.int .u8 c.toNat] w fun e w'=>e= .returned (.int .i64 (aO c))/\Below w.heap.size w w':=by
 have hc:c.toNat<256:=c.toNat_lt;have hs:=acI c;by_cases h1:65<=c.toNat/\c.toNat<=90
 ·have hu:=acW h1.1 h1.2;have hcell:=af7 h (k:=c.toNat-65) (by omega);rw[if_pos (by omega),hu]at hs;rw[show 97+(c.toNat-65)=c.toNat+32 by omega]at hcell;go_enter func229,ntmps229
  go_wp2
  all_goals first
   |(refine bodyPost_ret (v:= .int .i64 (aO c)) ?_ rfl ⟨rfl,Below.refl _ _⟩;simp[results,Tryz.f229,loadVar,hs];done)
   |(refine bodyPost_ret (v:= .int .i64 (-2)) ?_ rfl ⟨rfl,Below.refl _ _⟩;simp[results,Tryz.f229,loadVar];done)
   |(exfalso;rename_i h9;simp at h9;omega)
   |(exfalso;omega)
   |(exfalso;rename_i h8 h9;simp at h8 h9;omega)
 ·have hu:=RD h1;rw[hu]at hs;by_cases h2:97<=c.toNat/\c.toNat<=122
  ·have hcell:=af7 h (k:=c.toNat-97) (by omega);rw[if_pos h2]at hs;rw[show 97+(c.toNat-97)=c.toNat by omega]at hcell;go_enter func229,ntmps229
   go_wp2
   all_goals first
    |(refine bodyPost_ret (v:= .int .i64 (aO c)) ?_ rfl ⟨rfl,Below.refl _ _⟩;simp[results,Tryz.f229,loadVar,hs];done)
    |(refine bodyPost_ret (v:= .int .i64 (-2)) ?_ rfl ⟨rfl,Below.refl _ _⟩;simp[results,Tryz.f229,loadVar];done)
    |(exfalso;rename_i h9;simp at h9;omega)
    |(exfalso;omega)
    |(exfalso;rename_i h8 h9;simp at h8 h9;omega)
  ·rw[if_neg h2]at hs;go_enter func229,ntmps229
   go_wp2
   all_goals first
    |(refine bodyPost_ret (v:= .int .i64 (aO c)) ?_ rfl ⟨rfl,Below.refl _ _⟩;simp[results,Tryz.f229,loadVar,hs];done)
    |(refine bodyPost_ret (v:= .int .i64 (-2)) ?_ rfl ⟨rfl,Below.refl _ _⟩;simp[results,Tryz.f229,loadVar];done)
    |(exfalso;rename_i h9;simp at h9;omega)
    |(exfalso;omega)
    |(exfalso;rename_i h8 h9;simp at h8 h9;omega)
    |(exfalso;simp only[Bool.not_eq_eq_eq_not,xQ,decide_eq_true_eq]at*;omega)
def JC (c:UInt8):fK prog 229 [dC c] (fun r=>r=vI (aO c)):=
 EG (u:= .int .i64 (aO c)) rfl fun w ow vs hL hs ha=>by
  obtain rfl:=Y3 hs ha;exact aHX c w (MP hL)
end Go.Proofs.YtnlkiflcbknaaaaGreatDoor
end
section
namespace Go.Proofs.YtnlkiflcbknaaaaGreatDoor
open Go.Dv Go.Pl Go.Proofs.Tryz
def okC (c:UInt8):Bool:=decide (aO c≠ -2)
def aFN (c0:UInt8)(r:Str)(i:Nat):Str×Int:=(r.take (i-1)).foldl sK ([iU c0],aO c0)
variable {i:Nat}
def aw6 (c0:UInt8)(r:Str){c:UInt8}(hi:0<i)(h:(c0::r)[i]?=some c):aFN c0 r (i+1)=sK (aFN c0 r i) c:=by
 obtain⟨j,rfl⟩:∃j,i=j+1:=⟨i-1,by omega⟩;rw[rA]at h;exact fH sK _ h
def abN (s:Str)(hs:s.length<=65536):Fk 137 [dS s] (vS (jK s)):=by
 refine fE [] ntmps137 fun _ _=> ?_;simp;apply gw<;>intro a
 ·have hx:jK s=[]:=if_pos (.inl (by simpa using a));simp[hx]
 ·obtain⟨c0,r,rfl⟩:∃c r,s=c::r:=by cases s with|nil=>simp at a|cons c r=>exact⟨c,r,rfl⟩
  have hf:wJ [c0]=[iU c0]:=rfl;have hrl:r.length<=65536:=by simp at hs;omega
  simp;refine ck (KS [c0]) ?_;simp[hf];refine ck (JC c0) ?_;simp;refine wlt (Nat×Str×Int) (fun(i,o,p)=>([(0,vS (c0::r)),(3,.own (oBs o)),(4,vI p),(16,vS (c0::r)),(17,vI (r.length+1)),(18,vI i)],(r.length+1)-i,(i<=r.length+1)/\(((c0::r).take i).all okC=true)/\((o,p)=aFN c0 r i)/\(1<=o.length/\o.length<=i+1))) ((0,[iU c0],aO c0)) ⟨by omega,rfl,rfl,by simp⟩ ?_;rintro⟨i,o,p⟩ ⟨h1,h2,h3,h4⟩;simp;apply gw<;>intro b
  ·obtain⟨c,hc⟩:=aR (l:=c0::r) (i:=i) (by simp;omega);have hle:=YT c;simp[hc];refine ck (JC c) ?_;simp;apply gw<;>intro d
   ·have hn:=fV hc (P:=okC) (by simp[okC,d]);have hx:=asC hn;simp[hx]
   ·have hok:okC c:=by simp[okC,d]
    simp;apply gv<;>intro e
    ·have e':=e;obtain rfl:i=0:=by omega
     simp;refine nxa (1,o,p) ⟨by omega,(bX hc h2 hok),h3,by omega⟩
    ·have e':=e;have hst:=aw6 c0 r (by omega) hc;rw[←h3]at hst;simp[e];apply gw<;>intro f
     ·have hs1:sK (o,p) c=(o,p):=by simp only[sK];rw[if_neg (by omega),if_neg (by omega)]
      simp;refine nxa (i+1,o,p) ⟨by omega,(bX hc h2 hok),by rw[hst,hs1],by omega⟩
     ·simp at f;simp;apply gv<;>intro g
      ·have g':=g;simp[g];apply gw<;>intro k
       ·have hs1:sK (o,p) c=(o++[UInt8.ofNat (48+aO c).toNat],aO c):=by simp only[sK];rw[if_pos ⟨by omega,k⟩,if_pos (by omega)]
        have hu:((UInt8.ofNat (48+aO c).toNat).toNat:Int)=48+aO c:=by simp;omega
        have hw:IntKind.u8.wrap (48+aO c)=max (48+aO c) 0 % 256:=by simp[IntKind.wrap,IntKind.bits,IntKind.signed];omega
        simp[hw];refine nxd (i+1,o++[UInt8.ofNat (48+aO c).toNat],aO c) ⟨by omega,(bX hc h2 hok),by rw[hst,hs1],by simp;omega⟩
       ·have hs1:sK (o,p) c=(o,aO c):=by simp only[sK];rw[if_neg (by rintro⟨_,h⟩;exact h (by omega)),if_pos (by omega)]
        simp;refine nxa (i+1,o,aO c) ⟨by omega,(bX hc h2 hok),by rw[hst,hs1],by omega⟩
      ·have g':=g;simp at g';have hs1:sK (o,p) c=(o,aO c):=by simp only[sK];rw[if_neg (by omega),if_pos (by omega)]
       simp[g];refine nxa (i+1,o,aO c) ⟨by omega,(bX hc h2 hok),by rw[hst,hs1],by omega⟩
  ·simp at b;obtain rfl:i=r.length+1:=by omega
   rw[k_List_take_of_length_le (by simp)]at h2;have hse:=asB c0 r h2;have ho:(r.foldl sK ([iU c0],aO c0)).1=o:=by have:=congrArg Prod.fst h3;simpa[aFN]using this.symm
   rw[ho]at hse;simp[hse];refine ai ?_;omega
def axF (s:Str):(tokens s).length<=2*s.length+1:=by
 rw[←TK];have h1:=QI (M9 (normal s));have h2:=ai8 (normal s);have h3:=LG s;omega
def afB (l:List Str)(i:Nat):List Str:=anB (l.take i)
def aq9 {l:List Str}{c:Str}(h:l[i]?=some c):afB l (i+1)=afB l i++if jK c=[]then[]else[jK c]:=by
 unfold afB anB;rw[dM h,eB,fA];congr 1;by_cases hc:jK c=[]<;>simp[hc]
def JD (s:Str)(hs:s.length<=4096):Fk 85 [dS s] (wE (mK s)):=by
 refine fE [] ntmps85 fun _ _=> ?_;have hk:=anC s;have ht:=axF s;have hel:∀x∈tokens s,x.length<=65536:=fun x hx=>by have h1:=((VI s).2 x).1 hx;have h2:=(OV 32 (normal s) []).2 x h1.1;have h3:=LG s;simp at h2;omega
 simp;refine ck (GR s) ?_;generalize tokens s=l at*
 simp;refine wlt (Nat×List Str) (fun(i,o)=>([(3,wE o),(8,wE l),(9,vI l.length),(10,vI i)],l.length-i,(i<=l.length)/\(o=afB l i)/\(o.length<=i))) ((0,[])) ⟨by omega,rfl,by simp⟩ ?_;rintro⟨i,o⟩ ⟨h1,h2,h3⟩;simp;apply gw<;>intro a
 ·obtain⟨c,hc⟩:=aR (l:=l) (i:=i);have hst:=aq9 hc;simp[hc];refine ck (abN c (hel c (aA hc))) ?_;simp;apply gw<;>intro b
  ·have hu:afB l (i+1)=o++[jK c]:=by rw[hst,if_neg b,h2]
   simp;refine nxb (i+1,o++[jK c]) ⟨by omega,hu.symm,by simp;omega⟩
  ·have hu:afB l (i+1)=o:=by rw[hst,if_pos b,bZ,h2]
   simp;refine nxa (i+1,o) ⟨by omega,hu.symm,by omega⟩
 ·simp at a;have ho:o=anB l:=by rw[h2,afB,k_List_take_of_length_le (by omega)]
  rw[←ho]at hk;simp;refine ck (JG o (by omega)) ?_;simp[hk]
end Go.Proofs.YtnlkiflcbknaaaaGreatDoor
end
section
namespace Go.Proofs.YtnlkiflcbknaaaaGreatDoor
open Go.Dv Go.Pl Go.RowKit Go.Proofs.Tryz
def acC (n:Int)(hn: -9223372036854775808<=n/\n<=9223372036854775807):fK prog 373 [dI n] (fun r=>r=vS (yH n)):=
 EG (u:= .string ⟨(yH n).toArray⟩) rfl fun w ow vs hL hs ha=>by
  obtain rfl:=Y3 hs ha;rw[←aEA];exact(Tryz.strconv_Itoa n hn.1 hn.2 w (MP hL).1).mono fun e w' ⟨h1,k,os,h2⟩=>⟨h1,h2▸below_grow⟩
def H6 (s:Str)(v:Int)(hs:Qle s)(h:Lib.atoiAll s= .ok v):fK prog 306 [dS s] (fun r=>r= .tup [vI v,.val (.one .nilIface)]):=by
 refine azF (us:=[.int .i64 v,.nilIface]) (by simp[Value.oneCell']) fun w ow vs hL hsz ha=> ?_;obtain rfl:=Y3 hsz ha;refine(Tryz.strconv_Atoi_ok ⟨s.toArray⟩ (by simp[ByteArray.size];omega) v h w).mono fun e w' ⟨h1,h2⟩=>⟨h1,?_⟩;rcases h2 with rfl|⟨t,rfl⟩
 ·exact Below.refl _ _
 ·exact Lib.bytesWorld_below w _ t
def UT (s:Str)(hs:Qle s)(h:∀v,Lib.atoiAll s≠ .ok v):fK prog 306 [dS s] (fun r=>∃k tp p,r= .tup [vI k,.val (.one (.iface tp p))]):=by
 have hsz:(⟨s.toArray⟩:ByteArray).size<=281474976710656:=by simp[ByteArray.size];omega
 have key:∀(w:World) (ow:Own) (vs:Array Value) (t:Nat),Laid w ow->vs.size=1->(∀(i:Nat) (d:D),[dS s][i]?=some d->V prog w ow d.fz [] (vs.getD i undef))->Calls prog 306 vs w fun e w'=>∃k tp p,e= .returned (.tuple #[.int .i64 k,.iface tp p])/\Below w.heap.size w w':=by
  intro w ow vs t hL h1 h2;obtain rfl:=Y3 h1 h2;obtain⟨_,⟨t1,p1,hv1⟩,⟨t2,p2,hv2⟩,_⟩:=MP hL;by_cases hr:Lib.atoiAll s= .range
  ·exact(Tryz.strconv_Atoi_range_var ⟨s.toArray⟩ hsz hr t2 p2 w hv2).mono fun e w' ⟨N,g1,_,_,g4⟩=>⟨_,_,_,g1,g4⟩
  ·exact(Tryz.strconv_Atoi_syntax_var ⟨s.toArray⟩ hsz h hr t1 p1 w hv1).mono fun e w' ⟨N,g1,_,_,g4⟩=>⟨_,_,_,g1,g4⟩
 intro w ow vs t ht hL hnew hvs hargs;refine(key w ow vs t hL hvs hargs).mono ?_;rintro e w' ⟨k,tp,p,rfl,hB⟩;refine⟨_,fun b=>if b<w.heap.size then ow b else none,_,rfl,⟨k,tp,p,rfl⟩,⟨hB.os,hB.tape,hB.output,hB.size,fun b hb=>⟨hB.block b hb,if_pos hb⟩,fun b hb=>if_neg (by have:=hB.size;omega)⟩,rfl,fun s a=> ?_⟩;refine⟨_,rfl,by simp,fun k x hx=> ?_⟩
 match k,hx with
 |0,hx=>obtain rfl:=k_Option_some_inj hx;simp[D.fz,V,R,aF,Value.oneCell']
 |1,hx=>obtain rfl:=k_Option_some_inj hx;simp[D.fz,V,R,aF,Value.oneCell']
def aj1 (s:Str):Int:=if nH s=true then lW s else 0
def acU (s:Str):aj1 s=if nH s=true then lW s else 0:=rfl
def JA (n:Int)(hn: -9223372036854775808<=n/\n<=9223372036854775807):Fk 307 [dI n] (vS (yH n)):=by
 refine fE [] ntmps307 fun _ _=> ?_;simp;refine ck (acC n hn) ?_;simp
def avQ (s:Str)(hs:Qle s)(hp:nH s):Fk 230 [dS s] (.tup [vI (aj1 s),vB (nH s)]):=by
 refine fE [] ntmps230 fun _ _=> ?_;have hv:=awY hp;have hf:yH (lW s)=s:=by simp only[nH,k_Bool_and_eq_true,decide_eq_true_eq]at hp;exact hp.2
 have ha:Lib.atoiAll s= .ok (lW s):=(congrArg Lib.atoiAll hf.symm).trans (ax7 hv);have hg:aj1 s=lW s:=by rw[acU,if_pos hp]
 simp;refine ck (H6 s (lW s) hs ha) ?_;simp;refine ck (JA (lW s) (by omega)) ?_;simp[hf];refine ck (bI (lW s) (-999999999) 999999999) ?_;simp;apply gw<;>intro g
 ·simp at g;simp;refine ai ?_;exfalso;omega
 ·simp at g;simp;refine ai ?_;simp[hp]
def avO (s:Str)(v:Int)(hs:Qle s)(hp:nH s=false)(ha:Lib.atoiAll s= .ok v)(hv: -9223372036854775808<=v/\v<=9223372036854775807):Fk 230 [dS s] (.tup [vI (aj1 s),vB (nH s)]):=by
 refine fE [] ntmps230 fun _ _=> ?_;have hg:aj1 s=0:=by rw[acU,if_neg (by simp[hp])]
 simp;refine ck (H6 s v hs ha) ?_;simp;refine ck (JA v hv) ?_;simp;apply gv<;>intro e
 ·have e':=e;simp[e];refine ai ?_;simp[hp]
 ·have e':=e;simp[e];refine ck (bI v (-999999999) 999999999) ?_;simp;apply gw<;>intro g
  ·simp at g;simp;refine ai ?_;simp[hp]
  ·simp at g;simp;have h2:=(awZ (n:=v) (by omega)).1;all_goals(rw[e']at h2;rw[hp]at h2;cases h2)
def avP (s:Str)(hs:Qle s)(hp:nH s=false)(ha:∀v,Lib.atoiAll s≠ .ok v):Fk 230 [dS s] (.tup [vI (aj1 s),vB (nH s)]):=by
 refine fE [] ntmps230 fun _ _=> ?_;have hg:aj1 s=0:=by rw[acU,if_neg (by simp[hp])]
 simp;refine fG (UT s hs ha) (by simp) ?_;rintro r ⟨k,tp,p,rfl⟩;refine⟨by simp,?_⟩;simp;refine ai ?_;simp[hp]
def ZE (s:Str)(hs:Qle s):Fk 230 [dS s] (.tup [vI (aj1 s),vB (nH s)]):=by
 cases hp:nH s with
 |true=>rw[←hp];exact avQ s hs hp
 |false=>
  rw[←hp];by_cases ha:∃v,Lib.atoiAll s= .ok v
  ·obtain⟨v,ha⟩:=ha;exact avO s v hs hp ha (Lib.atoiAll_bounds ha)
  ·exact avP s hs hp fun v h=>ha ⟨v,h⟩
def JB (s:Str)(hs:Qle s):Fk 138 [dS s] (vI (jC s)):=by
 refine fE [] ntmps138 fun _ _=> ?_;have hg:=acU s;simp;refine ck (ZE s hs) ?_;simp;apply gv<;>intro a
 ·have a':=a;have hgv:aj1 s=lW s:=by rw[hg,if_pos a]
  simp[a,hgv];refine ck (bI (lW s) 1000 9999) ?_;simp;apply gw<;>intro b
  ·simp at b;simp;grind[jC]
  ·simp at b;simp;grind[jC]
 ·have a':=a;simp[a];grind[jC]
def YG (s:Str):0<=jC s/\jC s<=9999:=by
 unfold jC;split
 ·rename_i h;simp only[inR,decide_eq_true_eq]at h;omega
 ·omega
def aBB (x y z:Int):max (x-y) (y-x)=max x y-min x y:=by omega
def RZ (x y z:Int):Fk 139 [dI x,dI y,dI z] (vI (mX x y z)):=by
 refine fE [] ntmps139 fun _ _=> ?_;simp;refine ck (bI x 0 9999) ?_;simp;apply gv<;>intro e
 ·have e':=e;simp at e';simp[e];all_goals(simp only[mX];rw[if_neg (by intro h;simp_all;omega)])
 ·have e':=e;simp at e';simp[e];refine ck (bI y 0 9999) ?_;simp;apply gv<;>intro f
  ·have f':=f;simp at f';simp[f];all_goals(simp only[mX];rw[if_neg (by intro h;simp_all;omega)])
  ·have f':=f;simp at f';simp[f];refine ck (bI z 1 9999) ?_;simp;apply gw<;>intro g
   ·simp at g;simp;all_goals(simp only[mX];rw[if_neg (by intro h;simp_all;omega)])
   ·simp at g;have hxy:inR x 0 9999=true/\inR y 0 9999=true/\inR z 1 9999:=by simp_all
    have hnc:=aBB x y z;obtain⟨D,hD⟩:∃D,max x y-min x y=D:=⟨_,rfl⟩;have hns:mX x y z=if D>=z then 0 else(1000*(z-D)).tdiv z:=by rw[mX,if_pos hxy,hD]
    rw[hD]at hnc;have hb:0<=D/\D<=9999/\ -9999<=x-y/\x-y<=9999/\1<=z/\z<=9999:=by simp at hxy;omega
    clear hxy;have hm:(1000*max (z-D) 0).tdiv z=mX x y z:=by rw[hns];split;(rw[show max (z-D) 0=0 by omega];simp);(rw[show max (z-D) 0=z-D by omega])
    have hz0:¬z=0:=by omega
    have hq:=LB (a:=1000*max (z-D) 0) (b:=z);simp[hnc,hm,hz0];iterate 4 refine ai ?_
    grind
def WJ (x y:Str)(hx:Qle x)(hy:Qle y):Fk 86 [dS x,dS y] (vI (uH x y)):=by
 refine fE [] ntmps86 fun _ _=> ?_;have hxp:=YG x;have hyp:=YG y;simp;refine ck (JB x hx) ?_;simp;refine ck (JB y hy) ?_;simp;apply gv<;>intro e
 ·have e':=e;have hs:uH x y=0:=if_neg (by omega);simp[e,hs]
 ·have e':=e;simp[e];apply gw<;>intro f
  ·have hs:uH x y=0:=if_neg (by omega);simp[hs]
  ·have hs:uH x y=mX (jC x) (jC y) 10:=if_pos (by omega);simp;refine ck (RZ _ _ _) ?_;simp[hs]
def KR (s:Str)(hs:Qle s):Fk 140 [dS s] (vS (digits s)):=by
 refine fE [] ntmps140 fun _ _=> ?_;simp;refine wlt (Nat×Str) (fun(i,o)=>([(0,vS s),(3,.own (oBs o)),(5,vS s),(6,vI s.length),(7,vI i)],s.length-i,(i<=s.length)/\(o=(s.take i).filter (fun c=>decide (48<=c.toNat/\c.toNat<=57)))/\(o.length<=i))) ((0,[])) ⟨by omega,rfl,by simp⟩ ?_;rintro⟨i,o⟩ ⟨h1,h2,h3⟩;simp;apply gw<;>intro a
 ·obtain⟨c,hc⟩:=aR (l:=s) (i:=i);have hm:=zZ (fun c:UInt8=>decide (48<=c.toNat/\c.toNat<=57)) hc;rw[←h2]at hm;simp[hc];refine ck (zL c) ?_;simp;apply gw<;>intro f
  ·simp at f;have hd:(decide (48<=c.toNat/\c.toNat<=57))=true:=by simp at f|-;omega
   simp[hc];refine nxb (i+1,o++[c]) ⟨by omega,by rw[hm,hd];rfl,by simp;omega⟩
  ·simp at f;have hd:(decide (48<=c.toNat/\c.toNat<=57))=false:=by simp at f|-;omega
   simp;refine nxa (i+1,o) ⟨by omega,by rw[hm,hd];simp,by omega⟩
 ·simp at a;rw[bS a]at h2;simp;grind[digits]
def EJ (s p:Str)(hs:Qle s:=by first|omega|grind):fK prog 141 [dS s,dS p] (fun r=>r=vB (p.isSuffixOf s)):=
 EG (u:= .bool (p.isSuffixOf s)) rfl fun w ow vs hL hsz ha=>by
  obtain rfl:=ajD hsz ha;exact(Tryz.strings_HasSuffix ⟨s.toArray⟩ ⟨p.toArray⟩ w (by simp[ByteArray.size];omega)).mono fun e w' ⟨h1,h2⟩=>⟨h1,h2▸Below.refl _ _⟩
def UE (x y:Str)(hx:Qle x)(hy:Qle y):Fk 87 [dS x,dS y] (vI (sJ x y)):=by
 refine fE [5] ntmps87 fun _ _=> ?_;have hdx:(digits x).length<=x.length:=bN _ _;have hdy:(digits y).length<=y.length:=bN _ _;have hps:sJ x y=JP (digits x) (digits y):=rfl;simp;refine ck (KR x hx) ?_;simp;refine ck (KR y hy) ?_;generalize digits x=p at*
 generalize digits y=q at*
 simp;refine auS (fun(n:Nat)=>[(5,vS p),(6,vS q),(7,vI n)]) (fun(n:Nat)=>(shared p.reverse q.reverse=n)/\(n<=p.length/\n<=q.length)) ?_ ?_
 ·simp;refine wlt Nat (fun n=>([(5,vS p),(6,vS q),(7,vI n)],p.length-n,(n<=p.length/\n<=q.length)/\(shared p.reverse q.reverse=n+shared (p.reverse.drop n) (q.reverse.drop n)))) (0) ⟨by omega,by simp⟩ ?_;rintro n ⟨h1,h2⟩;simp;refine wdr ?_;simp;apply gv<;>intro a
  ·have a':=a;simp[a];apply gv<;>intro b
   ·have b':=b;have hk:((p.length:Int)-1-n).toNat=p.length-1-n:=by omega
    have hk2:((q.length:Int)-1-n).toNat=q.length-1-n:=by omega
    have hcx:=ac3 (s:=p) (i:=n);have hcy:=ac3 (s:=q) (i:=n);have hss:=abD (p:=p.reverse) (q:=q.reverse) (i:=n) (by simp;omega) (by simp;omega);simp[b,hk,hk2,hcx,hcy];iterate 6 refine ai ?_
    apply gw<;>intro f
    ·simp;refine nxa (n+1) ⟨by omega,by rw[h2,hss,if_pos (by simpa using f)];omega⟩
    ·simp;refine jn (n) ⟨by rw[h2,hss,if_neg (by simpa using f)];rfl,h1⟩
   ·have b':=b;simp at b';simp[b];refine jn (n) ⟨by rw[h2,M3 (.inr (by simp;omega))];rfl,h1⟩
  ·have a':=a;simp at a';simp[a];refine jn (n) ⟨by rw[h2,M3 (.inl (by simp;omega))];rfl,h1⟩
 rintro n ⟨h5,h6⟩;have hpe:=arV p q;rw[h5,←hps]at hpe;refine QU (fun(_:Unit)=>[(5,vS p)]) (fun(_:Unit)=>(sJ x y=400)) ?_ ?_
 ·simp;apply gv<;>intro a
  ·have a':=a;rw[if_pos (by omega)]at hpe;simp[a,hpe]
  ·have a':=a;simp at a';simp[a];apply gv<;>intro b
   ·have b':=b;rw[if_pos (by omega)]at hpe;simp[b,hpe]
   ·have b':=b;simp at b';simp[b];apply gw<;>intro d
    ·rw[if_pos (by omega)]at hpe;simp[hpe]
    ·simp at d;rw[if_neg (by omega)]at hpe;simp;apply gw<;>intro e
     ·rw[if_pos (by simpa using e)]at hpe;simp[hpe]
     ·rw[if_neg (by simpa using e)]at hpe;simp;apply gv<;>intro f
      ·have f':=f;rw[if_pos (.inl (by omega))]at hpe;simp[f,hpe]
      ·have f':=f;simp at f';simp[f];refine ck (EJ p q) ?_;simp;apply gv<;>intro g
       ·have g':=g;simp at g';rw[if_pos (.inr (.inl (by simpa using g)))]at hpe;simp[g,hpe]
       ·have g':=g;simp[g];refine ck (EJ q p) ?_;simp;apply gw<;>intro l
        ·simp at l;rw[if_pos (.inr (.inr (oG.2 l)))]at hpe;simp[hpe]
        ·rw[if_neg (by rintro(h|h|h);(omega);(exact absurd (h.symm.trans g) (by simp));(exact absurd (h.symm.trans l) (by simp)))]at hpe;simp;refine jn (()) (hpe)
 rintro⟨⟩ h7;simp;omega
end Go.Proofs.YtnlkiflcbknaaaaGreatDoor
end
section
namespace Go.Proofs.YtnlkiflcbknaaaaGreatDoor
open Go.Dv Go.Pl Go.Proofs.Tryz
def edB (x y:Str)(i:Nat):L2:=edT x y false i++List.replicate (x.length+1-i) []
def ayW (x y:Str):List.replicate (x.length+1) (D.sl (some 3) [])=(edB x y 0).map bT:=by
 show _=(List.replicate (x.length+1) ([]:L1)).map bT;rw[xC];rfl
variable {i:Nat}
def aDF (x y:Str)(h:i<=x.length+1):(edB x y i).length=x.length+1:=by simp[edB,D7];omega
def aGW (x y:Str)(h:i<=x.length):(edB x y i)[i]?=some []:=by
 unfold edB;rw[aN (by (try unfold Qle);rw[D7];omega),D7,fF,if_pos (by omega)]
def aDH (x y:Str)(h:i<=x.length)(r:L1):(edB x y i).set i r=edT x y false i++r::List.replicate (x.length-i) []:=by
 unfold edB;rw[gZ _ _ (by (try unfold Qle);rw[D7];omega),D7,cO,show x.length+1-i=(x.length-i)+1 by omega,fU];rfl
def aDG (x y:Str)(h:i<=x.length):((edB x y i).map bT).set i (D.sl (some 3) (List.replicate (y.length+1) (dI 0)))=(edU x y false i 0).map bT:=by
 have e:(D.sl (some 3) (List.replicate (y.length+1) (dI 0)))=bT (List.replicate (y.length+1) 0):=by rw[←List.map_replicate]
 rw[e,←List.map_set,aDH x y h];rfl
def aDM (x y:Str)(h:i<=x.length):edU x y false i (y.length+1)=edB x y (i+1):=by
 unfold edU edB;rw[aDI,ayY,show x.length+1-(i+1)=x.length-i by omega,bH];rfl
def aDO (x y:Str){k:Nat}(hk:k<=y.length):((edU x y false i k).map bT).set i (D.sl (some 3) (((edP x y false i k).map dI).set k (dI (ed x y false i k))))=(edU x y false i (k+1)).map bT:=by
 have h1:((edP x y false i k).map dI).set k (dI (ed x y false i k))=(edP x y false i (k+1)).map dI:=by rw[←List.map_set,aDL hk]
 rw[h1];have h2:(edU x y false i k).set i (edP x y false i (k+1))=edU x y false i (k+1):=by rw[aDP];rfl
 rw[←h2,jA]
def aDR (x y:Str)(i k:Nat):min (min (ed x y false i (k+1)+1) (ed x y false (i+1) k+1)) (ed x y false i k+if chr x i=chr y k then 0 else 1)=ed x y false (i+1) (k+1):=by
 rw[aGZ];unfold edV;rw[ed];simp[wM]
def ajW (x y:Str)(hx:x.length<=40)(hy:y.length<=40):Fk 360 [dS x,dS y,dB false] (.own (mY (edB x y (x.length+1)))):=by
 refine fE [] ntmps360 fun _ _=> ?_;have hz:=ayW x y;have hz2:=aDF x y (i:=0) (by omega);simp[hz,hz2];iterate 3 refine ai ?_
 refine wl (fun(i:Nat)=>[(0,vS x),(1,vS y),(2,vB false),(7,.own (mY (edB x y i))),(16,vI (x.length+1)),(17,vI i)]) (fun(i:Nat)=>x.length+1-i) (fun(i:Nat)=>(i<=x.length+1)) (0) (by omega) ?_;rintro i h1;simp;apply gw<;>intro a
 ·have hb1:=aGW x y (i:=i) (by omega);have hb2:=aDG x y (i:=i) (by omega);have hb3:=as5 (x:=x) (y:=y) (tr:=false) i 0;have hb4:=aDK (x:=x) (y:=y) (tr:=false) (i:=i) (k:=0) (by omega);simp[hb1,hb2,hb3,hb4];iterate 3 refine ai ?_
  refine wl (fun(k:Nat)=>[(0,vS x),(1,vS y),(2,vB false),(7,.own (mY (edU x y false i k))),(8,vI i),(16,vI (x.length+1)),(17,vI i),(31,vI (y.length+1)),(32,vI k)]) (fun(k:Nat)=>y.length+1-k) (fun(k:Nat)=>(k<=y.length+1)) (0) (by omega) ?_;rintro k h2;simp;apply gw<;>intro b
  ·have hn:=as5 (x:=x) (y:=y) (tr:=false) i k;have hp:=aGX (x:=x) (y:=y) (tr:=false) (i:=i) (k:=k) (by omega);have hput:=aDO x y (i:=i) (k:=k) (by omega);simp;apply gw<;>intro c
   ·have he:ed x y false i k=k:=by rw[show i=0 by omega,ed]
    rw[he]at hput;simp[hn,hp,hput];refine nxa (k+1) (by omega)
   ·simp;apply gw<;>intro d
    ·have he:ed x y false i k=i:=by obtain⟨j,rfl⟩:∃j,i=j+1:=⟨i-1,by omega⟩;rw[show k=0 by omega,ed]
     rw[he]at hput;simp[hn,hp,hput];refine nxa (k+1) (by omega)
    ·obtain⟨i,rfl⟩:∃j,i=j+1:=⟨i-1,by omega⟩;obtain⟨k,rfl⟩:∃j,k=j+1:=⟨k-1,by omega⟩;have e1:((i+1:Nat):Int)-1=i:=by omega
     have e2:((k+1:Nat):Int)-1=k:=by omega
     have hcx:=A7 (s:=x) (i:=i);have hcy:=A7 (s:=y) (i:=k);have ho:=aDN (x:=x) (y:=y) (tr:=false) (i:=i+1) (k:=k+1) (j:=i) (by omega);have r1:=acS (x:=x) (y:=y) (tr:=false) (i:=i) (k:=y.length+1) (j:=k+1);have r2:=acS (x:=x) (y:=y) (tr:=false) (i:=i) (k:=y.length+1) (j:=k);have r3:=aDJ (x:=x) (y:=y) (tr:=false) (i:=i+1) (k:=k+1) (j:=k) (by omega);have l1:=aqM (x:=x) (y:=y) (tr:=false) i (k+1);have l2:=aqM (x:=x) (y:=y) (tr:=false) i k;have l3:=aqM (x:=x) (y:=y) (tr:=false) (i+1) k;have hst:=aDR x y i k;simp;refine wdr ?_;simp[hcx,hcy];iterate 2 refine ai ?_
     apply gw<;>intro f
     ·rw[if_pos f,Int.add_zero]at hst;have hs2:min (min (ed x y false i (k+1)) (ed x y false (i+1) k)+1) (ed x y false i k)=ed x y false (i+1) (k+1):=by omega
      simp;refine wdt 36 ?_;simp[hn,hp,ho,r1,r2,r3,hs2,hput];iterate 11 refine ai ?_
      refine wdr ?_;simp;refine nxa (k+1+1) (by omega)
     ·rw[if_neg f]at hst;have hs2:min (ed x y false i (k+1)) (min (ed x y false (i+1) k) (ed x y false i k))+1=ed x y false (i+1) (k+1):=by omega
      simp;refine wdt 36 ?_;simp[hn,hp,ho,r1,r2,r3,hs2,hput];iterate 11 refine ai ?_
      refine wdr ?_;simp;refine nxa (k+1+1) (by omega)
  ·simp at b;have hk:edU x y false i k=edB x y (i+1):=by rw[show k=y.length+1 by omega];exact aDM x y (by omega)
   simp[hk];refine nxa (i+1) (by omega)
 ·simp at a;have hi:edB x y i=edB x y (x.length+1):=by rw[show i=x.length+1 by omega]
  simp[hi]
variable {x y:Str}
def aIM (hx:x.length<=40)(hy:y.length<=40):qX x y=ed x y false x.length y.length:=by rw[ZB,if_pos (by simp[GK];omega)]
def ayV (x y:Str):(edB x y (x.length+1))[x.length]?=some (edR x y false x.length (y.length+1)):=by
 unfold edB;rw[cO,List.replicate_zero,bZ];exact as4 (by omega)
def aIN (h:40<x.length\/40<y.length):qX x y= -1:=by
 unfold qX;rw[if_neg];simp only[GK,k_Bool_and_eq_true,decide_eq_true_eq];omega
def aDX (x y:Str)(hx:Qle x)(hy:Qle y):Fk 301 [dS x,dS y,dB false] (vI (qX x y)):=by
 refine fE [] ntmps301 fun _ _=> ?_;simp;apply gv<;>intro a
 ·have a':=a;have hn:=aIN (x:=x) (y:=y) (.inl (by omega));simp[a,hn]
 ·have a':=a;simp at a';simp[a];apply gw<;>intro b
  ·have hn:=aIN (x:=x) (y:=y) (.inr (by omega));simp[hn]
  ·simp at b;have hf:=aIM (x:=x) (y:=y) (by omega) (by omega);have h1:=ayV x y;have h2:=acS (x:=x) (y:=y) (tr:=false) (i:=x.length) (k:=y.length+1) (j:=y.length);simp;refine ck (ajW x y (by omega) (by omega)) ?_;simp[h1,h2,hf]
def O0 (x y:Str)(hx:Qle x)(hy:Qle y):Fk 220 [dS x,dS y] (vI (qX x y)):=by
 refine fE [] ntmps220 fun _ _=> ?_;simp;refine ck (aDX x y hx hy) ?_;simp
def WA (x y:Str)(hx:Qle x)(hy:Qle y):Fk 133 [dS x,dS y] (vI (xM x y)):=by
 refine fE [] ntmps133 fun _ _=> ?_;have hb:=ahN x y;have hed:xM x y=if qX x y<0 then 0 else if max (x.length:Int) y.length=0 then 1000 else(1000*(max (x.length:Int) y.length-qX x y)).tdiv (max (x.length:Int) y.length):=rfl
 obtain⟨M,hM⟩:∃M,max (x.length:Int) y.length=M:=⟨_,rfl⟩;have hMb:0<=M/\M<=1048576:=by omega
 rw[hM]at hed;simp;refine ck (O0 x y hx hy) ?_;simp[hM];apply gw<;>intro a
 ·rw[if_pos (by omega)]at hed;simp[hed]
 ·simp at a;rw[if_neg (by omega)]at hed;simp;apply gw<;>intro b
  ·rw[if_pos (by omega)]at hed;simp[hed]
  ·rw[if_neg (by omega)]at hed;have hq:=LB (a:=1000*(M-qX x y)) (b:=M);simp[hed,hq];iterate 2 refine ai ?_
   omega
def JH (x y:Str)(hx:x.length<=65536:=by omega)(hy:y.length<=65536:=by omega):Fk 82 [dS x,dS y] (vI (pQ x y)):=by
 refine fE [] ntmps82 fun _ _=> ?_;have h1:=LG x;have h2:=LG y;simp;first|refine ck (nU x) ?_|refine ckz (nU x) ?_
 simp;first|refine ck (nU y) ?_|refine ckz (nU y) ?_
 simp;apply gv<;>intro a
 ·have a':=a;have ht:pQ x y=0:=if_pos (.inl (by simpa using a));simp[a,ht]
 ·have a':=a;simp[a];apply gw<;>intro b
  ·have ht:pQ x y=0:=if_pos (.inr (by simpa using b));simp[ht]
  ·have ht:pQ x y=xM (normal x) (normal y):=if_neg (by rintro(h|h);(exact a (by simpa using h));(exact b (by simpa using h)));simp;refine ck (WA (normal x) (normal y) (by omega) (by omega)) ?_;simp[ht]
end Go.Proofs.YtnlkiflcbknaaaaGreatDoor
end
section
namespace Go.Proofs.YtnlkiflcbknaaaaGreatDoor
open Go.Dv Go.Pl Go.RowKit Go.Lib Go.Sort Go.Proofs.Tryz
def I9 (l:List Str)(hl:1<=l.length/\l.length<=262144):fK prog 224 [mQ l] (fun r=>r=wE l):=by
 intro w ow vs t ht hL hnew hsz ha;obtain⟨a,cap,hv,hcap,hc⟩:=auA (ha 0 _ rfl)
 obtain rfl:vs= #[.slice a l.length cap]:=by
  apply Array.ext
  ·simpa using hsz
  ·intro i hi h2;obtain rfl:i=0:=by simpa using h2
   simpa[aF,hi]using hv
 rcases hc with rfl|⟨b,off,rfl,_,h2⟩
 ·simp at hl
 ·refine(adX l ⟨b,off,none⟩ cap w hl.2 (.inr ⟨rfl,h2⟩)).mono ?_;rintro e w' ⟨v,rfl,h1,_,h3⟩;obtain⟨ow',h4,h5⟩:=afU (ow:=ow) (t:=t) h3 h1;exact⟨_,ow',_,rfl,rfl,h4,rfl,h5⟩
def G8 (l:List Str)(hl:1<=l.length/\l.length<=262144:=by first|assumption|omega):FO prog 225 [.one (.bool false)] 0 (YB l) (fun r d=>r= .tup []/\d=YB (sO l)):=by
 intro w ow vs t lab ht hL hnew hsz hm hargs hV;simp only[V,R]at hV;obtain⟨a,cap,hv,hc1,hc2,h4⟩:=hV;rw[aK]at hv hc1;have hv:vs.getD 0 undef= .slice a l.length cap:=by simpa using hv
 obtain rfl:vs= #[.slice a l.length cap]:=by
  apply Array.ext
  ·simpa using hsz
  ·intro i hi h2;obtain rfl:i=0:=by simpa using h2
   simpa[aF,hi]using hv
 rcases h4 with⟨_,h4,_⟩|⟨h4,_⟩|⟨b,off,s,C,e',fz,rfl,hb,_,h5,hrow⟩
 ·have:l=[]:=by simpa using h4
  rw[this]at hl;simp at hl
 ·cases h4
 obtain⟨hob,rfl,hU,rfl,hC,i,hi,his⟩:=h5 _ rfl;have hr:=(Rs.iff hb).1 hrow
 have hget:∀(j:Nat) (x:Str),l[j]?=some x->s=1/\C[j]?=some (Value.string ⟨x.toArray⟩):=fun j x hx=>by
  obtain⟨hw,C',e2,fz',cs,g1,g2,g3⟩:=hr j (dS x) (by rw[aQ,hx];rfl);have hs1:s=1:=hw.symm;subst hs1;rw[hb]at g1;obtain⟨rfl,rfl,rfl⟩:C=C'/\_=e2/\fz=fz':=by simpa using g1
  simp only[R]at g3;obtain⟨rfl,_⟩:=g3;have:=g2 0 (by simp[D.w]);exact⟨rfl,by simpa using this⟩
 have hs1:s=1:=(hget 0 _ (aB (by omega))).1;subst hs1;have hCl:l.length<=C.size:=by omega
 have hlt:=Go.Dv.lt_of_heap hb
 have hH:Holds encStr w b 0 l.toArray:=fun j hj=>by
  have hj':j<l.length:=by simpa using hj
  have h1:=(hget j _ (aB hj')).2;refine⟨?_,?_⟩
  ·rw[cell_of_row w b (0+j) C _ fz hb,bW,h1,acT];rw[getElem!_pos l.toArray j hj];simp
  ·have:=hU j (by omega);simp only[World.frozen?,hb,bW];simp only[kV,decide_eq_false_iff_not];omega
 refine(Tryz.slices_Sort_string b 0 cap l w hH hlt (by omega)).mono ?_;rintro e w2 ⟨h1,n,os,rfl⟩
 have hold:∀b2,b2<w.heap.size->(grow (putRow encStr (Go.Sort.ahead w n) b 0 (l.mergeSort fun x y=>decide (x<=y)).toArray) os).heap[b2]?=(w.heap.modify b (onCells (putCells encStr 0 (sO l).toArray)))[b2]?:=fun b2 hb2=>by
  show((w.heap.modify b (onCells (putCells encStr 0 (sO l).toArray)))++os)[b2]?=_;rw[eY (by simpa using hb2)]
 have hnb:=hold b hlt;rw[tQ,if_pos rfl,hb]at hnb;refine⟨_,ow,.tup [],_,h1,⟨rfl,rfl⟩,rfl,rfl,rfl,by simp[grow,putRow,mapBlock,Go.Sort.ahead],fun b2 hb2 hno=>⟨?_,rfl⟩,fun b2 hb2=>hnew b2 (by simp[grow,putRow,mapBlock,Go.Sort.ahead]at hb2;omega),?_,rfl,fun s a=>⟨#[],rfl,rfl,fun k x hx=>by simp at hx⟩⟩
 ·rw[hold b2 hb2,tQ,if_neg (fun e=>hno [] (by rw[←e,hob];rfl))]
 ·simp only[V,R];rw[aK,uG];refine⟨_,_,rfl,by omega,hc2,.inr (.inr ⟨b,0,1,_,_,fz,rfl,hnb,(by intro h;cases h),fun t' ht'=> ?_,?_⟩)⟩
  ·obtain rfl:=k_Option_some_inj ht';exact⟨hob,rfl,by simpa[putCells]using hU,rfl,by simpa[putCells]using hC,i,hi,his⟩
  ·rw[Rs.iff hnb];intro j x hx;rw[aQ,aL]at hx;obtain⟨y,hy,rfl⟩:=hx;have hj:j<l.length:=by have:=dF hy;rw[uG]at this;exact this
   refine⟨rfl,_,_,_,[.string ⟨y.toArray⟩],hnb,fun k hk=> ?_,by simp[R,Value.oneCell']⟩;obtain rfl:k=0:=by simpa[D.w]using hk
   have hjC:C[j]?=some C[j]:=iJ (by omega);simp only[putCells,bW,Nat.mul_one,kM,Array.getElem?_mapIdx,hjC,cB];have hjs:j<(sO l).toArray.size:=by simpa[uG]using hj
   rw[if_pos ⟨Nat.zero_le _,hjs⟩,Nat.sub_zero,getElem!_pos (sO l).toArray j hjs];rw[aB (by simpa using hjs)]at hy;simp[acT,k_Option_some_inj hy]
end Go.Proofs.YtnlkiflcbknaaaaGreatDoor
end
section
namespace Go.Proofs.YtnlkiflcbknaaaaGreatDoor
open Go.Dv Go.Pl Go.Proofs.Tryz
def acA (n d:Int)(hn:0<=n/\n<=1000000000)(hd:0<=d/\d<=1000000000):Fk 206 [dI n,dI d] (vI (ratio n d)):=by
 refine fE [] ntmps206 fun _ _=> ?_;simp;apply gw<;>intro h1
 ·simp;grind[ratio]
 ·simp;iterate 3 refine ai ?_
  grind[ratio]
def NV (l w:L1)(hl:Qle l:=by first|omega|grind)(hw:Qle w:=by first|omega|grind):Fk 308 [nInts l,nInts w] (vI (oN l w)):=by
 refine fE [] ntmps308 fun _ _=> ?_;simp;apply gw<;>intro e
 ·simp;simp[oN];omega
 ·simp;refine wlt (Nat×Int×Int) (fun(i,s,t)=>([(0,vN l),(1,vN w),(5,vI s),(6,vI t),(7,vI i)],l.length-i,(i<=l.length)/\((List.range i).all (sZ l w)=true)/\(s=xL l w i)/\(t=uM w i))) ((0,0,0)) ⟨by omega,rfl,rfl,rfl⟩ ?_;rintro⟨i,s,t⟩ ⟨h1,h2,h3,h4⟩;simp;apply gw<;>intro a
  ·have hl1:=aY (l:=l) (i:=i);have hw1:=aY (l:=w) (i:=i);have hb:∀j<i,sZ l w j:=fun j hj=>aI.1 h2 j (bB.2 hj);have hN:=CU i hb;have hD:=CS i hb;simp[hl1];refine ck (bJ _ _ _) ?_;simp;apply gv<;>intro e
   ·have e':=e;simp at e';have hn:=mZ a (P:=sZ l w) (by simp[sZ];omega);simp[e];all_goals simp[oN,hn]
   ·have e':=e;simp at e';simp[hw1,e];refine ck (bJ _ _ _) ?_;simp;apply gw<;>intro f
    ·simp at f;have hn:=mZ a (P:=sZ l w) (by simp[sZ];omega);simp;all_goals simp[oN,hn]
    ·simp at f;have hc:sZ l w i:=by simp[sZ];omega
     have hp1:0<=at1 l i*at1 w i:=Int.mul_nonneg (by omega) (by omega);have hp2:at1 l i*at1 w i<=1000*1000:=Int.mul_le_mul (by omega) (by omega) (by omega) (by omega);simp;refine wdt 11 ?_;simp[hl1,hw1];iterate 4 refine ai ?_
     refine nx (i+1,s+at1 l i*at1 w i,t+at1 w i) ⟨by omega,(oH h2 hc),by rw[h3,xL,xL,aM],by rw[h4,uM,uM,aM]⟩
  ·simp at a;have hi:l.length=i:=by omega
   subst hi;have hb:∀j<l.length,sZ l w j:=fun j hj=>aI.1 h2 j (bB.2 hj);have hN:=CU l.length hb;have hD:=CS l.length hb;simp;apply gw<;>intro b
   ·simp;all_goals simp[oN,←h4,b]
   ·simp;iterate 2 refine ai ?_
    all_goals(rw[oN,if_pos ⟨by omega,h2⟩,←h4,if_neg b,←h3])
def XJ (s:Sco)(f:L1)(hs:Qle s.weights:=by first|omega|grind)(hf:Qle f:=by first|omega|grind):Fk 235 [II s,nInts f] (vI (mI s f)):=by
 refine fE [] ntmps235 fun _ _=> ?_;simp;refine ck (oP _) ?_;simp;apply gv<;>intro e
 ·have e':=e;simp at e';simp[e];grind[mI]
 ·have e':=e;simp at e';simp[e];refine ck (nW _) ?_;simp;apply gw<;>intro b
  ·simp at b;simp;grind[mI]
  ·simp at b;simp;refine ck (NV _ _) ?_;simp;grind[mI]
def XN (t:Tst)(f:L1)(hf:Qle f:=by first|omega|grind):Fk 198 [uI t,nInts f] (vB (pO f t)):=by
 refine fE [] ntmps198 fun _ _=> ?_;simp;refine wdt 20 ?_;simp;refine cd (nW _) ?_;simp;apply gv<;>intro e
 ·have e':=e;simp[e];refine cd (bJ _ _ _) ?_;simp;apply gv<;>intro g
  ·have g':=g;simp at g';have h6:f.length=6:=by simp only[vH,k_Bool_and_eq_true,decide_eq_true_eq]at e;exact e.2
   have hx:=aY (l:=f) (i:=t.feature.toNat);simp[g,hx];refine ai ?_;all_goals(simp only[pO];rw[e',show inR t.feature 0 5=true by simp;omega];simp)
  ·have g':=g;simp at g';simp[g];all_goals(simp only[pO];rw[e',show inR t.feature 0 5=false by simp;omega];simp)
 ·have e':=e;simp[e];all_goals simp[pO,e']
def XK (r:List Tst)(f:L1)(hr:Qle r)(hf:Qle f:=by first|omega|grind):Fk 117 [wK r,nInts f] (vB (uE f r)):=by
 refine fE [] ntmps117 fun _ _=> ?_;simp;refine wlt Nat (fun i=>([(1,vN f),(2,.own (.bx true (wK r))),(5,vI i)],r.length-i,(i<=r.length)/\((r.take i).all (pO f)=true))) (0) ⟨by omega,rfl⟩ ?_;rintro i ⟨h1,h2⟩;simp;apply gw<;>intro a
 ·obtain⟨c,hc⟩:=aR (l:=r) (i:=i);simp[hc];refine ck (XN _ _) ?_;simp;apply gw<;>intro b
  ·simp at b;have hn:=fV hc (P:=(pO f)) (by first|assumption|(simp[*];done)|grind|(simp;omega));simp;grind[uE]
  ·simp at b;simp;refine nxa (i+1) ⟨by omega,(bX hc h2 (by first|assumption|(simp[*];done)|grind|(simp;omega)))⟩
 ·simp at a;have hf:=iX h2 a;simp;refine ck (nW _) ?_;simp;grind[uE]
def XG (rs:List (List Tst))(f:L1)(hs:Qle rs:=by first|omega|grind)(hr:∀l∈rs,Qle l:=by first|omega|grind)(hf:Qle f:=by first|omega|grind):Fk 72 [mU rs,nInts f] (vI (tF rs f)):=by
 refine fE [] ntmps72 fun _ _=> ?_;simp;refine wlt Nat (fun i=>([(1,vN f),(2,.own (.bx true (mU rs))),(5,vI i)],rs.length-i,(i<=rs.length)/\((rs.take i).any (uE f)=false))) (0) ⟨by omega,rfl⟩ ?_;rintro i ⟨h1,h2⟩;simp;apply gv<;>intro a
 ·have a':=a;simp[a];refine ck (rJ _) ?_;simp;apply gw<;>intro b
  ·obtain⟨c,hc⟩:=aR (l:=rs) (i:=i);simp[hc];refine ck (XK c f (hr c (aA hc))) ?_;simp;apply gw<;>intro e
   ·have hx:ix (uE f) rs=i:=CK hc h2 e;simp;grind[tF]
   ·simp;refine nxa (i+1) ⟨by omega,(kL hc h2 e)⟩
  ·simp;grind[tF]
 ·have a':=a;simp at a';have hx:=rQ (oL h2 (by omega));simp[a];grind[tF]
def BD (rs:List (List Tst))(f:L1)(hs:Qle rs:=by first|omega|grind)(hr:∀l∈rs,Qle l:=by first|omega|grind)(hf:Qle f:=by first|omega|grind):Fk 38 [mU rs,nInts f] (vB (decide (0<=tF rs f))):=by
 refine fE [] ntmps38 fun _ _=> ?_;simp;refine ck (XG _ _) ?_;simp
def UQ (rs:List (List Tst))(s:Sco)(f:L1)(hs:Qle rs)(hr:∀l∈rs,Qle l)(hw:Qle s.weights)(hf:Qle f):Fk 155 [mU rs,II s,nInts f] (vI (iY rs s f)):=by
 refine fE [] ntmps155 fun _ _=> ?_;simp;refine ck (rJ _) ?_;simp;apply gv<;>intro e
 ·have e':=e;simp at e';simp[e];grind[iY]
 ·have e':=e;simp at e';simp[e];refine ck (oP _) ?_;simp;apply gv<;>intro g
  ·have g':=g;simp at g';simp[g];grind[iY]
  ·have g':=g;simp at g';simp[g];refine ck (nW _) ?_;simp;apply gw<;>intro b
   ·simp at b;simp;grind[iY]
   ·simp at b;have hp:=YF s f hf;have hb:0<=s.bias/\s.bias<=1000:=by simp only[lZ,k_Bool_and_eq_true,decide_eq_true_eq]at g';exact g'.2
    simp;refine wdt 6 ?_;simp;refine cd (XJ _ _) ?_;simp;refine ai ?_;refine ck (BD _ _) ?_;simp;apply gw<;>intro d
    ·simp;grind[iY]
    ·simp at d;simp;grind[iY]
def aeU (x y:Str)(hx:Qle x)(hy:Qle y):Fk 289 [dS x,dS y] (vB (decide (x.length<=40)&&decide (y.length<=40))):=by
 refine fE [] ntmps289 fun _ _=> ?_;simp;apply gv<;>intro e
 ·have e':=e;simp[e];grind
 ·have e':=e;simp at e';simp[e];omega
def ab5 (s:Str)(hs:s.length<=65536):Fk 124 [dS s] (vS (jK s)):=by
 refine fE [] ntmps124 fun _ _=> ?_;simp;refine wlt (Nat×Str×Int) (fun(i,o,l)=>([(0,vS s),(3,.own (oBs o)),(4,vI l),(5,vI i)],s.length-i,(i<=s.length)/\((o,l)=(s.take i).foldl wH ([],0))/\(o.length<=4/\(o=[]↔i=0))/\((s.take i).all (fun c=>decide (aO c≠ -2))=true))) ((0,[],0)) ⟨by omega,rfl,by simp,rfl⟩ ?_;rintro⟨i,o,l⟩ ⟨h1,h2,h3,h4⟩;simp;apply gw<;>intro a
 ·obtain⟨c,hc⟩:=aR (l:=s) (i:=i);have hm:=fH wH ([],0) hc;rw[←h2]at hm;have hcl:=YT c;simp[hc];refine ck (XL _) ?_;simp;apply gw<;>intro b
  ·have hn:=fV hc (P:=fun c=>decide (aO c≠ -2)) (by simp[b]);have hr:jK s=[]:=if_pos (.inr hn);simp[hr]
  ·simp;apply gw<;>intro d
   ·have ht:s.take 1=[c]:=by subst d;simpa using dM hc
    have hf:wJ [c]=[iU c]:=rfl;have ho:o=[]:=h3.2.2 d;have hb0:({data:= #[iU c]}:ByteArray)[0]'(by show 0<1;omega)=iU c:=rfl;simp[ht];refine ai ?_;refine ck (xO [c]) ?_;have hu:wH (o,l) c=([iU c],aO c):=if_pos ho;simp[hf,hb0,ho];refine nxa (i+1,[iU c],aO c) ⟨by omega,by rw[hm,hu],by simp,(bX hc h4 (by simp[b]))⟩
   ·have ho:o≠[]:=fun h=>d (h3.2.1 h);have hsx:wH (o,l) c=(if aO c>0/\aO c≠l/\o.length<4 then o++[UInt8.ofNat (48+aO c).toNat]else o,if 0<=aO c then aO c else l):=if_neg ho;simp;apply gv<;>intro e
    ·have e':=e;have hu8:IntKind.u8.wrap (48+aO c)=max (48+aO c) 0 % 256:=by simp[IntKind.wrap,IntKind.bits,IntKind.signed];omega
     simp[e];apply gv<;>intro f
     ·have f':=f;simp[f];apply gw<;>intro g
      ·have hp:wH (o,l) c=(o++[UInt8.ofNat (48+aO c).toNat],aO c):=by rw[hsx,if_pos ⟨by omega,by simpa using f,by omega⟩,if_pos (by omega)]
       simp[hu8];iterate 2 refine ai ?_
       apply gw<;>intro k
       ·simp;refine nxa (i+1,o++[UInt8.ofNat (48+aO c).toNat],aO c) ⟨by omega,by rw[hm,hp],by simp;omega,(bX hc h4 (by simp[b]))⟩
       ·simp at k;exfalso;omega
      ·simp at g;have hp:wH (o,l) c=(o,aO c):=by rw[hsx,if_neg (by rintro⟨_,_,h⟩;omega),if_pos (by omega)]
       simp;apply gw<;>intro k
       ·simp;refine nxa (i+1,o,aO c) ⟨by omega,by rw[hm,hp],by simp[ho];omega,(bX hc h4 (by simp[b]))⟩
       ·simp at k;exfalso;omega
     ·have f':=f;have hp:wH (o,l) c=(o,aO c):=by rw[hsx,if_neg (by rintro⟨_,h,_⟩;exact h (by simpa using f')),if_pos (by omega)]
      simp[f];apply gw<;>intro k
      ·simp;refine nxa (i+1,o,aO c) ⟨by omega,by rw[hm,hp],by simp[ho];omega,(bX hc h4 (by simp[b]))⟩ (h3:=by simp[hc,e,f])
      ·simp at k;exfalso;omega
    ·have e':=e;simp at e';have hp:wH (o,l) c=(o,if 0<=aO c then aO c else l):=by rw[hsx,if_neg (by rintro⟨h,_⟩;exact e (by simpa using h))]
     simp[e];apply gw<;>intro k
     ·simp;refine nxa (i+1,o,aO c) ⟨by omega,by rw[hm,hp,if_pos (by omega)],by simp[ho];omega,(bX hc h4 (by simp[b]))⟩
     ·simp at k;simp;refine nxa (i+1,o,l) ⟨by omega,by rw[hm,hp,if_neg (by omega)],by simp[ho];omega,(bX hc h4 (by simp[b]))⟩
 ·simp at a;have hi:s.length=i:=by omega
  have hf:=iX h4 a;rw[bS a]at h2;simp;apply gw<;>intro b
  ·have hr:jK s=[]:=if_pos (.inl (by have:=h3.2.1 (by simpa using b);exact bD (by omega)));simp[hr]
  ·have hs0:s≠[]:=fun h=>b (by have:=h3.2.2 (by subst h;simpa using hi.symm);simpa using this);have hr:jK s=acE o:=by rw[jK,if_neg (by rw[hf];simp[hs0]),←h2]
   simp;refine wlt Str (fun q=>([(3,.own (oBs q))],4-q.length,(q.length<=4)/\(acE q=acE o))) (o) ⟨h3.1,rfl⟩ ?_;rintro q ⟨h5,h6⟩;simp;apply gw<;>intro g
   ·have hp:acE (q++[48])=acE q:=by simp only[acE,aP,eD];rw[bH];congr 1;rw[show 4-q.length=(4-(q.length+1))+1 by omega,fU];rfl
    simp;refine nxa (q++[48]) ⟨by simp;omega,by rw[hp,h6]⟩
   ·simp at g;have hq:acE q=q:=by simp[acE,show 4-q.length=0 by omega]
    simp;all_goals(rw[hr,←h6,hq])
def agG {l:List Str}{x y:Str}{b:Bool}(h:y∈jW l x b):y∈l\/y=x:=by
 unfold jW at h;split at h
 ·exact .inl h
 ·rcases k_List_mem_append.1 h with h|h
  ·rcases k_List_mem_append.1 h with h|h
   ·exact .inl (fI h)
   ·exact .inr (by simpa using h)
  ·exact .inl (gJ h)
def M6 (s:Str):(tokens s).length<=2*s.length+1/\∀x∈tokens s,x.length<=2*s.length:=by
 have hc:=al4 32 (normal s);have hn:=IK s
 have key:∀(L:List Str) (t:List Str),(∀x∈L,x.length<=2*s.length)->(∀x∈t,x.length<=2*s.length)->(L.foldl xX t).length<=t.length+L.length/\∀x∈L.foldl xX t,x.length<=2*s.length:=by
  intro L
  induction L with
  |nil=>intro t _ ht;exact⟨by simp,ht⟩
  |cons y L ih=>
   intro t hL ht;have h1:=apP t y
   have h2:∀x∈xX t y,x.length<=2*s.length:=fun x hx=>by
    unfold xX at hx;split at hx
    ·rcases agG hx with h|rfl
     ·exact ht x h
     ·exact hL _ (by simp)
    ·exact ht x hx
   have:=ih (xX t y) (fun x hx=>hL x (aV _ hx)) h2;refine⟨?_,this.2⟩;have:=this.1;simp only[k_List_foldl_cons,aS];omega
 have:=key (ad6 32 (normal s)) [] (fun x hx=>by have:=hc.2 x hx;omega) (by simp);unfold tokens;refine⟨?_,this.2⟩;have:=this.1;simp at this;omega
def JJ (s:Str)(hs:s.length<=4096):Fk 77 [dS s] (vR (mK s)):=by
 refine fE [] ntmps77 fun _ _=> ?_;have ht:=M6 s;simp;refine ck (HZ _) ?_;generalize hcs:tokens s=L at ht|-
 simp;refine wld [3] (Nat×List Str) (fun(i,o)=>([(3,vR o),(4,vR L),(5,vI i)],L.length-i,(i<=L.length)/\(o=(L.take i).foldl xR [])/\(o.length<=i))) ((0,[])) ⟨by omega,rfl,by simp⟩ ?_;rintro⟨i,o⟩ ⟨h1,h2,h3⟩;simp;apply gw<;>intro a
 ·obtain⟨c,hc⟩:=aR (l:=L) (i:=i);have hm:=fH xR [] hc;rw[←h2]at hm;have hl:=ht.2 c (J8 hc);simp[hc];refine ck (ab5 c (by omega)) ?_;simp;apply gw<;>intro b
  ·have hu:xR o c=jW o (jK c) false:=if_pos b;have hp:=sM o (jK c) false;simp;refine ck (zA o (jK c) false) ?_;simp;refine ai ?_;refine nxc (i+1,jW o (jK c) false) [3] ⟨by omega,by rw[hm,hu],by omega⟩
  ·have hu:xR o c=o:=if_neg (by simp[b]);simp;refine ai ?_;refine nxc (i+1,o) [3] ⟨by omega,by rw[hm,hu],by omega⟩
 ·simp at a;rw[bS a]at h2;simp;simp[mK,hcs,←h2]
def G9 (l:List Str)(hl:Qle l)(hs:∀x∈l,Qle x):Fk 291 [mQ l] (vB (qA l)):=by
 refine fE [200001] ntmps291 fun _ _=> ?_;simp;refine wlt Nat (fun i=>([(0,vR l),(3,vI i)],l.length-i,(i<=l.length)/\((l.take i).all SN=true)/\(adj ltL (l.take i)=true))) (0) ⟨by omega,rfl,rfl⟩ ?_;rintro i ⟨h1,h2,h3⟩;simp;apply gw<;>intro a
 ·obtain⟨c,hc⟩:=aR (l:=l) (i:=i);simp;refine QU (fun(_:Unit)=>[(0,vR l),(3,vI i)]) (fun(_:Unit)=>(c≠[])/\(adj ltL (l.take (i+1))=true)) ?_ ?_
  ·simp;refine wdr ?_;simp[hc];apply gv<;>intro e
   ·have e':=e;have hn:=fV hc (P:=SN) (by simp[SN,e]);simp[e];grind[qA]
   ·have e':=e;simp[e];apply gv<;>intro f
    ·have f':=f;obtain⟨p,hp⟩:=aR (l:=l) (i:=i-1);have hi1:i-1+1=i:=by omega
     simp[hc,f,hp];iterate 2 refine ai ?_
     apply gw<;>intro b
     ·simp at b;have hn:=JV hp (by rw[hi1];exact hc) (R:=ltL) (by simpa using b);simp;grind[qA]
     ·simp at b;simp;refine jn (()) ⟨by simpa using e,by have:=yZ (i:=i-1) (by rw[hi1];exact h3) hp (by rw[hi1];exact hc) (R:=ltL) (by simpa using b);rwa [hi1]at this⟩
    ·have f':=f;simp at f';simp[f];refine jn (()) ⟨by simpa using e,(by obtain rfl:i=0:=(by omega);exact vW)⟩
  rintro⟨⟩ ⟨h5,h4⟩;have hcl:=hs c (J8 hc);simp;refine wlt Nat (fun j=>([(0,vR l),(3,vI i),(4,vI j)],c.length-j,(j<=c.length)/\((c.take j).all xJ=true)/\(0<j->wJ c=c))) (0) ⟨by omega,rfl,by omega⟩ ?_;rintro j ⟨h1j,h2j,h3j⟩;simp[hc];apply gw<;>intro aj
  ·obtain⟨cj,hcj⟩:=aR (l:=c) (i:=j);simp;refine wdr ?_;simp[hc,hcj];refine cd (PP _) ?_;simp;apply gv<;>intro e
   ·have e':=e;simp at e';have hn:=fV hc (P:=SN) (by have:=fV hcj (P:=xJ) (by simpa using e);simp[SN,this]);simp[e];grind[qA]
   ·have e':=e;simp at e';simp[hc,e];refine cd (xO _) ?_;simp[hc];apply gw<;>intro b
    ·have hn:=fV hc (P:=SN) (by simp[SN,b]);simp;grind[qA]
    ·simp;refine nxa (j+1) ⟨by omega,(bX hcj h2j (by simpa using e)),(fun _=>by simpa using b)⟩
  ·simp at aj;have hw:=iX h2j aj;have hpos:0<c.length:=kJ.2 h5;simp;refine nxa (i+1) ⟨by omega,(bX hc h2 (by simp[SN,hw,h5,h3j (by omega)])),h4⟩
 ·simp at a;have hf:=iX h2 a;rw[bS a]at h3;simp;grind[qA]
def aeV (l m:List Str)(hl:l.length<=262144)(hs:∀x∈l,Qle x)(hm:m.length<=262144)(ht:∀x∈m,Qle x):Fk 205 [mQ l,mQ m] (vB (wO l m)):=by
 refine fE [] ntmps205 fun _ _=> ?_;simp;refine ck (G9 l (by omega) hs) ?_;simp;apply gv<;>intro e
 ·have e':=e;simp[e];refine ck (G9 m (by omega) ht) ?_;simp;grind[wO]
 ·have e':=e;simp[e];grind[wO]
def aqD (l m:List Str):(common l m).length<=l.length:=by
 have:=F9 (I6 m) (fun t x=>by unfold I6;split;(exact sM _ _ _);omega) l [];simpa[common]using this
def axH (l m:List Str):(Y0 l m).length<=l.length+m.length:=by
 have h1:=F9 xY (fun t x=>sM _ _ _) l [];have h2:=F9 xY (fun t x=>sM _ _ _) m (l.foldl xY []);unfold Y0;simp at h1;omega
def ab4 (l m:List Str)(hl:l.length<=262144)(hs:∀x∈l,Qle x)(hm:m.length<=262144)(ht:∀x∈m,Qle x):Fk 121 [mQ l,mQ m] (vI (BJ l m)):=by
 refine fE [] ntmps121 fun _ _=> ?_;simp;refine ck (aeV l m hl hs hm ht) ?_;simp;apply gw<;>intro e
 ·simp at e;simp;grind[BJ]
 ·simp at e;have h1:=aqD l m;have h2:=axH l m;simp;refine ck (PK l m hl hm) ?_;simp;refine ck (SH l m hl hm) ?_;simp;refine ck (acA ((common l m).length:Int) ((Y0 l m).length:Int) (by omega) (by omega)) ?_;simp;grind[BJ]
def PR (l m:List Str)(hl:l.length<=262144)(hs:∀x∈l,Qle x)(hm:m.length<=262144)(ht:∀x∈m,Qle x):Fk 75 [mQ l,mQ m] (vI (uF l m)):=by
 refine fE [] ntmps75 fun _ _=> ?_;simp;apply gv<;>intro e
 ·have e':=e;simp[e];grind[uF]
 ·have e':=e;simp[e];apply gw<;>intro f
  ·simp;grind[uF]
  ·simp;refine ck (ab4 l m hl hs hm ht) ?_;simp;grind[uF]
def ab9 (x y:Str)(tr:Bool)(hx:x.length<=4096)(hy:y.length<=4096):Fk 290 [dS x,dS y,dB tr] (.own (mY (Q7 x y tr))):=by
 refine fE [200003] ntmps290 fun _ _=> ?_;simp;refine wlt (Nat×L2) (fun(i,T)=>([(0,vS x),(1,vS y),(2,vB tr),(7,.own (mY T)),(8,vI i)],(x.length+1)-i,(i<=(x.length+1))/\(T=loopN i ([]) ((fun i T=>T++[aeC x y tr i T])))/\T.length=i/\(abH (y.length+1) T))) ((0,[])) ⟨by simp,rfl,rfl,((fun i hi=>by simp at hi))⟩ ?_;rintro⟨i,T⟩ ⟨h1,h2,h3,h4⟩;simp;apply gw<;>intro a
 ·have hs:=aM i ([]) ((fun i T=>T++[aeC x y tr i T]));rw[←h2]at hs;simp;iterate 3 refine ai ?_
  refine wlt (Nat×L1) (fun(j,r)=>([(0,vS x),(1,vS y),(2,vB tr),(7,.own (mY T)),(8,vI i),(9,wN r),(10,vI j)],(y.length+1)-j,(j<=(y.length+1))/\(r=loopN j ((List.replicate (y.length+1) 0)) ((GL x y tr T i)))/\(ajS (y.length+1) j i r))) ((0,(List.replicate (y.length+1) 0))) ⟨by simp,rfl,(⟨by simp,by omega⟩)⟩ ?_;rintro⟨j,r⟩ ⟨h1j,h2j,h3j⟩;simp;apply gw<;>intro aj
  ·have hsj:=aM j ((List.replicate (y.length+1) 0)) ((GL x y tr T i));rw[←h2j]at hsj;have hrl:=h3j.1;have hrj:=aY (l:=r) (i:=j);simp;refine QU (fun(_:Unit)=>[(0,vS x),(1,vS y),(2,vB tr),(7,.own (mY T)),(8,vI i),(9,wN (r.set j (edOne x y T i r j))),(10,vI j)]) (fun(_:Unit)=>True) ?_ ?_
   ·simp;apply gw<;>intro b
    ·have hv:edOne x y T i r j=j:=if_pos (by simpa using b);simp[hrj];refine jn (()) trivial (h3:=by simp[hrj,hrl,hv])
    ·simp;apply gw<;>intro d
     ·have hv:edOne x y T i r j=i:=by rw[edOne,if_neg (by simpa using b),if_pos (by simpa using d)]
      simp[hrj];refine jn (()) trivial (h3:=by simp[hrj,hrl,hv])
     ·have hcx:=A7 (s:=x) (i:=i-1);have hcy:=A7 (s:=y) (i:=j-1);obtain⟨q,hq,hqj,hb1,hb2⟩:=ET h4 (i:=i-1) (j:=j-1) (by omega) (by omega);obtain⟨q',hq',hqk,hb3,hb4⟩:=ET h4 (i:=i-1) (j:=j) (by omega) (by omega);obtain rfl:q=q':=by rw[hq]at hq';exact k_Option_some_inj hq'
      simp;refine wdt 9 ?_;simp[hcx,hcy];iterate 4 refine ai ?_
      apply gw<;>intro f
      ·have hv:edOne x y T i r j=at2 T (i-1) (j-1):=by rw[edOne,if_neg (by simpa using b),if_neg (by simpa using d),if_pos f]
       simp[hrj,hq,hqj];iterate 4 refine ai ?_
       refine jn (()) trivial (h3:=by simp[hrj,hrl,hcx,hcy,hv,hq,hqj])
      ·have hr1:=aY (l:=r) (i:=j-1);have hb5:=h3j.2 (j-1) (by omega);have hv:edOne x y T i r j=1+min (min (at2 T (i-1) j) (at1 r (j-1))) (at2 T (i-1) (j-1)):=by rw[edOne,if_neg (by simpa using b),if_neg (by simpa using d),if_neg f]
       simp;refine wdt 27 ?_;simp[hrj,hq,hqj,hqk,hr1];iterate 9 refine ai ?_
       refine jn (()) trivial (h3:=by simp[hrj,hrl,hcx,hcy,hv,hq,hqj,hqk,hr1])
   rintro⟨⟩ -
   have hve:0<=edOne x y T i r j/\edOne x y T i r j<=i+j:=aF5 h3 h4 h3j (by omega) (by omega);have hok:=V4 h3j (by omega) hve.1 hve.2;have hat:at1 (r.set j (edOne x y T i r j)) j=edOne x y T i r j:=by rw[zJ _ (by omega),if_pos rfl]
   have hsw:∀h:wM x y tr i j=false,GL x y tr T i j r=r.set j (edOne x y T i r j):=fun h=>by rw[GL,ahO,if_neg (by simp[h])]
   generalize hr':r.set j (edOne x y T i r j)=r' at hok hat hsw|-
   have hes:GL x y tr T i j r=ahO x y tr T i j r':=by rw[GL,hr']
   have hok1:=hok.1;simp;refine wdr ?_;simp;apply gv<;>intro e
   ·have e':=e;simp[e];apply gv<;>intro f
    ·have f':=f;simp[f];apply gv<;>intro g
     ·have g':=g;have hx1:=A7 (s:=x) (i:=i-1);have hy2:=A7 (s:=y) (i:=j-2);have hx2:=A7 (s:=x) (i:=i-2);have hy1:=A7 (s:=y) (i:=j-1);have hj2:((j:Int)-2).toNat=j-2:=by omega
      have hi2:((i:Int)-2).toNat=i-2:=by omega
      simp[g,hx1,hy2,hj2];iterate 4 refine ai ?_
      apply gv<;>intro k
      ·have k':=k;simp[hx2,hy1,hi2,k];iterate 4 refine ai ?_
       apply gw<;>intro m
       ·have hw:wM x y tr i j:=by simp[wM,e,k,m];omega
        obtain⟨q,hq,hqj,hb1,hb2⟩:=ET h4 (i:=i-2) (j:=j-2) (by omega) (by omega);have hrj2:=aY (l:=r') (i:=j);have hst:GL x y tr T i j r=r'.set j (min (at1 r' j) (at2 T (i-2) (j-2)+1)):=by rw[hes,ahO,if_pos hw]
        have hok2:=V4 (k:=j) (v:=min (at1 r' j) (at2 T (i-2) (j-2)+1)) ⟨hok.1,fun j' hj'=>hok.2 j' (by omega)⟩ (by omega) (by omega) (by omega);simp;refine wdt 18 ?_;simp[hj2,hi2,hq,hqj,hrj2];iterate 6 refine ai ?_
        refine nx (j+1,r'.set j (min (at1 r' j) (at2 T (i-2) (j-2)+1))) ⟨by omega,by rw[hsj,hst],hok2⟩ (h3:=by simp[hrj,hrl,e,f,g,hx1,hy2,hx2,hy1,hj2,hi2,k,hq,hqj,hrj2,hok1])
       ·have hw:wM x y tr i j=false:=by simp[wM,m]
        simp;refine nxa (j+1,r') ⟨by omega,by rw[hsj,hsw hw],hok⟩ (h3:=by simp[hrj,hrl,e,f,g,hx1,hy2,hx2,hy1,hj2,hi2,k])
      ·have k':=k;have hw:wM x y tr i j=false:=by simp[wM,k]
       simp[k];refine nxa (j+1,r') ⟨by omega,by rw[hsj,hsw hw],hok⟩ (h3:=by simp[hrj,hrl,e,f,g,hx1,hy2,hx2,hy1,hj2,hi2,k])
     ·have g':=g;simp at g';have hw:wM x y tr i j=false:=by simp[wM];omega
      simp[g];refine nxa (j+1,r') ⟨by omega,by rw[hsj,hsw hw],hok⟩ (h3:=by simp[hrj,hrl,e,f,g])
    ·have f':=f;simp at f';have hw:wM x y tr i j=false:=by simp[wM];omega
     simp[f];refine nxa (j+1,r') ⟨by omega,by rw[hsj,hsw hw],hok⟩ (h3:=by simp[hrj,hrl,e,f])
   ·have e':=e;have hw:wM x y tr i j=false:=by simp[wM,e']
    simp[e];refine nxa (j+1,r') ⟨by omega,by rw[hsj,hsw hw],hok⟩ (h3:=by simp[hrj,hrl,e])
  ·simp at aj;have hij:(y.length+1)=j:=by omega
   subst hij;simp;refine nxb (i+1,T++[r]) ⟨by omega,by rw[hs,aeC,h2j],by simp[h3],(agF h4 (by rw[h3];exact h3j))⟩
 ·simp at a;have hi:(x.length+1)=i:=by omega
  subst hi;simp;exact congrArg _ h2
def PL (x y:Str)(hx:Qle x)(hy:Qle y):Fk 204 [dS x,dS y] (vI (qX x y)):=by
 refine fE [] ntmps204 fun _ _=> ?_;simp;refine ck (aeU x y hx hy) ?_;simp;apply gw<;>intro e
 ·simp at e;have hr:qX x y= -1:=if_neg (by simp only[GK];simp;omega);simp[hr]
 ·simp at e;have hf:GK x y:=by simp only[GK];simp;omega
  have hr:qX x y=at2 (Q7 x y false) x.length y.length:=if_pos hf;have h1:=aeD x y false;obtain⟨q,hq,hqj,hb1,hb2⟩:=ET h1.2 (i:=x.length) (j:=y.length) (by omega) (by omega);simp;refine ck (ab9 x y false (by omega) (by omega)) ?_;simp[hq,hqj,hr]
def XF (x y:Str)(hx:Qle x)(hy:Qle y):Fk 120 [dS x,dS y] (vI (xM x y)):=by
 refine fE [] ntmps120 fun _ _=> ?_;have hd:=ahN x y;simp;refine ck (PL x y hx hy) ?_;simp;apply gw<;>intro b
 ·have hr:xM x y=0:=if_pos b;simp[hr]
 ·simp at b;simp;apply gw<;>intro d
  ·have hr:xM x y=1000:=by rw[xM,if_neg (by omega),if_pos d]
   simp[hr]
  ·have hr:xM x y=(1000*(max (x.length:Int) y.length-qX x y)).tdiv (max (x.length:Int) y.length):=by rw[xM,if_neg (by omega),if_neg d]
   have hq:=LB (a:=1000*(max (x.length:Int) y.length-qX x y)) (b:=max (x.length:Int) y.length);simp[hq];iterate 3 refine ai ?_
   all_goals(first|exact hr.symm|simp[hr])
def PQ (x y:Str)(hx:x.length<=65536:=by omega)(hy:y.length<=65536:=by omega):Fk 74 [dS x,dS y] (vI (pQ x y)):=by
 refine fE [] ntmps74 fun _ _=> ?_;have h1:=IK x;have h2:=IK y;simp;first|refine ck (rO x (by omega)) ?_|refine ckz (rO x (by omega)) ?_
 simp;first|refine ck (rO y (by omega)) ?_|refine ckz (rO y (by omega)) ?_
 simp;apply gv<;>intro e
 ·have e':=e;simp[e];grind[pQ]
 ·have e':=e;simp[e];apply gw<;>intro f
  ·simp;grind[pQ]
  ·simp;refine ck (XF (normal x) (normal y) (by omega) (by omega)) ?_;simp;grind[pQ]
def XH (n:Int)(hn: -9000000000000000000<=n/\n<=9000000000000000000):Fk 210 [dI n] (vS (yH n)):=by
 refine fE [13] ntmps210 fun _ _=> ?_;simp;apply gw<;>intro e
 ·have hr:yH n=[48]:=if_pos e;simp[hr]
 ·simp;refine wlt (Int×Str) (fun(k,s)=>([(0,vI k),(3,vS s),(4,vB (decide (n<0)))],k.natAbs,(lV k.natAbs++s=lV n.natAbs)/\(k.natAbs<=n.natAbs))) ((n,[])) ⟨by simp,by simp⟩ ?_;rintro⟨k,s⟩ ⟨h1,h2⟩;have hlen:s.length<=19:=by have h3:=congrArg List.length h1;have h4:=MU n.natAbs 19 (by (try unfold Qle);rw[show(10:Nat)^19=10000000000000000000 by rfl];omega);simp only[aP]at h3;omega
  simp;apply gw<;>intro a
  ·have ht:(k.tmod 10).natAbs=k.natAbs % 10:=Int.natAbs_tmod k 10;have hq:(k.tdiv 10).natAbs=k.natAbs/10:=Int.natAbs_tdiv k 10;have hqi:=LB (a:=k) (b:=10);have hdec:=uV (m:=k.natAbs);generalize hT:k.tmod 10=t at ht|-
   generalize hQ:k.tdiv 10=q at hq hqi|-
   simp[hT];refine QU (fun(_:Unit)=>[(0,vI k),(3,vS s),(4,vB (decide (n<0))),(5,vI (k.natAbs % 10:Nat))]) (fun(_:Unit)=>True) ?_ ?_
   ·simp;apply gw<;>intro b
    ·have hj: -t=(k.natAbs:Int) % 10:=by omega
     simp[hj];refine ai ?_;refine jn (()) trivial
    ·simp at b;have hj:t=(k.natAbs:Int) % 10:=by omega
     simp[hj];refine jn (()) trivial
   rintro⟨⟩ -
   obtain⟨c,hc⟩:∃c:UInt8,c=UInt8.ofNat (48+k.natAbs % 10):=⟨_,rfl⟩;have hu8:(48+(k.natAbs:Int) % 10) % 256=(c.toNat:Int):=by rw[hc,rU];omega
   have hu9:IntKind.u8.wrap (48+(k.natAbs:Int) % 10)=(c.toNat:Int):=by rw[←hu8];simp[IntKind.wrap,IntKind.bits,IntKind.signed]
   simp[hQ,hqi,hu9];refine nxb (q,c::s) ⟨by rw[hq,←h1,hdec,hc];simp,by omega⟩
  ·have hk:k=0:=by omega
   rw[hk]at h1;have hs:s=lV n.natAbs:=by simpa[uJ]using h1
   simp;apply gw<;>intro b
   ·have hr:yH n=45::s:=by rw[yH,if_neg e,if_pos (by omega),hs];rfl
    simp[hr];omega
   ·simp at b;have hr:yH n=s:=by rw[yH,if_neg e,if_neg (by omega),hs];rfl
    simp[hr]
def aHT {i:Nat}(h:i<=11):(10:Int)^i<=100000000000:=by
 have h1:(10:Nat)^i<=10^11:=jU (by omega) h;have h2:((10^i:Nat):Int)<=((10^11:Nat):Int):=by exact_mod_cast h1
 simpa using h2
def ZT (s:Str)(hs:Qle s):Fk 126 [dS s] (.tup [vI (if nH s=true then lW s else 0),vB (nH s)]):=by
 refine fE [5] ntmps126 fun _ _=> ?_;simp;refine auS (fun((v,d):(Int)×(Int))=>[(0,vS s),(4,vI v),(5,vI d)]) (fun(v,d)=>((v,d)=uC s)/\(0<=v/\v<=100000000000)/\(0<=d/\d<=11)) ?_ ?_
 ·simp;refine wlt (Nat×Int×Int) (fun(i,v,d)=>([(0,vS s),(4,vI v),(5,vI d),(6,vI i)],s.length-i,(i<=s.length/\i<=11)/\((v,d)=(s.take i).foldl JO (0,0))/\(0<=v/\v<10^i)/\(0<=d/\d<=i))) ((0,0,0)) ⟨by simp,rfl,by simp,by simp⟩ ?_;rintro⟨i,v,d⟩ ⟨h1,h2,h3,h4⟩;have hp11:(10:Int)^i<=100000000000:=aHT (by omega);simp;apply gv<;>intro a
  ·have a':=a;simp[a];apply gw<;>intro b
   ·obtain⟨c,hc⟩:=aR (l:=s) (i:=i);have hm:=fH JO (0,0) hc;rw[←h2]at hm;simp[hc];apply gv<;>intro e
    ·have e':=e;simp[hc,e];apply gw<;>intro f
     ·have hu:JO (v,d) c=(v*10+(c.toNat-48),d+1):=if_pos ⟨by omega,by omega⟩;have hw:IntKind.i64.wrap ((c.toNat:Int)-48)=c.toNat-48:=by simp[IntKind.wrap,IntKind.bits,IntKind.signed];omega
      have hps:(10:Int)^(i+1)=10^i*10:=Int.pow_succ 10 i;simp[hc,hw];iterate 5 refine ai ?_
      refine nx (i+1,v*10+(c.toNat-48),d+1) ⟨by omega,by rw[hm,hu],by rw[hps];omega,by omega⟩
     ·simp at f;have hu:JO (v,d) c=(v,d):=if_neg (by omega);have hps:(10:Int)^(i+1)=10^i*10:=Int.pow_succ 10 i;simp;refine nxa (i+1,v,d) ⟨by omega,by rw[hm,hu],by rw[hps];omega,by omega⟩
    ·have e':=e;simp at e';have hu:JO (v,d) c=(v,d):=if_neg (by omega);have hps:(10:Int)^(i+1)=10^i*10:=Int.pow_succ 10 i;simp[e];refine nxa (i+1,v,d) ⟨by omega,by rw[hm,hu],by rw[hps];omega,by omega⟩
   ·simp at b;simp;refine jn (v,d) ⟨by rw[h2,uC,show i=11 by omega],by omega,by omega⟩
  ·have a':=a;simp at a';simp[a];refine jn (v,d) ⟨by rw[h2,uC,k_List_take_of_length_le (show s.length<=i by omega),k_List_take_of_length_le (show s.length<=11 by omega)],by omega,by omega⟩
 rintro⟨v,d⟩ ⟨h5,h6,h7⟩;have hv:(uC s).1=v:=by rw[←h5]
 have hd:(uC s).2=d:=by rw[←h5]
 refine QU (fun(z:Int)=>[(0,vS s),(4,vI z),(5,vI d)]) (fun(z:Int)=>(z=lW s)/\(-100000000000<=z/\z<=100000000000)) ?_ ?_
 ·simp;apply gv<;>intro e
  ·have e':=e;obtain⟨c,hc⟩:=aR (l:=s) (i:=0) (by simpa using e);have hcz:∀h,(⟨s.toArray⟩:ByteArray)[0]'h=c:=fun h=>by have:=ba_get s 0;rw[hc]at this;exact k_Option_some_inj ((getElem?_pos (⟨s.toArray⟩:ByteArray) 0 h).symm.trans this)
   simp[e,hcz];apply gw<;>intro f
   ·have hpv:lW s= -v:=by rw[lW,if_pos (by rw[hc];congr 1;exact k_UInt8_toNat_inj.1 (by show c.toNat=45;omega)),hv]
    simp;refine ai ?_;refine jn (-v) ⟨hpv.symm,by omega⟩
   ·have hpv:lW s=v:=by rw[lW,if_neg (by rw[hc];intro h;have:=k_Option_some_inj h;subst this;exact f rfl),hv]
    simp;refine jn (v) ⟨hpv.symm,by omega⟩
  ·have e':=e;simp at e';have hpv:lW s=v:=by rw[lW,if_neg (by rw[show s=[]from bD (by simpa using e)];simp),hv]
   simp[e];refine jn (v) ⟨hpv.symm,by omega⟩
 rintro z ⟨h8,h9⟩;simp;apply gv<;>intro e
 ·have e':=e;have hb:nH s=false:=by simp only[nH,hd];rw[decide_eq_false (by omega)];rfl
  simp[e];all_goals simp[hb]
 ·have e':=e;simp at e';simp[e];apply gv<;>intro g
  ·have g':=g;have hb:nH s=false:=by simp only[nH,hd];rw[decide_eq_false (p:=s.length<=10) (by omega)];simp
   simp[g];all_goals simp[hb]
  ·have g':=g;simp at g';simp[g];refine ck (XH z (by omega)) ?_;simp;apply gw<;>intro b
   ·have hb:nH s=false:=by simp only[nH,hd,←h8];rw[decide_eq_false (p:=yH z=s) b];simp
    simp;all_goals simp[hb]
   ·have hb:nH s:=by simp only[nH,hd,←h8];simp[b];omega
    simp;all_goals simp[hb,h8]
def UR (x y:Str)(hx:Qle x)(hy:Qle y):Fk 78 [dS x,dS y] (vI (sJ x y)):=by
 refine fE [7] ntmps78 fun _ _=> ?_;have hdx:(digits x).length<=x.length:=bN _ _;have hdy:(digits y).length<=y.length:=bN _ _;have hps:sJ x y=JP (digits x) (digits y):=rfl;simp;refine ck (K7 x hx) ?_;simp;refine ck (K7 y hy) ?_;generalize digits x=p at*
 generalize digits y=q at*
 simp;refine auS (fun(n:Nat)=>[(5,vS p),(6,vS q),(7,vI n)]) (fun(n:Nat)=>(shared p.reverse q.reverse=n)/\(n<=p.length/\n<=q.length)) ?_ ?_
 ·simp;refine wlt Nat (fun n=>([(5,vS p),(6,vS q),(7,vI n)],p.length-n,(n<=p.length/\n<=q.length)/\(shared p.reverse q.reverse=n+shared (p.reverse.drop n) (q.reverse.drop n)))) (0) ⟨by omega,by simp⟩ ?_;rintro n ⟨h1,h2⟩;simp;refine wdr ?_;simp;apply gv<;>intro a
  ·have a':=a;simp[a];apply gv<;>intro b
   ·have b':=b;have hk:((p.length:Int)-1-n).toNat=p.length-1-n:=by omega
    have hk2:((q.length:Int)-1-n).toNat=q.length-1-n:=by omega
    have hcx:=ac3 (s:=p) (i:=n);have hcy:=ac3 (s:=q) (i:=n);have hss:=abD (p:=p.reverse) (q:=q.reverse) (i:=n) (by simp;omega) (by simp;omega);simp[b,hk,hk2,hcx,hcy];iterate 6 refine ai ?_
    apply gw<;>intro f
    ·simp;refine nxa (n+1) ⟨by omega,by rw[h2,hss,if_pos (by simpa using f)];omega⟩
    ·simp;refine jn (n) ⟨by rw[h2,hss,if_neg (by simpa using f)];rfl,(by first|omega|(simp;omega)|grind)⟩
   ·have b':=b;simp at b';simp[b];refine jn (n) ⟨by rw[h2,M3 (.inr (by simp;omega))];rfl,(by first|omega|(simp;omega)|grind)⟩
  ·have a':=a;simp at a';simp[a];refine jn (n) ⟨by rw[h2,M3 (.inl (by simp;omega))];rfl,(by first|omega|(simp;omega)|grind)⟩
 rintro n ⟨h5,h6⟩;have hlt:JP p q=if p.length<4\/q.length<4\/n<4 then 0 else if n=p.length/\n=q.length then 1000 else if n>=7\/n=p.length\/n=q.length then 800 else 400:=by rw[JP,h5]
 rw[←hps]at hlt;refine QU (fun(_:Unit)=>[(5,vS p)]) (fun(_:Unit)=>(sJ x y=400)) ?_ ?_
 ·simp;apply gv<;>intro a
  ·have a':=a;rw[if_pos (by omega)]at hlt;simp[a,hlt]
  ·have a':=a;simp at a';simp[a];apply gv<;>intro b
   ·have b':=b;rw[if_pos (by omega)]at hlt;simp[b,hlt]
   ·have b':=b;simp at b';simp[b];apply gw<;>intro d
    ·rw[if_pos (by omega)]at hlt;simp[hlt]
    ·simp at d;rw[if_neg (by omega)]at hlt;simp;apply gv<;>intro e
     ·have e':=e;simp[a,e];apply gw<;>intro f
      ·rw[if_pos (by omega)]at hlt;simp[hlt]
      ·rw[if_neg (by omega)]at hlt;simp;apply gv<;>intro g
       ·have g':=g;rw[if_pos (by omega)]at hlt;simp[g,hlt]
       ·have g':=g;simp at g';rw[if_pos (by omega)]at hlt;simp[g,hlt]
     ·have e':=e;rw[if_neg (by omega)]at hlt;simp[e];apply gv<;>intro g
      ·have g':=g;rw[if_pos (by omega)]at hlt;simp[g,hlt]
      ·have g':=g;simp at g';simp[e,g];apply gw<;>intro l
       ·rw[if_pos (by omega)]at hlt;simp[hlt]
       ·rw[if_neg (by omega)]at hlt;simp;refine jn (()) (by first|omega|(simp;omega)|grind)
 rintro⟨⟩ h7;simp[h7]
def JI (s:Str)(hs:Qle s):Fk 79 [dS s] (vI (jC s)):=by
 refine fE [] ntmps79 fun _ _=> ?_;simp;refine ck (ZT s hs) ?_;simp;apply gv<;>intro a
 ·have a':=a;simp at a';simp[a];grind[jC]
 ·have a':=a;simp at a';simp[a];refine ck (bJ (if nH s=true then lW s else 0) 1000 9999) ?_;simp;apply gw<;>intro b
  ·simp at b;simp;grind[jC]
  ·simp at b;simp;grind[jC]
def SF (x y z:Int):Fk 80 [dI x,dI y,dI z] (vI (mX x y z)):=by
 refine fE [] ntmps80 fun _ _=> ?_;simp;refine ck (TA x) ?_;simp;apply gv<;>intro e
 ·have e':=e;simp at e';simp[e];all_goals(simp only[mX];rw[if_neg (by intro h;simp_all;omega)])
 ·have e':=e;simp at e';simp[e];refine ck (TA y) ?_;simp;apply gv<;>intro f
  ·have f':=f;simp at f';simp[f];all_goals(simp only[mX];rw[if_neg (by intro h;simp_all;omega)])
  ·have f':=f;simp at f';simp[f];refine ck (bJ z 1 9999) ?_;simp;apply gw<;>intro g
   ·simp at g;simp;all_goals(simp only[mX];rw[if_neg (by intro h;simp_all;omega)])
   ·simp at g;have hxy:inR x 0 9999=true/\inR y 0 9999=true/\inR z 1 9999:=by simp_all
    obtain⟨M,hM⟩:∃M,max x y=M:=⟨_,rfl⟩;obtain⟨m,hm⟩:∃m,min x y=m:=⟨_,rfl⟩;have hns:mX x y z=if M-m>=z then 0 else(1000*(z-(M-m))).tdiv z:=by rw[mX,if_pos hxy,hM,hm]
    have hMb:0<=M-m/\M-m<=9999:=by simp at hxy;omega
    clear hxy;simp[hM,hm];refine ai ?_;apply gw<;>intro d
    ·rw[if_pos (by omega)]at hns;simp;all_goals simp[hns]
    ·simp at d;rw[if_neg (by omega)]at hns;have hq:=LB (a:=1000*(z-(M-m))) (b:=z);simp[hq];iterate 3 refine ai ?_
     all_goals simp[hns]
def asH (st:Str×Int)(c:UInt8):(wH st c).1.length<=st.1.length+1:=by
 unfold wH;split
 ·simp
 ·simp only;split
  ·simp
  ·omega
def aCL:∀(s:Str) (st:Str×Int),(s.foldl wH st).1.length<=st.1.length+s.length
 |[],st=>by simp
 |c::s,st=>by have:=aCL s (wH st c);have:=asH st c;simp only[k_List_foldl_cons,aS];omega
def ao8 (s:Str):(jK s).length<=s.length+4:=by
 have:=aCL s ([],0);unfold jK;split
 ·simp
 ·simp[acE];simp at this;omega
def MN (s:Str)(hs:s.length<=40):(mK s).length<=262144/\∀x∈mK s,Qle x:=by
 have ht:=M6 s
 have key:∀(L t:List Str),(∀x∈L,x.length<=80)->(∀x∈t,x.length<=84)->(L.foldl xR t).length<=t.length+L.length/\∀x∈L.foldl xR t,x.length<=84:=by
  intro L
  induction L with
  |nil=>intro t _ ht;exact⟨by simp,ht⟩
  |cons y L ih=>
   intro t hL ht
   have h1:(xR t y).length<=t.length+1:=by
    unfold xR;split
    ·exact sM _ _ _
    ·omega
   have h2:∀x∈xR t y,x.length<=84:=fun x hx=>by
    unfold xR at hx;split at hx
    ·rcases agG hx with h|rfl
     ·exact ht x h
     ·have:=ao8 y;have:=hL y (by simp);omega
    ·exact ht x hx
   have:=ih (xR t y) (fun x hx=>hL x (aV _ hx)) h2;refine⟨?_,this.2⟩;have:=this.1;simp only[k_List_foldl_cons,aS];omega
 have:=key (tokens s) [] (fun x hx=>by have:=ht.2 x hx;omega) (by simp);unfold mK;refine⟨by have:=this.1;simp at this;omega,fun x hx=>by have:=this.2 x hx;omega⟩
def M7 (s:Str)(hs:s.length<=40):(tokens s).length<=262144/\∀x∈tokens s,Qle x:=by
 have ht:=M6 s;exact⟨by omega,fun x hx=>by have:=ht.2 x hx;omega⟩
variable {r:Rec}
def RN (h:bG r):DW r:=by
 have h1:=iI h;refine⟨by omega,fun f hf=> ?_⟩;obtain⟨i,hi⟩:=dD hf;have hlt:=(aD.1 hi).1;have h2:=h1.2 i (by omega);rw[h2.1]at hi;obtain rfl:=k_Option_some_inj hi;have:=h2.2;unfold af5;omega
def EI (a b:Rec)(ha:bG a)(hb:bG b):Fk 39 [nP a,nP b] (wN (sN a b)):=by
 refine fE [] ntmps39 fun _ _=> ?_;have hsa:=RN ha;have hsb:=RN hb;obtain⟨a0,hal0⟩:=(iI ha).2 0 (by omega);obtain⟨a1,hal1⟩:=(iI ha).2 1 (by omega);obtain⟨a2,hal2⟩:=(iI ha).2 2 (by omega);obtain⟨a3,hal3⟩:=(iI ha).2 3 (by omega);obtain⟨b0,hbl0⟩:=(iI hb).2 0 (by omega);obtain⟨b1,hbl1⟩:=(iI hb).2 1 (by omega);obtain⟨b2,hbl2⟩:=(iI hb).2 2 (by omega);obtain⟨b3,hbl3⟩:=(iI hb).2 3 (by omega);simp;refine ck (qQ a hsa) ?_;simp[ha];refine ck (qQ b hsb) ?_;have ta:=M7 _ hal0;have tb:=M7 _ hbl0;have ka:=MN _ hal0;have kb:=MN _ hbl0;simp[hb];refine wdt 45 ?_;simp[a0,b0];refine cd (PQ (fld a 0) (fld b 0)) ?_;simp[a0];refine cd (HZ (fld a 0) (by omega)) ?_;simp[b0];refine cd (HZ (fld b 0) (by omega)) ?_;simp;refine cd (PR (tokens (fld a 0)) (tokens (fld b 0)) ta.1 ta.2 tb.1 tb.2) ?_;simp[a0];refine cd (JJ (fld a 0) (by omega)) ?_;simp[b0];refine cd (JJ (fld b 0) (by omega)) ?_;simp;refine cd (PR (mK (fld a 0)) (mK (fld b 0)) ka.1 ka.2 kb.1 kb.2) ?_;simp[a1,b1];refine cd (PQ (fld a 1) (fld b 1)) ?_;simp[a3,b3];refine cd (UR (fld a 3) (fld b 3) (by omega) (by omega)) ?_;simp[a2];refine ck (JI (fld a 2) (by omega)) ?_;simp[b2];refine ck (JI (fld b 2) (by omega)) ?_;simp;apply gv<;>intro e
 ·have e':=e;simp[e];apply gw<;>intro f
  ·simp;refine ck (SF (jC (fld a 2)) (jC (fld b 2)) 10) ?_;simp;simp[sN,uH,e,f]
  ·simp at f;simp;simp[sN];rw[uH,if_neg (by omega)]
 ·have e':=e;simp at e';simp[e];simp[sN];rw[uH,if_neg (by omega)]
def PH (l:List Rec)(rs:List (List Tst))(s:Sco)(hl:1<=l.length/\l.length<=8)(hv:∀r∈l,bG r)(hr:jH rs)(hs:lZ s)(hrl:∀t∈rs,Qle t)(hrn:Qle rs)(hw:Qle s.weights):Fk 93 [JN l,mU rs,II s] (.own (mY (weights l rs s))):=by
 refine fE [23] ntmps93 fun _ _=> ?_;have hall:l.all bG:=aI.2 hv;have hlen:decide (l.length<=12)=true:=by simp;omega
 have hl1:inR l.length 1 8:=by simp;omega
 simp;refine ck (ab6 l (by omega) (fun r hr=>RN (hv r hr))) ?_;simp[hall,hlen];refine ck (bJ l.length 1 8) ?_;simp[hl1];refine ck (rJ rs hrn hrl) ?_;simp[hr];refine ck (oP s hw) ?_;simp[hs];refine wl (fun(i:Nat)=>[(0,vT l),(4,.own (.bx true (mU rs))),(5,.own (.bx true (II s))),(7,.own (mY ((List.range i).map (xZ l rs s)))),(8,vI i)]) (fun(i:Nat)=>l.length-i) (fun(i:Nat)=>(i<=l.length)) (0) (by omega) ?_;rintro i h1;simp;apply gw<;>intro a
 ·simp;refine wl (fun(k:Nat)=>[(0,vT l),(4,.own (.bx true (mU rs))),(5,.own (.bx true (II s))),(7,.own (mY ((List.range i).map (xZ l rs s)))),(8,vI i),(9,wN ((List.range k).map (mD l rs s i))),(10,vI k)]) (fun(k:Nat)=>l.length-k) (fun(k:Nat)=>(k<=l.length)) (0) (by omega) ?_;rintro k h2;simp;apply gw<;>intro b
  ·have hrm:=Z9 (mD l rs s i) k;simp;refine QU (fun(_:Unit)=>[(0,vT l),(4,.own (.bx true (mU rs))),(5,.own (.bx true (II s))),(7,.own (mY ((List.range i).map (xZ l rs s)))),(8,vI i),(9,wN ((List.range k).map (mD l rs s i))),(10,vI k),(11,vI (mD l rs s i k))]) (fun(_:Unit)=>True) ?_ ?_
   ·simp;apply gw<;>intro f
    ·have hw1:mD l rs s i k=iY rs s (sN (recAt l (min i k)) (recAt l (max i k))):=if_neg (by omega);have hm1:(min (i:Int) k).toNat=min i k:=by omega
     have hm2:(max (i:Int) k).toNat=max i k:=by omega
     have hx:=RL (l:=l) (i:=min i k);have hy:=RL (l:=l) (i:=max i k);have hvx:=hv _ (J8 hx);have hvy:=hv _ (J8 hy);simp;refine wdt 16 ?_;simp[hm1,hm2,hx,hy];iterate 2 refine ai ?_
     refine cd (EI (recAt l (min i k)) (recAt l (max i k)) hvx hvy) ?_;simp;refine cd (UQ rs s (sN (recAt l (min i k)) (recAt l (max i k))) hrn hrl hw (by simp[sN])) ?_;simp;refine jn (()) trivial (h3:=by simp[hrm,hm1,hm2,hx,hy,hw1])
    ·have hw1:mD l rs s i k=0:=if_pos (by omega);simp;refine jn (()) trivial (h3:=by simp[hrm,hw1])
   rintro⟨⟩ -
   simp;refine nxb (k+1) (by first|omega|(simp;omega)|grind)
  ·simp at b;have hk:k=l.length:=by omega
   subst hk;have hrm:=Z9 (xZ l rs s) i;have hwr:(List.range l.length).map (mD l rs s i)=xZ l rs s i:=rfl;simp[hwr];refine nxb (i+1) (by first|omega|(simp;omega)|grind)
 ·simp at a;have hk:i=l.length:=by omega
  subst hk;simp;rw[weights,qI]
def aaA {α β:Type}(f:α->β)(l:List α):List.take l.length (l.map f)=l.map f:=k_List_take_of_length_le (by simp)
def afH (x:List Str):mcount x []=0:=by cases x<;>rw[mcount]
def aa2 (u v:Str)(x y:List Str):mcount (u::x) (v::y)=if ltL u v=true then mcount x (v::y)else if ltL v u=true then mcount (u::x) y else mcount x y+1:=by rw[mcount]
def RX (a b:List Str)(ha:1<=a.length/\a.length<=262144)(hb:1<=b.length/\b.length<=262144):Fk 303 [mQ a,mQ b] (vI (mcount (sO a) (sO b))):=by
 refine fE [8] ntmps303 fun _ _=> ?_;simp;refine ck (I9 a ha) ?_;simp;refine ck (I9 b hb) ?_;simp;refine gY rfl (G8 a ha) ?_;rintro r d ⟨rfl,rfl⟩;simp;refine gY rfl (G8 b hb) ?_;rintro r d ⟨rfl,rfl⟩;have hsa:=uG a;have hsb:=uG b;simp;refine jX [] (uY.trans (dK 5) (dK 6)) ?_;generalize sO a=A at*
 generalize sO b=B at*
 simp;refine wlt (List Str×List Str×Nat) (fun(x,y,k)=>([(5,vR x),(6,vR y),(7,vI k)],x.length+y.length,(mcount A B=k+mcount x y)/\(x.length<=262144/\y.length<=262144)/\(k+x.length<=262144))) ((A,B,0)) ⟨by omega,by omega,by omega⟩ ?_;rintro⟨x,y,k⟩ ⟨h1,h2,h3⟩;simp;apply gv<;>intro g
 ·have g':=g;simp[g];apply gw<;>intro e
  ·obtain⟨u,x2,rfl⟩:=List.exists_cons_of_length_pos (l:=x) (by omega);obtain⟨v,y2,rfl⟩:=List.exists_cons_of_length_pos (l:=y) (by omega);have hmc:=aa2 u v x2 y2;simp only[aS]at h2 h3;simp;refine wdr ?_;simp;apply gw<;>intro f
   ·simp[aaA];refine nx (x2,v::y2,k) ⟨by rw[h1,hmc,if_pos f],by simp;omega,by omega⟩
   ·simp;refine wdr ?_;simp;apply gw<;>intro q
    ·simp[aaA];refine nx (u::x2,y2,k) ⟨by rw[h1,hmc,if_neg (by simp[f]),if_pos q],by simp;omega,by simp;omega⟩
    ·simp;refine wdr ?_;simp[aaA];refine nxa (x2,y2,k+1) ⟨by rw[h1,hmc,if_neg (by simp[f]),if_neg (by simp[q])];omega,by omega,by omega⟩
  ·simp at e;have hy:y=[]:=by first|exact e|exact bD (by omega)
   rw[hy,afH]at h1;have hr:(mcount A B:Int)=k:=by omega
   simp[hr]
 ·have g':=g;simp at g';have hx:x=[]:=by first|exact g|exact bD (by omega)
  rw[hx,mcount]at h1;have hr:(mcount A B:Int)=k:=by omega
  simp[g,hr]
def abS (a b:List Str)(ha:1<=a.length/\a.length<=262144)(hb:1<=b.length/\b.length<=262144):Fk 222 [mQ a,mQ b] (vI (mcount (sO a) (sO b))):=by
 refine fE [] ntmps222 fun _ _=> ?_;simp;refine ck (RX a b ha hb) ?_;simp
def LF:∀(a b:List Str),mcount a b<=a.length
 |[],b=>by rw[mcount];simp
 |u::x,[]=>by rw[afH];simp
 |u::x,v::y=>by
  rw[aa2];have h1:=LF x (v::y);have h2:=LF (u::x) y;have h3:=LF x y;simp only[aS]at h2|-
  split
  ·omega
  ·split<;>omega
termination_by a b=>a.length+b.length
def aCE {a b:List Str}(h:wO a b):Asc a/\Asc b:=by
 simp only[wO,qA,k_Bool_and_eq_true]at h;exact⟨VN.1 h.1.2,VN.1 h.2.2⟩
def abM (a b:List Str)(ha:1<=a.length/\a.length<=262144)(hb:1<=b.length/\b.length<=262144)(hsa:∀x∈a,Qle x)(hsb:∀x∈b,Qle x):Fk 134 [mQ a,mQ b] (vI (BJ a b)):=by
 refine fE [] ntmps134 fun _ _=> ?_;have hj:=UX a b;simp;refine ck (O8 a b (by omega) hsa (by omega) hsb) ?_;simp;apply gw<;>intro e
 ·simp at e;have hr:BJ a b=0:=by rw[hj,if_neg (by simp[e])]
  simp[hr]
 ·simp at e;rw[if_pos e]at hj;have hA:=aCE e;have h1:=aiY hA.1;have h2:=aiY hA.2;have hl1:=LF a b;have hl2:=LF b a;rw[EP b a]at hl2;simp;refine ck (abS a b ha hb) ?_;obtain⟨m,hm⟩:∃m:Nat,mcount a b=m:=⟨_,rfl⟩;rw[hm]at hl1 hl2 hj;simp[h1,h2,hm];iterate 3 refine ai ?_
  refine ck (ZF (1000*(m:Int)) ((a.length:Int)+b.length-m) (by omega) (by omega)) ?_;simp[hj]
def KZ (a b:List Str)(ha:a.length<=262144)(hb:b.length<=262144)(hsa:∀x∈a,Qle x)(hsb:∀x∈b,Qle x):Fk 83 [mQ a,mQ b] (vI (uF a b)):=by
 refine fE [] ntmps83 fun _ _=> ?_;simp;apply gv<;>intro e
 ·have e':=e;have hr:uF a b=0:=if_pos (.inl e);simp[e];grind
 ·have e':=e;simp[e];apply gw<;>intro f
  ·have hr:uF a b=0:=if_pos (.inr f);simp[hr]
  ·have hr:uF a b=BJ a b:=if_neg (by rintro(h|h);exact e h;exact f h);have he:1<=a.length:=kJ.2 e;have hf:1<=b.length:=kJ.2 f;simp;refine ck (abM a b ⟨he,ha⟩ ⟨hf,hb⟩ hsa hsb) ?_;simp[hr]
def KY (a b:Rec)(ha:bG a)(hb:bG b):Fk 42 [nP a,nP b] (wN (sN a b)):=by
 refine fE [] ntmps42 fun _ _=> ?_;obtain⟨a0,hal0⟩:=(iI ha).2 0 (by omega);obtain⟨a1,hal1⟩:=(iI ha).2 1 (by omega);obtain⟨a2,hal2⟩:=(iI ha).2 2 (by omega);obtain⟨a3,hal3⟩:=(iI ha).2 3 (by omega);obtain⟨b0,hbl0⟩:=(iI hb).2 0 (by omega);obtain⟨b1,hbl1⟩:=(iI hb).2 1 (by omega);obtain⟨b2,hbl2⟩:=(iI hb).2 2 (by omega);obtain⟨b3,hbl3⟩:=(iI hb).2 3 (by omega);have ta:=M7 _ hal0;have tb:=M7 _ hbl0;have ka:=MN _ hal0;have kb:=MN _ hbl0;simp;refine wdf [(13,[17,18]),(18,[22,23]),(24,[28,29]),(29,[33,34]),(58,[13,24,35,44,53,62,63]),(59,[63,4])] [(2,.own (.bx true (nP a))),(3,.own (.bx true (nP b)))] [] (by simp) ?_;simp[a0,b0];refine cd (JH (fld a 0) (fld b 0)) ?_;simp[a0];refine cf (GR (fld a 0)) ?_;simp[b0];refine cf (GR (fld b 0)) ?_;simp;refine cd (KZ (tokens (fld a 0)) (tokens (fld b 0)) ta.1 tb.1 ta.2 tb.2) ?_;simp[a0];refine cf (JD (fld a 0) (by omega)) ?_;simp[b0];refine cf (JD (fld b 0) (by omega)) ?_;simp;refine cd (KZ (mK (fld a 0)) (mK (fld b 0)) ka.1 kb.1 ka.2 kb.2) ?_;simp[a1,b1];refine cd (JH (fld a 1) (fld b 1)) ?_;simp[a2,b2];refine cd (WJ (fld a 2) (fld b 2) (by omega) (by omega)) ?_;simp[a3,b3];refine cd (UE (fld a 3) (fld b 3) (by omega) (by omega)) ?_;simp;simp_all[sN];done
def KD (l:List Rec)(i:Nat):List Rec:=l.take i
def OY (l:List Rec)(rs:List (List Tst))(s:Sco)(hl:1<=l.length/\l.length<=8)(hv:∀r∈l,bG r)(hr:jH rs)(hs:lZ s)(hrl:∀t∈rs,Qle t)(hrn:Qle rs)(hw:Qle s.weights):Fk 185 [JN l,mU rs,II s] (.own (mY (weights l rs s))):=by
 refine fE [] ntmps185 fun _ _=> ?_;have hin:inR (l.length:Int) 1 8:=by simp[inR];omega
 have hal:l.all bG:=aI.2 hv;have hbw:=aGS l rs s;obtain⟨n,hn⟩:∃n,l.length=n:=⟨_,rfl⟩;simp;refine ck (bI l.length 1 8) ?_;simp[hin];refine ck (UG l (by omega) (fun r hr=>RN (hv r hr))) ?_;simp[hal];refine ck (rH rs hrn hrl) ?_;simp[hr];refine ck (oO s hw) ?_;have hz:List.replicate l.length (bT (List.replicate l.length 0))=(zeros l.length).map bT:=by simp[zeros]
 simp[hs];refine ck (tK l.length) ?_;simp[hz];refine wlt (Nat×L2) (fun(i,m)=>([(0,vT l),(4,.own (.bx true (mU rs))),(5,.own (.bx true (II s))),(7,.own (mY m)),(35,vT l),(36,vI l.length),(37,vI i)],l.length-i,(i<=l.length)/\(m=loopN i (zeros l.length) (alR l rs s))/\(sq2 l.length m))) ((0,zeros l.length)) ⟨by omega,rfl,(pM l.length)⟩ ?_ (h0:=by simp[hin,hal,hr,hs,hz]);rintro⟨i,m⟩ ⟨h1,h2,h3⟩;simp;apply gw<;>intro a
 ·have hci:=RL a;obtain⟨ci,hcie⟩:∃ci,recAt l i=ci:=⟨_,rfl⟩;rw[hcie]at hci;have hvi:=hv ci (aA hci);have hii:i<=l.length:=by omega
  have hto1:List.take i (l.map nP)=(KD l i).map nP:=by rw[KD,vL]
  have hto2:(l.take i).map nP=(KD l i).map nP:=rfl;have htl:(KD l i).length=i:=by rw[KD,dE];omega
  simp[hci,hii,hto1,htl];refine wlt (Nat×L2) (fun(k,q)=>([(0,vT l),(4,.own (.bx true (mU rs))),(5,.own (.bx true (II s))),(7,.own (mY q)),(8,vI i),(9,.own (.bx true (nP ci))),(35,vT l),(36,vI l.length),(37,vI i),(44,vT (KD l i)),(45,vI i),(46,vI k)],i-k,(k<=i)/\(q=loopN k m (ajI l rs s i))/\(sq2 l.length q))) ((0,m)) ⟨by omega,rfl,h3⟩ ?_;rintro⟨k,q⟩ ⟨h4,h5,h6⟩;simp;apply gw<;>intro d
  ·have hck:=RL (l:=l) (i:=k);obtain⟨ck,hcke⟩:∃ck,recAt l k=ck:=⟨_,rfl⟩;rw[hcke]at hck;have hvk:=hv ck (aA hck);have hckt:(KD l i)[k]?=some ck:=by rw[KD,bC,if_pos d];exact hck
   simp[hckt];refine wdf [(4,[53,54,55]),(6,[56,12])] [(0,vT l),(4,.own (.bx true (mU rs))),(5,.own (.bx true (II s))),(7,.own (mY q)),(8,vI i),(9,.own (.bx true (nP ci))),(10,vI k),(11,.own (.bx true (nP ck))),(35,vT l),(36,vI l.length),(37,vI i),(44,vT (KD l i)),(45,vI i),(46,vI k)] [] (by simp) ?_;simp;refine cf (KY ci ck hvi hvk) ?_;simp;refine cd (UD rs s (sN ci ck) hrn hrl hw (by simp[sN])) ?_;obtain⟨w,hwe⟩:∃w,iY rs s (sN ci ck)=w:=⟨_,rfl⟩;have hwa:wAt l rs s i k=w:=by rw[wAt,hcie,hcke,hwe]
   obtain⟨hA,hA2⟩:=sW h6 (i:=i);obtain⟨hB,hB2⟩:=sW h6 (i:=k);have hgA:=M4 h6 (i:=i) (k:=k);have hgB:=M4 h6 (i:=k) (k:=i);have hml:i<q.length:=by rw[h6.1];omega
   have hml2:k<q.length:=by rw[h6.1];omega
   have hne:¬i=k:=by omega
   have hset:=auK (m:=q) (v:=w) (w:=w) hne;have hmm:ajI l rs s i k q=set2 (set2 q i k w) k i w:=by rw[ajI,hwa]
   rw[←hmm]at hset;simp[hwe];refine wdf [(13,[69,67,7,57,59,60,62,64,65]),(15,[70,68,7,57,59,60,62,64,65,69])] [(0,vT l),(4,.own (.bx true (mU rs))),(5,.own (.bx true (II s))),(7,.own (mY q)),(8,vI i),(9,.own (.bx true (nP ci))),(10,vI k),(12,vI w),(35,vT l),(36,vI l.length),(37,vI i),(44,vT (KD l i)),(45,vI i),(46,vI k)] [] (by simp) ?_;simp[hA,hB,hgA,hgB,hne,hset];refine nxa (k+1,ajI l rs s i k q) ⟨by omega,by rw[aM,←h5],(ajJ h6 (by omega) d)⟩
  ·simp at d;obtain rfl:k=i:=by omega
   simp;refine nxa (k+1,q) ⟨by omega,by rw[aM,←h2,h5];rfl,h6⟩
 ·simp at a;have hfin:weights l rs s=m:=by rw[←hbw,h2,show i=l.length by omega];rfl
  simp[hfin]
def az8 (l:List Ver)(hl:l.length<=8):(sH l).length<=8:=by
 unfold sH;rw[JR];have h0:(apart (iD l)).length<=8:=k_Nat_le_trans (bN _ _) (k_Nat_le_trans (aaP l) hl)
 have key:∀(L:List Ver) (st:L2×List Ver×List Ver) (C:List Ver),st.2.1.length<=8->(L.foldl (vQ C) st).2.1.length<=8:=by
  intro L C0 C
  induction L generalizing C0 with
  |nil=>exact fun h=>h
  |cons v L ih=>
   intro h;rw[k_List_foldl_cons];refine ih _ ?_;unfold vQ;split
   ·exact axZ v (by rw[JR];exact h)
   ·exact h
 exact key _ _ _ h0
def YV (kept:List Ver)(items:L1)(hk:kept.length<=8)(hi:items.length<=8):(nZ kept items).length<=16:=by
 have h1:(F7 (apart kept) items).length<=kept.length:=k_Nat_le_trans (jR _ _) (bN _ _)
 have h2:∀n,((List.range n).flatMap (sV (joined kept) items)).length<=n:=by
  intro n
  induction n with
  |zero=>simp
  |succ n ih=>
   rw[dY,List.flatMap_append,aP];have:=abB (joined kept) items n;simp only[yM,List.flatMap_nil,bZ];omega
 have h3:=h2 items.length;unfold nZ LM;rw[aP];omega
def uD (items:L1)(b:L1):L1:=b.map (at1 items ·.toNat)
def BK (c:Cfg)(s:Sto):L1:=nK (weights s.recs c.rules c.sco) (nZ (sH s.vers) (s.recs.map eG))
def EB (c:Cfg)(s:Sto):L2:=(blocksP (BK c s)).map (uD (s.recs.map eG))
def yV (c:Cfg)(s:Sto):L2:=if(kZ c&&gN s)=true then(if s.recs.length=0 then[]else EB c s)else[]
def FD (c:Cfg)(s:Sto):List Ver:=if(kZ c&&gN s)=true then jV s.vers else[]
structure apY (c:Cfg):Prop where
 rules:Qle c.rules
 rule:∀l∈c.rules,Qle l
 weights:Qle c.sco.weights
 surv:Qle c.surv
structure axW (s:Sto):Prop where
 recs:Qle s.recs
 rec1:∀r∈s.recs,DW r
 vers:Qle s.vers
def aj7 {m:L2}(cs:List Con)(hm:bR m):(nK m cs).length=0\/(gD (nK m cs)=true/\(nK m cs).length=m.length):=by
 have hml:=dN hm;unfold nK;split
 ·right;have h1:(nR m cs).length=m.length:=by rw[nR,pG,Y8]
  exact⟨isPart_iff.2 ⟨KL _,by omega,by omega⟩,h1⟩
 ·left;rfl
def afD {l:L1}{n:Nat}(h:l.length=0\/(gD l=true/\l.length=n))(v:Nat)(hv:v<(blocksP l).length):OC n (gat (blocksP l) v)/\(gat (blocksP l) v).length<=n:=by
 rcases h with h|⟨h1,h2⟩
 ·rw[k_List_length_eq_zero_iff.1 h]at hv;simp[blocksP,loopN]at hv
 ·have:=QX (isPart_iff.1 h1).1 hv;rw[h2]at this;exact⟨this.1,this.2.2⟩
def ayI {c:Cfg}(h:kZ c):jH c.rules=true/\lZ c.sco=true:=by
 simp only[kZ,k_Bool_and_eq_true]at h;exact h.1
variable {s:Sto}
def IR (h:gN s):(∀r∈s.recs,bG r=true)/\s.recs.length<=8/\lC s.vers=true/\s.vers.length<=8:=by
 simp only[gN,k_Bool_and_eq_true,decide_eq_true_eq,aI]at h;have h2:=h.2;simp only[lC,k_Bool_and_eq_true,decide_eq_true_eq]at h2;exact⟨h.1.1.1.1,h.1.2,h.2,h2.2⟩
def PO (c:Cfg)(s:Sto)(hc:apY c)(hs:axW s):Fk 50 [agZ c,MS s] (.tup [.val (cZ (yV c s)),vV (FD c s),vB (kZ c&&gN s)]):=by
 refine fE [7,13,43] ntmps50 fun _ _=> ?_;simp;refine ck (NY c hc.rules hc.rule hc.weights hc.surv) ?_;simp;apply gv<;>intro a
 ·have a':=a;simp at a';have a2:kZ c=false:=by simpa using a
  have hr1:yV c s=[]:=if_neg (by simp[a2]);have hr2:FD c s=[]:=if_neg (by simp[a2]);simp[a2];refine jX [] ((dK 4).trans (dK 5)) ?_;simp[a2,hr1,hr2]
 ·have a':=a;simp at a';have a2:kZ c:=by simpa using a
  simp[a2];refine ck (rM s hs.recs hs.rec1 hs.vers) ?_;simp;apply gw<;>intro b
  ·simp at b;have hr1:yV c s=[]:=if_neg (by simp[b]);have hr2:FD c s=[]:=if_neg (by simp[b]);simp[b];refine jX [] ((dK 4).trans (dK 5)) ?_;simp[a2,b,hr1,hr2]
  ·simp at b;have hcv:=ayI a2;have hsv:=IR b;have hr1:yV c s=if s.recs.length=0 then[]else EB c s:=if_pos (by simp[a2,b])
   have hr2:FD c s=jV s.vers:=if_pos (by simp[a2,b]);simp[b];refine ck (N7 s.vers (by omega) hsv.2.2.1) ?_;simp;apply gw<;>intro d
   ·have hr3:yV c s=[]:=by rw[hr1];exact if_pos (by simpa using d)
    simp;refine jX [] ((dK 4).trans (dK 5)) ?_;simp[a2,b,hr3,hr2]
   ·have hr3:yV c s=EB c s:=by rw[hr1];exact if_neg (by simpa using d)
    have hn:1<=s.recs.length/\s.recs.length<=8:=⟨by have:s.recs.length≠0:=(by simpa using d);omega,hsv.2.1⟩;obtain⟨items,hit⟩:∃items,items=s.recs.map eG:=⟨_,rfl⟩;have hit2:s.recs.map eG=items:=hit.symm;have hil:items.length=s.recs.length:=by rw[hit];simp
    have hmat:=KF c.rules c.sco hn;have hk8:=az8 s.vers hsv.2.2.2;simp;refine ck (zU s hs.recs hs.rec1 hs.vers b) ?_;simp[hit2];refine ck (PH s.recs c.rules c.sco hn hsv.1 hcv.1 hcv.2 hc.rule hc.rules hc.weights) ?_;simp;refine ck (ab8 (sH s.vers) items hk8 (by omega)) ?_;have hsc:=YV (sH s.vers) items hk8 (by omega);simp;refine fG (PI (weights s.recs c.rules c.sco) (nZ (sH s.vers) items) hmat (by omega)) (by simp) ?_;rintro r ⟨c1,e1,g1,rfl⟩;refine⟨by simp,?_⟩;have hlab:=aj7 (nZ (sH s.vers) items) hmat;have hlO:nK (weights s.recs c.rules c.sco) (nZ (sH s.vers) items)=BK c s:=by rw[hit];rfl
    have hwl:(weights s.recs c.rules c.sco).length=s.recs.length:=by simp[weights]
    rw[hlO,hwl]at hlab;simp[hlO];refine ck (AC (BK c s) (by omega) (hlab.imp id And.left)) ?_;have hbs:=afD hlab;have hrc:EB c s=(blocksP (BK c s)).map (uD items):=by rw[hit];rfl
    have hbl:(blocksP (BK c s)).length<=8:=by rcases hlab with h|h;(rw[k_List_length_eq_zero_iff.1 h];simp[blocksP,loopN]);exact k_Nat_le_trans (blocksI (isPart_iff.1 h.1).1 (k_Nat_le_refl _)).len (by omega)
    clear hlO hlab;generalize blocksP (BK c s)=bs at*
    simp;refine wlt (Nat×L2) (fun(i,o)=>([(7,.own (mY o)),(9,vV (jV s.vers)),(10,wN items),(15,.own (mY bs)),(16,vI i)],bs.length-i,(i<=bs.length)/\(o=(bs.take i).map (uD items)))) ((0,[])) ⟨by omega,rfl⟩ ?_;rintro⟨i,o⟩ ⟨h1,h2⟩;simp;apply gw<;>intro e
    ·have hr:=af2 e;have hsel:=hbs i e;have hol:o.length<=8:=by rw[h2,aK,dE];omega
     have hgm:=uA (uD items) hr;generalize hbg:gat bs i=bb at hr hsel hgm|-
     simp;refine wlt (Nat×L1) (fun(j,g)=>([(7,.own (mY o)),(9,vV (jV s.vers)),(10,wN items),(15,.own (mY bs)),(16,vI i),(17,wN g),(18,vI j)],bb.length-j,(j<=bb.length)/\(g=uD items (bb.take j)))) ((0,[])) ⟨by omega,rfl⟩ ?_;rintro⟨j,g⟩ ⟨h3,h4⟩;simp[hr];apply gw<;>intro f
     ·have hg:=aY f;have hgx:=hsel.1.1 _ (aA hg);have ha0:0<=at1 bb j:=hgx.1;have hix:(at1 bb j).toNat<items.length:=by rw[hil];omega
      have hg2:=aY hix;have hgl:g.length<=8:=by rw[h4,uD,aK,dE];omega
      have hpk:uD items (bb.take (j+1))=g++[at1 items (at1 bb j).toNat]:=by rw[uD,uA _ hg,h4];rfl
      simp[hr,hg,ha0,hg2];refine nxb (j+1,g++[at1 items (at1 bb j).toNat]) ⟨by omega,hpk.symm⟩
     ·simp at f;have hgE:uD items bb=g:=by rw[h4,bS f]
      simp;refine nxb (i+1,o++[g]) ⟨by omega,by rw[hgm,hgE,←h2]⟩
    ·simp at e;have ho:EB c s=o:=by rw[hrc,h2,bS e]
     simp;refine jX [] ((dK 4).trans (dK 5)) ?_;simp[a2,b,hr3,ho,hr2]
def DV (h:bG r):0<=r.source/\r.source<=3/\1<=r.key/\r.key<=99:=by
 simp only[bG,inR,k_Bool_and_eq_true,decide_eq_true_eq]at h;omega
def am6 (h:gN s):(∀x∈s.recs.map eG,inT x)/\(s.recs.map eG).Nodup:=by
 constructor
 ·intro x hx;obtain⟨r,hr,rfl⟩:=dG.1 hx;have:=DV ((IR h).1 r hr);unfold eG inT;omega
 ·simp only[gN,k_Bool_and_eq_true]at h;have h1:=ap0 (R:=fun a b=>decide (eG a<eG b)) (fun a b c hab hbc=>by simp only[decide_eq_true_eq]at*;omega) h.1.1.1.2;unfold List.Nodup;rw[yN];exact h1.imp fun hab=>by simp only[decide_eq_true_eq]at hab;omega
def apL {P:Ver->Prop}:∀(L:List Ver) (st:List Ver×List Ver),(∀v∈st.1,P v)->(∀v∈L,P v)->∀v∈(L.foldl IV st).1,P v
 |[],st,h,_=>h
 |c::L,st,h,hL=>apL L (IV st c) (fun v hv=>by
   unfold IV at hv;split at hv
   ·exact h v hv
   ·rcases k_List_mem_append.1 hv with h1|h1
    ·exact h v h1
    ·rw[k_List_mem_singleton.1 h1];exact hL c iW) (fun v hv=>hL v (aV _ hv))
def aq8 {l:List Ver}(h:lC l):∀v∈sH l,fQ v=true:=fun v hv=>by
 rw[←(agA h).1]at hv;have hc:=(aqE h).1;exact apL (P:=fun v=>fQ v=true) _ _ (fun v hv=>hc v (dW.1 hv).1) (fun v hv=>hc v (dW.1 ((I5 _).mem_iff.1 hv)).1) v ((F5 _).mem_iff.1 hv)
def mxP (items:L1)(B:L2)(i:Nat):L2:=(B.take i).map (uD items)++B.drop i
def mxR (items b:L1)(j:Nat):L1:=uD items (b.take j)++b.drop j
def acZ {items:L1}{B:L2}{i:Nat}(h:i<=B.length):(mxP items B i).length=B.length:=by simp[mxP];omega
def atQ {items:L1}{B:L2}{i:Nat}(h:i<B.length):(mxP items B i)[i]?=B[i]?:=by
 unfold mxP;rw[aN (by simp;omega),dV,aK,dE,fP (by omega),cO,kM]
def aES {items:L1}{B:L2}{i:Nat}{b:L1}(h:B[i]?=some b):(mxP items B i).set i (uD items b)=mxP items B (i+1):=by
 have hi:=dF h;unfold mxP;have hl:((B.take i).map (uD items)).length=i:=by simp;omega
 rw[List.set_append,if_neg (by omega),hl,cO,aX hi,eF,dM h,eB,bH];rfl
def aA8 {items:L1}{B:L2}{i:Nat}{b:L1}(h:B[i]?=some b):(mxP items B i).set i b=mxP items B i:=by
 apply kC;intro m;by_cases hm:i=m
 ·subst hm;have hi:=dF h;rw[bE (by rw[acZ (by omega)];exact hi),atQ hi,h]
 ·rw[bK hm]
def aEZ {items b:L1}{j:Nat}(h:j<=b.length):(mxR items b j).length=b.length:=by simp[mxR,uD];omega
def aEY {items b:L1}{j:Nat}(h:j<b.length):(mxR items b j)[j]?=b[j]?:=by
 unfold mxR uD;rw[aN (by simp;omega),dV,aK,dE,fP (by omega),cO,kM]
def aE0 {items b:L1}{j:Nat}(h:j<b.length):(mxR items b j).set j (at1 items (at1 b j).toNat)=mxR items b (j+1):=by
 have hg:=aY h;unfold mxR uD;have hl:((b.take j).map (at1 items ·.toNat)).length=j:=by simp;omega
 have hd:b.drop j=at1 b j::b.drop (j+1):=by rw[aX h];rw[aB h]at hg;rw[k_Option_some_inj hg]
 rw[List.set_append,if_neg (by omega),hl,cO,hd,eF,dM hg,eB,bH];rfl
def aEX (items b:L1):mxR items b b.length=uD items b:=by simp[mxR]
def mxQ (items:L1)(B:L2)(i:Nat)(b:L1)(j:Nat):L2:=(mxP items B i).set i (mxR items b j)
def aA9 {items:L1}{B:L2}{i:Nat}{b:L1}(h:B[i]?=some b):mxQ items B i b 0=mxP items B i:=by
 have:mxR items b 0=b:=by simp[mxR,uD]
 rw[mxQ,this,aA8 h]
def aEV {items:L1}{B:L2}{i:Nat}{b:L1}{j:Nat}(h:i<=B.length):(mxQ items B i b j).length=B.length:=by rw[mxQ,nX,acZ h]
def aEU {items:L1}{B:L2}{i:Nat}{b:L1}{j:Nat}(h:i<B.length):(mxQ items B i b j)[i]?=some (mxR items b j):=by rw[mxQ,bE (by rw[acZ (by omega)];exact h)]
def aEW {items:L1}{B:L2}{i:Nat}{b:L1}{j:Nat}(h:i<B.length)(hj:j<b.length):((mxQ items B i b j).map bT).set i (D.sl (some 3) (((mxR items b j).map dI).set j (dI (at1 items (at1 b j).toNat))))=(mxQ items B i b (j+1)).map bT:=by
 rw[←List.map_set,aE0 hj];show((mxQ items B i b j).map bT).set i (bT (mxR items b (j+1)))=_;rw[←List.map_set,mxQ,mxQ,List.set_set]
def aET {items:L1}{B:L2}{i:Nat}{b:L1}(h:B[i]?=some b):mxQ items B i b b.length=mxP items B (i+1):=by rw[mxQ,aEX,aES h]
def aa8 (c:Cfg)(s:Sto):L2:=if s.recs.length=0 then[]else EB c s
def abT (c:Cfg)(s:Sto)(hc:kZ c)(hs:gN s)(hsc:apY c):Fk 108 [agZ c,MS s] (.tup [.own (mY (aa8 c s)),wV (jV s.vers)]):=by
 refine fE [7] ntmps108 fun _ _=> ?_;have hcv:=ayI hc;have hsv:=IR hs;have hk8:=az8 s.vers hsv.2.2.2;have hkv:=aq8 hsv.2.2.1;simp;refine ck (NQ s.vers (by omega) hsv.2.2.1) ?_;simp;apply gw<;>intro d
 ·have hr:aa8 c s=[]:=if_pos (by simpa using d);try simp
  refine jX [] (GA (L:=[(4,.own (mY [])),(5,wV (jV s.vers))]) (by simp)) ?_;simp[hr]
 ·have hr:aa8 c s=EB c s:=if_neg (by simpa using d);have hn:1<=s.recs.length/\s.recs.length<=8:=⟨by have:s.recs.length≠0:=(by simpa using d);omega,hsv.2.1⟩;have hio:=am6 hs;have hperm:=au7 hkv hio.1 hio.2;have hmat:=KF c.rules c.sco hn;have hcl:=agN hmat hperm;have hcl2:nK (weights s.recs c.rules c.sco) (nZ (sH s.vers) (s.recs.map eG))=BK c s:=rfl;rw[hcl2]at hcl;have h16:=YV (sH s.vers) (s.recs.map eG) hk8 (by simp;omega);rw[←hperm.length_eq]at h16;have hlab:=aj7 (nZ (sH s.vers) (s.recs.map eG)) hmat;rw[hcl2]at hlab;have hrc:EB c s=(blocksP (BK c s)).map (uD (s.recs.map eG)):=rfl;have hwl:(weights s.recs c.rules c.sco).length=s.recs.length:=by simp[weights]
  rw[hwl]at hlab;obtain⟨items,hit⟩:∃items,s.recs.map eG=items:=⟨_,rfl⟩;rw[hit]at hio hperm hcl h16 hrc;have hil:items.length=s.recs.length:=by rw[←hit];simp
  simp;refine ck (UM s (by omega) (fun r hr=>by have:=DV (hsv.1 r hr);unfold eG;simp only[inI];omega)) ?_;simp[hit];refine ck (OY s.recs c.rules c.sco hn hsv.1 hcv.1 hcv.2 hsc.rule hsc.rules hsc.weights) ?_;simp;refine ck (NS (sH s.vers) items hk8 (fun v hv=>⟨(rZ (hkv v hv)).1,(rZ (hkv v hv)).2.1⟩) (by omega) hio.1) ?_;simp;refine fG (OZ (weights s.recs c.rules c.sco) (al2 (sH s.vers) items) hmat (by omega)) (by simp) ?_;rintro r ⟨c1,e1,g1,rfl⟩;refine⟨by simp,?_⟩;simp[hcl];refine ck (O9 (BK c s) (by omega) (hlab.imp id And.left)) ?_;have hbs:=afD hlab;have hbl:(blocksP (BK c s)).length<=8:=by rcases hlab with h|h;(rw[k_List_length_eq_zero_iff.1 h];simp[blocksP,loopN]);exact k_Nat_le_trans (blocksI (isPart_iff.1 h.1).1 (k_Nat_le_refl _)).len (by omega)
  clear hcl hlab hperm;generalize blocksP (BK c s)=B at*
  have hm0:mxP items B 0=B:=by simp[mxP]
  simp;refine wl (fun(i:Nat)=>[(7,wV (jV s.vers)),(8,wN items),(11,.own (mY (mxP items B i))),(46,.al 11 []),(47,vI B.length),(48,vI i)]) (fun(i:Nat)=>B.length-i) (fun(i:Nat)=>(i<=B.length)) (0) (by omega) ?_ (h0:=by simp[hit,hm0]);rintro i h1;simp;apply gw<;>intro a
  ·obtain⟨b,hb⟩:=aR (l:=B) (i:=i) a;have hmg:=atQ (items:=items) a;rw[hb]at hmg;have hml:=acZ (items:=items) h1;have hgb:gat B i=b:=by simp[gat,List.getD,hb]
   have hsel:=hbs i a;rw[hgb]at hsel;have hz:=aA9 (items:=items) hb;simp[hmg];refine wl (fun(j:Nat)=>[(7,wV (jV s.vers)),(8,wN items),(11,.own (mY (mxQ items B i b j))),(13,.al 11 [i]),(46,.al 11 []),(47,vI B.length),(48,vI i),(52,.al 11 [i]),(53,vI b.length),(54,vI j)]) (fun(j:Nat)=>b.length-j) (fun(j:Nat)=>(j<=b.length)) (0) (by omega) ?_ (h0:=by simp[hit,hmg,hml,hz]);rintro j h2;simp;apply gw<;>intro f
   ·have hg:=aY f;have hgx:=hsel.1.1 _ (aA hg);have hg3:=aY (l:=items) (i:=(at1 b j).toNat) (by rw[hil];have:=hgx.1;have:=hgx.2;omega);have hq1:=aEU (items:=items) (b:=b) (j:=j) a;have hq2:=aEV (items:=items) (b:=b) (j:=j) h1;have hq3:=aEY (items:=items) f;rw[hg]at hq3;have hq4:=aEW (items:=items) a f;have hq5:=aEZ (items:=items) (b:=b) (j:=j) (by omega);obtain⟨x,hx⟩:∃x,at1 b j=x:=⟨_,rfl⟩;rw[hx]at hg3 hq3 hq4 hgx;have hx0:=hgx.1;simp[hg3,hq1,hq3,hq4,hx0];refine nxa (j+1) (by omega)
   ·simp at f;obtain rfl:j=b.length:=by omega
    have hqa:=aET (items:=items) hb;simp[hqa];refine nxa (i+1) (by omega)
  ·simp at a;obtain rfl:i=B.length:=by omega
   have hfin:EB c s=mxP items B B.length:=by rw[hrc];simp[mxP]
   simp[hr,hfin]
def YM (c:Cfg)(s:Sto):(yV c s).length<=8/\∀r∈yV c s,r.length<=8:=by
 unfold yV;split
 ·rename_i h;rw[k_Bool_and_eq_true]at h;split
  ·simp
  ·rename_i hn;have hsv:=IR h.2;have hmat:=KF c.rules c.sco (l:=s.recs) ⟨by omega,hsv.2.1⟩;have hlab:=aj7 (nZ (sH s.vers) (s.recs.map eG)) hmat;have hwl:(weights s.recs c.rules c.sco).length=s.recs.length:=by simp[weights]
   rw[hwl]at hlab;have hbs:=afD hlab
   have hbl:(blocksP (BK c s)).length<=8:=by
    rcases hlab with h|h
    ·unfold BK;rw[k_List_length_eq_zero_iff.1 h];simp[blocksP,loopN]
    ·exact k_Nat_le_trans (blocksI (isPart_iff.1 h.1).1 (k_Nat_le_refl _)).len (by have:=h.2;have:=hsv.2.1;omega)
   unfold EB;refine⟨by rw[aK];exact hbl,fun r hr=> ?_⟩;obtain⟨b,hb,rfl⟩:=dG.1 hr;obtain⟨v,hv⟩:=dD hb;have hvl:=dF hv;have hg:gat (blocksP (BK c s)) v=b:=by simp[gat,List.getD,hv]
   have:=(hbs v hvl).2;have hg2:gat (blocksP (nK (weights s.recs c.rules c.sco) (nZ (sH s.vers) (s.recs.map eG)))) v=b:=hg;rw[hg2]at this;rw[uD,aK];omega
 ·simp
def take_len:∀(L:List Ver) (st:List Ver×List Ver),(L.foldl IV st).1.length+(L.foldl IV st).2.length=st.1.length+st.2.length+L.length
 |[],st=>by simp
 |c::L,st=>by
  rw[k_List_foldl_cons,take_len L,aS];unfold IV;split<;>simp<;>omega
def YN (c:Cfg)(s:Sto):(FD c s).length<=8:=by
 unfold FD;split
 ·rename_i h;rw[k_Bool_and_eq_true]at h;have hv:=(IR h.2).2.2.1;rw[←(agA hv).2,JR];have h1:=take_len (uL (vP (iD s.vers))) (apart (iD s.vers),[]);have h2:=akF (iD s.vers);have h3:=ad5 s.vers;have h4:=(IR h.2).2.2.2;rw[adN]at h1;simp only[jI]at h1;unfold af9;omega
 ·simp
def BX {α:Type}(f:α->D)(z:D)(l:List α)(i:Nat):List D:=(l.take i).map f++List.replicate (l.length-i) z
section
variable {α:Type}{f:α->D}{z:D}{l:List α}{i:Nat}{c:α}
def CY (h:i<=l.length):(BX f z l i).length=l.length:=by simp[BX];omega
def CX (h:i<l.length:=by omega):(BX f z l i)[i]?=some z:=by
 unfold BX;rw[aN (by simp;omega)];rw[aK,dE,fP (by omega),cO,fF,if_pos (by omega)]
def CZ (h:l[i]?=some c):(BX f z l i).set i (f c)=BX f z l (i+1):=by
 have hi:=dF h;unfold BX;have hl:((l.take i).map f).length=i:=by simp;omega
 rw[List.set_append,if_neg (by omega),hl,cO,uA f h,show l.length-i=(l.length-(i+1))+1 by omega,fU];simp
def zT:List.replicate l.length z=BX f z l 0:=by simp[BX]
def CW:BX f z l l.length=l.map f:=by simp[BX]
end
def aeQ (t:Tst):Fk 315 [uI t] (.val (uI t)):=by
 refine fE [] ntmps315 fun _ _=> ?_;simp
def ab2 (l:List Tst)(hl:Qle l):Fk 251 [.sl none (l.map uI)] (.own (.sl (some 215) (l.map uI))):=by
 refine fE [] ntmps251 fun _ _=> ?_;have hz:=zT (f:=uI) (z:=(.agg [dI 0,dI 0,dB false])) (l:=l);simp[hz];refine ai ?_;refine wl (fun(i:Nat)=>[(0,.val (.sl none (l.map uI))),(3,.own (.sl (some 215) (BX uI (.agg [dI 0,dI 0,dB false]) l i))),(4,vI i)]) (fun(i:Nat)=>l.length-i) (fun(i:Nat)=>(i<=l.length)) (0) (by omega) ?_;rintro i h1;simp;apply gw<;>intro a
 ·obtain⟨c,hc⟩:=aR (l:=l) (i:=i);have hg:=CX (f:=uI) (z:=(.agg [dI 0,dI 0,dB false])) (l:=l) (i:=i);have hfl:=CY (f:=uI) (z:=(.agg [dI 0,dI 0,dB false])) h1;have hst:=CZ (f:=uI) (z:=(.agg [dI 0,dI 0,dB false])) hc;simp[hc];refine ck (aeQ c) ?_;simp[hg,hst];refine nxa (i+1) (by first|omega|(simp;omega)|grind)
 ·simp at a;obtain rfl:i=l.length:=by omega
  have hfa:=CW (f:=uI) (z:=(.agg [dI 0,dI 0,dB false])) (l:=l);simp[hfa]
abbrev xH (l:List Tst):D:= .agg [.sl (some 215) (l.map uI)]
def aeP (l:List Tst)(hl:Qle l):Fk 174 [wK l] (.own (xH l)):=by
 refine fE [] ntmps174 fun _ _=> ?_;simp;refine ck (ab2 l hl) ?_;simp
def ab0 (l:List (List Tst))(hl:Qle l)(hs:∀t∈l,Qle t):Fk 100 [.sl none (l.map wK)] (.own (.sl (some 160) (l.map xH))):=by
 refine fE [] ntmps100 fun _ _=> ?_;have hz:=zT (f:=xH) (z:=(.agg [.sl (some 215) []])) (l:=l);simp[hz];refine ai ?_;refine wl (fun(i:Nat)=>[(0,.val (.sl none (l.map wK))),(3,.own (.sl (some 160) (BX xH (.agg [.sl (some 215) []]) l i))),(4,vI i)]) (fun(i:Nat)=>l.length-i) (fun(i:Nat)=>(i<=l.length)) (0) (by omega) ?_;rintro i h1;simp;apply gw<;>intro a
 ·obtain⟨c,hc⟩:=aR (l:=l) (i:=i);have hg:=CX (f:=xH) (z:=(.agg [.sl (some 215) []])) (l:=l) (i:=i);have hfl:=CY (f:=xH) (z:=(.agg [.sl (some 215) []])) h1;have hst:=CZ (f:=xH) (z:=(.agg [.sl (some 215) []])) hc;simp[hc];refine ck (aeP c (hs c (aA hc))) ?_;simp[hg,hst];refine nxa (i+1) (by first|omega|(simp;omega)|grind)
 ·simp at a;obtain rfl:i=l.length:=by omega
  have hfa:=CW (f:=xH) (z:=(.agg [.sl (some 215) []])) (l:=l);simp[hfa]
def W9 (l:List (List Tst))(hl:Qle l)(hs:∀t∈l,Qle t):Fk 54 [mU l] (.own (.agg [.sl (some 160) (l.map xH)])):=by
 refine fE [] ntmps54 fun _ _=> ?_;simp;refine ck (ab0 l hl hs) ?_;simp
def G6 (l:L1)(hl:Qle l):Fk 56 [nInts l] (wN l):=by
 refine fE [] ntmps56 fun _ _=> ?_;have hz:=zT (f:=dI) (z:=(dI 0)) (l:=l);simp[hz];refine ai ?_;refine wl (fun(i:Nat)=>[(0,vN l),(3,.own (.sl (some 3) (BX dI (dI 0) l i))),(4,vI i)]) (fun(i:Nat)=>l.length-i) (fun(i:Nat)=>(i<=l.length)) (0) (by omega) ?_;rintro i h1;simp;apply gw<;>intro a
 ·obtain⟨c,hc⟩:=aR (l:=l) (i:=i);have hg:=CX (f:=dI) (z:=(dI 0)) (l:=l) (i:=i);have hfl:=CY (f:=dI) (z:=(dI 0)) h1;have hst:=CZ (f:=dI) (z:=(dI 0)) hc;simp[hc,hg,hst];refine nxa (i+1) (by first|omega|(simp;omega)|grind)
 ·simp at a;obtain rfl:i=l.length:=by omega
  have hfa:=CW (f:=dI) (z:=(dI 0)) (l:=l);simp[hfa]
def XA (s:Sco)(hl:Qle s.weights):Fk 55 [II s] (.own (.agg [bT s.weights,dI s.bias])):=by
 refine fE [] ntmps55 fun _ _=> ?_;simp;refine ck (G6 s.weights hl) ?_;simp
def XB (l:List Str)(hl:Qle l):Fk 175 [mQ l] (wE l):=by
 refine fE [] ntmps175 fun _ _=> ?_;have hz:=zT (f:=dS) (z:=(dS [])) (l:=l);simp[hz];refine ai ?_;refine wl (fun(i:Nat)=>[(0,vR l),(3,.own (.sl (some 9) (BX dS (dS []) l i))),(4,vI i)]) (fun(i:Nat)=>l.length-i) (fun(i:Nat)=>(i<=l.length)) (0) (by omega) ?_;rintro i h1;simp;apply gw<;>intro a
 ·obtain⟨c,hc⟩:=aR (l:=l) (i:=i);have hg:=CX (f:=dS) (z:=(dS [])) (l:=l) (i:=i);have hfl:=CY (f:=dS) (z:=(dS [])) h1;have hst:=CZ (f:=dS) (z:=(dS [])) hc;simp[hc,hg,hst];refine nxa (i+1) (by first|omega|(simp;omega)|grind)
 ·simp at a;obtain rfl:i=l.length:=by omega
  have hfa:=CW (f:=dS) (z:=(dS [])) (l:=l);simp[hfa]
abbrev J9 (r:Rec):D:= .agg [dI r.source,dI r.key,dI r.version,YB r.fields]
def ZP (r:Rec)(hl:Qle r.fields):Fk 101 [nP r] (.own (J9 r)):=by
 refine fE [] ntmps101 fun _ _=> ?_;simp;refine ck (XB r.fields hl) ?_;simp
def WZ (l:List Rec)(hl:Qle l)(hs:∀r∈l,Qle r.fields):Fk 57 [JN l] (.own (.sl (some 74) (l.map J9))):=by
 refine fE [] ntmps57 fun _ _=> ?_;have hz:=zT (f:=J9) (z:=(.agg [dI 0,dI 0,dI 0,.sl (some 9) []])) (l:=l);simp[hz];refine ai ?_;refine wl (fun(i:Nat)=>[(0,vT l),(3,.own (.sl (some 74) (BX J9 (.agg [dI 0,dI 0,dI 0,.sl (some 9) []]) l i))),(4,vI i)]) (fun(i:Nat)=>l.length-i) (fun(i:Nat)=>(i<=l.length)) (0) (by omega) ?_;rintro i h1;simp;apply gw<;>intro a
 ·obtain⟨c,hc⟩:=aR (l:=l) (i:=i);have hg:=CX (f:=J9) (z:=(.agg [dI 0,dI 0,dI 0,.sl (some 9) []])) (l:=l) (i:=i);have hfl:=CY (f:=J9) (z:=(.agg [dI 0,dI 0,dI 0,.sl (some 9) []])) h1;have hst:=CZ (f:=J9) (z:=(.agg [dI 0,dI 0,dI 0,.sl (some 9) []])) hc;simp[hc];refine ck (ZP c (hs c (aA hc))) ?_;simp[hg,hst];refine nxa (i+1) (by first|omega|(simp;omega)|grind)
 ·simp at a;obtain rfl:i=l.length:=by omega
  have hfa:=CW (f:=J9) (z:=(.agg [dI 0,dI 0,dI 0,.sl (some 9) []])) (l:=l);simp[hfa]
def XC (v:Ver):Fk 59 [kH v] (.val (kH v)):=by
 refine fE [] ntmps59 fun _ _=> ?_;simp
def G7 (l:List Ver)(hl:Qle l):Fk 25 [nVers l] (wV l):=by
 refine fE [] ntmps25 fun _ _=> ?_;have hz:=zT (f:=kH) (z:=(.agg [dI 0,dI 0,dB false,dI 0])) (l:=l);simp[hz];refine ai ?_;refine wl (fun(i:Nat)=>[(0,vV l),(3,.own (.sl (some 102) (BX kH (.agg [dI 0,dI 0,dB false,dI 0]) l i))),(4,vI i)]) (fun(i:Nat)=>l.length-i) (fun(i:Nat)=>(i<=l.length)) (0) (by omega) ?_;rintro i h1;simp;apply gw<;>intro a
 ·obtain⟨c,hc⟩:=aR (l:=l) (i:=i);have hg:=CX (f:=kH) (z:=(.agg [dI 0,dI 0,dB false,dI 0])) (l:=l) (i:=i);have hfl:=CY (f:=kH) (z:=(.agg [dI 0,dI 0,dB false,dI 0])) h1;have hst:=CZ (f:=kH) (z:=(.agg [dI 0,dI 0,dB false,dI 0])) hc;simp[hc];refine ck (XC c) ?_;simp[hg,hst];refine nxa (i+1) (by first|omega|(simp;omega)|grind)
 ·simp at a;obtain rfl:i=l.length:=by omega
  have hfa:=CW (f:=kH) (z:=(.agg [dI 0,dI 0,dB false,dI 0])) (l:=l);simp[hfa]
def aeN (t:Tst):Fk 357 [uI t,uI t] (vB true):=by
 refine fE [] ntmps357 fun _ _=> ?_;simp
def abW (l:List Tst)(hl:Qle l):Fk 287 [.sl none (l.map uI),.sl none (l.map uI)] (vB true):=by
 refine fE [] ntmps287 fun _ _=> ?_;simp;refine wl (fun(i:Nat)=>[(0,.val (.sl none (l.map uI))),(1,.val (.sl none (l.map uI))),(5,vI i)]) (fun(i:Nat)=>l.length-i) (fun(i:Nat)=>(i<=l.length)) (0) (by omega) ?_;rintro i h1;simp;apply gw<;>intro a
 ·obtain⟨c,hc⟩:=aR (l:=l) (i:=i);simp;refine wdr ?_;simp[hc];refine cd (aeN c) ?_;simp;refine nxa (i+1) (by first|omega|(simp;omega)|grind)
 ·simp at a;simp
def aeM (l:List Tst)(hl:Qle l):Fk 194 [wK l,wK l] (vB true):=by
 refine fE [] ntmps194 fun _ _=> ?_;simp;refine ck (abW l hl) ?_;simp
def abU (l:List (List Tst))(hl:Qle l)(hs:∀t∈l,Qle t):Fk 112 [.sl none (l.map wK),.sl none (l.map wK)] (vB true):=by
 refine fE [] ntmps112 fun _ _=> ?_;simp;refine wl (fun(i:Nat)=>[(0,.val (.sl none (l.map wK))),(1,.val (.sl none (l.map wK))),(5,vI i)]) (fun(i:Nat)=>l.length-i) (fun(i:Nat)=>(i<=l.length)) (0) (by omega) ?_;rintro i h1;simp;apply gw<;>intro a
 ·obtain⟨c,hc⟩:=aR (l:=l) (i:=i);simp;refine wdr ?_;simp[hc];refine cd (aeM c (hs c (aA hc))) ?_;simp;refine nxa (i+1) (by first|omega|(simp;omega)|grind)
 ·simp at a;simp
def WM (l:List (List Tst))(hl:Qle l)(hs:∀t∈l,Qle t):Fk 62 [mU l,mU l] (vB true):=by
 refine fE [] ntmps62 fun _ _=> ?_;simp;refine ck (abU l hl hs) ?_;simp
def GV (l:L1)(hl:Qle l):Fk 64 [nInts l,nInts l] (vB true):=by
 refine fE [] ntmps64 fun _ _=> ?_;simp;refine wl (fun(i:Nat)=>[(0,vN l),(1,vN l),(5,vI i)]) (fun(i:Nat)=>l.length-i) (fun(i:Nat)=>(i<=l.length)) (0) (by omega) ?_;rintro i h1;simp;apply gw<;>intro a
 ·obtain⟨c,hc⟩:=aR (l:=l) (i:=i);simp;refine wdr ?_;simp[hc];refine nxa (i+1) (by first|omega|(simp;omega)|grind)
 ·simp at a;simp
def WN (s:Sco)(hl:Qle s.weights):Fk 63 [II s,II s] (vB true):=by
 refine fE [] ntmps63 fun _ _=> ?_;simp;refine ck (GV s.weights hl) ?_;simp
def ZG (c:Cfg)(hl:Qle c.rules)(hs:∀t∈c.rules,Qle t)(hw:Qle c.sco.weights)(hv:Qle c.surv):Fk 29 [agZ c,agZ c] (vB true):=by
 refine fE [] ntmps29 fun _ _=> ?_;simp;refine ck (WM c.rules hl hs) ?_;simp;refine ck (WN c.sco hw) ?_;simp;refine ck (GV c.surv hv) ?_;simp
def WO (l:List Str)(hl:Qle l):Fk 195 [mQ l,mQ l] (vB true):=by
 refine fE [] ntmps195 fun _ _=> ?_;simp;refine wl (fun(i:Nat)=>[(0,vR l),(1,vR l),(5,vI i)]) (fun(i:Nat)=>l.length-i) (fun(i:Nat)=>(i<=l.length)) (0) (by omega) ?_;rintro i h1;simp;apply gw<;>intro a
 ·obtain⟨c,hc⟩:=aR (l:=l) (i:=i);simp;refine wdr ?_;simp[hc];refine nxa (i+1) (by first|omega|(simp;omega)|grind)
 ·simp at a;simp
def ZI (r:Rec)(hl:Qle r.fields):Fk 113 [nP r,nP r] (vB true):=by
 refine fE [] ntmps113 fun _ _=> ?_;simp;refine ck (WO r.fields hl) ?_;simp
def WL (l:List Rec)(hl:Qle l)(hs:∀r∈l,Qle r.fields):Fk 65 [JN l,JN l] (vB true):=by
 refine fE [] ntmps65 fun _ _=> ?_;simp;refine wl (fun(i:Nat)=>[(0,vT l),(1,vT l),(5,vI i)]) (fun(i:Nat)=>l.length-i) (fun(i:Nat)=>(i<=l.length)) (0) (by omega) ?_;rintro i h1;simp;apply gw<;>intro a
 ·obtain⟨c,hc⟩:=aR (l:=l) (i:=i);simp;refine wdr ?_;simp[hc];refine cd (ZI c (hs c (aA hc))) ?_;simp;refine nxa (i+1) (by first|omega|(simp;omega)|grind)
 ·simp at a;simp
def WP (v:Ver):Fk 67 [kH v,kH v] (vB true):=by
 refine fE [] ntmps67 fun _ _=> ?_;simp
def GX (l:List Ver)(hl:Qle l):Fk 32 [nVers l,nVers l] (vB true):=by
 refine fE [] ntmps32 fun _ _=> ?_;simp;refine wl (fun(i:Nat)=>[(0,vV l),(1,vV l),(5,vI i)]) (fun(i:Nat)=>l.length-i) (fun(i:Nat)=>(i<=l.length)) (0) (by omega) ?_;rintro i h1;simp;apply gw<;>intro a
 ·obtain⟨c,hc⟩:=aR (l:=l) (i:=i);simp;refine wdr ?_;simp[hc];refine cd (WP c) ?_;simp;refine nxa (i+1) (by first|omega|(simp;omega)|grind)
 ·simp at a;simp
def abV (s:Sto)(hl:Qle s.recs)(hs:∀r∈s.recs,Qle r.fields)(hv:Qle s.vers):Fk 30 [MS s,MS s] (vB true):=by
 refine fE [] ntmps30 fun _ _=> ?_;simp;refine ck (WL s.recs hl hs) ?_;simp;refine ck (GX s.vers hv) ?_;simp
def ZK (c:Cfg)(left:Int)(hr:auZ c.rules)(hw:c.sco.weights.length<=9223372036854775807)(hs:c.surv.length<=9223372036854775807)(h0:0<=left/\left<=1048576):fK prog 16 [agZ c,dI left] (fun r=>∃v:Int,r=vI v/\(-1<=v/\v<=left)/\(0<=v->aDV c.rules left/\(c.sco.weights.length:Int)<=left/\(c.surv.length:Int)<=left)):=by
 refine fE [] ntmps16 fun _ _=> ?_;simp;refine fG (WV c.rules left hr h0) (by simp) ?_;rintro r ⟨v1,rfl,hv1,hf1⟩;refine⟨by simp,?_⟩;simp;apply gw<;>intro b
 ·simp;omega
 ·simp at b;simp;refine fG (WW c.sco v1 hw (by omega)) (by simp) ?_;rintro r ⟨v2,rfl,hv2,hf2⟩;refine⟨by simp,?_⟩;simp;apply gw<;>intro d
  ·simp;omega
  ·simp at d;simp;refine fG (GZ c.surv v2 hs (by omega)) (by simp) ?_;rintro r ⟨v3,rfl,hv3,hf3⟩;refine⟨by simp,?_⟩;simp;apply gw<;>intro e
   ·simp;omega
   ·simp at e;have k1:=hf1 (by omega);have k2:=hf2 (by omega);have k3:=hf3 (by omega);have k4:(c.sco.weights.length:Int)<=left/\(c.surv.length:Int)<=left:=by omega
    simp[k1,k4];refine ai ?_;omega
def abY (s:Sto)(left:Int)(hr:ax8 s.recs)(hw:s.vers.length<=9223372036854775807)(h0:0<=left/\left<=1048576):fK prog 17 [MS s,dI left] (fun r=>∃v:Int,r=vI v/\(-1<=v/\v<=left)/\(0<=v->aG0 s.recs left/\(s.vers.length:Int)<=left)):=by
 refine fE [] ntmps17 fun _ _=> ?_;simp;refine fG (WU s.recs left hr h0) (by simp) ?_;rintro r ⟨v1,rfl,hv1,hf1⟩;refine⟨by simp,?_⟩;simp;apply gw<;>intro b
 ·simp;omega
 ·simp at b;simp;refine fG (G5 s.vers v1 hw (by omega)) (by simp) ?_;rintro r ⟨v2,rfl,hv2,hf2⟩;refine⟨by simp,?_⟩;simp;apply gw<;>intro d
  ·simp;omega
  ·simp at d;have k1:=hf1 (by omega);have k2:=hf2 (by omega);have k4:(s.vers.length:Int)<=left:=by omega
   simp[k1,k4];refine ai ?_;omega
def ZN (c:Cfg)(hl:Qle c.rules)(hs:∀t∈c.rules,Qle t)(hw:Qle c.sco.weights)(hv:Qle c.surv):Fk 22 [agZ c] (.own (.agg [.agg [.sl (some 160) (c.rules.map xH)],.agg [bT c.sco.weights,dI c.sco.bias],bT c.surv])):=by
 refine fE [] ntmps22 fun _ _=> ?_;simp;refine ck (W9 c.rules hl hs) ?_;simp;refine ck (XA c.sco hw) ?_;simp;refine ck (G6 c.surv hv) ?_;simp
def ab1 (s:Sto)(hl:Qle s.recs)(hs:∀r∈s.recs,Qle r.fields)(hv:Qle s.vers):Fk 23 [MS s] (.own (.agg [dI s.version,.sl (some 74) (s.recs.map J9),oVers s.vers])):=by
 refine fE [] ntmps23 fun _ _=> ?_;simp;refine ck (WZ s.recs hl hs) ?_;simp;refine ck (G7 s.vers hv) ?_;simp
abbrev akH (e:Ent):D:= .agg [dI e.id,nInts e.mem]
abbrev yC (l:List Ent):D:= .sl none (l.map akH)
abbrev oEnt (e:Ent):D:= .agg [dI e.id,bT e.mem]
abbrev aiG (l:List Ent):D:= .sl (some 104) (l.map oEnt)
abbrev nSys (x:wP):D:= .agg [agZ x.cfg,MS x.sto,yC x.ents,dI x.next,nVers x.ref]
def DN (l:List Ent):Nat:=(l.map fun e=>e.mem.length).sum
def an7 {l:List Ent}{i:Nat}{c:Ent}(h:l[i]?=some c):DN (l.take (i+1))=DN (l.take i)+c.mem.length:=by simp[DN,dM h]
def P7 {l:List Ent}{e:Ent}(h:e∈l):e.mem.length<=DN l:=by
 obtain⟨a,b,rfl⟩:=List.append_of_mem h;simp[DN];omega
def aGR (l:List Ent):Prop:=l.length<=9223372036854775807/\∀e∈l,e.mem.length<=9223372036854775807
structure vY (x:wP):Prop where
 cfg:apY x.cfg
 sto:axW x.sto
 ents:Qle x.ents
 mem:DN x.ents<=1048576
 ref:Qle x.ref
structure aDA (x:wP):Prop where
 rules:auZ x.cfg.rules
 wts:x.cfg.sco.weights.length<=9223372036854775807
 surv:x.cfg.surv.length<=9223372036854775807
 recs:ax8 x.sto.recs
 vers:x.sto.vers.length<=9223372036854775807
 ents:aGR x.ents
 ref:x.ref.length<=9223372036854775807
def ZL (e:Ent)(left:Int)(hl:e.mem.length<=9223372036854775807)(h0:0<=left/\left<=1048576):fK prog 47 [akH e,dI left] (fun r=>∃v:Int,r=vI v/\(-1<=v/\v<=left)/\(0<=v->v+(e.mem.length:Int)<=left)):=by
 refine fE [] ntmps47 fun _ _=> ?_;simp;refine fG (GZ e.mem left hl h0) (by simp) ?_;rintro r ⟨v,rfl,hv,hf⟩;refine⟨by simp,?_⟩;simp;apply gw<;>intro b
 ·simp;omega
 ·simp at b;have hfit:=hf (by omega);simp[hfit];refine ai ?_;omega
def WT (l:List Ent)(left:Int)(hl:aGR l)(h0:0<=left/\left<=1048576):fK prog 18 [yC l,dI left] (fun r=>∃v:Int,r=vI v/\(-1<=v/\v<=left)/\(0<=v->v+(l.length:Int)+DN l<=left)):=by
 refine fE [] ntmps18 fun _ _=> ?_;have hl1:=hl.1;simp;refine ai ?_;apply gw<;>intro e
 ·simp;omega
 ·simp at e;simp;refine wlt (Nat×Int) (fun(i,L)=>([(0,.val (yC l)),(1,vI L),(5,vI i)],l.length-i,(i<=l.length)/\(0<=L/\L+(l.length:Int)+DN (l.take i)<=left))) ((0,left-l.length)) ⟨by omega,by simp[DN];omega⟩ ?_;rintro⟨i,L⟩ ⟨h1,h2⟩;simp;apply gw<;>intro a
  ·obtain⟨c,hc⟩:=aR (l:=l) (i:=i);have hcl:=hl.2 c (aA hc);have hms:=an7 hc;simp[hc];refine fG (ZL c L hcl (by omega)) (by simp) ?_;rintro r ⟨v,rfl,hv,hf⟩;refine⟨by simp,?_⟩;simp;apply gw<;>intro b
   ·simp;omega
   ·simp at b;have hfc:=hf (by omega);simp;refine nxa (i+1,v) ⟨by omega,by omega⟩
  ·simp at a;have hfit:L+(l.length:Int)+DN l<=left:=by rw[bS]at h2;omega
   simp[hfit];refine ai ?_;omega
def K4 (x:wP)(left:Int)(hl:aDA x)(h0:0<=left/\left<=1048576):fK prog 5 [nSys x,dI left] (fun r=>∃v:Int,r=vI v/\(-1<=v/\v<=left)/\(0<=v->vY x)):=by
 refine fE [] ntmps5 fun _ _=> ?_;simp;refine fG (ZK x.cfg left hl.rules hl.wts hl.surv h0) (by simp) ?_;rintro r ⟨v1,rfl,hv1,hf1⟩;refine⟨by simp,?_⟩;simp;apply gw<;>intro b
 ·simp;omega
 ·simp at b;simp;refine fG (abY x.sto v1 hl.recs hl.vers (by omega)) (by simp) ?_;rintro r ⟨v2,rfl,hv2,hf2⟩;refine⟨by simp,?_⟩;simp;apply gw<;>intro d
  ·simp;omega
  ·simp at d;simp;refine fG (WT x.ents v2 hl.ents (by omega)) (by simp) ?_;rintro r ⟨v3,rfl,hv3,hf3⟩;refine⟨by simp,?_⟩;simp;apply gw<;>intro e
   ·simp;omega
   ·simp at e;simp;refine fG (G5 x.ref v3 hl.ref (by omega)) (by simp) ?_;rintro r ⟨v4,rfl,hv4,hf4⟩;refine⟨by simp,?_⟩;simp;apply gw<;>intro f
    ·simp;omega
    ·simp at f;have k1:=hf1 (by omega);have k2:=hf2 (by omega);have k3:=hf3 (by omega);have k4:=hf4 (by omega);have hx:vY x:=⟨⟨by have:=k1.1.1;omega,fun l hl=>by have:=k1.1.2 l hl;omega,by omega,by omega⟩,⟨by have:=k2.1.1;omega,fun r hr=>⟨by have:=(k2.1.2 r hr).1;omega,fun f hf=>by have:=(k2.1.2 r hr).2 f hf;unfold af5;omega⟩,by omega⟩,by omega,by omega,by omega⟩;simp[hx];refine ai ?_;omega
def ZO (e:Ent)(hl:Qle e.mem):Fk 58 [akH e] (.own (oEnt e)):=by
 refine fE [] ntmps58 fun _ _=> ?_;simp;refine ck (G6 e.mem hl) ?_;simp
def WY (l:List Ent)(hl:Qle l)(hs:∀e∈l,Qle e.mem):Fk 24 [yC l] (.own (aiG l)):=by
 refine fE [] ntmps24 fun _ _=> ?_;have hz:=zT (f:=oEnt) (z:=(.agg [dI 0,.sl (some 3) []])) (l:=l);simp[hz];refine ai ?_;refine wl (fun(i:Nat)=>[(0,.val (yC l)),(3,.own (.sl (some 104) (BX oEnt (.agg [dI 0,.sl (some 3) []]) l i))),(4,vI i)]) (fun(i:Nat)=>l.length-i) (fun(i:Nat)=>(i<=l.length)) (0) (by omega) ?_;rintro i h1;simp;apply gw<;>intro a
 ·obtain⟨c,hc⟩:=aR (l:=l) (i:=i);have hg:=CX (f:=oEnt) (z:=(.agg [dI 0,.sl (some 3) []])) (l:=l) (i:=i);have hfl:=CY (f:=oEnt) (z:=(.agg [dI 0,.sl (some 3) []])) h1;have hst:=CZ (f:=oEnt) (z:=(.agg [dI 0,.sl (some 3) []])) hc;simp[hc];refine ck (ZO c (hs c (aA hc))) ?_;simp[hg,hst];refine nxa (i+1) (by first|omega|(simp;omega)|grind)
 ·simp at a;obtain rfl:i=l.length:=by omega
  have hfa:=CW (f:=oEnt) (z:=(.agg [dI 0,.sl (some 3) []])) (l:=l);simp[hfa]
def gP (x:wP)(hx:vY x):Fk 7 [nSys x] (.own (.agg [.agg [.agg [.sl (some 160) (x.cfg.rules.map xH)],.agg [bT x.cfg.sco.weights,dI x.cfg.sco.bias],bT x.cfg.surv],.agg [dI x.sto.version,.sl (some 74) (x.sto.recs.map J9),oVers x.sto.vers],aiG x.ents,dI x.next,oVers x.ref])):=by
 refine fE [] ntmps7 fun _ _=> ?_;have hme:∀e∈x.ents,Qle e.mem:=fun e he=>k_Nat_le_trans (P7 he) hx.mem;simp;refine ck (ZN x.cfg hx.cfg.rules hx.cfg.rule hx.cfg.weights hx.cfg.surv) ?_;simp;refine ck (ab1 x.sto hx.sto.recs (fun r hr=>(hx.sto.rec1 r hr).1) hx.sto.vers) ?_;simp;refine ck (WY x.ents hx.ents hme) ?_;simp;refine ck (G7 x.ref hx.ref) ?_;simp
def JU (x:wP)(hx:vY x):fK prog 7 [nSys x] (fun r=>r= .val (.agg [.agg [.agg [.sl (some 160) (x.cfg.rules.map xH)],.agg [bT x.cfg.sco.weights,dI x.cfg.sco.bias],bT x.cfg.surv],.agg [dI x.sto.version,.sl (some 74) (x.sto.recs.map J9),oVers x.sto.vers],aiG x.ents,dI x.next,oVers x.ref])):=(gP x hx).azN
def ZH (e:Ent)(hl:Qle e.mem):Fk 66 [akH e,akH e] (vB true):=by
 refine fE [] ntmps66 fun _ _=> ?_;simp;refine ck (GV e.mem hl) ?_;simp
def WK (l:List Ent)(hl:Qle l)(hs:∀e∈l,Qle e.mem):Fk 31 [yC l,yC l] (vB true):=by
 refine fE [] ntmps31 fun _ _=> ?_;simp;refine wl (fun(i:Nat)=>[(0,.val (yC l)),(1,.val (yC l)),(5,vI i)]) (fun(i:Nat)=>l.length-i) (fun(i:Nat)=>(i<=l.length)) (0) (by omega) ?_;rintro i h1;simp;apply gw<;>intro a
 ·obtain⟨c,hc⟩:=aR (l:=l) (i:=i);simp;refine wdr ?_;simp[hc];refine cd (ZH c (hs c (aA hc))) ?_;simp;refine nxa (i+1) (by first|omega|(simp;omega)|grind)
 ·simp at a;simp
def xN (x:wP)(hx:vY x):Fk 10 [nSys x,nSys x] (vB true):=by
 refine fE [] ntmps10 fun _ _=> ?_;have hme:∀e∈x.ents,Qle e.mem:=fun e he=>k_Nat_le_trans (P7 he) hx.mem;simp;refine ck (ZG x.cfg hx.cfg.rules hx.cfg.rule hx.cfg.weights hx.cfg.surv) ?_;simp;refine ck (abV x.sto hx.sto.recs (fun r hr=>(hx.sto.rec1 r hr).1) hx.sto.vers) ?_;simp;refine ck (WK x.ents hx.ents hme) ?_;simp;refine ck (GX x.ref hx.ref) ?_;simp
end Go.Proofs.YtnlkiflcbknaaaaGreatDoor
end
