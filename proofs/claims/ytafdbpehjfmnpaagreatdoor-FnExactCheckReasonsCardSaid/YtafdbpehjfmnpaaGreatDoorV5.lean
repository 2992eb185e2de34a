/- Lemmas and walks that the law leans on, part V5. No condition. -/
import Derived.Lib.AtoiAllCases
import Derived.Lib.AtoiErrMem
import Derived.Lib.OwnBridge
import Derived.Lib.SortBridge
import Derived.Test.YtafdbpehjfmnpaaGreatDoorV4
set_option linter.unusedVariables false
set_option linter.defProp false
set_option linter.unusedSimpArgs false
set_option linter.unusedSectionVars false
set_option maxRecDepth 10000
set_option maxHeartbeats 1000000
section
namespace Go.Proofs.YtafdbpehjfmnpaaGreatDoor
open Go.Dv Go.Pl Go.Proofs.Tryz
abbrev ab4 (bc bm bl bf bk:Nat):D:= .one (.func (.func 355) #[] #[ZL bc,ZL bm,ZL bl,ZL bf,ZL bk])
abbrev alY (bn bY bL bF:Nat):D:= .one (.func (.func 395) #[] #[ZL bn,ZL bY,ZL bL,ZL bF])
def F6 {a:Nat}{l:List Nat}(h:∀b∈l,¬a=b)(hl:nK l):nK (a::l):=⟨fun b hb=>⟨h b hb,fun e=>h b hb e.symm⟩,hl⟩
def alZ (m:L2)(cs:List Con)(bn bY bL bF bc bm bl bf bk d:Nat):Prop:=∀(i nt:Nat) (I N:Int) (l:L1) (s:S20) (k:Int),I=i->N=nt->i+d=m.length->nt<=i->l.length=m.length->
 FnW prog 395 [dI I,dI N] [(bn,some (dI m.length)),(bY,some (ab4 bc bm bl bf bk)),(bL,none),(bF,some (alY bn bY bL bF))] [(bn,dI m.length),(bY,ab4 bc bm bl bf bk),(bF,alY bn bY bL bF),(bc,jJ cs),(bm,bV m)] [(bL,cO l),(bl,dI s.cost),(bf,cO s.best),(bk,dI k)]
  (fun r ds'=>r= .tup []/\∃l' k',(l'.length=m.length/\l'.take i=l.take i)/\ds'=[cO l',dI (pV (mI m cs) d (l.take i) nt s).cost,cO (pV (mI m cs) d (l.take i) nt s).best,dI k'])
def axW (m:L2)(cs:List Con)(bn bY bL bF bc bm bl bf bk:Nat)(hA:nK [bF,bL,bY,bn,bc,bm,bl,bf,bk])(hm:bQ m)(hc:Qle cs)(N:Int)(l:L1)(s:S20)(k:Int)(hl:l.length=m.length):FnW prog 395 [dI (m.length:Int),dI N] [(bn,some (dI m.length)),(bY,some (ab4 bc bm bl bf bk)),(bL,none),(bF,some (alY bn bY bL bF))] [(bn,dI m.length),(bY,ab4 bc bm bl bf bk),(bF,alY bn bY bL bF),(bc,jJ cs),(bm,bV m)] [(bL,cO l),(bl,dI s.cost),(bf,cO s.best),(bk,dI k)] (fun r ds'=>r= .tup []/\∃k',ds'=[cO l,dI (mI m cs l s).cost,cO (mI m cs l s).best,dI k']):=by
 refine fW [] ntmps395 fun _ _=> ?_;have hA2:=hA;simp[nK]at hA2;simp;refine VG (ax5 m cs l s k bc bm bl bf bk ⟨by omega,by omega,by omega,by omega,by omega,by omega,by omega,by omega,by omega,by omega⟩ hm hl hc) rfl ?_;simp[hA2];refine XN ?_;rintro _ _ ⟨rfl,k',rfl⟩;simp[hA2]
variable {l:L1}
def avY {l0:L1}{i:Nat}{x:Int}(h:l.take i=l0.take i)(hi:i<l.length):(l.set i x).take (i+1)=l0.take i++[x]:=by
 have h1:(l.set i x)[i]?=some x:=by simp[hi]
 rw[dV h1,List.take_set_of_le (k_Nat_le_refl _),h]
def VO (m:L2)(cs:List Con)(d:Nat)(l:L1)(nt:Nat)(x:Nat)(s:S20):S20:=pV (mI m cs) d (l++[(x:Int)]) (max nt (x+1)) s
def axX (m:L2)(cs:List Con)(bn bY bL bF bc bm bl bf bk d:Nat)(hA:nK [bF,bL,bY,bn,bc,bm,bl,bf,bk])(hm:bQ m)(IH:alZ m cs bn bY bL bF bc bm bl bf bk d)(i nt:Nat)(l:L1)(s:S20)(k:Int)(hi:i+d+1=m.length)(hnt:nt<=i)(hl:l.length=m.length):FnW prog 395 [dI (i:Int),dI (nt:Int)] [(bn,some (dI m.length)),(bY,some (ab4 bc bm bl bf bk)),(bL,none),(bF,some (alY bn bY bL bF))] [(bn,dI m.length),(bY,ab4 bc bm bl bf bk),(bF,alY bn bY bL bF),(bc,jJ cs),(bm,bV m)] [(bL,cO l),(bl,dI s.cost),(bf,cO s.best),(bk,dI k)] (fun r ds'=>r= .tup []/\∃l' k',(l'.length=m.length/\l'.take i=l.take i)/\ds'=[cO l',dI (pV (mI m cs) (d+1) (l.take i) nt s).cost,cO (pV (mI m cs) (d+1) (l.take i) nt s).best,dI k']):=by
 refine fW [] ntmps395 fun _ _=> ?_;have hA2:=hA;simp[nK]at hA2;have hn8:=dJ hm;have hin:¬(i:Int)=(m.length:Int):=by omega
 simp[hin];refine wlt (Nat×L1×S20×Int) (fun(x,q,t,j)=>([(0,vI i),(1,vI nt),(2,.rp (dI m.length)),(3,.rp (ab4 bc bm bl bf bk)),(4,.rf (1000000+2*bL) [0]),(5,.rp (alY bn bY bL bF)),(8,vI x),(1000000+2*bn,.rp (dI m.length)),(1000000+2*bY,.rp (ab4 bc bm bl bf bk)),(1000000+2*bF,.rp (alY bn bY bL bF)),(1000000+2*bc,.rp (jJ cs)),(1000000+2*bm,.rp (bV m)),(1000000+2*bL,.own (.bx true (cO q))),(1000000+2*bl,.own (.bx true (dI t.cost))),(1000000+2*bf,.own (.bx true (cO t.best))),(1000000+2*bk,.own (.bx true (dI j)))],nt+1-x,(x<=nt+1)/\(t=loopN x s (VO m cs d (l.take i) nt))/\q.length=m.length/\(q.take i=l.take i))) ((0,l,s,k)) ⟨by omega,rfl,hl,rfl⟩ ?_ (h0:=by simp[hA2,hin]);rintro⟨x,q,t,j⟩ ⟨h1,h2,h3,h4⟩;simp;apply gw<;>intro a
 ·have hs:=aL x s (VO m cs d (l.take i) nt);rw[←h2]at hs;have hgi:=aU (l:=q) (i:=i);have hts:=avY (x:=(x:Int)) h4 (by omega);have hst:pV (mI m cs) d (l.take i++[(x:Int)]) (max nt (x+1)) t=VO m cs d (l.take i) nt x t:=rfl;simp[hA2,hgi];iterate 2 refine ai ?_
  refine VG (IH (i+1) (max nt (x+1)) _ _ (q.set i (x:Int)) t j (by omega) (by omega) (by omega) (by omega) (by simp;omega)) rfl ?_;simp[hA2];refine XN ?_;rintro _ _ ⟨rfl,q2,j2,⟨e1,e2⟩,rfl⟩;rw[hts]at e2;have e3:q2.take i=l.take i:=by have:=congrArg (List.take i) e2;rw[List.take_left' (by simp;omega),List.take_take,fG (by omega)]at this;exact this
  simp[hts,hst];refine nxa (x+1,q2,VO m cs d (l.take i) nt x t,j2) ⟨by omega,hs.symm,e1,e3⟩ (h3:=by simp[hA2,hin,hgi,hts,hst])
 ·simp at a;obtain rfl:x=nt+1:=by omega
  have hfin:pV (mI m cs) (d+1) (l.take i) nt s=t:=h2.symm;simp[hA2,hfin];exact⟨q,⟨h3,h4⟩,rfl⟩
variable {m:L2}
def arX {cs:List Con}{bn bY bL bF bc bm bl bf bk:Nat}(hA:nK [bF,bL,bY,bn,bc,bm,bl,bf,bk])(hm:bQ m)(hc:Qle cs):∀d,alZ m cs bn bY bL bF bc bm bl bf bk d
 |0=>fun i nt I N l s k hI hN hi hnt hl=>by
  obtain rfl:i=m.length:=by omega
  subst hI;refine(axW m cs bn bY bL bF bc bm bl bf bk hA hm hc N l s k hl).mono ?_;rintro r ds' ⟨h1,k',h2⟩;have ht:l.take m.length=l:=by rw[←hl,dA]
  exact⟨h1,l,k',⟨hl,rfl⟩,by rw[h2,ht];rfl⟩
 |d+1=>fun i nt I N l s k hI hN hi hnt hl=>by
  subst hI;subst hN;exact axX m cs bn bY bL bF bc bm bl bf bk d hA hm (arX hA hm hc d) i nt l s k (by omega) hnt hl
def aCC (m:L2)(cs:List Con)(s:S20)(k:Int)(bc bm bl bf bk:Nat)(hA:nK [bc,bm,bl,bf,bk])(hm:bQ m)(hc:Qle cs):FnW prog 354 [dI (m.length:Int),ab4 bc bm bl bf bk] [] [(bc,jJ cs),(bm,bV m)] [(bl,dI s.cost),(bf,cO s.best),(bk,dI k)] (fun r ds'=>r= .tup []/\∃k',ds'=[dI (pV (mI m cs) m.length [] 0 s).cost,cO (pV (mI m cs) m.length [] 0 s).best,dI k']):=by
 refine fW [] ntmps354 fun _ _=> ?_;have hA2:=hA;simp[nK]at hA2;have hn8:=dJ hm;simp;refine ai ?_;refine aqE (pJ (dI m.length) (by simp) fun bn x1=> ?_);have n1:=oN.nr x1 (b':=bc) (d:=jJ cs) (by simp[hA2]);have n2:=oN.nr x1 (b':=bm) (d:=bV m) (by simp[hA2]);have n3:=oN.ne x1 (b':=bl) (o:=true) (d:=dI s.cost) (by simp);have n4:=oN.ne x1 (b':=bf) (o:=true) (d:=cO s.best) (by simp[hA2]);have n5:=oN.ne x1 (b':=bk) (o:=true) (d:=dI k) (by simp[hA2]);have hB1:nK [bn,bc,bm,bl,bf,bk]:=F6 (by simp[n1,n2,n3,n4,n5]) hA;have hB1':=hB1;simp[nK]at hB1';refine pJ (ab4 bc bm bl bf bk) (by simp) fun bY x2=> ?_;have m0:=oN.ne x2 (b':=bn) (o:=true) (d:=dI m.length) (by simp);have m1:=oN.nr x2 (b':=bc) (d:=jJ cs) (by simp[hB1']);have m2:=oN.nr x2 (b':=bm) (d:=bV m) (by simp[hB1']);have m3:=oN.ne x2 (b':=bl) (o:=true) (d:=dI s.cost) (by simp[hB1']);have m4:=oN.ne x2 (b':=bf) (o:=true) (d:=cO s.best) (by simp[hB1']);have m5:=oN.ne x2 (b':=bk) (o:=true) (d:=dI k) (by simp[hB1']);have hB2:nK [bY,bn,bc,bm,bl,bf,bk]:=F6 (by simp[m0,m1,m2,m3,m4,m5]) hB1;have hB2':=hB2;simp[nK]at hB2';refine pJ (cO (List.replicate m.length 0)) (by simp) fun bL x3=> ?_;have p0:=oN.ne x3 (b':=bn) (o:=true) (d:=dI m.length) (by simp[hB2']);have p9:=oN.ne x3 (b':=bY) (o:=true) (d:=ab4 bc bm bl bf bk) (by simp);have p1:=oN.nr x3 (b':=bc) (d:=jJ cs) (by simp[hB2']);have p2:=oN.nr x3 (b':=bm) (d:=bV m) (by simp[hB2']);have p3:=oN.ne x3 (b':=bl) (o:=true) (d:=dI s.cost) (by simp[hB2']);have p4:=oN.ne x3 (b':=bf) (o:=true) (d:=cO s.best) (by simp[hB2']);have p5:=oN.ne x3 (b':=bk) (o:=true) (d:=dI k) (by simp[hB2']);have hB3:nK [bL,bY,bn,bc,bm,bl,bf,bk]:=F6 (by simp[p0,p1,p2,p3,p4,p5,p9]) hB2;have hB3':=hB3;simp[nK]at hB3';refine pJ (.one .nilFunc) (by simp) fun bF x4=> ?_;have q0:=oN.ne x4 (b':=bn) (o:=true) (d:=dI m.length) (by simp[hB3']);have q9:=oN.ne x4 (b':=bY) (o:=true) (d:=ab4 bc bm bl bf bk) (by simp[hB3']);have q8:=oN.ne x4 (b':=bL) (o:=true) (d:=cO (List.replicate m.length 0)) (by simp);have q1:=oN.nr x4 (b':=bc) (d:=jJ cs) (by simp[hB3']);have q2:=oN.nr x4 (b':=bm) (d:=bV m) (by simp[hB3']);have q3:=oN.ne x4 (b':=bl) (o:=true) (d:=dI s.cost) (by simp[hB3']);have q4:=oN.ne x4 (b':=bf) (o:=true) (d:=cO s.best) (by simp[hB3']);have q5:=oN.ne x4 (b':=bk) (o:=true) (d:=dI k) (by simp[hB3']);have hB4:nK [bF,bL,bY,bn,bc,bm,bl,bf,bk]:=F6 (by simp[q0,q1,q2,q3,q4,q5,q8,q9]) hB3;have hB4':=hB4;simp[nK]at hB4';refine YQ ?_;clear x1 x2 x3 x4 hA2 hB1' hB2' hB3';simp;refine VG (arX hB4 hm hc m.length 0 0 0 0 (List.replicate m.length 0) s k rfl rfl (by omega) (by omega) (by simp)) rfl ?_;simp[hB4'];refine XN ?_;rintro _ _ ⟨rfl,l2,k2,⟨e1,e2⟩,rfl⟩;simp[hB4']
def ajA (m:L2)(cs:List Con)(hm:bQ m)(hc:Qle cs):fD prog 281 [bV m,jJ cs] (fun r=>∃k:Int,r= .tup [.val (nInts (yB m cs).best),.val (dI (yB m cs).cost),vI k]):=by
 refine fE [] ntmps281 fun _ _=> ?_;have hn8:=dJ hm;simp;refine aqE (pJ (jJ cs) (by simp) fun bc x1=> ?_);refine pJ (bV m) (by simp) fun bm x2=> ?_;have m0:=oN.ne x2 (b':=bc) (o:=true) (d:=jJ cs) (by simp);have hB2:nK [bm,bc]:=F6 (by simp[m0]) ⟨by simp,trivial⟩;have hB2':=hB2;simp[nK]at hB2';refine pJ (dI (-1)) (by simp) fun bl x3=> ?_;have p0:=oN.ne x3 (b':=bc) (o:=true) (d:=jJ cs) (by simp[hB2']);have p1:=oN.ne x3 (b':=bm) (o:=true) (d:=bV m) (by simp);have hB3:nK [bl,bm,bc]:=F6 (by simp[p0,p1]) hB2;have hB3':=hB3;simp[nK]at hB3';refine pJ (cO []) (by simp) fun bf x4=> ?_;have q0:=oN.ne x4 (b':=bc) (o:=true) (d:=jJ cs) (by simp[hB3']);have q1:=oN.ne x4 (b':=bm) (o:=true) (d:=bV m) (by simp[hB3']);have q2:=oN.ne x4 (b':=bl) (o:=true) (d:=dI (-1)) (by simp);have hB4:nK [bf,bl,bm,bc]:=F6 (by simp[q0,q1,q2]) hB3;have hB4':=hB4;simp[nK]at hB4';refine pJ (dI 0) (by simp) fun bk x5=> ?_;have r0:=oN.ne x5 (b':=bc) (o:=true) (d:=jJ cs) (by simp[hB4']);have r1:=oN.ne x5 (b':=bm) (o:=true) (d:=bV m) (by simp[hB4']);have r2:=oN.ne x5 (b':=bl) (o:=true) (d:=dI (-1)) (by simp[hB4']);have r3:=oN.ne x5 (b':=bf) (o:=true) (d:=cO []) (by simp);have hB5:nK [bc,bm,bl,bf,bk]:=F6 (by simp[hB4',r0.symm]) (F6 (by simp[hB4',r1.symm]) (F6 (by simp[hB4',r2.symm]) (F6 (by simp[r3.symm]) ⟨by simp,trivial⟩)));have hB5':=hB5;simp[nK]at hB5';refine YQ ?_;clear x1 x2 x3 x4 x5 hB2' hB3' hB4';simp;refine VG (aCC m cs ⟨[], -1,0⟩ 0 bc bm bl bf bk hB5 hm hc) rfl ?_;simp[hB5'];refine XN ?_;rintro _ _ ⟨rfl,k2,rfl⟩;have hbe:pV (mI m cs) m.length [] 0 ⟨[], -1,0⟩=yB m cs:=rfl;simp[hbe];refine kQ [] (aoQ (d:=cO (yB m cs).best) 7 (1000000+2*bf) (by simp[hB5',hbe]) (by simp[hB5',hbe]) (by decide)) ?_;simp[hB5'];refine wdr ?_;simp[hB5']
def akJ (n:Nat)(v:Int):D.nJ (List.replicate n (dI v))=true:=by
 induction n with
 |zero=>rfl
 |succ n ih=>rw[fI];simp only[D.nJ,k_Bool_and_eq_true];exact⟨rfl,ih⟩
variable {p:Nat}{v:Int}{q:L1}{k:Nat}
def asG {l:L1}(h:pvB m p k (at1 q k)=false):gstep (pvB m p) v k q=q:=if_neg (by simp[h])
def pv_set {l:L1}(h:pvB m p k (at1 q k)):gstep (pvB m p) v k q=q.set k v:=if_pos h
def L8 (m:L2)(o:L1)(hm:bQ m)(ho:HV m.length o):Fk 357 [bV m,nInts o] (wN (kP m o)):=by
 refine fE [] ntmps357 fun _ _=> ?_;have hml:=dJ hm;have hoo:=XK ho;have hpe:=az8 hm ho;simp;refine ck (gW m (by omega) (wP hm)) ?_;simp[hm];refine ck (aa6 m.length o ⟨by omega,by omega⟩ ho (by omega)) ?_;have hao:D.nJ (List.replicate m.length (dI (-1)))=true:=akJ m.length (-1);simp;refine ck ((aFK (-1) m.length hml)) ?_;simp[hao];refine wlt (Nat×L1) (fun(i,l)=>([(0,.val (bV m)),(1,vN o),(5,wN l),(24,vN o),(25,vI o.length),(26,vI i)],o.length-i,(i<=o.length)/\(l=loopN i (List.replicate m.length (-1)) (aaQ m o))/\(l.length=m.length))) ((0,List.replicate m.length (-1))) ⟨by omega,rfl,by simp⟩ ?_;rintro⟨i,l⟩ ⟨h1,h2,h3⟩;simp;apply gw<;>intro a
 ·have hoi:=hoo.2.2.2.2 i a;have hg:=aU a;have hgl:=aU (l:=l) (i:=(at1 o i).toNat);have hs:=aL i (List.replicate m.length (-1)) (aaQ m o);rw[←h2]at hs;simp[hg,hgl];refine ai ?_;apply gw<;>intro b
  ·have hu:aaQ m o i l=l:=if_pos b;simp;refine nxa (i+1,l) ⟨by omega,by rw[hs,hu],h3⟩
  ·simp at b;have hu:aaQ m o i l=loopN m.length (l.set (at1 o i).toNat (at1 o i)) (gstep (pvB m (at1 o i).toNat) (at1 o i)):=if_neg (by omega);obtain⟨r,hr,hrl⟩:=C8 hm (a:=(at1 o i).toNat) (by omega);have hrk:∀k<m.length,r[k]?=some (at2 m (at1 o i).toNat k):=fun k hk=>by obtain⟨r2,e1,e2⟩:=lC hm (i:=(at1 o i).toNat) (k:=k) (by omega) hk;rw[hr]at e1;rw[k_Option_some_inj e1];exact e2
   simp[hgl,hr,hrl];refine ai ?_;refine wlt (Nat×L1) (fun(k,q)=>([(0,.val (bV m)),(1,vN o),(5,wN q),(7,vI (at1 o i)),(24,vN o),(25,vI o.length),(26,vI i),(42,vN r),(43,vI m.length),(44,vI k)],m.length-k,(k<=m.length)/\(q=loopN k (l.set (at1 o i).toNat (at1 o i)) (gstep (pvB m (at1 o i).toNat) (at1 o i)))/\(q.length=m.length))) ((0,l.set (at1 o i).toNat (at1 o i))) ⟨by omega,rfl,by simp[h3]⟩ ?_;rintro⟨k,q⟩ ⟨h1k,h2k,h3k⟩;simp;apply gw<;>intro d
   ·have hgk:=aU (l:=q) (i:=k);have hk:=hrk k d;have hsk:=aL k (l.set (at1 o i).toNat (at1 o i)) (gstep (pvB m (at1 o i).toNat) (at1 o i));rw[←h2k]at hsk;simp[hk];apply gv<;>intro e
    ·have e':=e;simp[hgk,e];apply gw<;>intro f
     ·simp[hgk];refine nxa (k+1,q.set k (at1 o i)) ⟨by omega,by rw[hsk];exact(pv_set (l:=l) (by simp[pvB,e,f])).symm,by simp[h3k]⟩
     ·simp at f;simp;refine nxa (k+1,q) ⟨by omega,by rw[hsk];exact(asG (l:=l) (by simp[pvB,f])).symm,h3k⟩
    ·have e':=e;simp at e';simp[e];refine nxa (k+1,q) ⟨by omega,by rw[hsk];exact(asG (l:=l) (by simp[pvB,e])).symm,h3k⟩
   ·simp at d;obtain rfl:k=m.length:=by omega
    simp;refine nxa (i+1,q) ⟨by omega,by rw[hs,hu];exact h2k,h3k⟩
 ·simp at a;obtain rfl:i=o.length:=by omega
  have hp:canon l=kP m o:=by rw[h2];exact hpe
  simp;refine ck (sU l (by omega)) ?_;simp[hp]
end Go.Proofs.YtafdbpehjfmnpaaGreatDoor
end
section
namespace Go
def rP:= @BitVec.toNat_ofNat
end Go
end
section
namespace Go.Proofs.YtafdbpehjfmnpaaGreatDoor
open Go.Dv Go.Pl Go.Proofs.Tryz
variable {n:Nat}
def wrap_small (h:n<9223372036854775808:=by omega):IntKind.i64.wrap (n:Int)=n:=by
 simp[IntKind.wrap,IntKind.bits,IntKind.signed];omega
def Q9 (n:Nat):BitVec.ofInt 64 (n:Int)=BitVec.ofNat 64 n:=by
 apply BitVec.eq_of_toNat_eq;simp
def awZ (s:Nat)(h:s<256):ZU .and .i64 (s:Int) 1=((s % 2:Nat):Int):=by
 have e:(1:Int)=((1:Nat):Int):=rfl;show IntKind.i64.wrap ((((BitVec.ofInt 64 (s:Int))&&&(BitVec.ofInt 64 (1:Int))).toNat:Nat):Int)=_;rw[e,Q9,Q9,BitVec.toNat_and,rP,rP,jO (by omega),jO (by omega),Nat.and_one_is_mod,wrap_small]
def aBL (s t:Nat)(h:s<256)(h2:t<256):ZU .or .i64 (s:Int) (t:Int)=((s|||t:Nat):Int):=by
 have h3:s|||t<2^8:=Nat.or_lt_two_pow (n:=8) h h2;show IntKind.i64.wrap ((((BitVec.ofInt 64 (s:Int))|||(BitVec.ofInt 64 (t:Int))).toNat:Nat):Int)=_;rw[Q9,Q9,BitVec.toNat_or,rP,rP,jO (by omega),jO (by omega),wrap_small]
variable {s:Nat}{x:Int}
def aAL (hs:s<256)(hx:0<=x/\x<=7):(ZU .and .i64 ((s:Int).fdiv (2^min x.toNat 64)) 1=1)=(s.testBit x.toNat=true):=by
 have e:(s:Int).fdiv (2^min x.toNat 64)=((s/2^x.toNat:Nat):Int):=by
  rw[fG (by omega)];have:((2:Int)^x.toNat)=((2^x.toNat:Nat):Int):=by simp
  rw[this];exact Int.ofNat_fdiv s (2^x.toNat)|>.symm
 have h1:s/2^x.toNat<=s:=Nat.div_le_self _ _;rw[e,awZ _ (by omega),Nat.testBit_eq_decide_div_mod_eq,decide_eq_true_eq];exact propext ⟨fun h=>by omega,fun h=>by omega⟩
def aDZ (hs:s<256)(hx:0<=x/\x<=7):ZU .or .i64 (s:Int) (IntKind.i64.wrap (2^min x.toNat 64))=((s|||2^x.toNat:Nat):Int):=by
 have hpow:2^x.toNat<2^8:=Nat.pow_lt_pow_right (by omega) (by omega);have this:((2:Int)^x.toNat)=((2^x.toNat:Nat):Int):=by simp
 rw[fG (by omega),this,wrap_small,aBL _ _ hs hpow]
def abO (n:Int)(l:L1)(hn: -1048576<=n/\n<=1048576:=by first|omega|grind)(hl:Qle l:=by first|omega|grind):Fk 336 [dI n,nInts l] (vB (HV n l)):=by
 refine fE [] ntmps336 fun _ _=> ?_;simp;refine wlt (Nat×Nat) (fun(i,s)=>([(0,vI n),(1,vN l),(5,vI s),(6,vI i)],l.length-i,(i<=l.length)/\(avD n l i s))) ((0,0)) ⟨by omega,(avF n l)⟩ ?_;rintro⟨i,s⟩ ⟨h1,h2⟩;simp;apply gw<;>intro a
 ·have hg:=aU a;simp[hg];refine ai ?_;refine ck (bC _ _ _) ?_;simp;apply gv<;>intro b
  ·have b':=b;simp at b';have ho:=ae8 h2 a (.inl (by simp at b;omega));simp[b];simp[ho]
  ·have b':=b;simp at b';simp[b];apply gv<;>intro d
   ·have d':=d;have ho:=ae8 h2 a (.inr (.inl (by omega)));simp[d];simp[ho]
   ·have d':=d;simp at d';have hx:0<=at1 l i/\at1 l i<=7:=by simp at b;omega
    have hsb:=aAL h2.2.1 hx;have hso:=aDZ h2.2.1 hx;simp[hg,d,hsb];refine ai ?_;apply gw<;>intro e
    ·have ho:=ae8 h2 a (.inr (.inr e));simp;simp[ho]
    ·have hst:=avE h2 a ⟨by omega,by omega⟩ (by omega) (by simpa using e);simp[hg,hso];refine nxb (i+1,s|||2^(at1 l i).toNat) ⟨by omega,hst⟩
 ·simp at a;obtain rfl:i=l.length:=by omega
  have ho:=az5 h2;simp;refine ck (bC _ _ _) ?_;simp;apply gv<;>intro f
  ·have f':=f;simp at f';simp[f];simp[ho,f]
  ·have f':=f;simp at f';simp[f];simp[ho,f]
def ME (m:L2)(o:L1)(hm:bQ m)(ho:HV m.length o):Fk 249 [bV m,nInts o] (wN (kP m o)):=by
 refine fE [] ntmps249 fun _ _=> ?_;have hml:=dJ hm;have hoo:=XK ho;simp;refine ck (eH m) ?_;simp[hm];refine ck (abO m.length o) ?_;simp[ho];refine wl (fun(i:Nat)=>[(0,.val (bV m)),(1,vN o),(5,wN (List.replicate i (-1))),(6,vI i)]) (fun(i:Nat)=>m.length-i) (fun(i:Nat)=>(i<=m.length)) (0) (by omega) ?_;rintro i h1;simp;apply gw<;>intro a
 ·have hx:=lQ (n:=i) (a:=(-1:Int));simp;refine nxb (i+1) (by first|omega|(simp;omega)|grind) (h3:=by simp[hx])
 ·simp at a;obtain rfl:i=m.length:=by omega
  simp;refine wlt (Nat×L1) (fun(i,l)=>([(0,.val (bV m)),(1,vN o),(5,wN l),(7,vI i)],o.length-i,(i<=o.length)/\(l=loopN i (List.replicate m.length (-1)) (pivOne m o))/\(l.length=m.length))) ((0,List.replicate m.length (-1))) ⟨by omega,rfl,by simp⟩ ?_;rintro⟨i,l⟩ ⟨h1,h2,h3⟩;simp;apply gw<;>intro a
  ·have hs:=aL i (List.replicate m.length (-1)) (pivOne m o);rw[←h2]at hs;have hoi:=hoo.2.2.2.2 i a;have hg:=aU a;have hgl:=aU (l:=l) (i:=(at1 o i).toNat);simp[hg,hgl];refine ai ?_;apply gw<;>intro b
   ·have hu:pivOne m o i l=l:=if_pos b;simp;refine nxa (i+1,l) ⟨by omega,by rw[hs,hu],h3⟩
   ·simp at b;have hu:pivOne m o i l=loopN m.length l (zJ m (at1 o i) i):=if_neg (by omega);simp;refine wlt (Nat×L1) (fun(k,q)=>([(0,.val (bV m)),(1,vN o),(5,wN q),(7,vI i),(8,vI (at1 o i)),(9,vI k)],m.length-k,(k<=m.length)/\(q=loopN k (l) (zJ m (at1 o i) i))/\(q.length=m.length))) ((0,l)) ⟨by omega,rfl,by omega⟩ ?_;rintro⟨k,q⟩ ⟨h1k,h2k,h3k⟩;simp;apply gw<;>intro ak
    ·have hsk:=aL k (l) (zJ m (at1 o i) i);rw[←h2k]at hsk;have hgk:=aU (l:=q) (i:=k);obtain⟨r,hr,hrk⟩:=lC hm (i:=(at1 o i).toNat) (k:=k) (by omega) ak;simp[hgk];apply gv<;>intro e
     ·have e':=e;simp[e];apply gv<;>intro f
      ·have f':=f;have hv:zJ m (at1 o i) i k q=q.set k i:=if_pos ⟨e,.inl (by omega)⟩;have hk0:(at1 o i).toNat=k:=by omega
       have hgk2:q[(at1 o i).toNat]?=some (at1 q k):=by rw[hk0];exact hgk
       simp[f,hgk2];refine nxb (k+1,q.set (at1 o i).toNat i) ⟨by omega,by rw[hsk,hv,hk0],by simp[h3k]⟩ (h3:=by simp[hg,hgk,hr,hrk,h3k,e,f,hgk2])
      ·have f':=f;simp[hr,hrk,f];refine ai ?_;apply gw<;>intro g
       ·have hv:zJ m (at1 o i) i k q=q.set k i:=if_pos ⟨e,.inr g⟩;simp[hgk];refine nxa (k+1,q.set k i) ⟨by omega,by rw[hsk,hv],by simp[h3k]⟩
       ·simp at g;have hv:zJ m (at1 o i) i k q=q:=if_neg (by omega);simp;refine nxa (k+1,q) ⟨by omega,by rw[hsk,hv],h3k⟩
     ·have e':=e;simp at e';have hv:zJ m (at1 o i) i k q=q:=if_neg (by omega);simp[e];refine nxa (k+1,q) ⟨by omega,by rw[hsk,hv],h3k⟩
    ·simp at ak;have hik:m.length=k:=by omega
     subst hik;simp;refine nxa (i+1,q) ⟨by omega,by rw[hs,hu];exact h2k,h3k⟩
  ·simp at a;have hi:o.length=i:=by omega
   subst hi;have hp:kP m o=canon l:=by rw[kP,acK,←h2]
   simp;refine ck (tC l (by omega)) ?_;simp;simp[hp]
def aAG (n s i:Nat):(List.range (i+1)).map (fun i=>(((s+i) % n:Nat):Int))=(List.range i).map (fun i=>(((s+i) % n:Nat):Int))++[(((s+i) % n:Nat):Int)]:=by simp[gD]
def an4 (n s i:Nat):L1:=(List.range i).map fun i=>(((s+i) % n:Nat):Int)
def ah4 (n s:Nat):an4 n s 0=[]:=rfl
def ah3 (n s i:Nat):an4 n s (i+1)=an4 n s i++[(((s+i) % n:Nat):Int)]:=aAG n s i
def an5 (n s:Nat):an4 n s n=rot n s:=rfl
def an6 (n s i:Nat):(an4 n s i).length=i:=by simp[an4]
def aoS (n a b:Nat):((a:Int)+(b:Int)).tmod n=(((a+b) % n:Nat):Int):=by
 rw[←Int.natCast_add];exact(Int.ofNat_tmod _ _).symm
def WQ (m:L2)(hm:bQ m):Fk 165 [bV m] (.tup [.val (nInts (lJ m).1),.val (dI (lJ m).2)]):=by
 refine fE [] ntmps165 fun _ _=> ?_;have hml:=dJ hm;simp;refine wld [4] (Nat×L1×Int) (fun(i,b,c)=>([(0,.val (bV m)),(4,vN b),(5,vI c),(6,vI i)],m.length-i,(i<=m.length)/\((b,c)=loopN i ([], -1) (yD m)))) ((0,[], -1)) ⟨by omega,rfl⟩ ?_;rintro⟨i,b,c⟩ ⟨h1,h2⟩;simp;apply gv<;>intro a
 ·have a':=a;simp[a];refine ck (eH m) ?_;have hs:=aL i ([], -1) (yD m);rw[←h2]at hs;have hz:=ah4 m.length i;simp[hm];refine wl (fun(k:Nat)=>[(0,.val (bV m)),(4,vN b),(5,vI c),(6,vI i),(7,wN (an4 m.length i k)),(8,vI k)]) (fun(k:Nat)=>m.length-k) (fun(k:Nat)=>(k<=m.length)) (0) (by omega) ?_ (h0:=by simp[hm,hz]);rintro k h1k;simp;apply gw<;>intro d
  ·have hrl:=an6 m.length i k;have hrs:=ah3 m.length i k;have htm:=aoS m.length i k;have hne:¬m=[]:=by intro e;rw[e]at hml;simp at hml
   simp[htm,hne];refine nxd (k+1) (by first|omega|(simp;omega)|grind) (h3:=by simp[hrs,htm,hne])
  ·simp at d;obtain rfl:k=m.length:=by omega
   rw[an5];have hpl:=UX m (rot m.length i);simp;refine ck (ME m (rot m.length i) hm (asJ hml a)) ?_;simp;refine ck (M7 m (kP m (rot m.length i)) hm hpl) ?_;simp;apply gv<;>intro e
   ·have e':=e;have hu:yD m i (b,c)=(kP m (rot m.length i),dK m (kP m (rot m.length i))):=if_pos (.inl e);simp[e];refine ai ?_;refine nxc (i+1,kP m (rot m.length i),dK m (kP m (rot m.length i))) [4] ⟨by omega,by rw[hs,hu]⟩
   ·have e':=e;simp at e';simp[e];apply gw<;>intro f
    ·have hu:yD m i (b,c)=(kP m (rot m.length i),dK m (kP m (rot m.length i))):=if_pos (.inr f);simp;refine ai ?_;refine nxc (i+1,kP m (rot m.length i),dK m (kP m (rot m.length i))) [4] ⟨by omega,by rw[hs,hu]⟩
    ·simp at f;have hu:yD m i (b,c)=(b,c):=if_neg (by simp only;omega);simp;refine ai ?_;refine nxc (i+1,b,c) [4] ⟨by omega,by rw[hs,hu]⟩
 ·have a':=a;simp at a';obtain rfl:i=m.length:=by omega
  have hb:lJ m=(b,c):=h2.symm;simp[a];simp[hb]
def apT:Nat->L1->D
 |0,_=> .one (.slice none 0 0)
 |_+1,b=>nInts b
def atY (b:L1):apT 0 b= .one (.slice none 0 0):=rfl
def atX (i:Nat)(b:L1):apT (i+1) b=nInts b:=rfl
variable {m:L2}{i:Nat}
def axV {b:L1}{c:Int}(h2:(b,c)=loopN i ([], -1) (yD m))(hc:0<=c):apT i b=nInts b:=by
 cases i with
 |zero=>have e:(b,c)=(([]:L1),(-1:Int)):=h2
        have:c= -1:=congrArg Prod.snd e;omega
 |succ j=>rfl
def VT (m:L2)(hm:bQ m):Fk 282 [bV m] (.tup [.val (nInts (lJ m).1),.val (dI (lJ m).2)]):=by
 refine fE [] ntmps282 fun _ _=> ?_;have hml:=dJ hm;simp;refine ck (gW m (by omega) (wP hm)) ?_;have hf0:=atY [];simp[hm];refine wld [4] (Nat×L1×Int) (fun(i,b,c)=>([(0,.val (bV m)),(4,.val (apT i b)),(5,vI c),(15,vI m.length),(16,vI i)],m.length-i,(i<=m.length)/\((b,c)=loopN i ([], -1) (yD m)))) ((0,[], -1)) ⟨by omega,rfl⟩ ?_ (h0:=by simp[hm,hf0]);rintro⟨i,b,c⟩ ⟨h1,h2⟩;simp;apply gw<;>intro a
 ·have hs:=aL i ([], -1) (yD m);rw[←h2]at hs;have hf1:=atX i;have hi0:0<=c->apT i b=nInts b:=axV h2;have hz:=ah4 m.length i;simp;refine wl (fun(k:Nat)=>[(0,.val (bV m)),(4,.val (apT i b)),(5,vI c),(6,vI i),(7,wN (an4 m.length i k)),(15,vI m.length),(16,vI i),(20,vI m.length),(21,vI k)]) (fun(k:Nat)=>m.length-k) (fun(k:Nat)=>(k<=m.length)) (0) (by omega) ?_ (h0:=by simp[hm,hf0,hf1,hz]);rintro k h1k;simp;apply gw<;>intro d
  ·have hrl:=an6 m.length i k;have hrs:=ah3 m.length i k;have htm:=aoS m.length i k;have hne:¬m=[]:=by intro e;rw[e]at hml;simp at hml
   simp[htm,hne];refine nxd (k+1) (by first|omega|(simp;omega)|grind) (h3:=by simp[hf0,hf1,hrs,htm,hne])
  ·simp at d;obtain rfl:k=m.length:=by omega
   rw[an5];have hpl:=UX m (rot m.length i);simp;refine ck (L8 m (rot m.length i) hm (asJ hml a)) ?_;simp;refine ck (kF m (kP m (rot m.length i)) hm hpl) ?_;simp;apply gv<;>intro e
   ·have e':=e;have hu:yD m i (b,c)=(kP m (rot m.length i),dK m (kP m (rot m.length i))):=if_pos (.inl e);simp[e];refine ai ?_;refine nxc (i+1,kP m (rot m.length i),dK m (kP m (rot m.length i))) [4] ⟨by omega,by rw[hs,hu]⟩ (h3:=by simp[hf0,hf1,e])
   ·have e':=e;simp at e';simp[e];apply gw<;>intro f
    ·have hu:yD m i (b,c)=(kP m (rot m.length i),dK m (kP m (rot m.length i))):=if_pos (.inr f);simp;refine ai ?_;refine nxc (i+1,kP m (rot m.length i),dK m (kP m (rot m.length i))) [4] ⟨by omega,by rw[hs,hu]⟩ (h3:=by simp[hf0,hf1,e])
    ·simp at f;have hu:yD m i (b,c)=(b,c):=if_neg (by simp only;omega);have hi1:=hi0 (by omega);simp[hi1];refine ai ?_;refine nxc (i+1,b,c) [4] ⟨by omega,by rw[hs,hu]⟩ (h3:=by simp[hf0,hf1,e,hi1])
 ·simp at a;obtain rfl:i=m.length:=by omega
  have hb:lJ m=(b,c):=h2.symm;have hfm:apT m.length b=nInts b:=by obtain⟨j,hj⟩:∃j,m.length=j+1:=⟨m.length-1,by omega⟩;rw[hj];rfl
  simp[hfm];simp[hb]
def anZ (s:L2)(q:List Con):L1:=if 6<s.length then rO s q 100 (lV s q)else(yB s q).best
def az7 {cs:List Con}{items:L1}(h:Part m cs items):anZ (kK m items) (iE cs items)=partOf m cs items:=by
 unfold anZ partOf;rw[h.len,X7 h.mat (by rw[h.len];exact h.are)]
def aoI {s:L2}{q:List Con}(h:eF s.length q):nG q (lV s q)=true:=by
 unfold lV;split
 ·rename_i hk;unfold keepP at hk;simp only[k_Bool_and_eq_true]at hk;exact hk.1
 ·exact SB h
def RX (s:L2)(q:List Con)(hm:bQ s)(hcS:eF s.length q)(hq:Qle q):Fk 203 [bV s,jJ q] (vN (anZ s q)):=by
 refine fE [9,17] ntmps203 fun _ _=> ?_;have hml:=dJ hm;have hare:=(iU.1 hcS).1;have hst:=U4 hm hare;have hsk:=aoI hcS;have hsp:fO (lV s q):=isPart_iff.2 ⟨hst.2,by omega⟩;have hbp:=TE hm;have hbI:fO (lJ s).1:=isPart_iff.2 ⟨hbp.2.1,by omega⟩;have hkp:keepP q (lJ s).1=nG q (lJ s).1:=by unfold keepP nG;rw[hbI,Bool.and_true]
 simp;apply gw<;>intro a
 ·have hpS:anZ s q=(yB s q).best:=if_neg (by omega);simp;refine eT (ajA s q hm hq) (by simp) ?_;rintro r ⟨kk,rfl⟩;refine⟨by simp,?_⟩;simp[hpS]
 ·simp at a;have hpS:anZ s q=rO s q 100 (lV s q):=if_pos (by omega);simp;refine ck (VT s hm) ?_;simp;refine NV (fun(_:Unit)=>[(0,.val (bV s)),(1,vC q),(8,vN (lV s q))]) (fun(_:Unit)=>True) ?_ ?_
  ·simp;refine ck (DV (lJ s).1 q (by omega) hq) ?_;simp;apply gw<;>intro d
   ·simp at d;have hs1:lV s q=eB s.length q:=if_neg (by rw[hkp,d];simp);simp;refine ck (yG s.length q (by omega) hq hare) ?_;simp;refine jnc (()) [8] trivial (h3:=by simp[hpS,hs1])
   ·simp at d;have hs1:lV s q=(lJ s).1:=if_pos (by rw[hkp];simpa using d);simp;refine jnc (()) [8] trivial (h3:=by simp[hpS,hs1])
  rintro⟨⟩ -
  simp;refine eT (JS s q (lV s q) hm hsp hst.1 hsk hq) (by simp) ?_;rintro r ⟨kk,rfl⟩;refine⟨by simp,?_⟩;simp;refine kQ [] (dH 4) ?_;simp[hpS]
abbrev sS (m:L2)(cs:List Con)(s:S20):D:= .agg [bV m,jJ cs,cO s.best,dI s.cost,dI s.count]
abbrev nS (m:L2)(cs:List Con)(s:S20):D:= .bx false (.agg [bV m,jJ cs,nInts s.best,dI s.cost,dI s.count])
def atC (l:L1)(c:Con):Bool:=decide (c.b=(l.length:Int)-1)&&(decide (at1 l c.a.toNat=at1 l (l.length-1)) !=c.same)
def aBI (cs:List Con)(l:L1):apA cs l=cs.any (atC l):=rfl
def ad8 (m:L2)(cs:List Con)(s:S20)(l:L1)(hcs:∀c∈cs,0<=c.a/\c.a<c.b)(hl:1<=l.length/\Qle l)(hs:Qle cs):Fk 388 [nS m cs s,nInts l] (vB (apA cs l)):=by
 refine fE [] ntmps388 fun _ _=> ?_;have hbe:=aBI cs l;simp;refine ai ?_;refine wlt Nat (fun i=>([(0,.val (nS m cs s)),(1,vN l),(5,vI ((l.length:Int)-1)),(6,vI i)],cs.length-i,(i<=cs.length)/\((cs.take i).any (atC l)=false))) (0) ⟨by omega,rfl⟩ ?_;rintro i ⟨h1,h2⟩;simp;apply gw<;>intro a
 ·obtain⟨c,hc⟩:=aN (l:=cs) (i:=i);simp;refine wdr ?_;simp[hc];apply gv<;>intro e
  ·have e':=e;have hcc:=hcs c (J2 hc);have hga:=aU (l:=l) (i:=c.a.toNat);have hgb:=aU (l:=l) (i:=l.length-1);have hln:((l.length:Int)-1).toNat=l.length-1:=by omega
   simp[hc,e,hga,hgb,hln];iterate 2 refine ai ?_
   apply gw<;>intro f
   ·simp at f;have hn:=arG hc (P:=(atC l)) (by simp[atC,e];simpa using f);simp[hbe,hn]
   ·simp at f;simp;refine nxa (i+1) ⟨by omega,(jB hc h2 (by simp[atC,e];simpa using f))⟩
  ·have e':=e;simp[e];refine nxa (i+1) ⟨by omega,(jB hc h2 (by simp[atC,e]))⟩
 ·simp at a;have hf:=mR h2 a;simp[hbe,hf]
def aEH (m:L2)(cs:List Con)(d:Nat):Prop:=∀(l:L1) (top cost:Int) (s:S20),l.length+d=m.length-> -1<=top/\top+1<=l.length->0<=cost/\cost<=8000*l.length->0<=s.count/\s.count+(9^d:Nat)<=4611686018427387904->
 NW prog 335 [.one (.bool false),nInts l,dI top,dI cost] 0 (.bx true (sS m cs s)) (fun r' d'=>r'= .tup []/\d'= .bx true (sS m cs (walk20 m cs d l top cost s)))
def ayZ (m:L2)(cs:List Con)(d:Nat)(l:L1)(top cost:Int)(s:S20)(hm:bQ m)(hcs:bZ m.length cs)(hrec:∀e,d=e+1->aEH m cs e)(hd:l.length+d=m.length)(ht: -1<=top/\top+1<=l.length)(hco:0<=cost/\cost<=8000*l.length)(hcn:0<=s.count/\s.count+(9^d:Nat)<=4611686018427387904):NW prog 335 [.one (.bool false),nInts l,dI top,dI cost] 0 (.bx true (sS m cs s)) (fun r' d'=>r'= .tup []/\d'= .bx true (sS m cs (walk20 m cs d l top cost s))):=by
 refine fMs [42] ntmps335 fun w0 ow0 v0=> ?_;have hml:=dJ hm;have hco2:=lZ hcs;have hcut:∀d l top cost s,TM cost s->walk20 m cs d l top cost s=s:=fun d l top cost s h=>by cases d;(rw[walk20,if_pos h]);(rw[walk20_succ,if_pos h])
 refine NV (fun(_:Unit)=>[(0,.own (.bx true (sS m cs s))),(1,vN l),(2,vI top),(3,vI cost)]) (fun(_:Unit)=>(¬TM cost s)) ?_ ?_
 ·simp;apply gv<;>intro a
  ·have a':=a;simp[a];apply gw<;>intro b
   ·have hw:=hcut d l top cost s ⟨a,b⟩;simp;simp[hw]
   ·simp at b;simp;refine jn (()) (by unfold TM;omega)
  ·have a':=a;simp at a';simp[a];refine jn (()) (by unfold TM;omega)
 rintro⟨⟩ h5;simp;apply gw<;>intro e
 ·obtain rfl:d=0:=by omega
  have hw:walk20 m cs 0 l top cost s=UN l cost s:=by rw[walk20,if_neg h5]
  simp;apply gv<;>intro f
  ·have f':=f;have hw2:UN l cost s=⟨l,cost,1⟩:=if_pos (.inl f);simp[f];iterate 2 refine ai ?_
   simp[hw,hw2]
  ·have f':=f;simp at f';simp[f];apply gw<;>intro g
   ·have hw2:UN l cost s=⟨l,cost,1⟩:=if_pos (.inr g);simp;iterate 2 refine ai ?_
    simp[hw,hw2]
   ·simp at g;have hw2:UN l cost s=⟨s.best,s.cost,s.count+1⟩:=if_neg (by omega);simp;refine ai ?_;simp[hw,hw2]
 ·obtain⟨d,rfl⟩:∃e,d=e+1:=⟨d-1,by omega⟩;have hwk:=hrec d rfl;have hw:walk20 m cs (d+1) l top cost s=loopN (top+2).toNat s (DD m cs d l top cost):=by rw[walk20_succ,if_neg h5]
  have hp9:=aH1 d;have hps:9^(d+1)=9*9^d:=by rw[Nat.pow_succ,qL]
  simp;refine wlt (Nat×S20) (fun(k,x)=>([(0,.own (.bx true (sS m cs x))),(1,vN l),(2,vI top),(3,vI cost),(8,vI l.length),(9,vI k)],(top+2).toNat-k,(k<=(top+2).toNat)/\(x=loopN k s (DD m cs d l top cost))/\(0<=x.count/\x.count<=s.count+(k*9^d:Nat)))) ((0,s)) ⟨by omega,rfl,by simp;omega⟩ ?_;rintro⟨k,x⟩ ⟨h1,h2,h3⟩;simp;refine ai ?_;apply gw<;>intro b
  ·have hs:=aL k s (DD m cs d l top cost);rw[←h2]at hs;have hbl:(l++[(k:Int)]).length=l.length+1:=by simp
   have hkm:k*9^d+9^d<=9*9^d:=by have:(k+1)*9^d<=9*9^d:=aS _ (by omega);rw[k_Nat_add_mul,Nat.one_mul]at this;exact this
   have hk1:(k+1)*9^d=k*9^d+9^d:=by rw[k_Nat_add_mul,Nat.one_mul]
   simp;iterate 2 refine ai ?_
   refine ckz (ad8 m cs x (l++[(k:Int)]) (fun c hc=>⟨(hco2.2.2.2 c hc).1,(hco2.2.2.2 c hc).2.1⟩) (by omega) (by omega)) ?_;simp;apply gw<;>intro f
   ·have hn:DD m cs d l top cost k x=x:=if_pos f;simp;refine nxa (k+1,x) ⟨by omega,by rw[hs,hn],by rw[hk1];omega⟩
   ·have hn:DD m cs d l top cost k x=walk20 m cs d (l++[(k:Int)]) (max top k) (acS m l k l.length cost) x:=if_neg (by simp[f]);simp;refine wlt (Nat×Int) (fun(i,c)=>([(0,.own (.bx true (sS m cs x))),(1,vN l),(2,vI top),(3,vI cost),(8,vI l.length),(9,vI k),(10,wN (l++[(k:Int)])),(11,vI c),(12,vI i)],l.length-i,(i<=l.length)/\(c=loopN i cost (fun i s=>s+BX m l k l.length i))/\(cost<=c/\c<=cost+1000*i))) ((0,cost)) ⟨by omega,rfl,by omega⟩ ?_;rintro⟨i,c⟩ ⟨h1i,h2i,h3i⟩;simp;apply gw<;>intro u
    ·have hsi:=aL i cost (fun i s=>s+BX m l k l.length i);rw[←h2i]at hsi;obtain⟨r,hr,hrk⟩:=lC hm (i:=i) (k:=l.length);have hi:=aU u;have hmb:=iG hm i l.length;simp[hr,hrk];apply gv<;>intro p
     ·have p':=p;simp[hi,p];apply gw<;>intro q
      ·have hc:BX m l k l.length i=at2 m i l.length:=if_pos ⟨p,q⟩;simp[hr,hrk];refine ai ?_;apply gv<;>intro g
       ·have g':=g;exfalso;omega
       ·have g':=g;simp at g';simp[g];refine nxa (i+1,c+at2 m i l.length) ⟨by omega,by rw[hsi,hc],by omega⟩
      ·simp[hr,hrk];apply gv<;>intro g
       ·have g':=g;exfalso;omega
       ·have g':=g;simp at g';have hc:BX m l k l.length i=0:=by rw[BX,if_neg (by simp[q]),if_neg (by omega)]
        simp[g];refine nxa (i+1,c) ⟨by omega,by rw[hsi,hc];simp,by omega⟩
     ·have p':=p;simp at p';simp[hr,hrk,p];apply gv<;>intro g
      ·have g':=g;simp[hi,g];apply gw<;>intro q
       ·have hc:BX m l k l.length i= - at2 m i l.length:=by rw[BX,if_neg (by omega),if_pos ⟨g,q⟩]
        simp[hr,hrk];refine nxb (i+1,c-at2 m i l.length) ⟨by omega,by rw[hsi,hc];omega,by omega⟩
       ·have hc:BX m l k l.length i=0:=by rw[BX,if_neg (by omega),if_neg (by simp[q])]
        simp;refine nxa (i+1,c) ⟨by omega,by rw[hsi,hc];simp,by omega⟩
      ·have g':=g;simp at g';have hc:BX m l k l.length i=0:=by rw[BX,if_neg (by omega),if_neg (by omega)]
       simp[g];refine nxa (i+1,c) ⟨by omega,by rw[hsi,hc];simp,by omega⟩
    ·simp at u;obtain rfl:i=l.length:=by omega
     have ha:acS m l k l.length cost=c:=h2i.symm;rw[ha]at hn;have hW:=aoZ (m:=m) (cs:=cs) d (l++[(k:Int)]) (max top k) c x (by omega);simp;refine kQ [] (dH 10) ?_;have hcl:=hwk (l++[(k:Int)]) (max top k) c x (by omega) (by omega) (by omega) (by omega);rw[show nInts (l++[(k:Int)])=D.sl none (l.map dI++[dI k]) by simp]at hcl;simp;refine nC rfl (hcl) ?_;rintro r d ⟨rfl,rfl⟩;simp;refine nxa (k+1,walk20 m cs d (l++[(k:Int)]) (max top k) c x) ⟨by omega,by rw[hs,hn],by have:=hW.lo h3.1;have:=hW.hi h3.1;rw[hk1];omega⟩
  ·simp at b;obtain rfl:k=(top+2).toNat:=by omega
   simp;simp[hw,h2]
def M8 (m:L2)(cs:List Con)(hm:bQ m)(hcs:bZ m.length cs):∀d,aEH m cs d
 |0=>fun l top cost s h1 h2 h3 h4=>ayZ m cs 0 l top cost s hm hcs (fun e he=>by omega) h1 h2 h3 h4
 |d+1=>fun l top cost s h1 h2 h3 h4=>ayZ m cs (d+1) l top cost s hm hcs (fun e he=>by obtain rfl:d=e:=(by omega);exact M8 m cs hm hcs d) h1 h2 h3 h4
def ad9 (m:L2)(cs:List Con)(hm:bQ m:=by first|omega|grind)(hcs:eF m.length cs:=by first|omega|grind):Fk 248 [bV m,jJ cs] (.tup [.own (sS m cs (aaV m cs)),vB true]):=by
 refine fE [] ntmps248 fun _ _=> ?_;have hml:=dJ hm;have hc1:bZ m.length cs:=by simp only[eF,k_Bool_and_eq_true]at hcs;exact hcs.1
 have hc2:wK m.length cs<0:=by simp only[eF,k_Bool_and_eq_true,decide_eq_true_eq]at hcs;exact hcs.2
 have hco2:=lZ hc1;simp;refine ck (eH m) ?_;simp[hm];refine ck (EC m.length cs) ?_;have hp9:(9^m.length:Nat)<=9^8:=iR (by omega) hml.2;have hw:=M8 m cs hm hc1 m.length [] (-1) 0 ⟨[], -1,0⟩ (by simp) (by simp) (by simp) ⟨by simp,by show(0:Int)+((9^m.length:Nat):Int)<=_;omega⟩;simp[hc1,hc2];refine nC rfl (hw) ?_;rintro r d ⟨rfl,rfl⟩;have hr:walk20 m cs m.length [] (-1) 0 ⟨[], -1,0⟩=aaV m cs:=rfl;simp[hr]
def NL (m:L2)(cs:List Con)(hm:bQ m)(hcs:eF m.length cs):Fk 164 [bV m,jJ cs] (.tup [.val (nInts (aaV m cs).best),.val (dI (aaV m cs).cost),vB true]):=by
 refine fE [] ntmps164 fun _ _=> ?_;simp;refine ck (ad9 m cs) ?_;simp;refine kQ [] (dH 7) ?_;simp;refine wdr ?_;simp
variable {l:List Tri}
def av4 (h:∀t∈l,0<=t.w)(x y:Int):0<=AO l x y:=by
 have key:∀(l:List Tri) (s:Int),0<=s->(∀t∈l,0<=t.w)->0<=l.foldl (fun s t=>if IR x y t=true then s+t.w else s) s:=by
  intro l
  induction l with
  |nil=>intro s hs _;exact hs
  |cons t l ih=>
   intro s hs h;have h1:=h t (by simp);rw[k_List_foldl_cons];exact ih _ (by split<;>omega) (fun t ht=>h t (bD _ ht))
 exact key l 0 (by omega) h
def aq7 (m:L2)(t:Tri):Bool:=wH m t.a t.b t.c&&inR t.w 1 1000
def av3 (m:L2)(l:List Tri)(x y:Nat):Bool:=decide (AO l x y<=AQ (at2 m x y))
def akD (m:L2)(l:List Tri)(x:Nat):Bool:=(List.range m.length).all fun y=>decide (y<=x)||av3 m l x y
def SK (m:L2)(l:List Tri):Bool:=l.all (aq7 m)&&(List.range m.length).all (akD m l)&&decide (l.length<=100)
def aF9 {x y:Nat}{P:Nat->Bool}(hx:x<y)(hy:y<n)(h:P y=false):(List.range n).all (fun y=>decide (y<=x)||P y)=false:=mZ hy (by simp[h];omega)
def WT (m:L2)(l:List Tri)(hm:bQ m)(hl:Qle l)(hw:∀t∈l, -1048576<=t.w/\t.w<=1048576):Fk 338 [bV m,H8 l] (vB (SK m l)):=by
 refine fE [] ntmps338 fun _ _=> ?_;have hml:=dJ hm;simp;refine wlt Nat (fun i=>([(0,.val (bV m)),(1,.val (H8 l)),(5,vI i)],l.length-i,(i<=l.length)/\((l.take i).all (aq7 m)=true))) (0) ⟨by omega,rfl⟩ ?_;rintro i ⟨h1,h2⟩;simp;apply gw<;>intro a
 ·obtain⟨c,hc⟩:=aN (l:=l) (i:=i);simp;refine wdr ?_;simp[hc];refine cd (CF m c.a c.b c.c) ?_;simp;apply gv<;>intro e
  ·have e':=e;simp at e';have hn:=fJ hc (P:=(aq7 m)) (by simp[aq7];simp at e;simp[e]);have hp:SK m l=false:=by simp only[SK];rw[hn];rfl
   simp[e,hp]
  ·have e':=e;simp at e';simp[hc,e];refine cd (bC c.w 1 1000) ?_;simp;apply gw<;>intro f
   ·simp at f;have hn:=fJ hc (P:=(aq7 m)) (by simp only[aq7];rw[show inR c.w 1 1000=false by simp;omega];simp);have hp:SK m l=false:=by simp only[SK];rw[hn];rfl
    simp[hp]
   ·simp at f;simp;refine nxa (i+1) ⟨by omega,(bW hc h2 (by simp only[aq7];rw[show inR c.w 1 1000=true by simp;omega,e'];rfl))⟩
 ·simp at a;have hf:=iO h2 a;simp;refine wlt Nat (fun x=>([(0,.val (bV m)),(1,.val (H8 l)),(6,vI x)],m.length-x,(x<=m.length)/\((List.range x).all (akD m l)=true))) (0) ⟨by omega,rfl⟩ ?_;rintro x ⟨h1x,h2x⟩;simp;apply gw<;>intro ax
  ·simp;refine ai ?_;refine wlt Nat (fun y=>([(0,.val (bV m)),(1,.val (H8 l)),(6,vI x),(7,vI y)],m.length-y,(x<y/\y<=m.length)/\(∀z<y,(decide (z<=x)||av3 m l x z)=true))) (x+1) ⟨by omega,(fun z hz=>by simp;omega)⟩ ?_;rintro y ⟨h3,h4⟩;simp;apply gw<;>intro d
   ·obtain⟨r,hr,hrk⟩:=lC hm (i:=x) (k:=y);have hb:=iG hm x y;simp;refine wdr ?_;simp;refine cd (eH m) ?_;simp[hm];refine cd (zG l x y) ?_;simp[hr,hrk];refine cd (oF (at2 m x y)) ?_;simp;apply gw<;>intro e
    ·have hu:av3 m l x y=false:=by simp[av3];omega
     have hp:SK m l=false:=by simp only[SK];rw[mZ ax (aF9 (by omega) d hu)];simp
     simp[hp]
    ·simp at e;have hu:av3 m l x y:=by simp[av3];omega
     simp;refine nxa (y+1) ⟨by omega,(fun z hz=>by by_cases hzy:z=y;(subst hzy;rw[hu];simp);exact h4 z (by omega))⟩
   ·simp at d;have hrow:akD m l x:=by rw[akD,aI];intro z hz;exact h4 z (by have:=aY.1 hz;omega)
    simp;refine nxa (x+1) ⟨by omega,(oK h2x hrow)⟩
  ·simp at ax;have hfx:=K8 (n:=m.length) h2x;simp;refine ck (eH m) ?_;have hp:SK m l=decide (l.length<=100):=by simp only[SK];rw[hf,hfx];simp
   simp[hm,hp];omega
def XV (m:L2)(l:List Tri):Int:=if SK m l=true then l.foldl (fun s t=>s+t.w) 0 else -1
def alW (h:∀t∈l, -1048576<=t.w/\t.w<=1048576)(i:Nat): -(1048576*(i:Int))<=(l.take i).foldl (fun(s:Int) t=>s+t.w) (0:Int)/\(l.take i).foldl (fun(s:Int) t=>s+t.w) (0:Int)<=1048576*(i:Int):=by
 induction i with
 |zero=>rw[List.take_zero,List.foldl_nil];omega
 |succ i ih=>
  by_cases hi:i<l.length
  ·obtain⟨t,ht⟩:=aN hi;have h1:=h t (J2 ht);have h2:=fA (fun(s:Int) (t:Tri)=>s+t.w) 0 ht;rw[h2];omega
  ·have e:l.take (i+1)=l.take i:=by rw[bS,bS]
   rw[e];omega
def az6 (h:∀t∈l, -1048576<=t.w/\t.w<=1048576)(hl:Qle l): -1099511627777<=XV m l/\XV m l<=1099511627777:=by
 have:=alW h l.length;rw[dA]at this;unfold XV;split<;>omega
def PG (m:L2)(l:List Tri)(hm:bQ m)(hl:Qle l)(hw:∀t∈l, -1048576<=t.w/\t.w<=1048576):Fk 255 [bV m,H8 l] (vI (XV m l)):=by
 refine fE [] ntmps255 fun _ _=> ?_;simp;refine ck (WT m l hm hl hw) ?_;simp;apply gw<;>intro a
 ·simp at a;have hp:XV m l= -1:=if_neg (by simp[a]);simp[hp]
 ·simp at a;have hp:XV m l=l.foldl (fun s t=>s+t.w) 0:=if_pos (by simpa using a);simp;refine wlt (Nat×Int) (fun(i,s)=>([(1,.val (H8 l)),(5,vI s),(6,vI i)],l.length-i,(i<=l.length)/\(s=(l.take i).foldl (fun s t=>s+t.w) 0))) ((0,0)) ⟨by omega,rfl⟩ ?_;rintro⟨i,s⟩ ⟨h1,h2⟩;have hfb:=alW hw i;rw[←h2]at hfb;simp;apply gw<;>intro b
  ·obtain⟨t,ht⟩:=aN b;have hwt:=hw t (J2 ht);have hm2:=fA (fun(s:Int) (t:Tri)=>s+t.w) 0 ht;rw[←h2]at hm2;simp[ht];refine nxb (i+1,s+t.w) ⟨by omega,hm2.symm⟩
  ·simp at b;rw[bS b]at h2;simp;simp[hp,h2]
def gw3 (m:L2)(o:List Tri)(t:Tri):Int:=min (AQ (at2 m t.a.toNat t.b.toNat)-AO o t.a t.b) (min (AQ (at2 m t.a.toNat t.c.toNat)-AO o t.a t.c) (AQ (at2 m t.b.toNat t.c.toNat)-AO o t.b t.c))
def SG (m:L2)(o:List Tri)(t:Tri):List Tri:=if 0<gw3 m o t then o++[⟨t.a,t.b,t.c,gw3 m o t⟩]else o
def ajF (m:L2):List Tri:=(FJ m).foldl (SG m) []
variable {k:Nat}
def al2 (hm:bQ m){o:List Tri}{t:Tri}(h:LG m k o)(ht:YH m.length t):LG m (k+1) (SG m o t):=by
 unfold SG;split
 ·rename_i hpos;have z1:=av4 (fun t ht=>(h.2 t ht).2.2.2.2.1) t.a t.b;have v1:=LH (iG hm t.a.toNat t.b.toNat);have hle:gw3 m o t<=1000:=by unfold gw3;omega
  refine⟨by have:=h.1;simp;omega,fun t' ht'=> ?_⟩;rcases k_List_mem_append.1 ht' with h2|h2
  ·exact h.2 t' h2
  ·rw[k_List_mem_singleton.1 h2];unfold YH at ht|-;simp only;omega
 ·exact⟨by have:=h.1;omega,h.2⟩
def auM (hm:bQ m):LG m 512 (ajF m):=by
 have hb:=ac1 hm m.length;have h8:=dJ hm
 have key:∀(L o:List Tri) (k:Nat),(∀t∈L,YH m.length t)->LG m k o->LG m (k+L.length) (L.foldl (SG m) o):=by
  intro L
  induction L with
  |nil=>intro o k _ h;exact h
  |cons t L ih=>
   intro o k hL h;have:=ih (SG m o t) (k+1) (fun t ht=>hL t (bD _ ht)) (al2 hm h (hL t (by simp)));rw[k_List_foldl_cons,aR,show k+(L.length+1)=k+1+L.length by omega];exact this
 have h1:=key (FJ m) [] 0 hb.2 ⟨by simp,by simp⟩;have hbl:(FJ m).length<=64*m.length:=hb.1;exact⟨k_Nat_le_trans h1.1 (by omega),h1.2⟩
def NN (m:L2)(hm:bQ m):Fk 172 [bV m] (wC (ajF m)):=by
 refine fE [] ntmps172 fun _ _=> ?_;have hml:=dJ hm;have hb:=ac1 hm m.length;have hgr:ajF m=(FJ m).foldl (SG m) []:=rfl;have hL512:(FJ m).length<=512:=k_Nat_le_trans hb.1 (by omega);have hLt:∀t∈FJ m,YH m.length t:=hb.2;simp;refine ck (O6 m hm) ?_;clear hb;generalize FJ m=L at*
 simp;refine wlt (Nat×List Tri) (fun(i,o)=>([(0,.val (bV m)),(3,wC o),(4,wC L),(5,vI i)],L.length-i,(i<=L.length)/\(o=(L.take i).foldl (SG m) [])/\(LG m i o))) ((0,[])) ⟨by omega,rfl,(⟨by simp,by simp⟩)⟩ ?_;rintro⟨i,o⟩ ⟨h1,h2,h3⟩;simp;apply gw<;>intro a
 ·obtain⟨t,ht⟩:=aN a;have hk0:=hLt t (J2 ht);have hok:=al2 hm h3 hk0;have hk:=hk0;unfold YH at hk;have hm2:=fA (SG m) [] ht;rw[←h2]at hm2;obtain⟨r,hr,hrb⟩:=lC hm (i:=t.a.toNat) (k:=t.b.toNat);obtain⟨r',hr',hrc⟩:=lC hm (i:=t.a.toNat) (k:=t.c.toNat);obtain rfl:r=r':=by rw[hr]at hr';exact k_Option_some_inj hr'
  obtain⟨q,hq,hqc⟩:=lC hm (i:=t.b.toNat) (k:=t.c.toNat);have ha0:0<=t.a:=hk.1;have hb0:0<=t.b:=by omega
  have hc0:0<=t.c:=by omega
  have hol:=h3.1;have hwo:∀t∈o, -1000<=t.w/\t.w<=1000:=fun t ht=>by have:=h3.2 t ht;unfold YH at this;omega
  have hwo2:∀t∈o, -1048576<=t.w/\t.w<=1048576:=fun t ht=>by have:=hwo t ht;omega
  have u1:=afV (by omega) hwo t.a t.b;have u2:=afV (by omega) hwo t.a t.c;have u3:=afV (by omega) hwo t.b t.c;have v1:=LH (iG hm t.a.toNat t.b.toNat);have v2:=LH (iG hm t.a.toNat t.c.toNat);have v3:=LH (iG hm t.b.toNat t.c.toNat);have hgw:min (AQ (at2 m t.a.toNat t.b.toNat)-AO o t.a t.b) (min (AQ (at2 m t.a.toNat t.c.toNat)-AO o t.a t.c) (AQ (at2 m t.b.toNat t.c.toNat)-AO o t.b t.c))=gw3 m o t:=rfl;simp[ht];refine wdt 52 ?_;simp[hr,hrb,ha0,hb0];refine cd (oF (at2 m t.a.toNat t.b.toNat) (by have:=iG hm t.a.toNat t.b.toNat;omega)) ?_;simp;refine cd (zG o t.a t.b (by omega) hwo2) ?_;simp[hr,hrc,ha0,hc0];refine ai ?_;refine cd (oF (at2 m t.a.toNat t.c.toNat) (by have:=iG hm t.a.toNat t.c.toNat;omega)) ?_;simp;refine cd (zG o t.a t.c (by omega) hwo2) ?_;simp[hq,hqc,hb0,hc0];refine ai ?_;refine cd (oF (at2 m t.b.toNat t.c.toNat) (by have:=iG hm t.b.toNat t.c.toNat;omega)) ?_;simp;refine cd (zG o t.b t.c (by omega) hwo2) ?_;simp[hgw];refine ai ?_;apply gw<;>intro f
  ·have hu:SG m o t=o++[⟨t.a,t.b,t.c,gw3 m o t⟩]:=if_pos f;rw[hu]at hok;simp;refine nxb (i+1,o++[⟨t.a,t.b,t.c,gw3 m o t⟩]) ⟨by omega,by rw[hm2,hu],hok⟩
  ·simp at f;have hu:SG m o t=o:=if_neg (by omega);rw[hu]at hok;simp;refine nxa (i+1,o) ⟨by omega,by rw[hm2,hu],hok⟩
 ·simp at a;rw[bS a]at h2;simp;simp[hgr,←h2]
def aCJ (m:L2)(x:L1)(l:List Tri):Int:=if wB m x<0\/XV m l<0 then -1 else wB m x-XV m l
def NQ (m:L2)(x:L1)(l:List Tri)(hm:bQ m)(hx:Qle x)(hl:Qle l)(hw:∀t∈l, -1048576<=t.w/\t.w<=1048576):Fk 171 [bV m,nInts x,H8 l] (vI (aCJ m x l)):=by
 refine fE [] ntmps171 fun _ _=> ?_;have hml:=dJ hm;have hp:=BQ m x;have hq:=az6 (m:=m) hw hl;have e1:(if bQ m=true/\fO x=true/\x.length=m.length then dK m x else -1)=wB m x:=rfl;simp;refine ck ((e1▸mV m x (by omega) hx)) ?_;simp;refine ck (PG m l hm hl hw) ?_;simp;apply gv<;>intro a
 ·have a':=a;simp[a];grind[aCJ]
 ·have a':=a;simp at a';simp[a];apply gw<;>intro d
  ·simp;grind[aCJ]
  ·simp at d;have hg:aCJ m x l=wB m x-XV m l:=if_neg (by omega);simp[hg];simp only[inI];omega
abbrev R6 (l:L1)(c:Int)(e:Bool)(g:Int):D:= .agg [cO l,dI c,dB e,dI g]
def aaR (l:List Con)(items:L1):(iE l items).length<=l.length:=jM _ _
def O8 (m:L2)(cs:List Con)(hm:bQ m)(hcs:Qle cs):fD prog 88 [bV m,jJ cs] (fun r'=>∃(c:Int) (e:Bool) (g:Int),r'= .tup [.own (R6 (nL m cs) c e g),vB (eF m.length cs)]):=by
 refine fE [22,23,29] ntmps88 fun _ _=> ?_;have hml:=dJ hm;have ecs:(bZ (m.length:Int) cs&&decide (wK m.length cs<0))=eF m.length cs:=rfl;simp;refine ck (eH m) ?_;simp[hm];refine ck (EC m.length cs (by omega) hcs) ?_;simp[ecs];apply gw<;>intro a
 ·simp at a;have hcA:nL m cs=[]:=if_neg (by simp[a]);simp[hcA];omega
 ·simp at a;have hcc:eF m.length cs:=by simpa using a
  have hcA:nL m cs=nR m cs:=if_pos hcc;have hac:=(iU.1 hcc).1;have hsp:=JK hm hac;simp;refine ck (R4 m cs (by omega) hcs) ?_;simp;refine ck (zY (dF m cs) (by omega) (.inr hsp.2.1)) ?_;have hbs:∀v,v<(blocksP (dF m cs)).length->NZ m.length (gat (blocksP (dF m cs)) v)/\1<=(gat (blocksP (dF m cs)) v).length/\(gat (blocksP (dF m cs)) v).length<=m.length:=fun v hv=>by have:=QQ (isPart_iff.1 hsp.2.1).1 hv;rwa [hsp.2.2]at this
  have hcl:nR m cs=canon (agU m cs (blocksP (dF m cs))):=rfl;have hll:=YS m cs (blocksP (dF m cs));have hbl:(blocksP (dF m cs)).length<=m.length:=k_Nat_le_trans (blocksI (isPart_iff.1 hsp.2.1).1 (k_Nat_le_refl _)).len (Nat.le_of_eq hsp.2.2);generalize hbsg:blocksP (dF m cs)=bs at hbs hcl hll hbl|-
  simp;refine ai ?_;refine wlt (Nat×L1×Bool) (fun(i,L,e)=>([(0,.val (bV m)),(1,vC cs),(4,.own (.bx true (R6 [] 0 false 0))),(6,.own (mY bs)),(7,wN L),(8,.own (.bx true (R6 [] 0 e 0))),(9,vI i)],bs.length-i,(i<=bs.length)/\(L=loopN i (List.replicate m.length 0) (FU m cs bs)))) ((0,List.replicate m.length 0,true)) ⟨by omega,rfl⟩ ?_;rintro⟨i,L,e⟩ ⟨h1,h2⟩;simp;apply gw<;>intro b
  ·have hr:=afH b;have hsel:=hbs i b;have hpt:=ajW hm hcc hsel.1 hsel.2.1 hsel.2.2;have hok:=ah0 hpt;have hLl:L.length=m.length:=by rw[h2,AC (P9 m cs bs)];simp
   generalize hit:gat bs i=items at hr hsel hpt hok|-
   have hsl:=hpt.len;simp[hr];refine ck (WY m items hm hsel.1 (by omega)) ?_;simp[hr];refine ck (FO cs items hcs (by omega)) ?_;have hmS:=hpt.mat;have hcS:eF (kK m items).length (iE cs items):=by rw[hsl];exact hpt.con
   have hrl:Qle (iE cs items):=by have:=aaR cs items;omega
   have hst:=U4 hmS (r:=iE cs items) (by rw[hsl];exact hpt.are);have hsO:lV (kK m items) (iE cs items)=if keepP (iE cs items) (lJ (kK m items)).1=true then(lJ (kK m items)).1 else eB (kK m items).length (iE cs items):=rfl
   have hpO:partOf m cs items=if 6<items.length then rO (kK m items) (iE cs items) 100 (lV (kK m items) (iE cs items))else(aaV (kK m items) (iE cs items)).best:=rfl
   have hbp:=TE hmS;have hare:bZ (kK m items).length (iE cs items):=by rw[hsl];exact hpt.are
   generalize kK m items=s at*
   generalize iE cs items=q at*
   simp;refine kQ [] (uQ.trans (dH 10) (dH 11)) ?_;simp;refine ck (NL s q hmS hcS) ?_;simp;refine NV (fun(e2:Bool)=>[(0,.val (bV m)),(1,vC cs),(4,.own (.bx true (R6 [] 0 false 0))),(6,.own (mY bs)),(7,wN L),(8,.own (.bx true (R6 [] 0 e2 0))),(9,vI i),(12,vN (partOf m cs items))]) (fun(e2:Bool)=>True) ?_ ?_
   ·simp[hr];apply gw<;>intro c
    ·simp;refine ck (WQ s hmS) ?_;simp;refine NV (fun(_:Unit)=>[(0,.val (bV m)),(1,vC cs),(4,.own (.bx true (R6 [] 0 false 0))),(6,.own (mY bs)),(7,wN L),(8,.own (.bx true (R6 [] 0 false 0))),(9,vI i),(10,.val (bV s)),(11,vC q),(15,vN (lV s q))]) (fun(_:Unit)=>True) ?_ ?_
     ·simp;refine ck (rX (lJ s).1 q (by omega) hrl) ?_;have hkO:(q.all (xY (lJ s).1)&&fO (lJ s).1)=keepP q (lJ s).1:=rfl;simp[hkO];apply gw<;>intro d
      ·simp at d;have hs1:lV s q=eB s.length q:=by rw[hsO];exact if_neg (by simpa using d)
       simp;refine ck (yJ s.length q (by omega) hrl) ?_;have hs2:(if bZ s.length q=true then eB s.length q else[])=eB s.length q:=if_pos hare;simp[hs2];refine jnc (()) [15] trivial (h3:=by simp[hm,ecs,hr,hkO,hs1,hs2])
      ·simp at d;have hs1:lV s q=(lJ s).1:=by rw[hsO];exact if_pos (by simpa using d)
       simp;refine jnc (()) [15] trivial (h3:=by simp[hm,ecs,hr,hkO,hs1])
     rintro⟨⟩ -
     simp;refine eT (JV s q (lV s q) (by omega) hrl (by omega)) (by simp) ?_;rintro r ⟨kk,rfl⟩;refine⟨by simp,?_⟩;have hp1:partOf m cs items=rO s q 100 (lV s q):=by rw[hpO];exact if_pos (by omega)
     simp;refine jnc (false) [12] trivial (h3:=by simp[hm,ecs,hr,hp1])
    ·simp at c;have hp1:partOf m cs items=(aaV s q).best:=by rw[hpO];exact if_neg (by omega)
     simp;refine jnc (e) [12] trivial (h3:=by simp[hm,ecs,hr,hp1])
   rintro e2 -
   simp;refine wlt (Nat×L1) (fun(j,L')=>([(0,.val (bV m)),(1,vC cs),(4,.own (.bx true (R6 [] 0 false 0))),(6,.own (mY bs)),(7,wN L'),(8,.own (.bx true (R6 [] 0 e2 0))),(9,vI i),(12,vN (partOf m cs items)),(17,vI j)],items.length-j,(j<=items.length)/\(L'=loopN j L (ab1 items (partOf m cs items) i)))) ((0,L)) ⟨by omega,rfl⟩ ?_;rintro⟨j,L'⟩ ⟨h5,h6⟩;simp[hr];apply gw<;>intro f
   ·have hg:=aU f;have hgx:=hsel.1.1 _ (aA hg);have hpl:j<(partOf m cs items).length:=by omega
    have hg2:=aU hpl;have hb2:=awH hok.2 j hpl;have hLl2:L'.length=m.length:=by rw[h6,AC fun k l=>by simp[ab1]];exact hLl
    have hpu:ab1 items (partOf m cs items) i j L'=L'.set (at1 items j).toNat (i*8+at1 (partOf m cs items) j):=rfl;have hput:(L'.map dI).set (at1 items j).toNat (D.one (.int .i64 ((i:Int)*8+at1 (partOf m cs items) j)))=(ab1 items (partOf m cs items) i j L').map dI:=by rw[hpu,kI]
    have hb1:=(hok.2 j hpl).1;have ha0:0<=at1 items j:=hgx.1;obtain⟨u,hu⟩:=aN (l:=L') (i:=(at1 items j).toNat);generalize partOf m cs items=pp at*
    simp;refine wdt 16 ?_;simp[hr,hg,hg2,hu,ha0,hput];refine nxd (j+1,ab1 items pp i j L') ⟨by omega,by rw[aL,←h6]⟩
   ·simp at f;obtain rfl:j=items.length:=by omega
    have hpA:FU m cs bs i L=L':=by rw[FU,hit,h6]
    simp;refine nxa (i+1,L',e2) ⟨by omega,by rw[aL,←h2,hpA]⟩
  ·simp at b;obtain rfl:i=bs.length:=by omega
   have hLc:canon L=nR m cs:=by rw[hcl,h2];rfl
   have hLl:L.length=m.length:=by rw[h2];exact hll
   have hcln:(nR m cs).length=m.length:=by rw[←hLc,pI,hLl]
   simp;refine ck (tC L (by omega)) ?_;have hpc:(if bQ m=true/\fO (nR m cs)=true/\(nR m cs).length=m.length then dK m (nR m cs)else -1)=wB m (nR m cs):=rfl;simp[hLc];refine ck ((hpc▸mV m (nR m cs))) ?_;generalize nR m cs=X at*
   simp;apply gw<;>intro d
   ·simp at d;have hgr:=auM hm;obtain rfl:e=false:=d;simp;refine wdf [(4,[128,129]),(7,[131,130,8,126,127])] [(0,.val (bV m)),(4,.own (.bx true (R6 [] 0 false 0))),(8,.own (.bx true (R6 X (wB m X) false 0)))] [] (by simp) ?_;simp;refine cf (NN m hm) ?_;simp;refine cd (NQ m X (ajF m) hm (by omega) (by have:=hgr.1;omega) (fun t ht=>by have:=hgr.2 t ht;unfold YH at this;omega)) ?_;simp;first|exact hcA|exact hcA.symm|exact⟨hcA.symm,hcc.symm⟩|simp[hcA,hcc]
   ·simp at d;obtain rfl:e=true:=d;simp;first|exact hcA|exact hcA.symm|exact⟨hcA.symm,hcc.symm⟩|simp[hcA,hcc]
def OQ (m:L2)(cs:List Con)(hm:bQ m)(hcs:Qle cs):fD prog 120 [bV m,jJ cs] (fun r'=>∃(c:Int) (e:Bool) (g:Int),r'= .tup [.own (R6 (nL m cs) c e g),vB (eF m.length cs)]):=by
 refine fE [14] ntmps120 fun _ _=> ?_;have hml:=dJ hm;simp;refine ck (TW m cs (by omega) (wP hm) hcs) ?_;simp[hm];apply gw<;>intro a
 ·simp at a;have hcA:nL m cs=[]:=if_neg (by simp[a]);have hcn:eF m.length cs=false:=by simpa using a
  simp[hcA,hcn]
 ·simp at a;have hcc:eF m.length cs:=by simpa using a
  have hcA:nL m cs=nR m cs:=if_pos hcc;have hac:=(iU.1 hcc).1;have hsp:=JK hm hac;simp[hcc];refine ai ?_;refine ck (RV m cs hcs hm hac) ?_;simp;refine ck (O4 (dF m cs) (by omega) (.inr hsp.2.1)) ?_;have hbs:∀v,v<(blocksP (dF m cs)).length->NZ m.length (gat (blocksP (dF m cs)) v)/\1<=(gat (blocksP (dF m cs)) v).length/\(gat (blocksP (dF m cs)) v).length<=m.length:=fun v hv=>by have:=QQ (isPart_iff.1 hsp.2.1).1 hv;rwa [hsp.2.2]at this
  have hcl:nR m cs=canon (agU m cs (blocksP (dF m cs))):=rfl;have hll:=YS m cs (blocksP (dF m cs));have hbl:(blocksP (dF m cs)).length<=m.length:=k_Nat_le_trans (blocksI (isPart_iff.1 hsp.2.1).1 (k_Nat_le_refl _)).len (Nat.le_of_eq hsp.2.2);generalize hbsg:blocksP (dF m cs)=bs at hbs hcl hll hbl|-
  simp;refine wld [23] (Nat×L1×Bool) (fun(i,L,e)=>([(0,.val (bV m)),(1,vC cs),(4,.own (.bx true (R6 [] 0 false 0))),(6,.own (.bx true (R6 L 0 e 0))),(23,.val (bV bs)),(24,vI bs.length),(25,vI i)],bs.length-i,(i<=bs.length)/\(L=loopN i (List.replicate m.length 0) (FU m cs bs)))) ((0,List.replicate m.length 0,true)) ⟨by omega,rfl⟩ ?_;rintro⟨i,L,e⟩ ⟨h1,h2⟩;simp;apply gw<;>intro b
  ·have hr:=afH b;have hsel:=hbs i b;have hpt:=ajW hm hcc hsel.1 hsel.2.1 hsel.2.2;have hok:=ah0 hpt;have hLl:L.length=m.length:=by rw[h2,AC (P9 m cs bs)];simp
   generalize hit:gat bs i=items at hr hsel hpt hok|-
   simp[hr];refine wtc 6 [32,35] ?_;simp;refine ck (V3 m items hm hsel.1 (by omega)) ?_;simp;refine ck (FL cs items hcs (by omega)) ?_;have hsl:=hpt.len;have hrl:Qle (iE cs items):=by have:=aaR cs items;omega
   have hpS:=az7 hpt;simp;refine ck (RX (kK m items) (iE cs items) hpt.mat (by rw[hsl];exact hpt.con) hrl) ?_;simp[hpS];refine wlt (Nat×L1) (fun(j,L')=>([(0,.val (bV m)),(1,vC cs),(4,.own (.bx true (R6 [] 0 false 0))),(6,.own (.bx true (R6 L' 0 e 0))),(7,vI i),(8,vN items),(23,.val (bV bs)),(24,vI bs.length),(25,vI i),(36,vN (partOf m cs items)),(37,.val (dI (partOf m cs items).length)),(38,vI j)],items.length-j,(j<=items.length)/\(L'=loopN j L (ab1 items (partOf m cs items) i)))) ((0,L)) ⟨by omega,rfl⟩ ?_;rintro⟨j,L'⟩ ⟨h5,h6⟩;simp;apply gw<;>intro f
   ·have hg:=aU (l:=items) (i:=j);have hgx:=hsel.1.1 _ (aA hg);have hpl:j<(partOf m cs items).length:=by omega
    have hg2:=aU hpl;have hb2:=awH hok.2 j hpl;have hLl2:L'.length=m.length:=by rw[h6,AC fun k l=>by simp[ab1]];exact hLl
    have hpu:ab1 items (partOf m cs items) i j L'=L'.set (at1 items j).toNat (i*8+at1 (partOf m cs items) j):=rfl;have hput:(L'.map dI).set (at1 items j).toNat (D.one (.int .i64 ((i:Int)*8+at1 (partOf m cs items) j)))=(ab1 items (partOf m cs items) i j L').map dI:=by rw[hpu,kI]
    have hb1:=(hok.2 j hpl).1;have ha0:0<=at1 items j:=hgx.1;obtain⟨u,hu⟩:=aN (l:=L') (i:=(at1 items j).toNat);generalize partOf m cs items=pp at*
    simp[hg2];refine wdt 11 ?_;simp[hg,hu,ha0,hput];refine nxd (j+1,ab1 items pp i j L') ⟨by omega,by rw[aL,←h6]⟩
   ·simp at f;obtain rfl:j=items.length:=by omega
    have hpA:FU m cs bs i L=L':=by rw[FU,hit,h6]
    simp;apply gv<;>intro g2
    ·have g2':=g2;simp[g2];refine ai ?_;refine nxc (i+1,L',decide ((items.length:Int)<=6)) [23] ⟨by omega,by rw[aL,←h2,hpA]⟩
    ·have g2':=g2;simp[g2];refine ai ?_;refine nxc (i+1,L',false) [23] ⟨by omega,by rw[aL,←h2,hpA]⟩
  ·simp at b;obtain rfl:i=bs.length:=by omega
   have hLc:canon L=nR m cs:=by rw[hcl,h2];rfl
   have hLl:L.length=m.length:=by rw[h2];exact hll
   have hcln:(nR m cs).length=m.length:=by rw[←hLc,pI,hLl]
   simp;refine ck (sU L (by omega)) ?_;simp[hLc];refine ck (kF m (nR m cs) hm hcln) ?_;generalize nR m cs=X at*
   simp;apply gw<;>intro d
   ·simp at d;simp;refine wdx [0,3] (.st 1 (.st 2 (.st 4 (.st 5 (.st 6 (.st 7 OT.fin OT.no) OT.no) OT.no) OT.no) (.st 4 (.st 2 (.st 5 (.st 6 (.st 7 OT.fin OT.no) OT.no) OT.no) OT.no) OT.no)) (.st 4 (.st 1 (.st 2 (.st 5 (.st 6 (.st 7 OT.fin OT.no) OT.no) OT.no) OT.no) OT.no) OT.no)) ?_;simp;refine⟨⟨?_,?_⟩,?_⟩
    ·repeat with_reducible refine ai ?_
     refine eT (vJ m hm) (by simp) ?_;rintro r ⟨lT,rfl,hT1,hT2⟩;refine⟨by simp,?_⟩;simp;refine eT (vK m X lT hm (by omega) hT1 hT2) (by simp) ?_;rintro r ⟨gg,rfl⟩;refine⟨by simp,?_⟩;simp[hcc];grind
    ·repeat with_reducible refine ai ?_
     refine eT (vJ m hm) (by simp) ?_;rintro r ⟨lT,rfl,hT1,hT2⟩;refine⟨by simp,?_⟩;simp;refine eT (vK m X lT hm (by omega) hT1 hT2) (by simp) ?_;rintro r ⟨gg,rfl⟩;refine⟨by simp,?_⟩;simp[hcc];grind
    ·repeat with_reducible refine ai ?_
     refine eT (vJ m hm) (by simp) ?_;rintro r ⟨lT,rfl,hT1,hT2⟩;refine⟨by simp,?_⟩;simp;refine eT (vK m X lT hm (by omega) hT1 hT2) (by simp) ?_;rintro r ⟨gg,rfl⟩;refine⟨by simp,?_⟩;simp[hcc];grind
   ·simp at d;simp[hcc];grind
def rJ (r:List (List Tst))(hs:Qle r:=by first|omega|grind)(hr:∀l∈r,Qle l:=by first|omega|grind):Fk 94 [mQ r] (vB (jA r)):=by
 refine fE [] ntmps94 fun _ _=> ?_;simp;refine wlt Nat (fun i=>([(1,.own (.bx true (mQ r))),(3,vI i)],r.length-i,(i<=r.length)/\((r.take i).all iY=true))) (0) ⟨by omega,rfl⟩ ?_;rintro i ⟨h1,h2⟩;simp;apply gw<;>intro a
 ·obtain⟨c,hc⟩:=aN (l:=r) (i:=i);have hcl:=hr c (aA hc);simp[hc];refine wlt Nat (fun k=>([(1,.own (.bx true (mQ r))),(3,vI i),(4,.val (.sl none (c.map zN))),(5,vI k)],c.length-k,(k<=c.length)/\((c.take k).all IK=true)/\(adj (fun a b=>decide (a.feature<b.feature)) (c.take k)=true))) (0) ⟨by omega,rfl,rfl⟩ ?_;rintro k ⟨h1k,h2k,h3k⟩;simp;apply gw<;>intro ak
  ·obtain⟨ck,hck⟩:=aN (l:=c) (i:=k);simp;refine wdr ?_;simp[hck];refine cd (bC _ _ _) ?_;simp;apply gv<;>intro e
   ·have e':=e;simp at e';have hn:=fJ hc (P:=iY) (by have:=fJ hck (P:=IK) (by simp[IK];omega);simp[iY,this]);simp[e];grind[jA]
   ·have e':=e;simp at e';simp[hck,e];refine cd (bC _ _ _) ?_;simp;apply gv<;>intro f
    ·have f':=f;simp at f';have hn:=fJ hc (P:=iY) (by have:=fJ hck (P:=IK) (by simp[IK];omega);simp[iY,this]);simp[f];grind[jA]
    ·have f':=f;simp at f';simp[f];apply gv<;>intro g
     ·have g':=g;obtain⟨p,hp⟩:=aN (l:=c) (i:=k-1);have hi1:k-1+1=k:=by omega
      simp[hck,g,hp];iterate 2 refine ai ?_
      apply gw<;>intro b
      ·have hn:=fJ hc (P:=iY) (by have:=JO hp (by rw[hi1];exact hck) (R:=fun a b=>decide (a.feature<b.feature)) (by simp;omega);simp[iY,this]);simp;grind[jA]
      ·simp at b;simp;refine nxa (k+1) ⟨by omega,(bW hck h2k (by simp[IK];omega)),by have:=yU (i:=k-1) (by rw[hi1];exact h3k) hp (by rw[hi1];exact hck) (by simp;omega);rwa [hi1]at this⟩
     ·have g':=g;simp at g';simp[g];refine nxa (k+1) ⟨by omega,(bW hck h2k (by simp[IK];omega)),(by obtain rfl:k=0:=(by omega);exact vF)⟩
  ·simp at ak;have hfk:=iO h2k ak;rw[bS ak]at h3k;simp;refine ck (bC _ _ _) ?_;simp;apply gw<;>intro b
   ·simp at b;have hn:=fJ hc (P:=iY) (by simp[iY,hfk,h3k];omega);simp;grind[jA]
   ·simp at b;simp;refine nxa (i+1) ⟨by omega,(bW hc h2 (by simp[iY,hfk,h3k];omega))⟩
 ·simp at a;have hf:=iO h2 a;simp;refine ck (bC _ _ _) ?_;simp;grind[jA]
def NP (c:Cfg)(hs:Qle c.rules)(hr:∀l∈c.rules,Qle l)(hw:Qle c.sco.weights)(hv:Qle c.surv):Fk 83 [agC c] (vB (kY c)):=by
 refine fE [] ntmps83 fun _ _=> ?_;simp;refine ck (rJ _) ?_;simp;apply gv<;>intro g1
 ·have g1':=g1;simp[g1];refine ck (oU _) ?_;simp;apply gv<;>intro g2
  ·have g2':=g2;simp[g2];refine ck (JU _) ?_;simp;grind[kY]
  ·have g2':=g2;simp[g2];grind[kY]
 ·have g1':=g1;simp[g1];grind[kY]
def ED (s:Sto)(hs:Qle s.recs:=by first|omega|grind)(hr:∀r∈s.recs,E5 r:=by first|omega|grind)(hv:Qle s.vers:=by first|omega|grind):Fk 84 [NT s] (vB (iM s)):=by
 refine fE [] ntmps84 fun _ _=> ?_;simp;refine wlt Nat (fun i=>([(1,.own (.bx true (NT s))),(3,vI i)],(s.recs).length-i,(i<=(s.recs).length)/\((s.recs.take i).all bE=true)/\(adj (fun a b=>decide (jQ a<jQ b)) (s.recs.take i)=true))) (0) ⟨by omega,rfl,rfl⟩ ?_;rintro i ⟨h1,h2,h3⟩;simp;apply gw<;>intro a
 ·obtain⟨c,hc⟩:=aN (l:=s.recs) (i:=i);simp;refine wdr ?_;simp[hc];refine cd (qO _ (hr c (aA hc))) ?_;simp;apply gv<;>intro e
  ·have e':=e;simp at e';have hn:=fJ hc (P:=bE) (by simpa using e);simp[e];grind[iM]
  ·have e':=e;simp at e';simp[e];apply gv<;>intro f
   ·have f':=f;obtain⟨p,hp⟩:=aN (l:=s.recs) (i:=i-1);have hi1:i-1+1=i:=by omega
    have hvp:bE p:=aI.1 h2 p (by apply aA (i:=i-1);rw[aZ,if_pos (by omega)];exact hp);have hk1:inR p.source 0 3=true/\inR p.key 1 99:=by simp only[bE,k_Bool_and_eq_true]at hvp;exact⟨hvp.1.1.1.2,hvp.1.1.2⟩
    have hk2:inR c.source 0 3=true/\inR c.key 1 99:=by simp only[bE,k_Bool_and_eq_true]at e';exact⟨e'.1.1.1.2,e'.1.1.2⟩
    simp[f,hp];iterate 2 refine ai ?_
    refine cd (tH p hk1.1 hk1.2) ?_;simp[hc];refine cd (tH c hk2.1 hk2.2) ?_;simp;apply gw<;>intro b
    ·have hn:=JO hp (by rw[hi1];exact hc) (R:=fun a b=>decide (jQ a<jQ b)) (by simp;omega);simp;grind[iM]
    ·simp at b;simp;refine nxa (i+1) ⟨by omega,(bW hc h2 (by simpa using e)),by have:=yU (i:=i-1) (by rw[hi1];exact h3) hp (by rw[hi1];exact hc) (by simp;omega);rwa [hi1]at this⟩
   ·have f':=f;simp at f';simp[f];refine nxa (i+1) ⟨by omega,(bW hc h2 (by simpa using e)),(by obtain rfl:i=0:=(by omega);exact vF)⟩
 ·simp at a;have hf:=iO h2 a;rw[bS a]at h3;simp;refine ck (bC _ _ _) ?_;simp;apply gv<;>intro g1
  ·have g1':=g1;simp at g1';simp[g1];apply gv<;>intro g2
   ·have g2':=g2;simp[g2];refine ck (yI _) ?_;simp;grind[iM]
   ·have g2':=g2;simp at g2';simp[g2];grind[iM]
  ·have g1':=g1;simp at g1';simp[g1];grind[iM]
def UF (s:Sto)(hs:Qle s.recs)(hr:∀r∈s.recs,E5 r)(hv:Qle s.vers)(hvs:iM s):Fk 85 [NT s] (wN (s.recs.map jQ)):=by
 refine fE [] ntmps85 fun _ _=> ?_;simp;refine wl (fun(i:Nat)=>[(1,.own (.bx true (NT s))),(3,wN ((s.recs.take i).map jQ)),(4,vI i)]) (fun(i:Nat)=>s.recs.length-i) (fun(i:Nat)=>(i<=s.recs.length)) (0) (by omega) ?_;rintro i h1;simp;apply gv<;>intro a
 ·have a':=a;simp[a];refine ck (ED _) ?_;obtain⟨c,hc⟩:=aN (l:=s.recs) (i:=i);have hvr:s.recs.all bE:=by simp only[iM,k_Bool_and_eq_true]at hvs;exact hvs.1.1.1.1
  have hvc:=aI.1 hvr c (aA hc);have hk:inR c.source 0 3=true/\inR c.key 1 99:=by simp only[bE,k_Bool_and_eq_true]at hvc;exact⟨hvc.1.1.1.2,hvc.1.1.2⟩
  have hm:=yZ jQ hc;simp[hvs,hc];refine ck (tH c hk.1 hk.2) ?_;simp;refine nxb (i+1) (by first|omega|(simp;omega)|grind) (h3:=by simp[hvs,hc,hm])
 ·have a':=a;simp at a';rw[bS (by simp;omega)];simp[a]
variable {out:List Ver}{c:Ver}
def Z6 (h:out=[]):rE out c=out++[c]:=by subst h;rfl
def adJ {p:Ver}(h:out[out.length-1]?=some p):rE out c=if p.a≠c.a\/p.b≠c.b then out++[c]else if p.time<c.time then out.set (out.length-1) c else out:=by unfold rE;rw[h]
def KU (l:List Ver)(hs:Qle l)(hv:kZ l):Fk 104 [nVers l] (wV (gN l)):=by
 refine fE [] ntmps104 fun _ _=> ?_;simp;refine wlt (Nat×List Ver) (fun(i,out)=>([(0,vV l),(3,wV out),(4,vI i)],l.length-i,(i<=l.length)/\(out=(l.take i).foldl rE [])/\(out.length<=i))) ((0,[])) ⟨by omega,rfl,by simp⟩ ?_;rintro⟨i,out⟩ ⟨h1,h2,h3⟩;simp;apply gv<;>intro a
 ·have a':=a;simp[a];refine ck (yI _) ?_;obtain⟨c,hc⟩:=aN (l:=l) (i:=i);have hm:=fA rE [] hc;rw[←h2]at hm;simp[hv];refine wdt 30 ?_;simp;apply gv<;>intro e
  ·have e':=e;have hm2:=Z6 (c:=c) e;simp[hc,e];refine nxa (i+1,out++[c]) ⟨by omega,by rw[hm,hm2],by simp;omega⟩ (h3:=by simp[hv,hc,e])
  ·have e':=e;have hpos:0<out.length:=kG.2 e;obtain⟨p,hp⟩:=aN (l:=out) (i:=out.length-1);have hm2:=adJ (c:=c) hp;simp[hc,e,hp];iterate 2 refine ai ?_
   apply gv<;>intro f
   ·have f':=f;simp[hc,f];refine nxb (i+1,out++[c]) ⟨by omega,by rw[hm,hm2,if_pos (.inl f)],by simp;omega⟩
   ·have f':=f;simp[hc,hp,f];iterate 2 refine ai ?_
    apply gw<;>intro g
    ·simp[hc];refine nxb (i+1,out++[c]) ⟨by omega,by rw[hm,hm2,if_pos (.inr g)],by simp;omega⟩
    ·simp;refine wdt 12 ?_;simp[hc,hp,f];iterate 2 refine ai ?_
     apply gw<;>intro b
     ·simp[hc,hp,f];refine nxd (i+1,out.set (out.length-1) c) ⟨by omega,by rw[hm,hm2,if_neg (by simp_all),if_pos b],by simp;omega⟩
     ·simp at b;simp;refine nxa (i+1,out) ⟨by omega,by rw[hm,hm2,if_neg (by simp_all),if_neg (by omega)],by omega⟩
 ·have a':=a;simp at a';have hi:i=l.length:=by omega
  subst hi;rw[dA]at h2;simp[a];grind[gN]
def G5 (l:List Ver)(items:L1)(hs:Qle l:=by first|omega|grind)(hi:Qle items:=by first|omega|grind):Fk 158 [nVers l,nInts items] (vE (FZ l items)):=by
 refine fE [] ntmps158 fun _ _=> ?_;simp;refine wlt (Nat×List Con) (fun(i,out)=>([(0,vV l),(1,vN items),(5,vE out),(6,vI i)],l.length-i,(i<=l.length)/\(out=(l.take i).filterMap (IL items))/\(out.length<=i))) ((0,[])) ⟨by omega,rfl,by simp⟩ ?_;rintro⟨i,out⟩ ⟨h1,h2,h3⟩;simp;apply gw<;>intro a
 ·obtain⟨c,hc⟩:=aN (l:=l) (i:=i);have hm:=A7 (IL items) hc;rw[←h2]at hm;simp[hc];refine ck (kM _ _) ?_;simp[hc];refine ck (kM _ _) ?_;simp;apply gv<;>intro e
  ·have e':=e;simp[e];apply gw<;>intro b
   ·have hv:IL items c=some ⟨place items c.a,place items c.b,c.same⟩:=if_pos ⟨by omega,by omega⟩;simp[hc];refine nxb (i+1,out++[⟨place items c.a,place items c.b,c.same⟩]) ⟨by omega,by rw[hm,hv];rfl,by simp;omega⟩
   ·simp at b;have hv:IL items c=none:=if_neg (by rintro⟨h1,h2⟩;unfold place at h1 h2;omega);simp;refine nxa (i+1,out) ⟨by omega,by rw[hm,hv];simp,by omega⟩
  ·have e':=e;simp at e';have hv:IL items c=none:=if_neg (by rintro⟨h1,h2⟩;unfold place at h1 h2;omega);simp[e];refine nxa (i+1,out) ⟨by omega,by rw[hm,hv];simp,by omega⟩
 ·simp at a;rw[bS a]at h2;simp;grind[FZ]
def KH (l:List Ver)(hs:Qle l)(hv:kZ l):Fk 132 [nVers l] (wV (gN l)):=by
 refine fE [] ntmps132 fun _ _=> ?_;simp;refine ck (E9 l) ?_;simp[hv];refine wlt (Nat×List Ver) (fun(i,out)=>([(3,wV out),(10,vV l),(11,vI l.length),(12,vI i)],l.length-i,(i<=l.length)/\(out=(l.take i).foldl rE [])/\(out.length<=i))) ((0,[])) ⟨by omega,rfl,by simp⟩ ?_;rintro⟨i,out⟩ ⟨h1,h2,h3⟩;simp;apply gw<;>intro a
 ·obtain⟨c,hc⟩:=aN (l:=l) (i:=i);have hm:=fA rE [] hc;rw[←h2]at hm;simp[hc];refine ai ?_;refine wdt 22 ?_;simp;apply gv<;>intro e
  ·have e':=e;have he:out=[]:=k_List_length_eq_zero_iff.1 (by omega);have hm2:=Z6 (c:=c) he;simp[e];refine nxb (i+1,out++[c]) ⟨by omega,by rw[hm,hm2],by simp;omega⟩
  ·have e':=e;simp at e';have hpos:0<out.length:=by omega
   obtain⟨p,hp⟩:=aN (l:=out) (i:=out.length-1);have hm2:=adJ (c:=c) hp;simp[e,hp];refine ai ?_;apply gv<;>intro f
   ·have f':=f;simp[f];refine nxb (i+1,out++[c]) ⟨by omega,by rw[hm,hm2,if_pos (.inl (by simpa using f))],by simp;omega⟩
   ·have f':=f;simp[hp,f];refine ai ?_;apply gw<;>intro g
    ·simp;refine nxb (i+1,out++[c]) ⟨by omega,by rw[hm,hm2,if_pos (.inr (by simpa using g))],by simp;omega⟩
    ·simp;refine wdt 8 ?_;simp[hp,f];refine ai ?_;apply gw<;>intro b
     ·simp[hp,f];refine nxb (i+1,out.set (out.length-1) c) ⟨by omega,by rw[hm,hm2,if_neg (by simp_all),if_pos b],by simp;omega⟩
     ·simp at b;simp;refine nxa (i+1,out) ⟨by omega,by rw[hm,hm2,if_neg (by simp_all),if_neg (by omega)],by omega⟩
 ·simp at a;rw[bS a]at h2;have ho:gN l=out:=h2.symm;simp[ho]
variable {α:Type}
def cfB (cf:α->α->Int)(v c:α):Bool:=decide (cf v c<0)
def srt (cf:α->α->Int)(l:List α)(i:Nat):List α:=kR (cfB cf) (l.take i)
def afQ (cf:α->α->Int)(l:List α)(i:Nat):List α:=srt cf l i++l.drop i
def NU (cf:α->α->Int)(l:List α)(i j:Nat)(v:α):List α:=DJ (cfB cf) l i j v
def asN {cf:α->α->Int}{l:List α}{c:α}(h:(srt cf l i)[k]?=some c):c∈l:=by
 have h1:=(BG (cfB cf) (l.take i) []).mem_iff (a:=c);rw[iK]at h1;exact iQ (h1.1 (aA h))
def aoG (cf:α->α->Int)(l:List α):afQ cf l 1=l:=by
 cases l with
 |nil=>rfl
 |cons x l=>rfl
def aoF (cf:α->α->Int){l:List α}(h:l.length<=i):afQ cf l i=kR (cfB cf) l:=by unfold afQ srt;rw[k_List_take_of_length_le h,bO h,dP]
def aiB (f:α->D){cf:α->α->Int}{l:List α}{j:Nat}{v c:α}(hi:i<l.length)(hj:0<j/\j<=i)(hc:(srt cf l i)[j-1]?=some c):(((NU cf l i j v).map f).set j (f c)).set (j-1) (f v)=(NU cf l i (j-1) v).map f:=by
 rw[←List.map_set,←List.map_set];have:=avS (p:=cfB cf) (j:=j-1) (v:=v) hi (by omega) hc;rw[show j-1+1=j by omega]at this;exact congrArg _ this
def axY (l:List Ver)(cf:Ver->Ver->Int)(g:FuncId)(E:Dv.Enters prog g)(U:T (1000000+g)=⟨.no,0,.any 0⟩)(G:∀a∈l,∀b∈l,fD prog g [mP a,mP b] (fun r=>r=vI (cf a b)))(hl:Qle l):NW prog 305 [.one (.bool false),dI 0,dI l.length,.one (.func (.func g) #[] #[])] 0 (oVers l) (fun r d=>r= .tup []/\d=oVers (kR (cfB cf) l)):=by
 refine fM [] ntmps305 fun w0 ow0 v0=> ?_;have h00:=aoG cf l;simp;refine ai ?_;refine wl (fun(i:Nat)=>[(0,wV (afQ cf l i)),(1,vI 0),(2,vI l.length),(3,.val (.one (.func (.func g) #[] #[]))),(8,vI i)]) (fun(i:Nat)=>l.length-i) (fun(i:Nat)=>(1<=i/\i<=l.length+1)) (1) (by omega) ?_ (h0:=by simp[E,U,h00]);rintro i h1;simp;apply gw<;>intro a
 ·obtain⟨v,hv⟩:=aN (l:=l) (i:=i);have hin:NU cf l i i v=afQ cf l i:=asK (p:=cfB cf) hv;have hsl:=zO (p:=cfB cf) (l:=l) (i:=i);simp;refine wlt Nat (fun j=>([(0,wV (NU cf l i j v)),(1,vI 0),(2,vI l.length),(3,.val (.one (.func (.func g) #[] #[]))),(8,vI i),(9,vI j)],j,(j<=i)/\(∀k c,j<=k->(srt cf l i)[k]?=some c->cfB cf v c=true))) (i) ⟨by omega,(fun k c hk hc=>absurd (dL hc) (by unfold srt;omega))⟩ ?_ (h0:=by simp[E,U,h00,hin]);rintro j ⟨h2,h3⟩;have hnow:(NU cf l i j v)[j]?=some v:=aoD a h2;simp;refine wdt 14 ?_;simp;apply gv<;>intro e
  ·have e':=e;obtain⟨c,hc⟩:=aN (l:=srt cf l i) (i:=j-1) (by unfold srt;omega);have hprev:(NU cf l i j v)[j-1]?=some c:=by have:=ah9 (p:=cfB cf) (v:=v) a (show j-1<i by omega) hc;rwa [show j-1+1=j by omega]at this
   have hj1:((j:Int)-1).toNat=j-1:=by omega
   have hsw:=aiB mP (v:=v) a ⟨by omega,h2⟩ hc;have hs2:∀x:D,(((NU cf l i j v).map mP).set j x)[j-1]?=some (mP c):=fun x=>by rw[bI (by omega),aO,hprev];rfl
   have hj2:(j:Int)-1=((j-1:Nat):Int):=by omega
   simp[E,U,e,hnow,hprev,hj2];refine ai ?_;refine ck ((G v (aA hv) c (asN hc))) ?_;simp;apply gw<;>intro b
   ·simp;refine wdh [2,3] [(15,[51,46,0,37,39,42,45,47,49,50]),(17,[52,50,0,37,39,42,45,46,47,49,51])] [(0,wV (NU cf l i j v)),(1,vI 0),(2,vI l.length),(3,.val (.one (.func (.func g) #[] #[]))),(8,vI i),(9,vI j),(39,.al 0 []),(40,vI j)] [] ?_;simp[hnow,hprev,hsw,hs2,hj2];refine ai ?_;refine nx (j-1) ⟨by omega,(fun k c2 hk hc2=>by by_cases hkj:k=j-1;(subst hkj;rw[hc]at hc2;cases hc2;exact decide_eq_true b);exact h3 k c2 (by omega) hc2)⟩
   ·simp at b;have ho:NU cf l i j v=afQ cf l (i+1):=YB hv h2 h3 (.inr ⟨c,hc,by unfold cfB;exact decide_eq_false (by omega)⟩);simp[ho];refine nxa (i+1) (by omega)
  ·have e':=e;simp at e';have ho:NU cf l i j v=afQ cf l (i+1):=YB hv h2 h3 (.inl (by omega));simp[e,ho];refine nxa (i+1) (by omega)
 ·simp at a;have ho:=aoF cf (l:=l) (i:=i) (by omega);simp[ho]
end Go.Proofs.YtafdbpehjfmnpaaGreatDoor
end
section
namespace Go.Proofs.YtafdbpehjfmnpaaGreatDoor
open Go.Dv Go.Pl Go.RowKit Go.Proofs.Tryz
def aaA (n:Nat)(hn:n<=1048576):fD prog 217 [.one (.int .u64 n)] (fun r=>r=vI (Lib.bitLen n)):=
 D9 (u:= .int .i64 (Lib.bitLen n)) rfl fun w ow vs hL hs ha=>by
  obtain rfl:=YM hs ha;have:=Tryz.bits_Len n w (by omega) (by omega);exact this.mono fun e w' h=>⟨h.1,h.2▸Below.refl _ _⟩
def auG (l:List Ver)(cf:Ver->Ver->Int)(g:FuncId)(E:Dv.Enters prog g)(U:T (1000000+g)=⟨.no,0,.any 0⟩)(G:∀a∈l,∀b∈l,fD prog g [mP a,mP b] (fun r=>r=vI (cf a b)))(hl:l.length<=12):NW prog 218 [.one (.bool false),dI l.length,.one (.func (.func g) #[] #[])] 0 (oVers l) (fun r d=>r= .tup []/\d=oVers (kR (cfB cf) l)):=by
 refine fM [] ntmps218 fun w0 ow0 v0=> ?_;have hlt:¬(20:Int)<=l.length:=by omega
 have hlt2:¬(20:Int)<l.length:=by omega
 simp;refine wl (fun(i:Nat)=>[(0,wV l),(1,vI l.length),(2,.val (.one (.func (.func g) #[] #[]))),(6,vI 20),(7,vI 0),(8,vI 20)]) (fun(i:Nat)=>0) (fun(i:Nat)=>(i=0)) (0) (rfl) ?_;rintro i h1;simp[hlt];refine nC rfl (axY l cf g E U G (by omega)) ?_;rintro r d ⟨rfl,rfl⟩;simp;refine wl (fun(j:Nat)=>[(0,wV (kR (cfB cf) l)),(1,vI l.length),(2,.val (.one (.func (.func g) #[] #[]))),(6,vI 20)]) (fun(j:Nat)=>0) (fun(j:Nat)=>(j=0)) (0) (rfl) ?_;rintro j h2;simp[hlt2]
def ap3 (l:List Ver)(cf:Ver->Ver->Int)(g:FuncId)(E:Dv.Enters prog g)(U:T (1000000+g)=⟨.no,0,.any 0⟩)(G:∀a∈l,∀b∈l,fD prog g [mP a,mP b] (fun r=>r=vI (cf a b)))(hl:l.length<=12):NW prog 133 [.one (.bool false),.one (.func (.func g) #[] #[])] 0 (oVers l) (fun r d=>r= .tup []/\d=oVers (kR (cfB cf) l)):=by
 refine fM [] ntmps133 fun w0 ow0 v0=> ?_;simp;refine nC rfl (auG l cf g E U G hl) ?_;rintro r d ⟨rfl,rfl⟩;simp
def aFJ (l:List Ver)(k:Int)(cf:Ver->Ver->Int)(g:FuncId)(E:Dv.Enters prog g)(U:T (1000000+g)=⟨.no,0,.any 0⟩)(G:∀a∈l,∀b∈l,fD prog g [mP a,mP b] (fun r=>r=vI (cf a b)))(hl:l.length<=12):NW prog 222 [.one (.bool false),dI 0,dI l.length,dI k,.one (.func (.func g) #[] #[])] 0 (oVers l) (fun r d=>r= .tup []/\d=oVers (kR (cfB cf) l)):=by
 refine fM [] ntmps222 fun w0 ow0 v0=> ?_;simp;refine wl (fun(i:Nat)=>[(0,wV l),(1,vI 0),(2,vI l.length),(3,vI k),(4,.val (.one (.func (.func g) #[] #[])))]) (fun(i:Nat)=>0) (fun(i:Nat)=>(i=0)) (0) (rfl) ?_;rintro i h1;have hlt:(l.length:Int)<=12:=by omega
 simp[hlt];refine ai ?_;refine nC rfl (axY l cf g E U G (by omega)) ?_;rintro r d ⟨rfl,rfl⟩;simp
def alV (l:List Ver)(cf:Ver->Ver->Int)(g:FuncId)(E:Dv.Enters prog g)(U:T (1000000+g)=⟨.no,0,.any 0⟩)(G:∀a∈l,∀b∈l,fD prog g [mP a,mP b] (fun r=>r=vI (cf a b)))(hl:l.length<=12):NW prog 138 [.one (.bool false),.one (.func (.func g) #[] #[])] 0 (oVers l) (fun r d=>r= .tup []/\d=oVers (kR (cfB cf) l)):=by
 refine fM [] ntmps138 fun w0 ow0 v0=> ?_;have hw:IntKind.u64.wrap (l.length:Int)=l.length:=by simp[IntKind.wrap,IntKind.bits,IntKind.signed];omega
 simp[hw];refine ck (aaA l.length (by omega)) ?_;simp;refine nC rfl (aFJ l (Lib.bitLen l.length) cf g E U G hl) ?_;rintro r d ⟨rfl,rfl⟩;simp
def KN (a b:Ver):Fk 134 [mP a,mP b] (vI (cmpI b.time a.time)):=by
 refine fE [] ntmps134 fun _ _=> ?_;simp;refine ck (pY _ _) ?_;simp
def aiX (l:List Ver):kR (cfB fun a b:Ver=>cmpI b.time a.time) l=uD l:=by
 have:(cfB fun a b:Ver=>cmpI b.time a.time)=DF:=by
  funext v u;unfold cfB DF cmpI;rw[bG,decide_eq_true_eq,decide_eq_true_eq];show(if u.time<v.time then(-1:Int)else if u.time>v.time then 1 else 0)<0↔_;split
  ·exact⟨fun _=>by assumption,fun _=>by omega⟩
  ·rename_i h1;constructor
   ·intro h;split at h<;>omega
   ·intro h;exact absurd h h1
 unfold kR uD;rw[this]
def SX (l:List Ver):kR (cfB gF) l=iC l:=by
 have:cfB gF=tQ:=by
  funext v u;unfold cfB tQ;rw[bG,decide_eq_true_eq,decide_eq_true_eq,OH];omega
 unfold kR iC;rw[this]
end Go.Proofs.YtafdbpehjfmnpaaGreatDoor
end
section
namespace Go
def wS:= @List.map_replicate
end Go
end
section
namespace Go.Proofs.YtafdbpehjfmnpaaGreatDoor
open Go.Dv Go.Pl Go.RowKit Go.Proofs.Tryz
def lk0 (i:Nat):L1:=(List.range i).map (fun(k:Nat)=>(k:Int))++List.replicate (400-i) 0
def ay3:lk0 0=List.replicate 400 0:=rfl
def aCZ:lk0 400=BM:=by simp[lk0,BM]
variable {i:Nat}
def ajO (h:i<=400:=by omega):(lk0 i).length=400:=by simp[lk0];omega
def aC1 (h:i<400):((lk0 i).map dI).set i (dI (i:Int))=(lk0 (i+1)).map dI:=by
 rw[←List.map_set];congr 1;unfold lk0;rw[gG _ _ (by simp),show(List.map (fun(k:Nat)=>(k:Int)) (List.range i)).length=i by simp,eO,show 400-i=(400-(i+1))+1 by omega,fI,kV,gD,jE,bN];rfl
def aC0 (h:i<400):(lk0 i)[i]?=some 0:=by
 unfold lk0;rw[aX (by simp),show(List.map (fun(k:Nat)=>(k:Int)) (List.range i)).length=i by simp,eO,show 400-i=(400-(i+1))+1 by omega,fI];rfl
def lkm (o:L1)(f:Int->Int)(k:Nat):L1:=(o.take k).map f++o.drop k
def ar8 (o:L1)(f:Int->Int)(k:Nat):(lkm o f k).length=o.length:=by simp[lkm];omega
variable {o:L1}{f:Int->Int}{k:Nat}
def ay4 (h:k<o.length):(lkm o f k)[k]?=some (at1 o k):=by
 unfold lkm;rw[aX (by simp;omega),aV,cZ,fG (by omega),eO,dQ,kJ];exact aU h
def ar9 (h:k<o.length):(lkm o f k).set k (f (at1 o k))=lkm o f (k+1):=by
 have hg:=aU h;unfold lkm;have hd:o.drop k=at1 o k::o.drop (k+1):=by rw[bM h];rw[aB h]at hg;rw[k_Option_some_inj hg]
 rw[gG _ _ (by simp;omega),aV,cZ,fG (by omega),eO,hd,kV,dV hg,jE,bN];rfl
def ay5 (h:k<o.length)(hf:f (at1 o k)=at1 o k):lkm o f k=lkm o f (k+1):=by
 rw[←ar9 h,hf];apply jX;intro m;by_cases hm:k=m
 ·subst hm;rw[ay4 h,bR (by rw[ar8];exact h)]
 ·rw[bI hm]
def ay6 (o:L1)(f:Int->Int):lkm o f 0=o:=rfl
def aC2 (f:Int->Int):lkm o f o.length=o.map f:=by simp[lkm]
def qN (l:L1)(i:Nat):D.ws (List.take i (l.map dI))=min i l.length:=by
 have h:∀l:L1,D.ws (l.map dI)=l.length:=fun l=>by
  induction l with
  |nil=>rfl
  |cons x l ih=>simp only[gB,D.ws,D.w,ih,aR];omega
 rw[←List.map_take,h,cZ]
def ajN (o:L1)(v:Ver):(uY o v).length=o.length:=by unfold uY;split<;>simp
def A9 (l:List Ver)(hl:Qle l)(hv:∀v∈l,inT v.a/\inT v.b):Fk 70 [nVers l] (.val (.agg ((jL l).map dI))):=by
 refine fE [] ntmps70 fun _ _=> ?_;have hz:List.replicate 400 (dI 0)=(lk0 0).map dI:=by rw[ay3,wS]
 simp[hz];refine wl (fun(i:Nat)=>[(0,vV l),(2,.own (.bx true (.agg ((lk0 0).map dI)))),(3,.own (.bx true (.agg ((lk0 i).map dI)))),(10,vI i)]) (fun(i:Nat)=>400-i) (fun(i:Nat)=>(i<=400)) (0) (by omega) ?_;rintro i h1;simp;apply gw<;>intro a
 ·have hlen:=ajO (i:=i);have hs:=aC1 (i:=i) (by omega);have hg:=aC0 (i:=i) (by omega);have hws:D.ws (List.take i ((lk0 i).map dI))=i:=by rw[qN,hlen];omega
  simp[hz,hs,hg,hws];refine nxb (i+1) (by omega)
 ·simp at a;obtain rfl:i=400:=by omega
  have hall:=aCZ;simp[hall];refine wlt (Nat×L1) (fun(j,o)=>([(0,vV l),(2,.own (.bx true (.agg ((lk0 0).map dI)))),(3,.own (.bx true (.agg (o.map dI)))),(17,vV l),(18,vI l.length),(19,vI j)],l.length-j,(j<=l.length)/\(o=(l.take j).foldl uY BM)/\(o.length=400))) ((0,BM)) ⟨by omega,rfl,ay2.len⟩ ?_;rintro⟨j,o⟩ ⟨h2,h3,h4⟩;simp;apply gw<;>intro b
  ·obtain⟨c,hc⟩:=aN (l:=l) (i:=j);have hcv:=hv c (aA hc);have hA:=aU (l:=o) (i:=c.a.toNat) (by have:=hcv.1.2;have:=hcv.1.1;omega);have hB:=aU (l:=o) (i:=c.b.toNat) (by have:=hcv.2.2;have:=hcv.2.1;omega);have hm:=fA uY BM hc;rw[←h3]at hm;simp[hc];apply gw<;>intro d
   ·simp at d;simp;refine nxa (j+1,o) ⟨by omega,by rw[hm];exact(if_neg (by simp[d])).symm,h4⟩
   ·simp at d;obtain⟨A,hAe⟩:∃A,at1 o c.a.toNat=A:=⟨_,rfl⟩;obtain⟨B,hBe⟩:∃B,at1 o c.b.toNat=B:=⟨_,rfl⟩;rw[hAe]at hA;rw[hBe]at hB;have hz2:=ay6 o (qV A B);have h90:=hcv.1.1;have h91:=hcv.1.2;have h92:=hcv.2.1;have h93:=hcv.2.2;have hwA:D.ws (List.take c.a.toNat (o.map dI))=c.a.toNat:=by rw[qN,h4];omega
    have hwB:D.ws (List.take c.b.toNat (o.map dI))=c.b.toNat:=by rw[qN,h4];omega
    have hA2:=(aD.1 hA).2;have hB2:=(aD.1 hB).2;simp;refine wdr ?_;simp[hz,hA2,hB2,h4,h90,h91,h92,h93,hwA,hwB];refine wl (fun(k:Nat)=>[(0,vV l),(2,.own (.bx true (.agg ((lk0 0).map dI)))),(3,.own (.bx true (.agg ((lkm o (qV A B) k).map dI)))),(7,vI A),(8,vI B),(17,vV l),(18,vI l.length),(19,vI j),(34,vI k)]) (fun(k:Nat)=>400-k) (fun(k:Nat)=>(k<=400)) (0) (by omega) ?_ (h0:=by simp[hz,hall,hc,hA2,hB2,hz2,h4,h90,h91,h92,h93,hwA,hwB]);rintro k h5;simp;apply gw<;>intro e
    ·have hkl:k<o.length:=by omega
     have hg:=ay4 (f:=qV A B) hkl;have hlen:(lkm o (qV A B) k).length=400:=by rw[ar8];exact h4
     have hws:D.ws (List.take k ((lkm o (qV A B) k).map dI))=k:=by rw[qN,hlen];omega
     obtain⟨z,hze⟩:∃z,at1 o k=z:=⟨_,rfl⟩;have hset:=ar9 (f:=qV A B) hkl;have hsame:=ay5 (f:=qV A B) hkl;rw[hze]at hg hset hsame;simp[hz,hg,hws];refine ai ?_;apply gw<;>intro g
     ·have hf:qV A B z=min A B:=if_pos g;have hst:((lkm o (qV A B) k).map dI).set k (dI (min A B))=(lkm o (qV A B) (k+1)).map dI:=by rw[←List.map_set,←hf,hset]
      simp[hz,hg,hws,hst];refine nxb (k+1) (by omega)
     ·have hs2:=(hsame (if_neg g)).symm;simp;refine nxa (k+1) (by omega) (h3:=by simp[hz,hall,h4,hg,hlen,hws,hs2])
    ·simp at e;obtain rfl:k=400:=by omega
     have hall:lkm o (qV A B) 400=o.map (qV A B):=by rw[←h4];exact aC2 _
     have hls:uY o c=o.map (qV A B):=by unfold uY;rw[if_pos (by simpa using d),hAe,hBe]
     simp[hall];refine nxa (j+1,o.map (qV A B)) ⟨by omega,by rw[hm,hls],by rw[aV];exact h4⟩
  ·simp at b;have hr:jL l=o:=by rw[h3,k_List_take_of_length_le (by omega)];rfl
   have hws4:D.ws (o.map dI)=400:=by have:=qN o 400;rw[k_List_take_of_length_le (by (try unfold Qle);rw[aV];omega),h4]at this;simpa using this
   have hws5:D.ws ((lk0 0).map dI)=400:=by have:=qN (lk0 0) 400;rw[k_List_take_of_length_le (by (try unfold Qle);rw[aV,ajO];omega),ajO]at this;simpa using this
   clear h3;simp[hz,hr,hws4,hws5];grind
def agP (h:o.length=400){x:Int}(hx:inT x):o[x.toNat]?=some (at1 o x.toNat):=aU (by have:=hx.2;have:=hx.1;omega)
def AB (l:List Ver):(jL l).length=400:=by
 have:∀(l:List Ver) (o:L1),o.length=400->(l.foldl uY o).length=400:=fun l=>by
  induction l with
  |nil=>exact fun o h=>h
  |cons v l ih=>exact fun o h=>ih _ (by rw[ajN];exact h)
 exact this l _ (by simp[BM])
def adA (o:L1)(v:Ver):Bool:= !v.same&&decide (at1 o v.a.toNat=at1 o v.b.toNat)
def abA (o:L1)(v:Ver)(ho:o.length=400)(hv:inT v.a/\inT v.b):Fk 221 [mP v,.bx false (.agg (o.map dI))] (vB (adA o v)):=by
 refine fE [] ntmps221 fun _ _=> ?_;have hA:=agP ho hv.1;have hB:=agP ho hv.2;have h0:=hv.1.1;have h1:=hv.1.2;have h2:=hv.2.1;have h3:=hv.2.2;have hwA:D.ws (List.take v.a.toNat (o.map dI))=v.a.toNat:=by rw[qN,ho];omega
 have hwB:D.ws (List.take v.b.toNat (o.map dI))=v.b.toNat:=by rw[qN,ho];omega
 simp;refine wdt 14 ?_;simp;apply gv<;>intro e
 ·have e':=e;simp at e';simp[ho,h0,h1,h2,h3,hwA,hwB,e];grind[adA]
 ·have e':=e;simp at e';simp[e];grind[adA]
def ap2 (l:List Ver)(p:Ver->Bool)(g:FuncId)(b:Nat)(d:D)(F:d.fz=d)(E:Dv.Enters prog g)(U:T (1000000+g)=⟨.no,0,.any 0⟩)(G:∀c∈l,fD prog g [mP c,.bx false d] (fun r=>r=vB (p c)))(hl:Qle l):yT prog 294 [nVers l,.one (.func (.func g) #[] #[.pointer (some ⟨b,0,none⟩)])] [(b,d)] (fun res'=>res'=vI (ix p l)):=by
 refine fB [] ntmps294 fun _ _=> ?_;simp;refine wlt Nat (fun i=>([(0,vV l),(1,.val (.one (.func (.func g) #[] #[.pointer (some ⟨b,0,none⟩)]))),(7,vI l.length),(8,vI i),(1000000+2*b,.rp (d))],l.length-i,(i<=l.length)/\((l.take i).any p=false))) (0) ⟨by omega,rfl⟩ ?_;rintro i ⟨h1,h2⟩;simp;apply gw<;>intro a
 ·obtain⟨c,hc⟩:=aN (l:=l) (i:=i);simp[E,U,F,hc];refine ck ((G c (aA hc))) ?_;simp;apply gw<;>intro e
  ·have hn:=BI hc h2 (by simp[e]);simp[hn]
  ·simp;refine nxa (i+1) ⟨by omega,(jB hc h2 (by simp[e]))⟩
 ·simp at a;have hf:=mR h2 a;have hx:=qQ hf;simp[hx]
def auB (l:List Ver)(p:Ver->Bool)(g:FuncId)(b:Nat)(d:D)(F:d.fz=d)(E:Dv.Enters prog g)(U:T (1000000+g)=⟨.no,0,.any 0⟩)(G:∀c∈l,fD prog g [mP c,.bx false d] (fun r=>r=vB (p c)))(hl:Qle l):yT prog 220 [nVers l,.one (.func (.func g) #[] #[.pointer (some ⟨b,0,none⟩)])] [(b,d)] (fun res'=>res'=vB (l.any p)):=by
 refine fB [] ntmps220 fun _ _=> ?_;have hq:decide (0<=ix p l)=l.any p:=by rw[bG,decide_eq_true_eq];exact iW
 simp[F];refine ckB (ap2 l p g b d F E U G hl) ?_;simp[hq]
def af2 (l:List Ver)(hl:Qle l)(hv:∀v∈l,inT v.a/\inT v.b):Fk 136 [nVers l] (vB (adB l)):=by
 refine fE [] ntmps136 fun _ _=> ?_;simp;refine ck (A9 l hl hv) ?_;have hF:(D.agg ((jL l).map dI)).fz=D.agg ((jL l).map dI):=by simp[D.fz,D.jC]
 have hcl:l.any (adA (jL l))=adB l:=rfl;have hws:D.ws ((jL l).map dI)=400:=by have:=qN (jL l) 400;rw[k_List_take_of_length_le (by (try unfold Qle);rw[aV,AB];omega),AB]at this;simpa using this
 have hll:=AB l;simp[hws,hll];intro b;refine ckB (auB l (adA (jL l)) 221 b (.agg ((jL l).map dI)) hF aG8 aHO (fun c hc=>abA (jL l) c (AB l) (hv c hc)) hl) ?_;simp[hcl]
end Go.Proofs.YtafdbpehjfmnpaaGreatDoor
end
section
namespace Go.Proofs.YtafdbpehjfmnpaaGreatDoor
open Go.Dv Go.Pl Go.Proofs.Tryz
abbrev aFR (l:L2):D:= .sl (some 25) (l.map nInts)
variable {g:L2}
def ayF (hg:∀l∈g,Qle l)(i:Nat):Qle (gat g i):=by
 unfold gat;rw[aC];cases h:g[i]? with
 |none=>simp
 |some r=>exact hg r (aA h)
def al6 (g:L2)(x:Int): -1<=dW g x/\(dW g x<g.length\/dW g x= -1):=by
 have:=ayT (grp x) g;unfold dW;omega
def zH (g:L2)(x y:Int)(hs:Qle g)(hg:∀l∈g,Qle l):Fk 51 [bV g,dI x,dI y] (.val (bV (nZ g x y))):=by
 refine fE [33,35,100000] ntmps51 fun _ _=> ?_;simp;refine ck (iV _ _ hs hg) ?_;simp;refine ck (iV _ _ hs hg) ?_;have hA1:=al6 g x;have hB1:=al6 g y;generalize hA:dW g x=A at hA1|-
 generalize hB:dW g y=B at hB1|-
 simp;refine wlt (Nat×L2) (fun(i,o)=>([(0,.val (bV g)),(1,vI x),(2,vI y),(7,.own (cO [x])),(8,.own (cO [y])),(9,.own (aFR o)),(10,vI A),(11,vI B),(12,vI i)],g.length-i,(i<=g.length)/\(o=loopN i ([]) ((fun i o=>if(i:Int)≠A/\(i:Int)≠B then o++[gat g i]else o)))/\(o.length<=i))) ((0,[])) ⟨by omega,rfl,by simp⟩ ?_;rintro⟨i,o⟩ ⟨h1,h2,h3⟩;simp;apply gw<;>intro a
 ·have hs:=aL i ([]) ((fun i o=>if(i:Int)≠A/\(i:Int)≠B then o++[gat g i]else o));rw[←h2]at hs;obtain⟨c,hc⟩:=aN (l:=g) (i:=i);have hc2:=BF hc;simp;apply gv<;>intro e
  ·have e':=e;simp[e];apply gw<;>intro f
   ·simp[hc];refine nxb (i+1,o++[c]) ⟨by omega,by rw[hs,if_pos ⟨e,f⟩,hc2],by simp;omega⟩
   ·simp;refine nxa (i+1,o) ⟨by omega,by rw[hs,if_neg (by omega)],by omega⟩
  ·have e':=e;simp[e];refine nxa (i+1,o) ⟨by omega,by rw[hs,if_neg (by omega)],by omega⟩ (h3:=by simp[hc,e])
 ·simp at a;have hi:g.length=i:=by omega
  subst hi;have hr:o=yX g A B:=h2;simp;refine as7 (fun(_:Unit)=>[(0,.val (bV g)),(2,vI y),(7,vN (if 0<=A then gat g A.toNat else[x])),(8,.own (cO [y])),(9,.own (aFR o)),(10,vI A),(11,vI B)]) (fun(_:Unit)=>True) ?_ ?_
  ·simp;apply gw<;>intro b
   ·obtain⟨c,hc⟩:=aN (l:=g) (i:=A.toNat);have hc2:=BF hc;simp[hc,b];refine jnc (()) [7] trivial (h3:=by simp[hc,hc2,b])
   ·simp at b;have b':¬0<=A:=by omega
    simp[b'];refine jnc (()) [7] trivial (h3:=by simp[b'])
  rintro⟨⟩ -
  refine NV (fun(_:Unit)=>[(7,vN (if 0<=A then gat g A.toNat else[x])),(8,vN (if 0<=B then gat g B.toNat else[y])),(9,.own (aFR o)),(10,vI A),(11,vI B)]) (fun(_:Unit)=>True) ?_ ?_
  ·simp;apply gw<;>intro b
   ·obtain⟨c,hc⟩:=aN (l:=g) (i:=B.toNat);have hc2:=BF hc;simp[hc,b];refine jnc (()) [8] trivial (h3:=by simp[hc,hc2,b])
   ·simp at b;have b':¬0<=B:=by omega
    simp[b'];refine jnc (()) [8] trivial (h3:=by simp[b'])
  rintro⟨⟩ -
  have hLl:Qle (if 0<=A then gat g A.toNat else[x]):=by split;(exact ayF hg _);simp
  have hRl:Qle (if 0<=B then gat g B.toNat else[y]):=by split;(exact ayF hg _);simp
  generalize hL:(if 0<=A then gat g A.toNat else[x])=L at hLl|-
  generalize hR:(if 0<=B then gat g B.toNat else[y])=R at hRl|-
  simp;apply gv<;>intro e
  ·have e':=e;simp[e];apply gw<;>intro f
   ·simp;refine ai ?_;refine kQ [] (dH 6) ?_;have hj:nZ g x y=o++[L]:=by rw[nZ,hA,hB,if_pos ⟨e,f⟩,hr,←hL,if_pos e]
    simp;simp[hj]
   ·simp;iterate 3 refine ai ?_
    refine kQ [] (dH 6) ?_;have hj:nZ g x y=o++[L++R]:=by rw[nZ,hA,hB,if_neg (by simp[f]),hr,←hL,←hR]
    simp;simp[hj]
  ·have e':=e;simp at e';simp[e];iterate 3 refine ai ?_
   refine kQ [] (dH 6) ?_;have hj:nZ g x y=o++[L++R]:=by rw[nZ,hA,hB,if_neg (by simp[e]),hr,←hL,←hR]
   simp;simp[hj]
variable {m:Nat}
def XC (hg:∀l∈g,l.length<=m)(i:Nat):(gat g i).length<=m:=by
 unfold gat;rw[aC];cases h:g[i]? with
 |none=>simp
 |some r=>exact hg r (aA h)
def af7 (hg:∀l∈g,l.length<=m)(a b:Int):(yX g a b).length<=g.length/\∀l∈yX g a b,l.length<=m:=by
 refine loopN_inv (fun n (o:L2)=>o.length<=n/\∀l∈o,l.length<=m) (by simp) fun i o _ ho=> ?_;split
 ·refine⟨by simp;omega,fun l hl=> ?_⟩;rcases k_List_mem_append.1 hl with h|h
  ·exact ho.2 l h
  ·obtain rfl:l=gat g i:=by simpa using h
   exact XC hg i
 ·exact⟨by omega,ho.2⟩
def UL (hm:1<=m)(hg:∀l∈g,l.length<=m)(x y:Int):(nZ g x y).length<=g.length+1/\∀l∈nZ g x y,l.length<=2*m:=by
 have hr:=af7 hg (dW g x) (dW g y);unfold nZ;split
 ·refine⟨by simp;omega,fun l hl=> ?_⟩;rcases k_List_mem_append.1 hl with h|h
  ·have:=hr.2 l h;omega
  ·obtain rfl:l=gat g (dW g x).toNat:=by simpa using h
   have:=XC hg (dW g x).toNat;omega
 ·refine⟨by simp;omega,fun l hl=> ?_⟩;rcases k_List_mem_append.1 hl with h|h
  ·have:=hr.2 l h;omega
  ·have e:l=_:=k_List_mem_singleton.1 h;subst e;have h1:=XC hg (dW g x).toNat;have h2:=XC hg (dW g y).toNat;have h3:(if 0<=dW g x then gat g (dW g x).toNat else[x]).length<=m:=by split;(exact h1);(simpa using hm)
   have h4:(if 0<=dW g y then gat g (dW g y).toNat else[y]).length<=m:=by split;(exact h2);(simpa using hm)
   rw[aP];omega
variable {items:L1}{i k:Nat}
def anL (hk:k<items.length)(hik:i<k)(he:dW g (at1 items k)=dW g (at1 items i))(hno:∀j,i<j->j<k->dW g (at1 items j)≠dW g (at1 items i)):PY g items i=some k:=by
 unfold PY;rw[qI];refine⟨by simp[hik,he],by simpa using hk,fun j hj=> ?_⟩;by_cases hij:i<j
 ·simp[hno j hij hj]
 ·simp[hij]
def anK (hno:∀j,i<j->j<items.length->dW g (at1 items j)≠dW g (at1 items i)):PY g items i=none:=by
 unfold PY;rw[gY];intro j hj;have hj:=aY.1 hj;by_cases hij:i<j
 ·simp[hno j hij hj]
 ·simp[hij]
def J4 (g:L2)(items:L1)(k:Nat):List Con:=(List.range k).flatMap (sN g items)
def aoA (g:L2)(items:L1):J4 g items 0=[]:=rfl
def aaX (g:L2)(items:L1)(k:Nat):J4 g items (k+1)=J4 g items k++sN g items k:=by simp[J4,gD]
def aqU (g:L2)(items:L1)(k:Nat):(J4 g items k).length<=k:=by
 induction k with
 |zero=>simp[J4]
 |succ k ih=>have:=aaW g items k;rw[aaX,aP];omega
variable {l:List Ver}{c:Ver}
def MP (h:l[i]?=some c):tZ (l.take (i+1))=tZ (l.take i)++if c.same then[c]else[]:=zW _ h
def TD (h:l[i]?=some c):apart (l.take (i+1))=apart (l.take i)++if !c.same then[c]else[]:=zW _ h
def abT (kept:List Ver)(items:L1)(hk:kept.length<=8)(hi:items.length<=8):Fk 87 [nVers kept,nInts items] (vE (oD kept items)):=by
 refine fE [] ntmps87 fun _ _=> ?_;have hs0:tZ []=[]:=rfl;have ha0:apart []=[]:=rfl;simp;refine wlt Nat (fun i=>([(0,vV kept),(1,vN items),(5,wV (tZ (kept.take i))),(6,wV (apart (kept.take i))),(7,vI i)],kept.length-i,(i<=kept.length)/\((tZ (kept.take i)).length<=8/\(apart (kept.take i)).length<=8))) (0) ⟨by simp,by simp[hs0,ha0]⟩ ?_ (h0:=by simp[hs0,ha0]);rintro i ⟨h1,h2⟩;simp;apply gw<;>intro a
 ·obtain⟨c,hc⟩:=aN (l:=kept) (i:=i);have h1f:=MP hc;have h2f:=TD hc;have hms:(tZ (kept.take (i+1))).length<=8:=k_Nat_le_trans (bK _ _) (by simp;omega);have hma:(apart (kept.take (i+1))).length<=8:=k_Nat_le_trans (bK _ _) (by simp;omega);simp[hc];apply gw<;>intro b
  ·simp only[b,Bool.not_true,dN,if_true,if_false,dP]at h1f h2f;simp[hc];refine nxb (i+1) ⟨by omega,(⟨hms,hma⟩)⟩ (h3:=by simp[hs0,ha0,hc,h1f,h2f])
  ·simp only[b,xN,dN,if_true,if_false,dP]at h1f h2f;simp[hc];refine nxb (i+1) ⟨by omega,(⟨hms,hma⟩)⟩ (h3:=by simp[hs0,ha0,hc,h1f,h2f])
 ·simp at a;obtain rfl:i=kept.length:=by omega
  have hms:(tZ kept).length<=8:=k_Nat_le_trans (bK _ _) hk;have hma:(apart kept).length<=8:=k_Nat_le_trans (bK _ _) hk;rw[dA];generalize hM:tZ kept=M at*
  generalize hA:apart kept=A at*
  simp;refine wld [8] (Nat×L2) (fun(i,g)=>([(0,vV kept),(1,vN items),(5,wV M),(6,wV A),(8,.val (bV g)),(9,vI i)],M.length-i,(i<=M.length)/\(g=(M.take i).foldl (fun g v=>nZ g v.a v.b) [])/\(g.length<=i/\∀l∈g,l.length<=2^i))) ((0,[])) ⟨by omega,rfl,by simp⟩ ?_;rintro⟨i,g⟩ ⟨h1m,h2m,h3m⟩;simp;apply gw<;>intro am
  ·obtain⟨cm,hcm⟩:=aN (l:=M) (i:=i);have hm:=fA (fun g v=>nZ g v.a v.b) [] hcm;rw[←h2m]at hm;have hp:2^i<=256:=k_Nat_le_trans (iR (by omega) (show i<=8 by omega)) (by decide);have hp2:2^(i+1)=2*2^i:=by omega
   have hp1:1<=2^i:=Nat.one_le_two_pow;have hj:=UL (m:=2^i) hp1 h3m.2 cm.a cm.b;simp;refine wdt 12 ?_;simp[hcm];refine cd (zH g cm.a cm.b (by omega) (fun l hl=>by have:=h3m.2 l hl;omega)) ?_;simp;refine ai ?_;refine nxc (i+1,nZ g cm.a cm.b) [8] ⟨by omega,by rw[hm],by rw[hp2];exact⟨by omega,hj.2⟩⟩
  ·simp at am;rw[bS am]at h2m;have hG:g.length<=8/\∀l∈g,l.length<=256:=⟨by omega,fun l hl=>k_Nat_le_trans (h3m.2 l hl) (k_Nat_le_trans (iR (by omega) (show i<=8 by omega)) (by decide))⟩;have hJ:joined kept=g:=by rw[joined,hM,h2m]
   clear h2m h3m h1m am;have hz0:=aoA g items;simp;refine wl (fun(i:Nat)=>[(0,vV kept),(1,vN items),(6,wV A),(8,.val (bV g)),(10,vE (J4 g items i)),(11,vI i)]) (fun(i:Nat)=>items.length-i) (fun(i:Nat)=>(i<=items.length)) (0) (by omega) ?_ (h0:=by simp[hs0,ha0,hz0]);rintro i h1i;have hlen:=aqU g items i;simp;apply gw<;>intro d
   ·have hd:=aU (l:=items) (i:=i) d;have hfl:=aaX g items i;simp[hd];refine ck (iV g (at1 items i) (by omega) (fun l hl=>by have:=hG.2 l hl;omega)) ?_;obtain⟨ga,hga⟩:∃ga,dW g (at1 items i)=ga:=⟨_,rfl⟩;simp[hga];refine ai ?_;refine wlt Nat (fun k=>([(0,vV kept),(1,vN items),(6,wV A),(8,.val (bV g)),(10,vE (J4 g items i)),(11,vI i),(12,vI ga),(13,vI k)],items.length-k,(i<k/\k<=items.length)/\(∀j,i<j->j<k->dW g (at1 items j)≠ga))) (i+1) ⟨by omega,(fun j h1 h2=>absurd h2 (by omega))⟩ ?_;rintro k ⟨h1k,h2k⟩;simp;apply gv<;>intro e
    ·have e':=e;simp[e];apply gw<;>intro f
     ·have hdk:=aU (l:=items) (i:=k) e;have h10:((J4 g items i).length:Int)<10:=by omega
      simp[hdk];refine ck (iV g (at1 items k) (by omega) (fun l hl=>by have:=hG.2 l hl;omega)) ?_;simp;apply gv<;>intro m
      ·have m':=m;have hn:=anL e h1k.1 (m'.trans hga.symm) (fun j h1 h2=>by rw[hga];exact h2k j h1 h2);have hsc:sN g items i=[⟨i,k,true⟩]:=by rw[sN,if_pos (by omega),hn]
       rw[hsc]at hfl;simp[h10,m];refine nxb (i+1) (by first|omega|(simp;omega)|grind) (h3:=by simp[hs0,ha0,hz0,hga,hdk,h10,m,hfl])
      ·have m':=m;simp[m];refine nxa (k+1) ⟨by omega,(fun j h1 h2=>by by_cases hj:j=k;(subst hj;exact m);exact h2k j h1 (by omega))⟩
     ·simp at f;have hsc:sN g items i=[]:=by rw[sN,if_neg (by omega)]
      rw[hsc,dP]at hfl;simp;refine nxa (i+1) (by first|omega|(simp;omega)|grind) (h3:=by simp[hs0,ha0,hz0,hga,e,hfl])
    ·have e':=e;simp at e';have hn:=anK (g:=g) (items:=items) (i:=i) (fun j h1 h2=>by rw[hga];exact h2k j h1 (by omega));have hsc:sN g items i=[]:=by rw[sN,hn];simp
     rw[hsc,dP]at hfl;simp[e];refine nxa (i+1) (by first|omega|(simp;omega)|grind) (h3:=by simp[hs0,ha0,hz0,hga,e,hfl])
   ·simp at d;obtain rfl:i=items.length:=by omega
    have hvl:(FZ A items).length<=A.length:=jM _ _;have hsg:LB g items=J4 g items items.length:=rfl;simp;refine ck (G5 _ _) ?_;simp;refine ai ?_;simp[oD,hJ,hA,hsg]
def EX (l:List Ver)(hl:Qle l:=by omega):Fk 108 [nVers l] (vV (iC l)):=by
 refine fE [11] ntmps108 fun _ _=> ?_;simp;refine wld [3] (Nat×List Ver) (fun(i,out)=>([(0,vV l),(3,vV out),(4,vI i)],l.length-i,(i<=l.length)/\(out=(l.take i).foldl (fun o v=>kD (tQ v) o v) [])/\(out.length=i))) ((0,[])) ⟨by omega,rfl,rfl⟩ ?_;rintro⟨i,out⟩ ⟨h1,h2,h3⟩;simp;apply gw<;>intro a
 ·obtain⟨c,hc⟩:=aN (l:=l) (i:=i);have hm:=fA (fun o v=>kD (tQ v) o v) [] hc;rw[←h2]at hm;have hil:=PQ (tQ c) out c;simp;refine NV (fun(k:Nat)=>[(0,vV l),(3,vV out),(4,vI i),(5,vI k)]) (fun(k:Nat)=>(kD (tQ c) out c=out.take k++[c]++out.drop k)/\k<=out.length) ?_ ?_
  ·simp;refine wlt Nat (fun k=>([(0,vV l),(3,vV out),(4,vI i),(5,vI k)],k,(k<=out.length)/\(∀j,k<=j->(h:j<out.length)->tQ c out[j]=true))) (out.length) ⟨by omega,(fun j h1 h2=>absurd h2 (by omega))⟩ ?_;rintro k ⟨h1k,h2k⟩;simp;refine wdr ?_;simp;apply gv<;>intro e
   ·have e':=e;obtain⟨d,hd⟩:=aN (l:=out) (i:=k-1);have hk1:((k:Int)-1).toNat=k-1:=by omega
    have hk2:(k:Int)-1=((k-1:Nat):Int):=by omega
    simp[hc,e,hd,hk2];refine ai ?_;refine cd (tF d c) ?_;simp;apply gw<;>intro f
    ·simp[hk2];refine nxa (k-1) ⟨by omega,(fun j h1 h2=>by by_cases hj:j=k-1;(subst hj;have hdd:out[k-1]=d:=(by simpa[aB h2]using hd);rw[hdd];simp[tQ];omega);exact h2k j (by omega) h2)⟩
    ·simp at f;have hb:=OB (p:=tQ c) h1k h2k (.inr ⟨d,hd,by simp[tQ];omega⟩);simp;refine jn (k) ⟨by rw[kD,hb],h1k⟩
   ·have e':=e;simp at e';have hb:=OB (p:=tQ c) h1k h2k (.inl (by omega));simp[e];refine jn (k) ⟨by rw[kD,hb],h1k⟩
  rintro k ⟨h5,h6⟩;simp;refine wdf [(0,[32]),(4,[32,35,36]),(9,[40,41]),(10,[36,41,42]),(14,[42,45,46]),(15,[46,3])] [(0,vV l),(3,vV out),(4,vI i),(5,vI k)] [] (by simp) ?_;simp[hc];iterate 6 refine ai ?_
  refine nxc (i+1,out.take k++[c]++out.drop k) [3] ⟨by omega,by rw[hm,h5],by rw[←h5];omega⟩
 ·simp at a;rw[bS a]at h2;simp;grind[iC]
def akI {v:Ver}(hk:k<=l.length)(h1:(l.take k).all (fun u=>decide (gF u v<0))=true)(h2:k=l.length\/∃c,l[k]?=some c/\¬gF c v<0):acT l v=k:=by
 refine akB hk h1 ?_;rcases h2 with h|⟨c,h3,h4⟩
 ·exact .inl h
 ·exact .inr ⟨c,h3,by simpa using h4⟩
def UC (l:List Ver)(v:Ver)(hl:Qle l):Fk 107 [nVers l,mP v] (.tup [vV (zM l v),vB (F5 l v)]):=by
 refine fE [5,7,13] ntmps107 fun _ _=> ?_;have hix:0<=ix (fun y=>decide (y=v)) l↔l.any (fun y=>decide (y=v))=true:=iW;simp;refine ck (yI _) ?_;simp;apply gv<;>intro a
 ·have a':=a;simp at a';have ho:F5 l v=false:=by simp[F5,a']
  simp[a];refine ck (uT _) ?_;simp;refine kQ [] (dH 4) ?_;simp;simp[zM,ho]
 ·have a':=a;simp at a';simp[a];refine ck (BC _) ?_;simp;apply gv<;>intro b
  ·have b':=b;simp at b';have ho:F5 l v=false:=by simp only[F5];rw[b'];simp
   simp[b];refine ck (uT _) ?_;simp;refine kQ [] (dH 4) ?_;simp;simp[zM,ho]
  ·have b':=b;simp at b';simp[b];refine ck (af4 _ _) ?_;simp;apply gv<;>intro d
   ·have d':=d;have ho:F5 l v=false:=by simp only[F5];rw[hix.1 d];simp
    simp[d];refine ck (uT _) ?_;simp;refine kQ [] (dH 4) ?_;simp;simp[zM,ho]
   ·have d':=d;simp at d';simp[d];apply gw<;>intro e
    ·have ho:F5 l v=false:=by simp only[F5];rw[show decide (l.length≠8)=false by simp;omega];simp
     simp;refine ck (uT _) ?_;simp;refine kQ [] (dH 4) ?_;simp;simp[zM,ho]
    ·have hna:l.any (fun y=>decide (y=v))=false:=by rw[jW];intro h;exact d (hix.2 h)
     have ho:F5 l v:=by simp only[F5];rw[hna,a',b'];simp;omega
     simp;refine NV (fun(k:Nat)=>[(0,vV l),(3,.own (.bx true (mP v))),(6,vI k)]) (fun(k:Nat)=>(acT l v=k)/\k<=l.length) ?_ ?_
     ·simp;refine wlt Nat (fun k=>([(0,vV l),(3,.own (.bx true (mP v))),(6,vI k)],l.length-k,(k<=l.length)/\((l.take k).all (fun u=>decide (gF u v<0))=true))) (0) ⟨by omega,rfl⟩ ?_;rintro k ⟨h1k,h2k⟩;simp;refine wdr ?_;simp;apply gv<;>intro f
      ·have f':=f;obtain⟨c,hc⟩:=aN (l:=l) (i:=k);have hcc:l[k]=c:=by simpa[aB f]using hc
       simp[f,hcc];refine cd (tF c v) ?_;simp;apply gw<;>intro g
       ·simp;refine nxa (k+1) ⟨by omega,(bW hc h2k (by simpa using g))⟩
       ·simp at g;simp;refine jn (k) ⟨(akI h1k h2k (.inr ⟨c,hc,by omega⟩)),h1k⟩
      ·have f':=f;simp at f';simp[f];refine jn (k) ⟨(akI h1k h2k (.inl (by omega))),h1k⟩
     rintro k ⟨h5,h6⟩;simp;refine wdf [(0,[43]),(4,[43,46,47]),(6,[48,49]),(7,[47,49,50]),(11,[50,53,54]),(12,[54,4]),(13,[5])] [(0,vV l),(3,.own (.bx true (mP v))),(6,vI k)] [] (by simp) ?_;simp;iterate 5 refine ai ?_
     refine kQ [] (dH 4) ?_;simp;simp[zM,ho,h5]
def alB (o:List Ver)(c:Ver):(rE o c).length<=o.length+1:=by
 unfold rE;split
 ·simp
 ·split
  ·simp
  ·split<;>simp
def Z7 (l:List Ver):(gN l).length<=l.length:=by
 have:=F4 rE alB l [];simpa[gN]using this
def ac3 (l:List Ver):(uD l).length=l.length:=by
 have:=DW DF l [];simpa[uD]using this
def JL (l:List Ver):(iC l).length=l.length:=by
 have:=DW tQ l [];simpa[iC]using this
def ao3 (l:List Ver)(v:Ver):(zM l v).length<=l.length+1:=by
 unfold zM;split
 ·simp;omega
 ·omega
def ak2 (l:List Ver)(c:Ver):uD (l++[c])=kD (DF c) (uD l) c:=by simp[uD,k_List_foldl_append]
def vM (l:List Ver)(hl:l.length<=8)(hv:kZ l):Fk 50 [nVers l] (.tup [vV (jZ l),vV (jS l)]):=by
 refine fE [19,48] ntmps50 fun _ _=> ?_;have hcl:=Z7 l;have hap:apart (gN l)=apart (gN l):=rfl;have hks:jZ l=iC (JM l).2.1:=rfl;have hrs:jS l=iC (JM l).2.2:=rfl;have hst:JM l=(uD (tZ (gN l))).foldl (vD (apart (gN l))) ([],apart (gN l),[]):=rfl;simp;refine ck (KU l (by omega) hv) ?_;generalize gN l=cur at hcl hap hst|-
 simp;refine wld [6] (Nat×List Ver×List Ver) (fun(i,A,M)=>([(4,wV cur),(5,wV A),(6,vV M),(7,vI i)],cur.length-i,(i<=cur.length)/\(A=apart (cur.take i)/\M=uD (tZ (cur.take i)))/\(A.length<=i/\M.length<=i))) ((0,[],[])) ⟨by simp,(⟨rfl,rfl⟩),by simp⟩ ?_;rintro⟨i,A,M⟩ ⟨h1,h2,h3⟩;simp;apply gw<;>intro a
 ·obtain⟨c,hc⟩:=aN (l:=cur) (i:=i);have h1f:=MP hc;have h2f:=TD hc;simp[hc];apply gw<;>intro b
  ·simp at b;simp only[b,xN,dN,if_true,if_false,dP]at h1f h2f;simp[hc];iterate 2 refine ai ?_
   refine nxc (i+1,A++[c],M) [6] ⟨by omega,(⟨by rw[h2f,h2.1],by rw[h1f,h2.2]⟩),by simp;omega⟩
  ·simp at b;simp only[b,Bool.not_true,dN,if_true,if_false,dP]at h1f h2f;have hil:=PQ (DF c) M c;simp;refine NV (fun(k:Nat)=>[(4,wV cur),(5,wV A),(6,vV M),(7,vI i),(8,vI k)]) (fun(k:Nat)=>(kD (DF c) M c=M.take k++[c]++M.drop k)/\k<=M.length) ?_ ?_
   ·simp;refine wlt Nat (fun k=>([(4,wV cur),(5,wV A),(6,vV M),(7,vI i),(8,vI k)],k,(k<=M.length)/\(∀j,k<=j->(h:j<M.length)->DF c M[j]=true))) (M.length) ⟨by omega,(fun j h1 h2=>absurd h2 (by omega))⟩ ?_;rintro k ⟨h1k,h2k⟩;simp;refine wdr ?_;simp;apply gv<;>intro e
    ·have e':=e;obtain⟨d,hd⟩:=aN (l:=M) (i:=k-1);have hk1:((k:Int)-1).toNat=k-1:=by omega
     have hk2:(k:Int)-1=((k-1:Nat):Int):=by omega
     simp[hc,e,hd,hk2];refine ai ?_;apply gw<;>intro f
     ·simp[hk2];refine nxa (k-1) ⟨by omega,(fun j h1 h2=>by by_cases hj:j=k-1;(subst hj;have hdd:M[k-1]=d:=(by simpa[aB h2]using hd);rw[hdd];simp[DF];omega);exact h2k j (by omega) h2)⟩
     ·simp at f;have hb:=OB (p:=DF c) h1k h2k (.inr ⟨d,hd,by simp[DF];omega⟩);simp;refine jn (k) ⟨by rw[kD,hb],h1k⟩
    ·have e':=e;simp at e';have hb:=OB (p:=DF c) h1k h2k (.inl (by omega));simp[e];refine jn (k) ⟨by rw[kD,hb],h1k⟩
   rintro k ⟨h5,h6⟩;simp;refine wdf [(0,[57]),(4,[57,60,61]),(9,[65,66]),(10,[61,66,67]),(14,[67,70,71]),(15,[71,6])] [(4,wV cur),(5,wV A),(6,vV M),(7,vI i),(8,vI k)] [] (by simp) ?_;simp[hc];iterate 6 refine ai ?_
   refine nxc (i+1,A,M.take k++[c]++M.drop k) [6] ⟨by omega,(⟨by rw[h2f,h2.1],by rw[h1f,ak2,←h2.2,h5]⟩),by rw[←h5];omega⟩
 ·simp at a;rw[bS a]at h2;obtain⟨rfl,rfl⟩:=h2;clear hap;generalize apart cur=A at*
  generalize uD (tZ cur)=M at*
  simp;refine ck (uT _) ?_;simp;refine wld [11,9] (Nat×L2×List Ver×List Ver) (fun(i,g,kp,rf)=>([(5,wV A),(6,vV M),(9,vV kp),(10,wV rf),(11,.val (bV g)),(12,vI i)],M.length-i,(i<=M.length)/\((g,kp,rf)=(M.take i).foldl (vD A) ([],A,[]))/\(g.length<=i/\∀l∈g,l.length<=2^i)/\(kp.length<=A.length+i/\rf.length<=i))) ((0,[],A,[])) ⟨by simp,rfl,by simp,by simp⟩ ?_;rintro⟨i,g,kp,rf⟩ ⟨h1m,h2m,h3m,h4m⟩;simp;apply gw<;>intro am
  ·obtain⟨cm,hcm⟩:=aN (l:=M) (i:=i);have hm:=fA (vD A) ([],A,[]) hcm;rw[←h2m]at hm;have hp:2^i<=256:=k_Nat_le_trans (iR (by omega) (show i<=8 by omega)) (by decide);have hp2:2^(i+1)=2*2^i:=by omega
   have hp1:1<=2^i:=Nat.one_le_two_pow;have hj:=UL (m:=2^i) hp1 h3m.2 cm.a cm.b;have hsl:=JL kp;have hal:=ao3 (iC kp) cm;simp;refine wdt 12 ?_;simp[hcm];refine cd (zH g cm.a cm.b (by omega) (fun l hl=>by have:=h3m.2 l hl;omega)) ?_;simp;refine ck (ZB (nZ g cm.a cm.b) A (by omega) (fun l hl=>by have:=hj.2 l hl;omega) (by omega)) ?_;simp;apply gw<;>intro b
   ·simp at b;have hu:vD A (g,kp,rf) cm=(nZ g cm.a cm.b,zM (iC kp) cm,rf):=if_pos (by simpa using b);simp;refine wdf [(7,[105,98]),(10,[106,9])] [(5,wV A),(6,vV M),(9,vV kp),(10,wV rf),(11,.val (bV (nZ g cm.a cm.b))),(12,vI i)] [] (by simp) ?_;simp;refine cd (EX kp) ?_;simp[hcm];refine cd (UC (iC kp) cm (by omega)) ?_;simp;refine ai ?_;refine nxc (i+1,nZ g cm.a cm.b,zM (iC kp) cm,rf) [11,9] ⟨by omega,by rw[hm,hu],by rw[hp2];exact⟨by omega,hj.2⟩,by omega⟩
   ·simp at b;have hu:vD A (g,kp,rf) cm=(g,kp,rf++[cm]):=if_neg (by simpa using b);simp[hcm];iterate 2 refine ai ?_
    refine nxc (i+1,g,kp,rf++[cm]) [11,9] ⟨by omega,by rw[hm,hu],by rw[hp2];exact⟨by omega,fun l hl=>by have:=h3m.2 l hl;omega⟩,by simp;omega⟩
  ·simp at am;rw[bS am,←hst]at h2m;have e1:(JM l).2.1=kp:=by rw[←h2m]
   have e2:(JM l).2.2=rf:=by rw[←h2m]
   rw[hks,hrs,e1,e2];simp;refine kQ [] (dH 10) ?_;simp;refine ck (EX kp) ?_;simp;refine ck (EX rf) ?_;simp
def mJ (l:List Ver)(hl:Qle l):Fk 137 [nVers l] (wV l):=by
 refine fE [2,5] ntmps137 fun _ _=> ?_;have hle:l.length<=1073741824:=by omega
 simp;refine aH8 1 ?_;simp[hle];intro hnil;subst hnil;try simp[hle]
 refine kQ [] (LC (L:=[(2,.own (oVers []))]) (by simp)) ?_;simp
variable {α:Type}
def auI {β:Type}(f:β->α->β)(z:β){l:List α}{c:α}(h:l[i]?=some c):(l.take (i+1)).foldl f z=f ((l.take i).foldl f z) c:=fA f z h
def ajP (l:List Ver):(apart l).length+(tZ l).length=l.length:=by
 induction l with
 |nil=>rfl
 |cons v l ih=>unfold apart tZ at ih|-;cases hv:v.same<;>simp[hv]<;>omega
def byT (a b:Ver):Int:=cmpI b.time a.time
def gT (l:List Ver):∀a∈l,∀b∈l,fD prog 134 [mP a,mP b] (fun r=>r=vI (byT a b)):=fun a _ b _=>KN a b
def gC (l:List Ver):∀a∈l,∀b∈l,fD prog 139 [mP a,mP b] (fun r=>r=vI (gF a b)):=fun a _ b _=>zX a b
def aCM (h:∀v∈l,fH v)(hc:fH c):∀v∈l++[c],inT v.a/\inT v.b:=fun v hv=>by
 have hv2:fH v:=by
  rcases k_List_mem_append.1 hv with h2|h2
  ·exact h v h2
  ·rw[k_List_mem_singleton.1 h2];exact hc
 exact⟨(jP hv2).1,(jP hv2).2.1⟩
def atG (l:List Ver):kR (cfB byT) l=uD l:=aiX l
def vL (l:List Ver)(hl:Qle l)(hv:kZ l):Fk 69 [nVers l] (.tup [wV (jZ l),wV (jS l)]):=by
 refine fE [20] ntmps69 fun _ _=> ?_;have h8:=(LJ hv).2.2;have hse:=afO hv;obtain⟨hcv,_⟩:=apI hv;have hcl:=adK l;simp;refine ck (KH l hl hv) ?_;unfold afN at hse;generalize gN l=cur at*
 simp;refine wlt (Nat×List Ver×List Ver) (fun(i,ke,op)=>([(4,wV ke),(5,.val (.one (.slice none 0 0))),(6,wV op),(12,wV cur),(13,vI cur.length),(14,vI i)],cur.length-i,(i<=cur.length)/\(ke=apart (cur.take i))/\(op=tZ (cur.take i)))) ((0,[],[])) ⟨by omega,rfl,rfl⟩ ?_;rintro⟨i,ke,op⟩ ⟨h1,h2,h3⟩;simp;apply gw<;>intro a
 ·obtain⟨c,hc⟩:=aN (l:=cur) (i:=i);have hs1:=MP hc;have hs2:=TD hc;have hm:=ajP (cur.take i);rw[←h2,←h3]at hm;have htl:(cur.take i).length<=8:=by simp;omega
  simp[hc];apply gw<;>intro b
  ·simp;refine nxb (i+1,ke,op++[c]) ⟨by omega,by rw[hs2,h2];simp[b],by rw[hs1,h3];simp[b]⟩
  ·simp;refine nxb (i+1,ke++[c],op) ⟨by omega,by rw[hs2,h2];simp[b],by rw[hs1,h3];simp[b]⟩
 ·simp at a;have hcur:cur.take i=cur:=k_List_take_of_length_le (by omega);rw[hcur]at h2 h3;have hm:=ajP cur;rw[←h2,←h3]at hm;have hbt:=atG op;have hbl:=ac3 op;simp;refine nC rfl (ap3 op byT 134 aG5 aHL (gT op) (by omega)) ?_;rintro r d ⟨rfl,rfl⟩;have hLv:∀v∈uD op,fH v:=fun v hv=>hcv v (by have:=(IV op).mem_iff.1 hv;rw[h3]at this;exact(dY.1 this).1);have hkv:∀v∈ke,fH v:=fun v hv=>hcv v (by rw[h2]at hv;exact(dY.1 hv).1);rw[←h2,←h3]at hse;generalize uD op=L at*
  simp[hbt];refine kQ [] (dH 6) ?_;simp;refine wlt (Nat×List Ver×List Ver) (fun(j,k2,re)=>([(4,wV k2),(5,wV re),(6,vV L),(31,vV L),(32,vI L.length),(33,vI j)],L.length-j,(j<=L.length)/\((L.take j).foldl IJ (ke,[])=(k2,re))/\(k2.length+re.length=ke.length+j)/\(∀v∈k2,fH v=true))) ((0,ke,[])) ⟨by omega,rfl,by simp,hkv⟩ ?_;rintro⟨j,k2,re⟩ ⟨h4,h5,h6,h7⟩;simp;apply gw<;>intro d
  ·obtain⟨c,hc⟩:=aN (l:=L) (i:=j);have hfs:=auI IJ (ke,[]) hc;rw[h5]at hfs;have hcv2:=hLv c (aA hc);have hin:=aCM h7 hcv2;simp[hc];refine wdf [(1,[37,38,4]),(3,[39,40]),(4,[38,40,41])] [(4,wV k2),(5,wV re),(6,vV L),(10,.own (.bx true (mP c))),(31,vV L),(32,vI L.length),(33,vI j)] [] (by simp) ?_;simp;refine cf (mJ k2 (by omega)) ?_;simp;refine ai ?_;refine cdz (af2 (k2++[c]) (by simp;omega) hin) ?_;simp;apply gw<;>intro e
   ·simp;refine nxb (j+1,k2,re++[c]) ⟨by omega,by rw[hfs,IJ,if_pos e],by simp;omega,h7⟩
   ·simp;refine nxb (j+1,k2++[c],re) ⟨by omega,by rw[hfs,IJ,if_neg (by simp[e])],by simp;omega,(fun v hv=>by rcases k_List_mem_append.1 hv with h|h;(exact h7 v h);(rw[k_List_mem_singleton.1 h];exact hcv2))⟩
  ·simp at d;rw[k_List_take_of_length_le (by omega)]at h5;rw[h5]at hse;have hk:=SX k2;have hr:=SX re;have hk2:=hse.1;have hr2:=hse.2;simp;refine nC rfl (alV k2 gF 139 aEL aER (gC k2) (by omega)) ?_;rintro r d ⟨rfl,rfl⟩;simp[hk,hk2];refine nC rfl (alV re gF 139 aEL aER (gC re) (by omega)) ?_;rintro r d ⟨rfl,rfl⟩;simp[hr,hr2]
def KO (v:Ver):Fk 214 [mP v] (vB v.same):=by
 refine fE [] ntmps214 fun _ _=> ?_;simp
def alU (l:List Ver)(p:Ver->Bool)(g:FuncId)(E:Dv.Enters prog g)(U:T (1000000+g)=⟨.no,0,.any 0⟩)(G:∀c∈l,fD prog g [mP c] (fun r=>r=vB (p c)))(hl:Qle l):Fk 294 [nVers l,.one (.func (.func g) #[] #[])] (vI (ix p l)):=by
 refine fE [] ntmps294 fun _ _=> ?_;simp;refine wlt Nat (fun i=>([(0,vV l),(1,.val (.one (.func (.func g) #[] #[]))),(7,vI l.length),(8,vI i)],l.length-i,(i<=l.length)/\((l.take i).any p=false))) (0) ⟨by omega,rfl⟩ ?_;rintro i ⟨h1,h2⟩;simp;apply gw<;>intro a
 ·obtain⟨c,hc⟩:=aN (l:=l) (i:=i);simp[E,U,hc];refine ck ((G c (aA hc))) ?_;simp;apply gw<;>intro e
  ·have hn:=BI hc h2 (by simp[e]);simp[hn]
  ·simp;refine nxa (i+1) ⟨by omega,(jB hc h2 (by simp[e]))⟩
 ·simp at a;have hf:=mR h2 a;have hx:=qQ hf;simp[hx]
variable {p:α->Bool}
def amE {l:List α}(h:ix p l≠ -1):∃i:Nat,ix p l=i/\i<l.length/\(∀k c,k<i->l[k]?=some c->p c=false)/\∀c,l[i]?=some c->p c=true:=by
 unfold ix at h|-
 cases hf:l.findIdx? p with
 |none=>rw[hf]at h;exact absurd rfl h
 |some i=>
  rw[eY]at hf;obtain⟨h1,h2,h3⟩:=hf;refine⟨i,rfl,h1,fun k c hk hc=> ?_,fun c hc=> ?_⟩
  ·have hkl:k<l.length:=by omega
   rw[aB hkl]at hc;have:=h3 k hk;rw[k_Option_some_inj hc]at this;simpa using this
  ·rw[aB h1]at hc;rw[k_Option_some_inj hc]at h2;exact h2
def axU {l:List α}(h:∀k c,k<i->l[k]?=some c->p c):(l.take i).filter p=l.take i:=by
 refine mW.2 fun c hc=> ?_;obtain⟨k,hk,hkc⟩:=List.mem_iff_getElem.1 hc;have hk3:k<min i l.length:=by simpa using hk
 have hk4:k<l.length:=by omega
 exact h k c (by omega) (by rw[←hkc,List.getElem_take,aB hk4])
def agF {m:List α}{c:α}(h:i<m.length):(m.set i c).take (i+1)=m.take i++[c]:=by
 rw[dV (c:=c) (by rw[bR h])];congr 1;rw[List.take_set_of_le (k_Nat_le_refl _)]
def aFH (l:List Ver)(p:Ver->Bool)(g:FuncId)(E:Dv.Enters prog g)(U:T (1000000+g)=⟨.no,0,.any 0⟩)(G:∀c∈l,fD prog g [mP c] (fun r=>r=vB (p c)))(hl:Qle l):awG prog 213 [.one (.bool false),.one (.func (.func g) #[] #[])] 0 (oVers l) (fun res'=>res'=vV (l.filter fun v=> !p v)):=by
 refine fT [7,22,24] ntmps213 fun _ _=> ?_;simp;refine ck (alU l p g E U G hl) ?_;simp;apply gw<;>intro a
 ·have hfl:(l.filter fun v=> !p v)=l:=mW.2 fun v hv=>by cases hpv:p v;rfl;exact absurd (iW.2 (bP.2 ⟨v,hv,hpv⟩)) (by omega)
  simp;refine kQ [] (dH 4) ?_;simp[hfl]
 ·obtain⟨i0,hi0,hil,hpre,hat⟩:=amE (p:=p) (l:=l) a;obtain⟨c0,hc0⟩:=aN (l:=l) (i:=i0) hil;have hpc0:=hat c0 hc0;have h40:l.take i0=(l.take (i0+1)).filter fun v=> !p v:=by rw[dV hc0,gX,axU (fun k c hk hc=>by rw[hpre k c hk hc];rfl)];simp[hpc0]
  simp[hi0];refine ai ?_;refine wlt (Nat×Nat×List Ver) (fun(j,i,m)=>([(0,wV m),(1,.val (.one (.func (.func g) #[] #[]))),(5,vI i),(6,vI j)],l.length-j,(j<=l.length)/\i<j/\m.length=l.length/\(m.take i=(l.take j).filter fun v=> !p v)/\(∀k,j<=k->m[k]?=l[k]?))) ((i0+1,i0,l)) ⟨by omega,by omega,rfl,h40,(fun _ _=>rfl)⟩ ?_;rintro⟨j,i,m⟩ ⟨h1,h2,h3,h4,h5⟩;simp[h3];apply gw<;>intro b
  ·obtain⟨c,hc⟩:=aN (l:=l) (i:=j);have hm:=(h5 j (k_Nat_le_refl _)).trans hc;have hil2:i<m.length:=by omega
   simp[E,U,hm];refine ck ((G c (aA hc))) ?_;simp;apply gw<;>intro d
   ·simp at d;obtain⟨m2,hm2⟩:∃m2,m.set i c=m2:=⟨_,rfl⟩;have hst:(m.map mP).set i (mP c)=m2.map mP:=by rw[←List.map_set,hm2]
    obtain⟨ci,hmi⟩:=aN (l:=m) (i:=i) hil2;simp[hst,hmi];refine nxb (j+1,i+1,m2) ⟨by omega,by omega,by rw[←hm2,rQ];exact h3,by rw[←hm2,agF hil2,h4,dV hc,gX];simp[d],(fun k hk=>by rw[←hm2,bI (by omega)];exact h5 k (by omega))⟩
   ·simp at d;simp;refine nxa (j+1,i,m) ⟨by omega,by omega,h3,by rw[h4,dV hc,gX];simp[d],(fun k hk=>h5 k (by omega))⟩
  ·simp at b;have hjl:j=l.length:=by omega
   rw[hjl,dA]at h4;have hil3:i<=m.length:=by omega
   simp;refine aGP 2 ?_;have hz:D.fzs (List.replicate (l.length-i) (D.any 4))=List.replicate (l.length-i) (D.any 4):=by rw[D.jC,wS];rfl
   have hil4:i<=l.length:=by omega
   have hlm:min i l.length=i:=by omega
   have hr:(l.filter fun v=> !p v).map mP=(m.map mP).take i:=by rw[←h4,uX]
   simp[h3];refine ai ?_;refine kQ [] (dH 0) ?_;simp[h3,hz,hlm,hr]
   skip
def GJ (l:List Ver)(items:L1)(hs:Qle l)(hi:Qle items):Fk 215 [nVers l,nInts items] (vE (FZ l items)):=by
 refine fE [] ntmps215 fun _ _=> ?_;simp;refine wlt (Nat×List Con) (fun(i,out)=>([(1,vN items),(5,vE out),(10,vV l),(11,vI l.length),(12,vI i)],l.length-i,(i<=l.length)/\(out=(l.take i).filterMap (IL items))/\(out.length<=i))) ((0,[])) ⟨by omega,rfl,by simp⟩ ?_;rintro⟨i,out⟩ ⟨h1,h2,h3⟩;simp;apply gw<;>intro a
 ·obtain⟨c,hc⟩:=aN (l:=l) (i:=i);have hm:=A7 (IL items) hc;rw[←h2]at hm;have hpa:=XL items c.a;have hpb:=XL items c.b;simp[hc];refine wdr ?_;simp;refine cd (jI items c.a hi) ?_;simp[hpa];refine cd (jI items c.b hi) ?_;simp[hpb];apply gv<;>intro e
  ·have e':=e;simp[e];apply gw<;>intro b
   ·have hv:IL items c=some ⟨place items c.a,place items c.b,c.same⟩:=if_pos ⟨by omega,by omega⟩;simp;refine nxb (i+1,out++[⟨place items c.a,place items c.b,c.same⟩]) ⟨by omega,by rw[hm,hv];rfl,by simp;omega⟩
   ·simp at b;have hv:IL items c=none:=if_neg (by rintro⟨h1,h2⟩;omega);simp;refine nxa (i+1,out) ⟨by omega,by rw[hm,hv];simp,by omega⟩
  ·have e':=e;simp at e';have hv:IL items c=none:=if_neg (by rintro⟨h1,h2⟩;omega);simp[e];refine nxa (i+1,out) ⟨by omega,by rw[hm,hv];simp,by omega⟩
 ·simp at a;rw[bS a]at h2;simp;grind[FZ]
def gS (l:List Ver):∀c∈l,fD prog 214 [mP c] (fun r=>r=vB c.same):=fun c _=>KO c
def NJ (kept:List Ver)(items:L1)(hk:kept.length<=8)(hkv:∀v∈kept,inT v.a/\inT v.b)(hi:items.length<=8)(hiv:∀x∈items,inT x):Fk 122 [nVers kept,nInts items] (vE (alA kept items)):=by
 refine fE [] ntmps122 fun _ _=> ?_;simp;refine ck (mJ kept (by omega)) ?_;have hap:(kept.filter fun v=> !v.same)=apart kept:=rfl;have hapl:(apart kept).length<=8:=k_Nat_le_trans (bK _ _) hk;simp;refine atI rfl (aFH kept (fun v=>v.same) 214 aG7 aHN (gS kept) (by omega)) ?_;simp[hap];refine ck (GJ (apart kept) items (by omega) (by omega)) ?_;simp;refine ck (A9 kept (by omega) hkv) ?_;obtain⟨o,ho⟩:∃o,jL kept=o:=⟨_,rfl⟩;have hol:o.length=400:=by rw[←ho];exact AB kept
 obtain⟨V,hV⟩:∃V,FZ (apart kept) items=V:=⟨_,rfl⟩;have hVl:V.length<=8:=by rw[←hV];exact k_Nat_le_trans (jM _ _) hapl
 have hws:D.ws (o.map dI)=400:=by have:=qN o 400;rw[k_List_take_of_length_le (by (try unfold Qle);rw[aV];omega),hol]at this;simpa using this
 simp[ho,hV,hws,hol];refine wlt (Nat×List Con) (fun(b,out)=>([(1,vN items),(6,vE out),(7,.own (.bx true (.agg (o.map dI)))),(18,vN items),(19,vI items.length),(20,vI b)],items.length-b,(b<=items.length)/\(out=V++BL o items b)/\(out.length<=8+b))) ((0,V)) ⟨by omega,by simp[BL],by omega⟩ ?_;rintro⟨b,out⟩ ⟨h1,h2,h3⟩;simp;apply gw<;>intro a
 ·have hb:=aU a;have hbi:=hiv _ (aA hb);have hls:=af9 o items b;obtain⟨y,hy⟩:∃y,at1 items b=y:=⟨_,rfl⟩;rw[hy]at hb hbi;have hoy:=agP hol hbi;have hwy:D.ws (List.take y.toNat (o.map dI))=y.toNat:=by rw[qN,hol];have:=hbi.1;have:=hbi.2;omega
  have hy0:=hbi.1;have hy1:=hbi.2;simp;refine ai ?_;refine wlt Nat (fun k=>([(1,vN items),(6,vE out),(7,.own (.bx true (.agg (o.map dI)))),(8,vI b),(9,vI ((k:Int)-1)),(18,vN items),(19,vI items.length),(20,vI b)],k,(k<=b)/\(MJ o items b=match IA (aaL o items b) k with|some a=>[⟨a,b,true⟩]|none=>[]))) (b) ⟨(k_Nat_le_refl _),rfl⟩ ?_;rintro k ⟨h4,h5⟩;simp;apply gw<;>intro d
  ·obtain⟨q,rfl⟩:∃q,k=q+1:=⟨k-1,by omega⟩;have hq:=aU (l:=items) (i:=q);have hqi:=hiv _ (aA hq);obtain⟨x,hx⟩:∃x,at1 items q=x:=⟨_,rfl⟩;rw[hx]at hq hqi;have hox:=agP hol hqi;have hwx:D.ws (List.take x.toNat (o.map dI))=x.toNat:=by rw[qN,hol];have:=hqi.1;have:=hqi.2;omega
   have hx0:=hqi.1;have hx1:=hqi.2;have hq2:((q+1:Nat):Int)-1=q:=by omega
   have hox2:=(aD.1 hox).2;have hoy2:=(aD.1 hoy).2;have hpg:IA (aaL o items b) (q+1)=if at1 o x.toNat=at1 o y.toNat then some q else IA (aaL o items b) q:=by rw[IA,aaL,hx,hy];simp
   simp;refine wdr ?_;simp[hol,hq,hb,hox2,hoy2,hwx,hwy,hx0,hx1,hy0,hy1];apply gw<;>intro e
   ·simp;refine nxb (b+1,out++[⟨q,b,true⟩]) ⟨by omega,by rw[hls,h5,hpg,if_pos e,h2,bN],by simp;omega⟩
   ·simp;refine nxa (q) ⟨by omega,by rw[h5,hpg,if_neg e]⟩
  ·simp at d;obtain rfl:k=0:=by omega
   rw[IA]at h5;simp;refine nxa (b+1,out) ⟨by omega,by rw[hls,h5,h2];simp,by omega⟩
 ·simp at a;rw[show b=items.length by omega]at h2;have hr:alA kept items=out:=by rw[h2,←hV,←ho];rfl
  simp[hr]
def AV (x:Int):Bool:= !inR x 0 1000
def IQ (x:Int):Fk 314 [dI x] (vB (AV x)):=by
 refine fE [] ntmps314 fun _ _=> ?_;simp;refine ck (bB x 0 1000) ?_;simp;grind[AV]
def alR (l:L1)(hl:Qle l):Fk 271 [nInts l,.one (.func (.func 314) #[] #[])] (vI (ix AV l)):=by
 refine fE [] ntmps271 fun _ _=> ?_;simp;refine wlt Nat (fun i=>([(0,vN l),(1,.val (.one (.func (.func 314) #[] #[]))),(7,vI l.length),(8,vI i)],l.length-i,(i<=l.length)/\((l.take i).any AV=false))) (0) ⟨by omega,rfl⟩ ?_;rintro i ⟨h1,h2⟩;simp;apply gw<;>intro a
 ·obtain⟨c,hc⟩:=aN (l:=l) (i:=i);simp[hc];refine ck (IQ c) ?_;simp;apply gw<;>intro b
  ·have hn:=BI hc h2 (by simp[b]);simp[hn]
  ·simp;refine nxa (i+1) ⟨by omega,(jB hc h2 (by simp[b]))⟩
 ·simp at a;have hf:=mR h2 a;have hx:=qQ hf;simp[hx]
def apV (l:L1)(hl:Qle l):Fk 193 [nInts l,.one (.func (.func 314) #[] #[])] (vB (l.any AV)):=by
 refine fE [] ntmps193 fun _ _=> ?_;have hq:decide (0<=ix AV l)=l.any AV:=by rw[bG,decide_eq_true_eq];exact iW
 simp;refine ck (alR l hl) ?_;simp[hq]
def avO (l:L1):l.any AV= !(l.all IE):=by
 induction l with
 |nil=>rfl
 |cons x l ih=>rw[List.any_cons,uV,ih,AV,IE];simp
def nU (l:L1)(hl:Qle l:=by first|omega|grind):Fk 225 [nInts l] (vB (uU l)):=by
 refine fE [] ntmps225 fun _ _=> ?_;simp;apply gv<;>intro e
 ·have e':=e;simp[e];refine ck (apV l hl) ?_;simp;rw[avO,uU,decide_eq_true (show l.length=6 by omega)];simp
 ·have e':=e;simp[e];rw[uU,decide_eq_false (show¬l.length=6 by omega)];simp
def NG (l w:L1)(hl:Qle l:=by first|omega|grind)(hw:Qle w:=by first|omega|grind):Fk 364 [nInts l,nInts w] (vI (oP l w)):=by
 refine fE [] ntmps364 fun _ _=> ?_;simp;apply gw<;>intro e
 ·simp;simp[oP];omega
 ·simp;refine wlt (Nat×Int×Int) (fun(i,s,t)=>([(0,vN l),(1,vN w),(5,vI s),(6,vI t),(14,vN l),(15,vI l.length),(16,vI i)],l.length-i,(i<=l.length)/\((List.range i).all (sP l w)=true)/\(s=xG l w i)/\(t=uE w i))) ((0,0,0)) ⟨by omega,rfl,rfl,rfl⟩ ?_;rintro⟨i,s,t⟩ ⟨h1,h2,h3,h4⟩;simp;apply gw<;>intro a
  ·have hl1:=aU (l:=l) (i:=i);have hw1:=aU (l:=w) (i:=i);have hb:∀j<i,sP l w j:=fun j hj=>aI.1 h2 j (aY.2 hj);have hN:=CS i hb;have hD:=CR i hb;simp[hl1];refine ck (bB (at1 l i) 0 1000) ?_;simp;apply gv<;>intro e
   ·have e':=e;simp at e';have hn:=mZ a (P:=sP l w) (by simp[sP]at*;omega);simp[e];all_goals simp[oP,hn]
   ·have e':=e;simp at e';simp[hw1,e];refine ck (bB (at1 w i) 0 1000) ?_;simp;apply gw<;>intro f
    ·simp at f;have hn:=mZ a (P:=sP l w) (by simp[sP]at*;omega);simp;all_goals simp[oP,hn]
    ·simp at f;have hc:sP l w i:=by simp[sP]at*;omega
     have hp1:0<=at1 l i*at1 w i:=Int.mul_nonneg (by simp at*;omega) (by simp at*;omega);have hp2:at1 l i*at1 w i<=1000*1000:=Int.mul_le_mul (by simp at*;omega) (by simp at*;omega) (by simp at*;omega) (by omega);simp[hw1];iterate 4 refine ai ?_
     refine nx (i+1,s+at1 l i*at1 w i,t+at1 w i) ⟨by omega,(oK h2 hc),by rw[h3,xG,xG,aL],by rw[h4,uE,uE,aL]⟩
  ·simp at a;have hi:l.length=i:=by omega
   subst hi;have hb:∀j<l.length,sP l w j:=fun j hj=>aI.1 h2 j (aY.2 hj);have hN:=CS l.length hb;have hD:=CR l.length hb;simp;apply gw<;>intro b
   ·simp;all_goals simp[oP,←h4,b]
   ·simp;iterate 2 refine ai ?_
    all_goals(rw[oP,if_pos ⟨by omega,h2⟩,←h4,if_neg b,←h3])
def VW (s:Sco)(f:L1)(hs:Qle s.weights:=by first|omega|grind)(hf:Qle f:=by first|omega|grind):Fk 292 [H7 s,nInts f] (vI (mF s f)):=by
 refine fE [] ntmps292 fun _ _=> ?_;simp;refine ck (oQ s hs) ?_;simp;apply gv<;>intro e
 ·have e':=e;simp at e';simp[e];grind[mF]
 ·have e':=e;simp at e';simp[e];refine ck (nU f hf) ?_;simp;apply gw<;>intro b
  ·simp at b;simp;grind[mF]
  ·simp at b;simp;refine ck (NG _ _) ?_;simp;grind[mF]
def VZ (t:Tst)(f:L1)(hf:Qle f:=by first|omega|grind):Fk 228 [zN t,nInts f] (vB (pQ f t)):=by
 refine fE [] ntmps228 fun _ _=> ?_;simp;refine wdt 20 ?_;simp;refine cd (nU _) ?_;simp;apply gv<;>intro e
 ·have e':=e;simp[e];refine cd (I7 _) ?_;simp;apply gv<;>intro g
  ·have g':=g;simp at g';have h6:f.length=6:=by simp only[uU,k_Bool_and_eq_true,decide_eq_true_eq]at e;exact e.2
   have hx:=aU (l:=f) (i:=t.feature.toNat);simp[g,hx];refine ai ?_;all_goals(simp only[pQ];rw[e',show inR t.feature 0 5=true by simp;omega];simp;by_cases hq:at1 f t.feature.toNat<t.threshold<;>simp[hq,Int.not_lt.symm]<;>omega)
  ·have g':=g;simp at g';simp[g];all_goals(simp only[pQ];rw[e',show inR t.feature 0 5=false by simp;omega];simp)
 ·have e':=e;simp[e];all_goals simp[pQ,e']
def RU (t:Tst)(f:L1)(hf:Qle f):Fk 227 [zN t,.bx false (nInts f)] (vB (!pQ f t)):=by
 refine fE [] ntmps227 fun _ _=> ?_;simp;refine ck (VZ _ _) ?_;simp
def ap1 (l:List Tst)(p:Tst->Bool)(g:FuncId)(b:Nat)(d:D)(F:d.fz=d)(E:Dv.Enters prog g)(U:T (1000000+g)=⟨.no,0,.any 0⟩)(G:∀c∈l,fD prog g [zN c,.bx false d] (fun r=>r=vB (p c)))(hl:Qle l):yT prog 315 [D.sl none (l.map zN),.one (.func (.func g) #[] #[.pointer (some ⟨b,0,none⟩)])] [(b,d)] (fun res'=>res'=vI (ix p l)):=by
 refine fB [] ntmps315 fun _ _=> ?_;simp;refine wlt Nat (fun i=>([(0,.val (D.sl none (l.map zN))),(1,.val (.one (.func (.func g) #[] #[.pointer (some ⟨b,0,none⟩)]))),(7,vI l.length),(8,vI i),(1000000+2*b,.rp (d))],l.length-i,(i<=l.length)/\((l.take i).any p=false))) (0) ⟨by omega,rfl⟩ ?_;rintro i ⟨h1,h2⟩;simp;apply gw<;>intro a
 ·obtain⟨c,hc⟩:=aN (l:=l) (i:=i);simp[E,U,F,hc];refine ck ((G c (aA hc))) ?_;simp;apply gw<;>intro e
  ·have hn:=BI hc h2 (by simp[e]);simp[hn]
  ·simp;refine nxa (i+1) ⟨by omega,(jB hc h2 (by simp[e]))⟩
 ·simp at a;have hf:=mR h2 a;have hx:=qQ hf;simp[hx]
def auA (l:List Tst)(p:Tst->Bool)(g:FuncId)(b:Nat)(d:D)(F:d.fz=d)(E:Dv.Enters prog g)(U:T (1000000+g)=⟨.no,0,.any 0⟩)(G:∀c∈l,fD prog g [zN c,.bx false d] (fun r=>r=vB (p c)))(hl:Qle l):yT prog 226 [D.sl none (l.map zN),.one (.func (.func g) #[] #[.pointer (some ⟨b,0,none⟩)])] [(b,d)] (fun res'=>res'=vB (l.any p)):=by
 refine fB [] ntmps226 fun _ _=> ?_;have hq:decide (0<=ix p l)=l.any p:=by rw[bG,decide_eq_true_eq];exact iW
 simp[F];refine ckB (ap1 l p g b d F E U G hl) ?_;simp[hq]
def apZ (l:List (List Tst))(p:List Tst->Bool)(g:FuncId)(b:Nat)(d:D)(F:d.fz=d)(E:Dv.Enters prog g)(U:T (1000000+g)=⟨.no,0,.any 0⟩)(G:∀c∈l,fD prog g [vZ c,.bx false d] (fun r=>r=vB (p c)))(hl:Qle l):yT prog 140 [.sl none (l.map vZ),.one (.func (.func g) #[] #[.pointer (some ⟨b,0,none⟩)])] [(b,d)] (fun res'=>res'=vI (ix p l)):=by
 refine fB [] ntmps140 fun _ _=> ?_;simp;refine wlt Nat (fun i=>([(0,.val (.sl none (l.map vZ))),(1,.val (.one (.func (.func g) #[] #[.pointer (some ⟨b,0,none⟩)]))),(7,vI l.length),(8,vI i),(1000000+2*b,.rp (d))],l.length-i,(i<=l.length)/\((l.take i).any p=false))) (0) ⟨by omega,rfl⟩ ?_;rintro i ⟨h1,h2⟩;simp;apply gw<;>intro a
 ·obtain⟨c,hc⟩:=aN (l:=l) (i:=i);simp[E,U,F,hc];refine ck ((G c (aA hc))) ?_;simp;apply gw<;>intro e
  ·have hn:=BI hc h2 (by simp[e]);simp[hn]
  ·simp;refine nxa (i+1) ⟨by omega,(jB hc h2 (by simp[e]))⟩
 ·simp at a;have hf:=mR h2 a;have hx:=qQ hf;simp[hx]
def VX (r:List Tst)(f:L1)(hr:Qle r:=by first|omega|grind)(hf:Qle f:=by first|omega|grind):Fk 142 [vZ r,nInts f] (vB (tY f r)):=by
 refine fE [] ntmps142 fun _ _=> ?_;simp;refine ck (nU f hf) ?_;simp;apply gv<;>intro e
 ·have e':=e;simp[e];intro b;refine ckB (auA r (fun t=> !pQ f t) 227 b (nInts f) (XB _) aG9 aHP (fun t _=>RU t f hf) hr) ?_;simp;all_goals simp[tY,e',aiN]
 ·have e':=e;simp[e];all_goals simp[tY,e']
def RQ (r:List Tst)(f:L1)(hr:Qle r)(hf:Qle f):Fk 141 [vZ r,.bx false (nInts f)] (vB (tY f r)):=by
 refine fE [] ntmps141 fun _ _=> ?_;simp;refine ck (VX _ _) ?_;simp
def A8 (rs:List (List Tst))(f:L1)(hs:Qle rs:=by first|omega|grind)(hr:∀l∈rs,Qle l:=by first|omega|grind)(hf:Qle f:=by first|omega|grind):Fk 71 [mQ rs,nInts f] (vI (nT rs f)):=by
 refine fE [] ntmps71 fun _ _=> ?_;simp;refine ck (rG rs hs hr) ?_;simp;apply gw<;>intro a
 ·simp at a;simp;grind[nT]
 ·simp at a;simp;intro b;refine ckB (apZ rs (tY f) 141 b (nInts f) (XB _) aG6 aHM (fun r hm=>RQ r f (hr r hm) hf) hs) ?_;simp;grind[nT]
def VY (rs:List (List Tst))(f:L1)(hs:Qle rs:=by first|omega|grind)(hr:∀l∈rs,Qle l:=by first|omega|grind)(hf:Qle f:=by first|omega|grind):Fk 293 [mQ rs,nInts f] (vB (decide (0<=nT rs f))):=by
 refine fE [] ntmps293 fun _ _=> ?_;simp;refine ck (A8 _ _) ?_;simp
def TR (rs:List (List Tst))(s:Sco)(f:L1)(hs:Qle rs)(hr:∀l∈rs,Qle l)(hw:Qle s.weights)(hf:Qle f):Fk 212 [mQ rs,H7 s,nInts f] (vI (iT rs s f)):=by
 refine fE [] ntmps212 fun _ _=> ?_;simp;refine ck (rG rs hs hr) ?_;simp;apply gv<;>intro e
 ·have e':=e;simp at e';simp[e];grind[iT]
 ·have e':=e;simp at e';simp[e];refine ck (oQ s hw) ?_;simp;apply gv<;>intro g
  ·have g':=g;simp at g';simp[g];grind[iT]
  ·have g':=g;simp at g';simp[g];refine ck (nU f hf) ?_;simp;apply gw<;>intro b
   ·simp at b;simp;grind[iT]
   ·simp at b;have hp:=XW s f hf;have hb:0<=s.bias/\s.bias<=1000:=by simp only[lX,k_Bool_and_eq_true,decide_eq_true_eq]at g';exact g'.2
    simp;refine wdt 6 ?_;simp;refine cd (VW _ _) ?_;simp;refine ai ?_;refine ck (VY _ _) ?_;simp;apply gw<;>intro d
    ·simp;grind[iT]
    ·simp at d;simp;grind[iT]
end Go.Proofs.YtafdbpehjfmnpaaGreatDoor
end
section
namespace Go.Proofs.YtafdbpehjfmnpaaGreatDoor
open Go.Dv Go.Pl Go.RowKit Go.Lib Go.Sort Go.Proofs.Tryz
def acD (x:Str):encStr x= .string ⟨x.toArray⟩:=by simp[encStr]
variable {os:Array Obj}{v:Value}
def avG {w:World}{base:Nat}{e:TypeId}{n:Nat}{xs:List Value}(h:w.ownsRow base e 1 v n xs):(grow w os).ownsRow base e 1 v n xs:=by
 refine⟨h.1,h.2.imp_right ?_⟩;rintro⟨g,cap,cur,h1,h2,h3,h4⟩;exact⟨g,cap,cur,h1,h2,by show(w.heap++os)[g]?=_;rw[eU (Go.Dv.lt_of_heap h3)];exact h3,h4⟩
variable {w':World}
def akQ {B:Nat}{w:World}(h:Below B w w')(hB:B<=w'.heap.size):Below B w (Go.Sort.grow w' os):=h.trans ⟨rfl,rfl,rfl,by simp[Go.Sort.grow],fun b hb=>by
 show(w'.heap++os)[b]?=_;rw[eU (by omega)]⟩
def adC (l:List Str)(a:Addr)(cap:Nat)(w:World)(hl:l.length<=262144)(hc:l=[]\/(a.spot=none/\∀(j:Nat) x,l[j]?=some x->w.cell? ⟨a.block,a.off+j,none⟩=some (.string ⟨x.toArray⟩))):
  Calls prog 323 #[.slice (some a) l.length cap] w fun e w1=>∃v1,e= .returned v1/\w1.ownsRow w.heap.size 9 1 v1 l.length (l.map encStr)/\v1≠ .slice none 0 0/\Below w.heap.size w w1:=by
 rcases hc with rfl|⟨ha,hcell⟩
 ·exact Tryz.slices_Clone_string_zero a cap w
 ·have:=Tryz.slices_Clone_string a.block a.off l.length cap (l.map fun x=>(⟨x.toArray⟩:ByteArray)) w (by simp) (by omega) (fun j hj=>by
   have hj':j<l.length:=by simpa using hj
   rw[hcell j _ (aB hj')];simp[List.getD,hj'])
  have hae:(⟨a.block,a.off,none⟩:Addr)=a:=by cases a;cases ha;rfl
  rw[hae]at this;refine this.mono fun e w1 ⟨v1,h1,h2,h4,h3⟩=>⟨v1,h1,?_,h4,h3⟩
  have he:(((l.map fun x=>(⟨x.toArray⟩:ByteArray)).take l.length).map Value.string)=l.map encStr:=by
   rw[k_List_take_of_length_le (by simp),tL];exact vP fun x _=>(acD x).symm
  rwa [he]at h2
def avR (l:List Str)(g c base:Nat)(w1:World)(hl:l.length<=262144)(h:w1.ownsRow base 9 1 (.slice (some ⟨g,0,none⟩) l.length c) l.length (l.map encStr))(hb:base<=w1.heap.size):
  Calls prog 324 #[.slice (some ⟨g,0,none⟩) l.length c] w1 fun e w2=>e= .returned (.tuple #[])/\w2.ownsRow base 9 1 (.slice (some ⟨g,0,none⟩) l.length c) l.length ((sJ l).map encStr)/\Below base w1 w2:=by
 obtain⟨g',c',he,hbg,hlt,hn,hm,_,hH⟩:=holds_of_ownsRow h (by simp);obtain⟨rfl,rfl⟩:g=g'/\c=c':=by simpa using he
 refine(Tryz.slices_Sort_string g 0 c l w1 hH hlt (by omega)).mono ?_;rintro e w2 ⟨h1,n,os,rfl⟩;have hy:=ownsRow_putRow (q:=n) (ys:=sJ l) (k:=l.length) h (uB l) (k_Nat_le_refl _);rw[k_List_take_of_length_le (by (try unfold Qle);rw[uB];omega)]at hy;refine⟨h1,avG hy,?_⟩;exact akQ (below_putRow (Below.refl _ _) hbg) (k_Nat_le_trans hb (below_putRow (Below.refl base w1) hbg).size)
def atN (l:List Str)(g c base:Nat)(w1:World)(hl:l.length<=262144)(hk:(Lib.compact l).length<=l.length)(h:w1.ownsRow base 9 1 (.slice (some ⟨g,0,none⟩) l.length c) l.length (l.map encStr)):
  Calls prog 325 #[.slice (some ⟨g,0,none⟩) l.length c] w1 fun e w2=>e= .returned (.slice (some ⟨g,0,none⟩) (Lib.compact l).length c)/\w2.ownsRow base 9 1 (.slice (some ⟨g,0,none⟩) (Lib.compact l).length c) (Lib.compact l).length ((Lib.compact l).map encStr)/\Below base w1 w2:=by
 obtain⟨g',c',he,hbg,hlt,hn,hm,_,hH⟩:=holds_of_ownsRow h (by simp);obtain⟨rfl,rfl⟩:g=g'/\c=c':=by simpa using he
 refine(Tryz.slices_Compact_string g 0 c l w1 hH (by omega) hn).mono ?_;rintro e w2 ⟨h1,n,rfl⟩;have hy:=ownsRow_putRow (q:=n) (ys:=Lib.compact l++List.replicate (l.length-(Lib.compact l).length) []) (k:=(Lib.compact l).length) h (by simp;omega) hk;rw[List.take_left' rfl]at hy;exact⟨h1,hy,below_putRow (Below.refl _ _) hbg⟩
def ai8:fD prog 217 [.one (.int .u64 0)] (fun r=>r=vI 0):=
 D9 (u:= .int .i64 0) rfl fun w ow vs hL hs ha=>by
  obtain rfl:=YM hs ha;have:=Tryz.bits_Len 0 w (by decide) (by decide);exact this.mono fun e w' h=>⟨h.1,h.2▸Below.refl _ _⟩
def aCD:Fk 408 [.one (.slice none 0 0),dI 0,dI 0] (.tup []):=by
 refine fE [] ntmps408 fun _ _=> ?_;simp;refine ai ?_;refine wl (fun(i:Nat)=>[(0,.val (.one (.slice none 0 0))),(1,vI 0),(2,vI 0),(6,vI 1)]) (fun(i:Nat)=>0) (fun(i:Nat)=>(i=1)) (1) (rfl) ?_;rintro i h1;simp
def aCF (k:Int):Fk 383 [.one (.slice none 0 0),dI 0,dI 0,dI k] (.tup []):=by
 refine fE [] ntmps383 fun _ _=> ?_;simp;refine wl (fun(i:Nat)=>[(0,.val (.one (.slice none 0 0))),(1,vI 0),(2,vI 0),(3,vI k)]) (fun(i:Nat)=>0) (fun(i:Nat)=>(i=0)) (0) (rfl) ?_;rintro i h1;simp;refine ai ?_;refine ck (aCD) ?_;simp
def ax1:Fk 324 [.one (.slice none 0 0)] (.tup []):=by
 refine fE [] ntmps324 fun _ _=> ?_;simp;refine ck (ai8) ?_;simp;refine ck (aCF 0) ?_;simp
def aqW (cap:Nat)(w:World)(hs:Calls prog 324 #[.slice none 0 0] w fun e w'=>e= .returned (.tuple #[])/\Below w.heap.size w w'):Calls prog 232 #[.slice none 0 cap] w fun e w'=>e= .returned (.slice none 0 0)/\Below w.heap.size w w':=by
 have h1:=Tryz.slices_Clone_string_nil 0 cap w;have h3:=fun w2=>Tryz.slices_Compact_string_empty none 0 w2;go_enter func232,ntmps232
 go_wp2_with (first|(go_at_call 323;refine h1.mono ?_;rintro e w1 ⟨rfl,hw1⟩;obtain rfl:=hw1.symm)|(go_at_call 324;refine hs.mono ?_;rintro e w2 ⟨rfl,q2⟩)|(go_at_call 325;refine(h3 w2).mono ?_;rintro e w3 ⟨rfl,hw3⟩;obtain rfl:=hw3.symm))
 exact bodyPost_ret (v:= .slice none 0 0) (by simp[results,Tryz.f232,loadVar]) rfl ⟨rfl,q2⟩
def aqX (l:List Str)(a:Addr)(cap:Nat)(w:World)(hl:l.length<=262144)(hc:l=[]\/(a.spot=none/\∀(j:Nat) x,l[j]?=some x->w.cell? ⟨a.block,a.off+j,none⟩=some (.string ⟨x.toArray⟩))):
  Calls prog 232 #[.slice (some a) l.length cap] w fun e w'=>∃v,e= .returned v/\w'.ownsRow w.heap.size 9 1 v (BR l).length ((BR l).map encStr)/\Below w.heap.size w w':=by
 have h1:=adC l a cap w hl hc;have h2:=fun g c w1=>avR l g c w.heap.size w1 hl;have h3:=fun g c w1=>atN (sJ l) g c w.heap.size w1 (by rw[uB];exact hl) (by rw[uB];exact QC l);simp only[uB]at h3;go_enter func232,ntmps232
 go_wp2_with (first|(go_at_call 323;refine h1.mono ?_;rintro e w1 ⟨v1,rfl,k1,k2,k3⟩;obtain⟨g,c,rfl,k4,k5,_⟩:=holds_of_ownsRow k1 k2)|(go_at_call 324;refine(h2 g c w1 k1 k3.size).mono ?_;rintro e w2 ⟨rfl,q1,q2⟩)|(go_at_call 325;refine(h3 g c w2 q1).mono ?_;rintro e w3 ⟨rfl,r1,r2⟩))
 exact bodyPost_ret (v:= .slice (some ⟨g,0,none⟩) (Lib.compact (sJ l)).length c) (by simp[results,Tryz.f232,loadVar]) rfl ⟨_,rfl,r1,(k3.trans q2).trans r2⟩
variable {ow:Own}{l:List Str}
def afA {w:World}{t:Nat}(hB:Below w.heap.size w w')(h:w'.ownsRow w.heap.size 9 1 v l.length (l.map encStr)):∃ow',After w ow w' ow'/\∀(s:St) (a:Act),SV prog w' ow' s a t (.own (FD l)) v:=by
 rcases h.2 with⟨rfl,h0⟩|⟨g,cap,cur,rfl,hg,hrow,hn,hm,hs,ht⟩
 ·obtain rfl:l=[]:=bA h0;refine⟨fun b=>if b<w.heap.size then ow b else none,⟨hB.os,hB.tape,hB.output,hB.size,fun b hb=>⟨hB.block b hb,if_pos hb⟩,fun b hb=>if_neg (by have:=hB.size;omega)⟩,fun s a=> ?_⟩;exact ajS
 ·have hlt:g<w'.heap.size:=Go.Dv.lt_of_heap hrow;refine⟨fun b=>if b=g then some [t]else if b<w.heap.size then ow b else none,⟨hB.os,hB.tape,hB.output,hB.size,fun b hb=>⟨hB.block b hb,?_⟩,fun b hb=> ?_⟩,fun s' a=> ?_⟩
  ·rw[if_neg (by omega),if_pos hb]
  ·have:=hB.size;rw[if_neg (by omega),if_neg (by omega)]
  ·simp only[SV,V,R];refine⟨some ⟨g,0,none⟩,cap,by simp,by simpa using hn,hm,.inr (.inr ⟨g,0,1,_,9,(0,0),rfl,hrow,(by intro h;cases h),fun t' ht'=> ?_,?_⟩)⟩
   ·obtain rfl:=k_Option_some_inj ht';obtain⟨_,i,zv,hi,hsz,_⟩:=(good 9).of (fun x h e=>by rw[e]at h;cases h);exact⟨by simp,rfl,unfz0 _,rfl,by simpa using hs,i,hi,hsz⟩
   ·rw[Rs.iff hrow];intro j x hx;rw[aO,aK]at hx;obtain⟨y,hy,rfl⟩:=hx
    have hc:cur[j]?=some (.string ⟨y.toArray⟩):=by
     have hj:=dL hy;have h1:(cur.toList.take (l.length*1))[j]?=some (encStr y):=by rw[ht,aO,hy];rfl
     rw[aZ,if_pos (by omega)]at h1;rw[←Array.getElem?_toList,h1,acD]
    refine⟨rfl,_,_,_,[.string ⟨y.toArray⟩],hrow,fun k hk=> ?_,?_⟩
    ·obtain rfl:k=0:=by simpa[D.w]using hk
     simpa using hc
    ·simp[R,Value.oneCell']
def asO {w:World}(h:V prog w ow (D.fz (mM l)) [] v):∃a cap,v= .slice a l.length cap/\l.length<=cap/\(l=[]\/∃b off,a=some ⟨b,off,none⟩/\b<w.heap.size/\∀(j:Nat) x,l[j]?=some x->w.cell? ⟨b,off+j,none⟩=some (.string ⟨x.toArray⟩)):=by
 have hfz:D.fz (mM l)=mM l:=by simp[D.fz,D.KX]
 rw[hfz]at h;simp only[V,R]at h;obtain⟨a,cap,h1,h2,h3,h4⟩:=h;have h1:v= .slice a (l.map dS).length cap:=by simpa using h1
 rw[aV]at h1 h2;refine⟨a,cap,h1,h2,?_⟩;rcases h4 with h4|h4|⟨b,off,s,C,e,fz,ha,hh,hn,hs,hr⟩
 ·exact .inl (by simpa using h4.2.1)
 ·exact .inl (by simpa using h4.2)
 ·refine .inr ⟨b,off,ha,Go.Dv.lt_of_heap hh,fun j x hx=> ?_⟩;have:=(Rs.iff hh).1 hr j (dS x) (by rw[aO,hx];rfl);obtain⟨hw,C',e',fz',cs,g1,g2,g3⟩:=this;have hs1:s=1:=hw.symm;subst hs1;rw[hh]at g1;obtain⟨rfl,rfl,rfl⟩:C=C'/\e=e'/\fz=fz':=by simpa using g1
  simp only[R]at g3;obtain⟨rfl,_⟩:=g3;rw[cell_of_row w b (off+j) C e fz hh];have:=g2 0 (by simp[D.w]);simpa using this
def I9 (l:List Str)(hl:l.length<=262144):fD prog 232 [mM l] (fun r=>r= .own (FD (BR l))):=by
 intro w ow vs t ht hL hnew hsz ha;obtain⟨a,cap,hv,hcap,hc⟩:=asO (ha 0 _ rfl)
 obtain rfl:vs= #[.slice a l.length cap]:=by
  apply Array.ext
  ·simpa using hsz
  ·intro i hi h2;obtain rfl:i=0:=by simpa using h2
   simpa[aF,hi]using hv
 cases a with
 |none=>
  obtain rfl:l=[]:=by
   rcases hc with h|⟨b,off,h,_⟩
   ·exact h
   ·cases h
  have he:BR []=[]:=bA (by have:=QC [];simpa using this)
  have hsort:Calls prog 324 #[.slice none 0 0] w fun e w'=>e= .returned (.tuple #[])/\Below w.heap.size w w':=by
   refine(ax1 w ow _ t ht hL hnew rfl fun i d hd=> ?_).mono ?_
   ·match i,hd with
    |0,hd=>obtain rfl:=k_Option_some_inj hd;simp[D.fz,V,R,Value.oneCell']
    |i+1,hd=>simp at hd
   ·rintro e w' ⟨v,ow',r,rfl,rfl,h3,_,h5⟩;have hv:=h5 (fun _=> .un) ⟨#[],[]⟩;obtain⟨us,rfl,hu,_⟩:=hv;have:us= #[]:=by apply Array.eq_empty_of_size_eq_zero;simpa using hu
    subst this;exact⟨rfl,⟨h3.os,h3.tape,h3.output,h3.size,fun b hb=>(h3.old b hb).1⟩⟩
  refine(aqW cap w hsort).mono ?_;rintro e w' ⟨rfl,hB⟩;refine⟨_,fun b=>if b<w.heap.size then ow b else none,_,rfl,rfl,⟨hB.os,hB.tape,hB.output,hB.size,fun b hb=>⟨hB.block b hb,if_pos hb⟩,fun b hb=>if_neg (by have:=hB.size;omega)⟩,rfl,fun s a=> ?_⟩;rw[he];exact ajS
 |some a=>
  have hc':l=[]\/(a.spot=none/\∀(j:Nat) x,l[j]?=some x->w.cell? ⟨a.block,a.off+j,none⟩=some (.string ⟨x.toArray⟩)):=by
   rcases hc with h|⟨b,off,h,_,h2⟩
   ·exact .inl h
   ·cases h;exact .inr ⟨rfl,h2⟩
  refine(aqX l a cap w hl hc').mono ?_;rintro e w' ⟨v,rfl,h1,h2⟩;obtain⟨ow',h3,h4⟩:=afA (ow:=ow) (t:=t) h2 h1;exact⟨_,ow',_,rfl,rfl,h3,rfl,h4⟩
end Go.Proofs.YtafdbpehjfmnpaaGreatDoor
end
section
namespace Go.Proofs.YtafdbpehjfmnpaaGreatDoor
open Go.Dv Go.Pl Go.RowKit Go.Proofs.Tryz
def M6 (c:UInt8):Fk 384 [dC c] (vB (decide (97<=c.toNat)&&decide (c.toNat<=122))):=by
 refine fE [] ntmps384 fun _ _=> ?_;simp;apply gv<;>intro e
 ·have e':=e;simp[e];grind
 ·have e':=e;simp at e';simp[e];omega
def zF (c:UInt8):Fk 330 [dC c] (vB (decide (48<=c.toNat)&&decide (c.toNat<=57))):=by
 refine fE [] ntmps330 fun _ _=> ?_;simp;apply gv<;>intro e
 ·have e':=e;simp[e];grind
 ·have e':=e;simp at e';simp[e];omega
def TY (c:UInt8):Fk 378 [dC c] (vB (xD c)):=by
 refine fE [] ntmps378 fun _ _=> ?_;simp;refine ck (M6 _) ?_;simp;apply gv<;>intro e
 ·have e':=e;simp at e';simp[e];grind[xD]
 ·have e':=e;simp at e';simp[e];apply gv<;>intro f
  ·have f':=f;simp[f];apply gv<;>intro g1
   ·have g1':=g1;simp[g1];grind[xD]
   ·have g1':=g1;simp at g1';simp[g1];refine ck (zF _) ?_;simp;grind[xD]
  ·have f':=f;simp at f';simp[f];refine ck (zF _) ?_;simp;grind[xD]
def TQ (c:UInt8):Fk 379 [dC c] (.val (dC (iJ c))):=by
 refine fE [] ntmps379 fun _ _=> ?_;simp;apply gv<;>intro e
 ·have e':=e;simp[e];apply gw<;>intro f
  ·have hu:=acG (c:=c) (by omega) (by omega);simp[hu];simp only[inI];omega
  ·simp at f;have hu:=Q6 (c:=c);simp[hu]
 ·have e':=e;simp at e';have hu:=Q6 (c:=c);simp[e,hu]
def O0 (c:UInt8):Fk 377 [dC c] (.val (dC (QN c))):=by
 refine fE [] ntmps377 fun _ _=> ?_;simp;refine ck (TY _) ?_;simp;apply gw<;>intro b
 ·have hu:QN c=c:=if_pos b;simp[hu]
 ·have hu:QN c=32:=if_neg (by simpa using b);simp[hu]
def aHI {s:Str}{i:Nat}{c:UInt8}{f:UInt8->UInt8}(h:s[i]?=some c):((s.take i).map f++s.drop i)[i]?=some c/\((s.take i).map f++s.drop i).set i (f c)=(s.take (i+1)).map f++s.drop (i+1):=by
 have hi:=dL h;have hl:((s.take i).map f).length=i:=by simp;omega
 have hd:s.drop i=c::s.drop (i+1):=by rw[bM hi];rw[aB hi]at h;rw[k_Option_some_inj h]
 constructor
 ·rw[aX (by omega),hl,hd];simp
 ·rw[gG _ _ (by omega),hl,hd,List.take_succ_eq_append_getElem hi];rw[aB hi]at h;rw[k_Option_some_inj h];simp
def azA (f:UInt8->UInt8)(s:Str):Str:=s.map f
def aqD (f:UInt8->UInt8)(s:Str)(i:Nat):Str:=(s.take i).map f++s.drop i
def ahB (s:Str)(f:UInt8->UInt8)(g:FuncId)(E:Dv.Enters prog g)(U:T (1000000+g)=⟨.no,0,.any 0⟩)(G:∀c∈s,fD prog g [dC c] (fun r=>r= .val (dC (f c))))(hs:Qle s):Fk 375 [dS s,.one (.func (.func g) #[] #[])] (vS (azA f s)):=by
 refine fE [] ntmps375 fun _ _=> ?_;have hm0:aqD f s 0=s:=rfl;simp;refine ai ?_;refine wl (fun(i:Nat)=>[(0,vS s),(1,.val (.one (.func (.func g) #[] #[]))),(5,.own (oBs (aqD f s i))),(10,.al 5 []),(11,vI s.length),(12,vI i)]) (fun(i:Nat)=>s.length-i) (fun(i:Nat)=>(i<=s.length)) (0) (by omega) ?_ (h0:=by simp[E,U,hm0]);rintro i h1;simp;apply gw<;>intro a
 ·obtain⟨c,hc⟩:=aN (l:=s) (i:=i);have hm:=aHI (f:=f) hc;have hc1:(aqD f s i)[i]?=some c:=hm.1;have hc2:((aqD f s i).map dU).set i (dC (f c))=(aqD f s (i+1)).map dU:=by rw[←List.map_set (f:=dU)];exact congrArg _ hm.2
  simp[E,U,hc1];refine ck ((G c (aA hc))) ?_;simp[hc1,hc2];refine nxa (i+1) (by omega)
 ·simp at a;have hm:aqD f s i=azA f s:=by have:i=List.length s:=(by omega);subst this;simp[aqD,azA]
  simp[hm]
def aE3 {w:World}{ow:Own}{vs:Array Value}{u u' u2:Value}(hs:vs.size=3)(h:∀(i:Nat) (d:D),[D.one u,D.one u',D.one u2][i]?=some d->V prog w ow d.fz [] (vs.getD i undef)):vs= #[u,u',u2]:=by
 have h0:=LK (h 0 _ rfl);have h1:=LK (h 1 _ rfl);have h3:=LK (h 2 _ rfl);apply Array.ext
 ·simpa using hs
 ·intro i hi h2;have:i=0\/i=1\/i=2:=by simp at h2;omega
  rcases this with rfl|rfl|rfl
  ·simpa[aF,hi]using h0
  ·simpa[aF,hi]using h1
  ·simpa[aF,hi]using h3
def anN (s:Str):Str:=s.filter fun c=> !decide (c=39)
def NR (s:Str)(hs:Qle s):fD prog 376 [dS s,dS [39],dS []] (fun r=>r=vS (anN s)):=
 D9 (u:= .string ⟨(anN s).toArray⟩) rfl fun w ow vs hL hsz ha=>by
  obtain rfl:=aE3 hsz ha;obtain⟨m,hm⟩:=(MI hL).2.2.2.1;have hc:Lib.countB ⟨s.toArray⟩ ⟨[39].toArray⟩=s.count 39:=Lib.count_one 39 s;refine(Tryz.strings_ReplaceAll ⟨s.toArray⟩ ⟨[39].toArray⟩ ⟨[].toArray⟩ m w (by simp[ByteArray.size];omega) hm (by simp[ByteArray.size]) (by rw[hc];simp[ByteArray.size];omega)).mono fun e w' ⟨h1,h2⟩=>⟨?_,h2⟩;rw[h1];show Ending.returned (.string ⟨(Lib.replaceAll s [39] []).toArray⟩)=_;rw[afF];rfl
def NS (s:Str)(hs:Qle s:=by first|omega|grind):fD prog 374 [dS s,dS [32]] (fun r=>r=vS (aiG s)):=
 D9 (u:= .string ⟨(aiG s).toArray⟩) rfl fun w ow vs hL hsz ha=>by
  obtain rfl:=aiO hsz ha;rw[aA6,←aA8];exact(Tryz.strings_TrimSuffix ⟨s.toArray⟩ ⟨[32].toArray⟩ w (by simp[ByteArray.size];omega)).mono fun e w' ⟨h1,h2⟩=>⟨h1,h2▸Below.refl _ _⟩
def arA (x:Nat)(hx:x<=1114111)(w:World):Calls prog 327 #[.int .i32 x] w fun e w'=>e= .returned (.bool (isSp x))/\Below w.heap.size w w':=by
 go_enter func327,ntmps327
 go_wp2
 refine bodyPost_ret (v:= .bool (decide ((x:Int)=32))) (by simp[results,Tryz.f327,loadVar]) rfl ⟨?_,Below.refl _ _⟩;have:decide ((x:Int)=32)=isSp x:=by unfold isSp;rw[bG,decide_eq_true_eq,decide_eq_true_eq];omega
 rw[this]
def KJ (s:Str)(hs:Qle s:=by first|omega|grind):Fk 318 [dS s] (vS (vY s)):=by
 refine fE [] ntmps318 fun _ _=> ?_;have hm:azA iJ s=vY s:=rfl;simp;refine ck (ahB s iJ 379 aHE aHT (fun c _=>TQ c) hs) ?_;simp[hm]
def TT (s:Str)(hs:Qle s):Fk 317 [dS s] (vS (yS s)):=by
 refine fE [] ntmps317 fun _ _=> ?_;have hm:azA QN (anN s)=yS s:=aAS s;have hl:(anN s).length<=s.length:=bK _ _;simp;refine ck (NR s hs) ?_;simp;refine ck (ahB (anN s) QN 377 aHD aHS (fun c _=>O0 c) (by omega)) ?_;simp[hm]
def LX (s:Str)(hs:Qle s):Fk 316 [dS s] (vS (DZ s)):=by
 refine fE [] ntmps316 fun _ _=> ?_;simp;refine wlt (Nat×Str) (fun(i,o)=>([(0,vS s),(3,.own (oBs o)),(5,vS s),(6,vI s.length),(7,vI i)],s.length-i,(i<=s.length)/\(o=(s.take i).foldl VH [])/\(o.length<=i))) ((0,[])) ⟨by omega,rfl,by simp⟩ ?_;rintro⟨i,o⟩ ⟨h1,h2,h3⟩;simp;apply gw<;>intro a
 ·obtain⟨c,hc⟩:=aN (l:=s) (i:=i);have hm:=fA VH [] hc;rw[←h2]at hm;simp[hc];apply gv<;>intro e
  ·have e':=e;have hu:VH o c=o++[c]:=if_pos (.inl (by rintro rfl;simp at e));simp[hc,e];refine nxb (i+1,o++[c]) ⟨by omega,by rw[hm,hu],by simp;omega⟩
  ·have e':=e;have hc32:c=32:=k_UInt8_toNat_inj.1 (show c.toNat=32 by omega);simp[e];apply gv<;>intro f
   ·have f':=f;obtain⟨x,hx⟩:=aN (l:=o) (i:=o.length-1);have hj:((o.length:Int)-1).toNat=o.length-1:=by omega
    have hg:o.getLast?=some x:=by rw[List.getLast?_eq_getElem?];exact hx
    simp[f,hx,hj];iterate 2 refine ai ?_
    apply gw<;>intro b
    ·have hu:VH o c=o++[c]:=if_pos (.inr ⟨by rintro rfl;simp at f,by rw[hg];rintro h;cases h;simp at b⟩);simp[hc,e];refine nxb (i+1,o++[c]) ⟨by omega,by rw[hm,hu],by simp;omega⟩ (h3:=by simp[hc,e,f,hx,hj])
    ·have hx32:x=32:=k_UInt8_toNat_inj.1 (show x.toNat=32 by omega);have hu:VH o c=o:=if_neg (by rw[hg,hc32,hx32];simp);simp;refine nxa (i+1,o) ⟨by omega,by rw[hm,hu],by omega⟩
   ·have f':=f;simp at f';have ho:o=[]:=bA (by omega);have hu:VH o c=o:=if_neg (by rw[ho,hc32];simp);simp[f];refine nxa (i+1,o) ⟨by omega,by rw[hm,hu],by omega⟩
 ·simp at a;rw[bS a]at h2;have hce:=Z0 s;rw[←h2]at hce;simp;refine ck (NS _) ?_;simp[hce]
def nV (s:Str)(hs:Qle s:=by omega):Fk 229 [dS s] (vS (normal s)):=by
 refine fE [] ntmps229 fun _ _=> ?_;have h1:=CY s;have h2:=II (vY s);have hn:DZ (yS (vY s))=normal s:=rfl;simp;refine ck (KJ s (by omega)) ?_;simp;refine ck (TT (vY s) (by omega)) ?_;simp;refine ck (LX (yS (vY s)) (by omega)) ?_;simp[hn]
end Go.Proofs.YtafdbpehjfmnpaaGreatDoor
end
section
namespace Go.Proofs.YtafdbpehjfmnpaaGreatDoor
open Go.Dv Go.Pl Go.RowKit Go.Lib Go.Proofs.Tryz
def ak8:∀(s o:Str) (c:UInt8),c∈s.foldl VH o->c∈o\/c∈s
 |[],o,c,h=> .inl h
 |d::s,o,c,h=>by
  rcases ak8 s (VH o d) c h with h|h
  ·unfold VH at h;split at h
   ·rcases k_List_mem_append.1 h with h|h
    ·exact .inl h
    ·exact .inr (by rw[k_List_mem_singleton.1 h];exact wT)
   ·exact .inl h
  ·exact .inr (bD _ h)
variable {s:Str}{c:UInt8}
def avW (h:c∈yS s):c.toNat<128:=by
 unfold yS at h;obtain⟨d,_,hd⟩:=List.mem_flatMap.1 h;unfold BS at hd;split at hd
 ·rename_i hw;rw[k_List_mem_singleton.1 hd];rcases hw with hw|hw
  ·unfold xD at hw;simp only[bH,k_Bool_and_eq_true,decide_eq_true_eq]at hw;omega
  ·omega
 ·split at hd
  ·rw[k_List_mem_singleton.1 hd];decide
  ·cases hd
def aqG (h:c∈normal s):c.toNat<128:=by
 unfold normal at h;rw[Z0]at h
 have h2:c∈(yS (vY s)).foldl VH []:=by
  unfold aiG at h;split at h
  ·exact(List.dropLast_sublist _).subset h
  ·exact h
 rcases ak8 _ _ _ h2 with h3|h3
 ·cases h3
 ·exact avW h3
def K6 (s:Str):(normal s).length<=2*s.length:=by
 have h1:=CY s;have h2:=II (vY s);have h3:=VI (yS (vY s));unfold normal;omega
def aiI (s:Str):(MZ s).length<=s.length+1:=k_Nat_le_trans (bK _ _) (OJ 32 s []).1
def auC (s:Str)(hs:Qle s)(hA:∀c∈s,c.toNat<128):fD prog 326 [dS s,.one (.func (.func 327) #[] #[])] (fun r=>r= .own (FD (MZ s))):=by
 intro w ow vs t ht hL hnew hsz ha;obtain rfl:=aiO hsz ha;refine(Tryz.strings_FieldsFunc_grows 327 #[] aHA isSp ⟨s.toArray⟩ w (by simp[ByteArray.size];omega) (fun W x hx hb=>arA x hx W)).mono ?_;rintro e w' ⟨A,rfl,_,h1,h2⟩;have hm:=map_encStr (Lib.goFieldsP isSp ⟨s.toArray⟩);rw[ag4 hA]at hm;have hl:(Lib.goFieldsP isSp ⟨s.toArray⟩).length=(MZ s).length:=by rw[←ag4 hA,aV]
 rw[←hm,hl]at h1;obtain⟨ow',h3,h4⟩:=afA (ow:=ow) (t:=t) h2 h1;exact⟨_,ow',_,by rw[hl],rfl,h3,rfl,h4⟩
def af3 (s:Str)(hs:Qle s)(hA:∀c∈s,c.toNat<128):Fk 233 [dS s] (.own (FD (MZ s))):=by
 refine fE [] ntmps233 fun _ _=> ?_;simp;refine ck (auC s hs hA) ?_;simp
def GI (s:Str)(hs:s.length<=65536:=by omega):Fk 145 [dS s] (.own (FD (tokens s))):=by
 refine fE [] ntmps145 fun _ _=> ?_;have hn:=K6 s;have hw:=aiI (normal s);have ht:=S9 s;simp;first|refine ck (nV s) ?_|refine ckz (nV s) ?_
 simp;refine ck (af3 (normal s) (by omega) (fun c hc=>aqG hc)) ?_;simp;refine ck (I9 (MZ (normal s)) (by omega)) ?_;simp[ht]
end Go.Proofs.YtafdbpehjfmnpaaGreatDoor
end
section
namespace Go.Proofs.YtafdbpehjfmnpaaGreatDoor
open Go.Dv Go.Pl Go.Proofs.Tryz
def L9 (s:Str)(hs:Qle s):Fk 407 [dS s] (vB (s.all JP)):=by
 refine fE [] ntmps407 fun _ _=> ?_;simp;refine wlt Nat (fun i=>([(0,vS s),(5,vI s.length),(6,vI i)],s.length-i,(i<=s.length)/\((s.take i).all JP=true))) (0) ⟨by omega,rfl⟩ ?_;rintro i ⟨h1,h2⟩;simp;apply gw<;>intro a
 ·obtain⟨c,hc⟩:=aN (l:=s) (i:=i);simp[hc];refine ck (M6 c) ?_;simp;apply gv<;>intro e
  ·have e':=e;simp at e';simp[hc,e];refine ck (zF c) ?_;simp;apply gw<;>intro b
   ·simp at b;have hn:=fJ hc (P:=JP) (by simp[JP]at*;omega);simp[hn]
   ·simp at b;simp;refine nxa (i+1) ⟨by omega,(bW hc h2 (by simp[JP]at*;omega))⟩
  ·have e':=e;simp at e';simp[e];refine nxa (i+1) ⟨by omega,(bW hc h2 (by simp[JP]at*;omega))⟩
 ·simp at a;have hf:=iO h2 a;simp[hf]
def aD3 {c:Str}(h:c≠[]):R8 c=c.all JP:=by rw[aD4];simp[h]
def GH (l:List Str)(hl:Qle l)(hs:∀x∈l,Qle x):Fk 381 [mM l] (vB (qB l)):=by
 refine fE [] ntmps381 fun _ _=> ?_;simp;refine wlt Nat (fun i=>([(0,vR l),(5,vR l),(6,vI l.length),(7,vI i)],l.length-i,(i<=l.length)/\((l.take i).all R8=true)/\(adj ltL (l.take i)=true))) (0) ⟨by omega,rfl,rfl⟩ ?_;rintro i ⟨h1,h2,h3⟩;simp;apply gw<;>intro a
 ·obtain⟨c,hc⟩:=aN (l:=l) (i:=i);simp[hc];apply gv<;>intro e
  ·have e':=e;have hn:=fJ hc (P:=R8) (by simp[R8,e]);simp[e];grind[qB]
  ·have e':=e;have hne:c≠[]:=by simpa using e
   have hta:=aD3 hne;simp[e];refine ck (L9 c (hs c (J2 hc))) ?_;simp;apply gv<;>intro g
   ·have g':=g;simp at g';have hn:=fJ hc (P:=R8) (by rw[hta];simpa using g);simp[g];grind[qB]
   ·have g':=g;simp at g';simp[g];apply gv<;>intro f
    ·have f':=f;obtain⟨p,hp⟩:=aN (l:=l) (i:=i-1);have hi1:i-1+1=i:=by omega
     have hj1:((i:Int)-1).toNat=i-1:=by omega
     simp[f,hp,hj1];iterate 2 refine ai ?_
     apply gw<;>intro b
     ·simp at b;have hn:=JO hp (by rw[hi1];exact hc) (R:=ltL) (by simpa using b);simp;grind[qB]
     ·simp at b;simp;refine nxa (i+1) ⟨by omega,(bW hc h2 (by rw[hta];simpa using g)),by have:=yU (i:=i-1) (by rw[hi1];exact h3) hp (by rw[hi1];exact hc) (R:=ltL) (by simpa using b);rwa [hi1]at this⟩
    ·have f':=f;simp at f';simp[f];refine nxa (i+1) ⟨by omega,(bW hc h2 (by rw[hta];simpa using g)),(by obtain rfl:i=0:=(by omega);exact vF)⟩
 ·simp at a;have hf:=iO h2 a;rw[bS a]at h3;simp;grind[qB]
def O3 (a b:List Str)(ha:Qle a)(hsa:∀x∈a,Qle x)(hb:Qle b)(hsb:∀x∈b,Qle x):Fk 320 [mM a,mM b] (vB (wE a b)):=by
 refine fE [] ntmps320 fun _ _=> ?_;simp;refine ck (GH a ha hsa) ?_;simp;apply gv<;>intro e
 ·have e':=e;simp[e];refine ck (GH b hb hsb) ?_;simp;grind[wE]
 ·have e':=e;simp[e];grind[wE]
def YY (n d:Int)(hn:0<=n/\n<=1000000000000)(hd:0<=d/\d<=1000000000):Fk 322 [dI n,dI d] (vI (if d=0 then 1000 else n.tdiv d)):=by
 refine fE [] ntmps322 fun _ _=> ?_;simp;apply gw<;>intro b
 ·simp;omega
 ·simp;iterate 2 refine ai ?_
  omega
end Go.Proofs.YtafdbpehjfmnpaaGreatDoor
end
section
namespace Go.Proofs.YtafdbpehjfmnpaaGreatDoor
open Go.Dv Go.Pl Go.RowKit Go.Proofs.Tryz
def avU:∀k<26,QD.getD k 0=codeOf (97+k):=by decide
def afL {w:World}(h:CP w){k:Nat}(hk:k<26):w.cell? ⟨0,k,none⟩=some (.int .i64 (codeOf (97+k))):=by
 have hv:=h.2.2.2.2;have hg:prog.globalNamed "loop.example/g01923/impl.soundCodes" =some 0:=by kernel_rfl
 rw[←avU k hk];simp only[World.var?,hg,nE]at hv;have hl:k<QD.length:=hk;cases hh:w.heap[0]? with
 |none=>rw[hh]at hv;simp at hv
 |some o=>
  rw[hh]at hv;cases o with
  |cells cs e fz=>
   simp only[nE]at hv;obtain rfl:=k_Option_some_inj hv;simp only[World.cell?,hh];simp[List.getD,hl]
  |_=>simp at hv
def aGA (c:UInt8)(w:World)(h:CP w):Calls prog 328 #[.int .u8 c.toNat] w fun e w'=>e= .returned (.int .i64 (aM c))/\Below w.heap.size w w':=by
 have hc:c.toNat<256:=c.toNat_lt;have hs:=ab3 c;by_cases h1:65<=c.toNat/\c.toNat<=90
 ·have hu:=acG h1.1 h1.2;have hcell:=afL h (k:=c.toNat-65) (by omega);rw[if_pos (by omega),hu]at hs;rw[show 97+(c.toNat-65)=c.toNat+32 by omega]at hcell;go_enter func328,ntmps328
  go_wp2
  all_goals first
   |(refine bodyPost_ret (v:= .int .i64 (aM c)) ?_ rfl ⟨rfl,Below.refl _ _⟩;simp[results,Tryz.f328,loadVar,hs];done)
   |(refine bodyPost_ret (v:= .int .i64 (-2)) ?_ rfl ⟨rfl,Below.refl _ _⟩;simp[results,Tryz.f328,loadVar];done)
   |(exfalso;rename_i h9;simp at h9;omega)
   |(exfalso;omega)
   |(exfalso;rename_i h8 h9;simp at h8 h9;omega)
 ·have hu:=Q6 h1;rw[hu]at hs;by_cases h2:97<=c.toNat/\c.toNat<=122
  ·have hcell:=afL h (k:=c.toNat-97) (by omega);rw[if_pos h2]at hs;rw[show 97+(c.toNat-97)=c.toNat by omega]at hcell;go_enter func328,ntmps328
   go_wp2
   all_goals first
    |(refine bodyPost_ret (v:= .int .i64 (aM c)) ?_ rfl ⟨rfl,Below.refl _ _⟩;simp[results,Tryz.f328,loadVar,hs];done)
    |(refine bodyPost_ret (v:= .int .i64 (-2)) ?_ rfl ⟨rfl,Below.refl _ _⟩;simp[results,Tryz.f328,loadVar];done)
    |(exfalso;rename_i h9;simp at h9;omega)
    |(exfalso;omega)
    |(exfalso;rename_i h8 h9;simp at h8 h9;omega)
  ·rw[if_neg h2]at hs;go_enter func328,ntmps328
   go_wp2
   all_goals first
    |(refine bodyPost_ret (v:= .int .i64 (aM c)) ?_ rfl ⟨rfl,Below.refl _ _⟩;simp[results,Tryz.f328,loadVar,hs];done)
    |(refine bodyPost_ret (v:= .int .i64 (-2)) ?_ rfl ⟨rfl,Below.refl _ _⟩;simp[results,Tryz.f328,loadVar];done)
    |(exfalso;rename_i h9;simp at h9;omega)
    |(exfalso;omega)
    |(exfalso;rename_i h8 h9;simp at h8 h9;omega)
    |(exfalso;simp only[Bool.not_eq_eq_eq_not,xN,decide_eq_true_eq]at*;omega)
def I5 (c:UInt8):fD prog 328 [dC c] (fun r=>r=vI (aM c)):=
 D9 (u:= .int .i64 (aM c)) rfl fun w ow vs hL hs ha=>by
  obtain rfl:=YM hs ha;exact aGA c w (MI hL)
end Go.Proofs.YtafdbpehjfmnpaaGreatDoor
end
section
namespace Go.Proofs.YtafdbpehjfmnpaaGreatDoor
open Go.Dv Go.Pl Go.Proofs.Tryz
def okC (c:UInt8):Bool:=decide (aM c≠ -2)
def aD0 (c0:UInt8)(r:Str)(i:Nat):Str×Int:=(r.take (i-1)).foldl sG ([iJ c0],aM c0)
variable {i:Nat}
def avQ (c0:UInt8)(r:Str){c:UInt8}(hi:0<i)(h:(c0::r)[i]?=some c):aD0 c0 r (i+1)=sG (aD0 c0 r i) c:=by
 obtain⟨j,rfl⟩:∃j,i=j+1:=⟨i-1,by omega⟩;rw[qZ]at h;exact fA sG _ h
def aa8 (s:Str)(hs:s.length<=65536):Fk 234 [dS s] (vS (jG s)):=by
 refine fE [] ntmps234 fun _ _=> ?_;simp;apply gw<;>intro a
 ·have hx:jG s=[]:=if_pos (.inl (by simpa using a));simp[hx]
 ·obtain⟨c0,r,rfl⟩:∃c r,s=c::r:=by cases s with|nil=>simp at a|cons c r=>exact⟨c,r,rfl⟩
  have hf:vY [c0]=[iJ c0]:=rfl;have hrl:r.length<=65536:=by simp at hs;omega
  simp;refine ck (KJ [c0]) ?_;simp[hf];refine ck (I5 c0) ?_;simp;refine wlt (Nat×Str×Int) (fun(i,o,p)=>([(0,vS (c0::r)),(3,.own (oBs o)),(4,vI p),(16,vS (c0::r)),(17,vI (r.length+1)),(18,vI i)],(r.length+1)-i,(i<=r.length+1)/\(((c0::r).take i).all okC=true)/\((o,p)=aD0 c0 r i)/\(1<=o.length/\o.length<=i+1))) ((0,[iJ c0],aM c0)) ⟨by omega,rfl,rfl,by simp⟩ ?_;rintro⟨i,o,p⟩ ⟨h1,h2,h3,h4⟩;simp;apply gw<;>intro b
  ·obtain⟨c,hc⟩:=aN (l:=c0::r) (i:=i) (by simp;omega);have hle:=YC c;simp[hc];refine ck (I5 c) ?_;simp;apply gw<;>intro d
   ·have hn:=fJ hc (P:=okC) (by simp[okC,d]);have hx:=aqZ hn;simp[hx]
   ·have hok:okC c:=by simp[okC,d]
    simp;apply gv<;>intro e
    ·have e':=e;obtain rfl:i=0:=by omega
     simp;refine nxa (1,o,p) ⟨by omega,(bW hc h2 hok),h3,by omega⟩
    ·have e':=e;have hst:=avQ c0 r (by omega) hc;rw[←h3]at hst;simp[e];apply gw<;>intro f
     ·have hs1:sG (o,p) c=(o,p):=by simp only[sG];rw[if_neg (by omega),if_neg (by omega)]
      simp;refine nxa (i+1,o,p) ⟨by omega,(bW hc h2 hok),by rw[hst,hs1],by omega⟩
     ·simp at f;simp;apply gv<;>intro g
      ·have g':=g;simp[g];apply gw<;>intro k
       ·have hs1:sG (o,p) c=(o++[UInt8.ofNat (48+aM c).toNat],aM c):=by simp only[sG];rw[if_pos ⟨by omega,k⟩,if_pos (by omega)]
        have hu:((UInt8.ofNat (48+aM c).toNat).toNat:Int)=48+aM c:=by simp;omega
        have hw:IntKind.u8.wrap (48+aM c)=max (48+aM c) 0 % 256:=by simp[IntKind.wrap,IntKind.bits,IntKind.signed];omega
        simp[hw];refine nxd (i+1,o++[UInt8.ofNat (48+aM c).toNat],aM c) ⟨by omega,(bW hc h2 hok),by rw[hst,hs1],by simp;omega⟩
       ·have hs1:sG (o,p) c=(o,aM c):=by simp only[sG];rw[if_neg (by rintro⟨_,h⟩;exact h (by omega)),if_pos (by omega)]
        simp;refine nxa (i+1,o,aM c) ⟨by omega,(bW hc h2 hok),by rw[hst,hs1],by omega⟩
      ·have g':=g;simp at g';have hs1:sG (o,p) c=(o,aM c):=by simp only[sG];rw[if_neg (by omega),if_pos (by omega)]
       simp[g];refine nxa (i+1,o,aM c) ⟨by omega,(bW hc h2 hok),by rw[hst,hs1],by omega⟩
  ·simp at b;obtain rfl:i=r.length+1:=by omega
   rw[k_List_take_of_length_le (by simp)]at h2;have hse:=aqY c0 r h2;have ho:(r.foldl sG ([iJ c0],aM c0)).1=o:=by have:=congrArg Prod.fst h3;simpa[aD0]using this.symm
   rw[ho]at hse;simp[hse];refine ai ?_;omega
def avZ (s:Str):(tokens s).length<=2*s.length+1:=by
 rw[←S9];have h1:=QC (MZ (normal s));have h2:=aiI (normal s);have h3:=K6 s;omega
def aeR (l:List Str)(i:Nat):List Str:=amJ (l.take i)
def aqB {l:List Str}{c:Str}(h:l[i]?=some c):aeR l (i+1)=aeR l i++if jG c=[]then[]else[jG c]:=by
 unfold aeR amJ;rw[dV h,jE,gX];congr 1;by_cases hc:jG c=[]<;>simp[hc]
def I6 (s:Str)(hs:s.length<=4096):Fk 146 [dS s] (.own (FD (mH s))):=by
 refine fE [] ntmps146 fun _ _=> ?_;have hk:=amK s;have ht:=avZ s;have hel:∀x∈tokens s,x.length<=65536:=fun x hx=>by have h1:=((U6 s).2 x).1 hx;have h2:=(OJ 32 (normal s) []).2 x h1.1;have h3:=K6 s;simp at h2;omega
 simp;refine ck (GI s) ?_;generalize tokens s=l at*
 simp;refine wlt (Nat×List Str) (fun(i,o)=>([(3,.own (FD o)),(8,.own (FD l)),(9,vI l.length),(10,vI i)],l.length-i,(i<=l.length)/\(o=aeR l i)/\(o.length<=i))) ((0,[])) ⟨by omega,rfl,by simp⟩ ?_;rintro⟨i,o⟩ ⟨h1,h2,h3⟩;simp;apply gw<;>intro a
 ·obtain⟨c,hc⟩:=aN (l:=l) (i:=i);have hst:=aqB hc;simp[hc];refine ck (aa8 c (hel c (aA hc))) ?_;simp;apply gw<;>intro b
  ·have hu:aeR l (i+1)=o++[jG c]:=by rw[hst,if_neg b,h2]
   simp;refine nxb (i+1,o++[jG c]) ⟨by omega,hu.symm,by simp;omega⟩
  ·have hu:aeR l (i+1)=o:=by rw[hst,if_pos b,dP,h2]
   simp;refine nxa (i+1,o) ⟨by omega,hu.symm,by omega⟩
 ·simp at a;have ho:o=amJ l:=by rw[h2,aeR,k_List_take_of_length_le (by omega)]
  rw[←ho]at hk;simp;refine ck (I9 o (by omega)) ?_;simp[hk]
end Go.Proofs.YtafdbpehjfmnpaaGreatDoor
end
section
namespace Go.Proofs.YtafdbpehjfmnpaaGreatDoor
open Go.Dv Go.Pl Go.RowKit Go.Proofs.Tryz
def abX (n:Int)(hn: -9223372036854775808<=n/\n<=9223372036854775807):fD prog 419 [dI n] (fun r=>r=vS (yE n)):=
 D9 (u:= .string ⟨(yE n).toArray⟩) rfl fun w ow vs hL hs ha=>by
  obtain rfl:=YM hs ha;rw[←aCP];exact(Tryz.strconv_Itoa n hn.1 hn.2 w (MI hL).1).mono fun e w' ⟨h1,k,os,h2⟩=>⟨h1,h2▸below_grow⟩
def G6 (s:Str)(v:Int)(hs:Qle s)(h:Lib.atoiAll s= .ok v):fD prog 385 [dS s] (fun r=>r= .tup [vI v,.val (.one .nilIface)]):=by
 refine ax2 (us:=[.int .i64 v,.nilIface]) (by simp[Value.oneCell']) fun w ow vs hL hsz ha=> ?_;obtain rfl:=YM hsz ha;refine(Tryz.strconv_Atoi_ok ⟨s.toArray⟩ (by simp[ByteArray.size];omega) v h w).mono fun e w' ⟨h1,h2⟩=>⟨h1,?_⟩;rcases h2 with rfl|⟨t,rfl⟩
 ·exact Below.refl _ _
 ·exact Lib.bytesWorld_below w _ t
def UG (s:Str)(hs:Qle s)(h:∀v,Lib.atoiAll s≠ .ok v):fD prog 385 [dS s] (fun r=>∃k tp p,r= .tup [vI k,.val (.one (.iface tp p))]):=by
 have hsz:(⟨s.toArray⟩:ByteArray).size<=281474976710656:=by simp[ByteArray.size];omega
 have key:∀(w:World) (ow:Own) (vs:Array Value) (t:Nat),Laid w ow->vs.size=1->(∀(i:Nat) (d:D),[dS s][i]?=some d->V prog w ow d.fz [] (vs.getD i undef))->Calls prog 385 vs w fun e w'=>∃k tp p,e= .returned (.tuple #[.int .i64 k,.iface tp p])/\Below w.heap.size w w':=by
  intro w ow vs t hL h1 h2;obtain rfl:=YM h1 h2;obtain⟨_,⟨t1,p1,hv1⟩,⟨t2,p2,hv2⟩,_⟩:=MI hL;by_cases hr:Lib.atoiAll s= .range
  ·exact(Tryz.strconv_Atoi_range_var ⟨s.toArray⟩ hsz hr t2 p2 w hv2).mono fun e w' ⟨N,g1,_,_,g4⟩=>⟨_,_,_,g1,g4⟩
  ·exact(Tryz.strconv_Atoi_syntax_var ⟨s.toArray⟩ hsz h hr t1 p1 w hv1).mono fun e w' ⟨N,g1,_,_,g4⟩=>⟨_,_,_,g1,g4⟩
 intro w ow vs t ht hL hnew hvs hargs;refine(key w ow vs t hL hvs hargs).mono ?_;rintro e w' ⟨k,tp,p,rfl,hB⟩;refine⟨_,fun b=>if b<w.heap.size then ow b else none,_,rfl,⟨k,tp,p,rfl⟩,⟨hB.os,hB.tape,hB.output,hB.size,fun b hb=>⟨hB.block b hb,if_pos hb⟩,fun b hb=>if_neg (by have:=hB.size;omega)⟩,rfl,fun s a=> ?_⟩;refine⟨_,rfl,by simp,fun k x hx=> ?_⟩
 match k,hx with
 |0,hx=>obtain rfl:=k_Option_some_inj hx;simp[D.fz,V,R,aF,Value.oneCell']
 |1,hx=>obtain rfl:=k_Option_some_inj hx;simp[D.fz,V,R,aF,Value.oneCell']
def ajE (s:Str):Int:=if nI s=true then lU s else 0
def acE (s:Str):ajE s=if nI s=true then lU s else 0:=rfl
def I1 (n:Int)(hn: -9223372036854775808<=n/\n<=9223372036854775807):Fk 386 [dI n] (vS (yE n)):=by
 refine fE [] ntmps386 fun _ _=> ?_;simp;refine ck (abX n hn) ?_;simp
def auF (s:Str)(hs:Qle s)(hp:nI s):Fk 329 [dS s] (.tup [vI (ajE s),vB (nI s)]):=by
 refine fE [] ntmps329 fun _ _=> ?_;have hv:=avI hp;have hf:yE (lU s)=s:=by simp only[nI,k_Bool_and_eq_true,decide_eq_true_eq]at hp;exact hp.2
 have ha:Lib.atoiAll s= .ok (lU s):=(congrArg Lib.atoiAll hf.symm).trans (awU hv);have hg:ajE s=lU s:=by rw[acE,if_pos hp]
 simp;refine ck (G6 s (lU s) hs ha) ?_;simp;refine ck (I1 (lU s) (by omega)) ?_;simp[hf];refine ck (bB (lU s) (-999999999) 999999999) ?_;simp;apply gw<;>intro g
 ·simp at g;simp;refine ai ?_;exfalso;omega
 ·simp at g;simp;refine ai ?_;simp[hp]
def auD (s:Str)(v:Int)(hs:Qle s)(hp:nI s=false)(ha:Lib.atoiAll s= .ok v)(hv: -9223372036854775808<=v/\v<=9223372036854775807):Fk 329 [dS s] (.tup [vI (ajE s),vB (nI s)]):=by
 refine fE [] ntmps329 fun _ _=> ?_;have hg:ajE s=0:=by rw[acE,if_neg (by simp[hp])]
 simp;refine ck (G6 s v hs ha) ?_;simp;refine ck (I1 v hv) ?_;simp;apply gv<;>intro e
 ·have e':=e;simp[e];refine ai ?_;simp[hp]
 ·have e':=e;simp[e];refine ck (bB v (-999999999) 999999999) ?_;simp;apply gw<;>intro g
  ·simp at g;simp;refine ai ?_;simp[hp]
  ·simp at g;simp;have h2:=(avJ (n:=v) (by omega)).1;all_goals(rw[e']at h2;rw[hp]at h2;cases h2)
def auE (s:Str)(hs:Qle s)(hp:nI s=false)(ha:∀v,Lib.atoiAll s≠ .ok v):Fk 329 [dS s] (.tup [vI (ajE s),vB (nI s)]):=by
 refine fE [] ntmps329 fun _ _=> ?_;have hg:ajE s=0:=by rw[acE,if_neg (by simp[hp])]
 simp;refine eT (UG s hs ha) (by simp) ?_;rintro r ⟨k,tp,p,rfl⟩;refine⟨by simp,?_⟩;simp;refine ai ?_;simp[hp]
def YX (s:Str)(hs:Qle s):Fk 329 [dS s] (.tup [vI (ajE s),vB (nI s)]):=by
 cases hp:nI s with
 |true=>rw[←hp];exact auF s hs hp
 |false=>
  rw[←hp];by_cases ha:∃v,Lib.atoiAll s= .ok v
  ·obtain⟨v,ha⟩:=ha;exact auD s v hs hp ha (Lib.atoiAll_bounds ha)
  ·exact auE s hs hp fun v h=>ha ⟨v,h⟩
def I4 (s:Str)(hs:Qle s):Fk 235 [dS s] (vI (iX s)):=by
 refine fE [] ntmps235 fun _ _=> ?_;have hg:=acE s;simp;refine ck (YX s hs) ?_;simp;apply gv<;>intro a
 ·have a':=a;have hgv:ajE s=lU s:=by rw[hg,if_pos a]
  simp[a,hgv];refine ck (bB (lU s) 1000 9999) ?_;simp;apply gw<;>intro b
  ·simp at b;simp;grind[iX]
  ·simp at b;simp;grind[iX]
 ·have a':=a;simp[a];grind[iX]
def XX (s:Str):0<=iX s/\iX s<=9999:=by
 unfold iX;split
 ·rename_i h;simp only[inR,decide_eq_true_eq]at h;omega
 ·omega
def azJ (x y z:Int):max (x-y) (y-x)=max x y-min x y:=by omega
def RS (x y z:Int):Fk 236 [dI x,dI y,dI z] (vI (mX x y z)):=by
 refine fE [] ntmps236 fun _ _=> ?_;simp;refine ck (bB x 0 9999) ?_;simp;apply gv<;>intro e
 ·have e':=e;simp at e';simp[e];all_goals(simp only[mX];rw[if_neg (by intro h;simp_all;omega)])
 ·have e':=e;simp at e';simp[e];refine ck (bB y 0 9999) ?_;simp;apply gv<;>intro f
  ·have f':=f;simp at f';simp[f];all_goals(simp only[mX];rw[if_neg (by intro h;simp_all;omega)])
  ·have f':=f;simp at f';simp[f];refine ck (bB z 1 9999) ?_;simp;apply gw<;>intro g
   ·simp at g;simp;all_goals(simp only[mX];rw[if_neg (by intro h;simp_all;omega)])
   ·simp at g;have hxy:inR x 0 9999=true/\inR y 0 9999=true/\inR z 1 9999:=by simp_all
    have hnc:=azJ x y z;obtain⟨D,hD⟩:∃D,max x y-min x y=D:=⟨_,rfl⟩;have hns:mX x y z=if D>=z then 0 else(1000*(z-D)).tdiv z:=by rw[mX,if_pos hxy,hD]
    rw[hD]at hnc;have hb:0<=D/\D<=9999/\ -9999<=x-y/\x-y<=9999/\1<=z/\z<=9999:=by simp at hxy;omega
    clear hxy;have hm:(1000*max (z-D) 0).tdiv z=mX x y z:=by rw[hns];split;(rw[show max (z-D) 0=0 by omega];simp);(rw[show max (z-D) 0=z-D by omega])
    have hz0:¬z=0:=by omega
    have hq:=KZ (a:=1000*max (z-D) 0) (b:=z);simp[hnc,hm,hz0];iterate 4 refine ai ?_
    grind
def V4 (x y:Str)(hx:Qle x)(hy:Qle y):Fk 147 [dS x,dS y] (vI (uC x y)):=by
 refine fE [] ntmps147 fun _ _=> ?_;have hxp:=XX x;have hyp:=XX y;simp;refine ck (I4 x hx) ?_;simp;refine ck (I4 y hy) ?_;simp;apply gv<;>intro e
 ·have e':=e;have hs:uC x y=0:=if_neg (by omega);simp[e,hs]
 ·have e':=e;simp[e];apply gw<;>intro f
  ·have hs:uC x y=0:=if_neg (by omega);simp[hs]
  ·have hs:uC x y=mX (iX x) (iX y) 10:=if_pos (by omega);simp;refine ck (RS _ _ _) ?_;simp[hs]
def KI (s:Str)(hs:Qle s):Fk 237 [dS s] (vS (digits s)):=by
 refine fE [] ntmps237 fun _ _=> ?_;simp;refine wlt (Nat×Str) (fun(i,o)=>([(0,vS s),(3,.own (oBs o)),(5,vS s),(6,vI s.length),(7,vI i)],s.length-i,(i<=s.length)/\(o=(s.take i).filter (fun c=>decide (48<=c.toNat/\c.toNat<=57)))/\(o.length<=i))) ((0,[])) ⟨by omega,rfl,by simp⟩ ?_;rintro⟨i,o⟩ ⟨h1,h2,h3⟩;simp;apply gw<;>intro a
 ·obtain⟨c,hc⟩:=aN (l:=s) (i:=i);have hm:=zW (fun c:UInt8=>decide (48<=c.toNat/\c.toNat<=57)) hc;rw[←h2]at hm;simp[hc];refine ck (zF c) ?_;simp;apply gw<;>intro f
  ·simp at f;have hd:(decide (48<=c.toNat/\c.toNat<=57))=true:=by simp at f|-;omega
   simp[hc];refine nxb (i+1,o++[c]) ⟨by omega,by rw[hm,hd];rfl,by simp;omega⟩
  ·simp at f;have hd:(decide (48<=c.toNat/\c.toNat<=57))=false:=by simp at f|-;omega
   simp;refine nxa (i+1,o) ⟨by omega,by rw[hm,hd];simp,by omega⟩
 ·simp at a;rw[bS a]at h2;simp;grind[digits]
def EF (s p:Str)(hs:Qle s:=by first|omega|grind):fD prog 238 [dS s,dS p] (fun r=>r=vB (p.isSuffixOf s)):=
 D9 (u:= .bool (p.isSuffixOf s)) rfl fun w ow vs hL hsz ha=>by
  obtain rfl:=aiO hsz ha;exact(Tryz.strings_HasSuffix ⟨s.toArray⟩ ⟨p.toArray⟩ w (by simp[ByteArray.size];omega)).mono fun e w' ⟨h1,h2⟩=>⟨h1,h2▸Below.refl _ _⟩
def TS (x y:Str)(hx:Qle x)(hy:Qle y):Fk 148 [dS x,dS y] (vI (sF x y)):=by
 refine fE [5] ntmps148 fun _ _=> ?_;have hdx:(digits x).length<=x.length:=bK _ _;have hdy:(digits y).length<=y.length:=bK _ _;have hps:sF x y=JJ (digits x) (digits y):=rfl;simp;refine ck (KI x hx) ?_;simp;refine ck (KI y hy) ?_;generalize digits x=p at*
 generalize digits y=q at*
 simp;refine as7 (fun(n:Nat)=>[(5,vS p),(6,vS q),(7,vI n)]) (fun(n:Nat)=>(shared p.reverse q.reverse=n)/\(n<=p.length/\n<=q.length)) ?_ ?_
 ·simp;refine wlt Nat (fun n=>([(5,vS p),(6,vS q),(7,vI n)],p.length-n,(n<=p.length/\n<=q.length)/\(shared p.reverse q.reverse=n+shared (p.reverse.drop n) (q.reverse.drop n)))) (0) ⟨by omega,by simp⟩ ?_;rintro n ⟨h1,h2⟩;simp;refine wdr ?_;simp;apply gv<;>intro a
  ·have a':=a;simp[a];apply gv<;>intro b
   ·have b':=b;have hk:((p.length:Int)-1-n).toNat=p.length-1-n:=by omega
    have hk2:((q.length:Int)-1-n).toNat=q.length-1-n:=by omega
    have hcx:=acL (s:=p) (i:=n);have hcy:=acL (s:=q) (i:=n);have hss:=aaY (p:=p.reverse) (q:=q.reverse) (i:=n) (by simp;omega) (by simp;omega);simp[b,hk,hk2,hcx,hcy];iterate 6 refine ai ?_
    apply gw<;>intro f
    ·simp;refine nxa (n+1) ⟨by omega,by rw[h2,hss,if_pos (by simpa using f)];omega⟩
    ·simp;refine jn (n) ⟨by rw[h2,hss,if_neg (by simpa using f)];rfl,h1⟩
   ·have b':=b;simp at b';simp[b];refine jn (n) ⟨by rw[h2,MQ (.inr (by simp;omega))];rfl,h1⟩
  ·have a':=a;simp at a';simp[a];refine jn (n) ⟨by rw[h2,MQ (.inl (by simp;omega))];rfl,h1⟩
 rintro n ⟨h5,h6⟩;have hpe:=aqL p q;rw[h5,←hps]at hpe;refine NV (fun(_:Unit)=>[(5,vS p)]) (fun(_:Unit)=>(sF x y=400)) ?_ ?_
 ·simp;apply gv<;>intro a
  ·have a':=a;rw[if_pos (by omega)]at hpe;simp[a,hpe]
  ·have a':=a;simp at a';simp[a];apply gv<;>intro b
   ·have b':=b;rw[if_pos (by omega)]at hpe;simp[b,hpe]
   ·have b':=b;simp at b';simp[b];apply gw<;>intro d
    ·rw[if_pos (by omega)]at hpe;simp[hpe]
    ·simp at d;rw[if_neg (by omega)]at hpe;simp;apply gw<;>intro e
     ·rw[if_pos (by simpa using e)]at hpe;simp[hpe]
     ·rw[if_neg (by simpa using e)]at hpe;simp;apply gv<;>intro f
      ·have f':=f;rw[if_pos (.inl (by omega))]at hpe;simp[f,hpe]
      ·have f':=f;simp at f';simp[f];refine ck (EF p q) ?_;simp;apply gv<;>intro g
       ·have g':=g;simp at g';rw[if_pos (.inr (.inl (by simpa using g)))]at hpe;simp[g,hpe]
       ·have g':=g;simp[g];refine ck (EF q p) ?_;simp;apply gw<;>intro l
        ·simp at l;rw[if_pos (.inr (.inr (oI.2 l)))]at hpe;simp[hpe]
        ·rw[if_neg (by rintro(h|h|h);(omega);(exact absurd (h.symm.trans g) (by simp));(exact absurd (h.symm.trans l) (by simp)))]at hpe;simp;refine jn (()) (hpe)
 rintro⟨⟩ h7;simp;omega
end Go.Proofs.YtafdbpehjfmnpaaGreatDoor
end
section
namespace Go.Proofs.YtafdbpehjfmnpaaGreatDoor
open Go.Dv Go.Pl Go.Proofs.Tryz
def edB (x y:Str)(i:Nat):L2:=edT x y false i++List.replicate (x.length+1-i) []
def axJ (x y:Str):List.replicate (x.length+1) (D.sl (some 3) [])=(edB x y 0).map cO:=by
 show _=(List.replicate (x.length+1) ([]:L1)).map cO;rw[wS];rfl
variable {i:Nat}
def aBQ (x y:Str)(h:i<=x.length+1):(edB x y i).length=x.length+1:=by simp[edB,DT];omega
def aFB (x y:Str)(h:i<=x.length):(edB x y i)[i]?=some []:=by
 unfold edB;rw[aX (by (try unfold Qle);rw[DT];omega),DT,eZ,if_pos (by omega)]
def aBS (x y:Str)(h:i<=x.length)(r:L1):(edB x y i).set i r=edT x y false i++r::List.replicate (x.length-i) []:=by
 unfold edB;rw[gG _ _ (by (try unfold Qle);rw[DT];omega),DT,eO,show x.length+1-i=(x.length-i)+1 by omega,fI];rfl
def aBR (x y:Str)(h:i<=x.length):((edB x y i).map cO).set i (D.sl (some 3) (List.replicate (y.length+1) (dI 0)))=(edU x y false i 0).map cO:=by
 have e:(D.sl (some 3) (List.replicate (y.length+1) (dI 0)))=cO (List.replicate (y.length+1) 0):=by rw[←List.map_replicate]
 rw[e,←List.map_set,aBS x y h];rfl
def aBX (x y:Str)(h:i<=x.length):edU x y false i (y.length+1)=edB x y (i+1):=by
 unfold edU edB;rw[aBT,axL,show x.length+1-(i+1)=x.length-i by omega,bN];rfl
def aBZ (x y:Str){k:Nat}(hk:k<=y.length):((edU x y false i k).map cO).set i (D.sl (some 3) (((edP x y false i k).map dI).set k (dI (ed x y false i k))))=(edU x y false i (k+1)).map cO:=by
 have h1:((edP x y false i k).map dI).set k (dI (ed x y false i k))=(edP x y false i (k+1)).map dI:=by rw[←List.map_set,aBW hk]
 rw[h1];have h2:(edU x y false i k).set i (edP x y false i (k+1))=edU x y false i (k+1):=by rw[aB0];rfl
 rw[←h2,kI]
def aB2 (x y:Str)(i k:Nat):min (min (ed x y false i (k+1)+1) (ed x y false (i+1) k+1)) (ed x y false i k+if chr x i=chr y k then 0 else 1)=ed x y false (i+1) (k+1):=by
 rw[aFE];unfold edV;rw[ed];simp[wD]
def ai9 (x y:Str)(hx:x.length<=40)(hy:y.length<=40):Fk 406 [dS x,dS y,dB false] (.own (mY (edB x y (x.length+1)))):=by
 refine fE [] ntmps406 fun _ _=> ?_;have hz:=axJ x y;have hz2:=aBQ x y (i:=0) (by omega);simp[hz,hz2];iterate 3 refine ai ?_
 refine wl (fun(i:Nat)=>[(0,vS x),(1,vS y),(2,vB false),(7,.own (mY (edB x y i))),(16,vI (x.length+1)),(17,vI i)]) (fun(i:Nat)=>x.length+1-i) (fun(i:Nat)=>(i<=x.length+1)) (0) (by omega) ?_;rintro i h1;simp;apply gw<;>intro a
 ·have hb1:=aFB x y (i:=i) (by omega);have hb2:=aBR x y (i:=i) (by omega);have hb3:=arR (x:=x) (y:=y) (tr:=false) i 0;have hb4:=aBV (x:=x) (y:=y) (tr:=false) (i:=i) (k:=0) (by omega);simp[hb1,hb2,hb3,hb4];iterate 3 refine ai ?_
  refine wl (fun(k:Nat)=>[(0,vS x),(1,vS y),(2,vB false),(7,.own (mY (edU x y false i k))),(8,vI i),(16,vI (x.length+1)),(17,vI i),(31,vI (y.length+1)),(32,vI k)]) (fun(k:Nat)=>y.length+1-k) (fun(k:Nat)=>(k<=y.length+1)) (0) (by omega) ?_;rintro k h2;simp;apply gw<;>intro b
  ·have hn:=arR (x:=x) (y:=y) (tr:=false) i k;have hp:=aFC (x:=x) (y:=y) (tr:=false) (i:=i) (k:=k) (by omega);have hput:=aBZ x y (i:=i) (k:=k) (by omega);simp;apply gw<;>intro c
   ·have he:ed x y false i k=k:=by rw[show i=0 by omega,ed]
    rw[he]at hput;simp[hn,hp,hput];refine nxa (k+1) (by omega)
   ·simp;apply gw<;>intro d
    ·have he:ed x y false i k=i:=by obtain⟨j,rfl⟩:∃j,i=j+1:=⟨i-1,by omega⟩;rw[show k=0 by omega,ed]
     rw[he]at hput;simp[hn,hp,hput];refine nxa (k+1) (by omega)
    ·obtain⟨i,rfl⟩:∃j,i=j+1:=⟨i-1,by omega⟩;obtain⟨k,rfl⟩:∃j,k=j+1:=⟨k-1,by omega⟩;have e1:((i+1:Nat):Int)-1=i:=by omega
     have e2:((k+1:Nat):Int)-1=k:=by omega
     have hcx:=AX (s:=x) (i:=i);have hcy:=AX (s:=y) (i:=k);have ho:=aBY (x:=x) (y:=y) (tr:=false) (i:=i+1) (k:=k+1) (j:=i) (by omega);have r1:=acC (x:=x) (y:=y) (tr:=false) (i:=i) (k:=y.length+1) (j:=k+1);have r2:=acC (x:=x) (y:=y) (tr:=false) (i:=i) (k:=y.length+1) (j:=k);have r3:=aBU (x:=x) (y:=y) (tr:=false) (i:=i+1) (k:=k+1) (j:=k) (by omega);have l1:=apQ (x:=x) (y:=y) (tr:=false) i (k+1);have l2:=apQ (x:=x) (y:=y) (tr:=false) i k;have l3:=apQ (x:=x) (y:=y) (tr:=false) (i+1) k;have hst:=aB2 x y i k;simp;refine wdr ?_;simp[hcx,hcy];iterate 2 refine ai ?_
     apply gw<;>intro f
     ·rw[if_pos f,Int.add_zero]at hst;have hs2:min (min (ed x y false i (k+1)) (ed x y false (i+1) k)+1) (ed x y false i k)=ed x y false (i+1) (k+1):=by omega
      simp;refine wdt 36 ?_;simp[hn,hp,ho,r1,r2,r3,hs2,hput];iterate 11 refine ai ?_
      refine wdr ?_;simp;refine nxa (k+1+1) (by omega)
     ·rw[if_neg f]at hst;have hs2:min (ed x y false i (k+1)) (min (ed x y false (i+1) k) (ed x y false i k))+1=ed x y false (i+1) (k+1):=by omega
      simp;refine wdt 36 ?_;simp[hn,hp,ho,r1,r2,r3,hs2,hput];iterate 11 refine ai ?_
      refine wdr ?_;simp;refine nxa (k+1+1) (by omega)
  ·simp at b;have hk:edU x y false i k=edB x y (i+1):=by rw[show k=y.length+1 by omega];exact aBX x y (by omega)
   simp[hk];refine nxa (i+1) (by omega)
 ·simp at a;have hi:edB x y i=edB x y (x.length+1):=by rw[show i=x.length+1 by omega]
  simp[hi]
variable {x y:Str}
def aG1 (hx:x.length<=40)(hy:y.length<=40):qW x y=ed x y false x.length y.length:=by rw[YV,if_pos (by simp[F9];omega)]
def axI (x y:Str):(edB x y (x.length+1))[x.length]?=some (edR x y false x.length (y.length+1)):=by
 unfold edB;rw[eO,List.replicate_zero,dP];exact arQ (by omega)
def aG2 (h:40<x.length\/40<y.length):qW x y= -1:=by
 unfold qW;rw[if_neg];simp only[F9,k_Bool_and_eq_true,decide_eq_true_eq];omega
def aCB (x y:Str)(hx:Qle x)(hy:Qle y):Fk 380 [dS x,dS y,dB false] (vI (qW x y)):=by
 refine fE [] ntmps380 fun _ _=> ?_;simp;apply gv<;>intro a
 ·have a':=a;have hn:=aG2 (x:=x) (y:=y) (.inl (by omega));simp[a,hn]
 ·have a':=a;simp at a';simp[a];apply gw<;>intro b
  ·have hn:=aG2 (x:=x) (y:=y) (.inr (by omega));simp[hn]
  ·simp at b;have hf:=aG1 (x:=x) (y:=y) (by omega) (by omega);have h1:=axI x y;have h2:=acC (x:=x) (y:=y) (tr:=false) (i:=x.length) (k:=y.length+1) (j:=y.length);simp;refine ck (ai9 x y (by omega) (by omega)) ?_;simp[h1,h2,hf]
def OU (x y:Str)(hx:Qle x)(hy:Qle y):Fk 319 [dS x,dS y] (vI (qW x y)):=by
 refine fE [] ntmps319 fun _ _=> ?_;simp;refine ck (aCB x y hx hy) ?_;simp
def VU (x y:Str)(hx:Qle x)(hy:Qle y):Fk 230 [dS x,dS y] (vI (xH x y)):=by
 refine fE [] ntmps230 fun _ _=> ?_;have hb:=ag1 x y;have hed:xH x y=if qW x y<0 then 0 else if max (x.length:Int) y.length=0 then 1000 else(1000*(max (x.length:Int) y.length-qW x y)).tdiv (max (x.length:Int) y.length):=rfl
 obtain⟨M,hM⟩:∃M,max (x.length:Int) y.length=M:=⟨_,rfl⟩;have hMb:0<=M/\M<=1048576:=by omega
 rw[hM]at hed;simp;refine ck (OU x y hx hy) ?_;simp[hM];apply gw<;>intro a
 ·rw[if_pos (by omega)]at hed;simp[hed]
 ·simp at a;rw[if_neg (by omega)]at hed;simp;apply gw<;>intro b
  ·rw[if_pos (by omega)]at hed;simp[hed]
  ·rw[if_neg (by omega)]at hed;have hq:=KZ (a:=1000*(M-qW x y)) (b:=M);simp[hed,hq];iterate 2 refine ai ?_
   omega
def JA (x y:Str)(hx:x.length<=65536:=by omega)(hy:y.length<=65536:=by omega):Fk 143 [dS x,dS y] (vI (pR x y)):=by
 refine fE [] ntmps143 fun _ _=> ?_;have h1:=K6 x;have h2:=K6 y;simp;first|refine ck (nV x) ?_|refine ckz (nV x) ?_
 simp;first|refine ck (nV y) ?_|refine ckz (nV y) ?_
 simp;apply gv<;>intro a
 ·have a':=a;have ht:pR x y=0:=if_pos (.inl (by simpa using a));simp[a,ht]
 ·have a':=a;simp[a];apply gw<;>intro b
  ·have ht:pR x y=0:=if_pos (.inr (by simpa using b));simp[ht]
  ·have ht:pR x y=xH (normal x) (normal y):=if_neg (by rintro(h|h);(exact a (by simpa using h));(exact b (by simpa using h)));simp;refine ck (VU (normal x) (normal y) (by omega) (by omega)) ?_;simp[ht]
end Go.Proofs.YtafdbpehjfmnpaaGreatDoor
end
section
namespace Go.Proofs.YtafdbpehjfmnpaaGreatDoor
open Go.Dv Go.Pl Go.RowKit Go.Lib Go.Sort Go.Proofs.Tryz
def IZ (l:List Str)(hl:1<=l.length/\l.length<=262144):fD prog 323 [mM l] (fun r=>r= .own (FD l)):=by
 intro w ow vs t ht hL hnew hsz ha;obtain⟨a,cap,hv,hcap,hc⟩:=asO (ha 0 _ rfl)
 obtain rfl:vs= #[.slice a l.length cap]:=by
  apply Array.ext
  ·simpa using hsz
  ·intro i hi h2;obtain rfl:i=0:=by simpa using h2
   simpa[aF,hi]using hv
 rcases hc with rfl|⟨b,off,rfl,_,h2⟩
 ·simp at hl
 ·refine(adC l ⟨b,off,none⟩ cap w hl.2 (.inr ⟨rfl,h2⟩)).mono ?_;rintro e w' ⟨v,rfl,h1,_,h3⟩;obtain⟨ow',h4,h5⟩:=afA (ow:=ow) (t:=t) h3 h1;exact⟨_,ow',_,rfl,rfl,h4,rfl,h5⟩
def GU (l:List Str)(hl:1<=l.length/\l.length<=262144:=by first|assumption|omega):NW prog 324 [.one (.bool false)] 0 (FD l) (fun r d=>r= .tup []/\d=FD (sJ l)):=by
 intro w ow vs t lab ht hL hnew hsz hm hargs hV;simp only[V,R]at hV;obtain⟨a,cap,hv,hc1,hc2,h4⟩:=hV;rw[aV]at hv hc1;have hv:vs.getD 0 undef= .slice a l.length cap:=by simpa using hv
 obtain rfl:vs= #[.slice a l.length cap]:=by
  apply Array.ext
  ·simpa using hsz
  ·intro i hi h2;obtain rfl:i=0:=by simpa using h2
   simpa[aF,hi]using hv
 rcases h4 with⟨_,h4,_⟩|⟨h4,_⟩|⟨b,off,s,C,e',fz,rfl,hb,_,h5,hrow⟩
 ·have:l=[]:=by simpa using h4
  rw[this]at hl;simp at hl
 ·cases h4
 obtain⟨hob,rfl,hU,rfl,hC,i,hi,his⟩:=h5 _ rfl;have hr:=(Rs.iff hb).1 hrow
 have hget:∀(j:Nat) (x:Str),l[j]?=some x->s=1/\C[j]?=some (Value.string ⟨x.toArray⟩):=fun j x hx=>by
  obtain⟨hw,C',e2,fz',cs,g1,g2,g3⟩:=hr j (dS x) (by rw[aO,hx];rfl);have hs1:s=1:=hw.symm;subst hs1;rw[hb]at g1;obtain⟨rfl,rfl,rfl⟩:C=C'/\_=e2/\fz=fz':=by simpa using g1
  simp only[R]at g3;obtain⟨rfl,_⟩:=g3;have:=g2 0 (by simp[D.w]);exact⟨rfl,by simpa using this⟩
 have hs1:s=1:=(hget 0 _ (aB (by omega))).1;subst hs1;have hCl:l.length<=C.size:=by omega
 have hlt:=Go.Dv.lt_of_heap hb
 have hH:Holds encStr w b 0 l.toArray:=fun j hj=>by
  have hj':j<l.length:=by simpa using hj
  have h1:=(hget j _ (aB hj')).2;refine⟨?_,?_⟩
  ·rw[cell_of_row w b (0+j) C _ fz hb,bU,h1,acD];rw[getElem!_pos l.toArray j hj];simp
  ·have:=hU j (by omega);simp only[World.frozen?,hb,bU];simp only[kT,decide_eq_false_iff_not];omega
 refine(Tryz.slices_Sort_string b 0 cap l w hH hlt (by omega)).mono ?_;rintro e w2 ⟨h1,n,os,rfl⟩
 have hold:∀b2,b2<w.heap.size->(grow (putRow encStr (Go.Sort.ahead w n) b 0 (l.mergeSort fun x y=>decide (x<=y)).toArray) os).heap[b2]?=(w.heap.modify b (onCells (putCells encStr 0 (sJ l).toArray)))[b2]?:=fun b2 hb2=>by
  show((w.heap.modify b (onCells (putCells encStr 0 (sJ l).toArray)))++os)[b2]?=_;rw[eU (by simpa using hb2)]
 have hnb:=hold b hlt;rw[tJ,if_pos rfl,hb]at hnb;refine⟨_,ow,.tup [],_,h1,⟨rfl,rfl⟩,rfl,rfl,rfl,by simp[grow,putRow,mapBlock,Go.Sort.ahead],fun b2 hb2 hno=>⟨?_,rfl⟩,fun b2 hb2=>hnew b2 (by simp[grow,putRow,mapBlock,Go.Sort.ahead]at hb2;omega),?_,rfl,fun s a=>⟨#[],rfl,rfl,fun k x hx=>by simp at hx⟩⟩
 ·rw[hold b2 hb2,tJ,if_neg (fun e=>hno [] (by rw[←e,hob];rfl))]
 ·simp only[V,R];rw[aV,uB];refine⟨_,_,rfl,by omega,hc2,.inr (.inr ⟨b,0,1,_,_,fz,rfl,hnb,(by intro h;cases h),fun t' ht'=> ?_,?_⟩)⟩
  ·obtain rfl:=k_Option_some_inj ht';exact⟨hob,rfl,by simpa[putCells]using hU,rfl,by simpa[putCells]using hC,i,hi,his⟩
  ·rw[Rs.iff hnb];intro j x hx;rw[aO,aK]at hx;obtain⟨y,hy,rfl⟩:=hx;have hj:j<l.length:=by have:=dL hy;rw[uB]at this;exact this
   refine⟨rfl,_,_,_,[.string ⟨y.toArray⟩],hnb,fun k hk=> ?_,by simp[R,Value.oneCell']⟩;obtain rfl:k=0:=by simpa[D.w]using hk
   have hjC:C[j]?=some C[j]:=iB (by omega);simp only[putCells,bU,Nat.mul_one,kJ,Array.getElem?_mapIdx,hjC,cK];have hjs:j<(sJ l).toArray.size:=by simpa[uB]using hj
   rw[if_pos ⟨Nat.zero_le _,hjs⟩,Nat.sub_zero,getElem!_pos (sJ l).toArray j hjs];rw[aB (by simpa using hjs)]at hy;simp[acD,k_Option_some_inj hy]
end Go.Proofs.YtafdbpehjfmnpaaGreatDoor
end
section
namespace Go.Proofs.YtafdbpehjfmnpaaGreatDoor
open Go.Dv Go.Pl Go.Proofs.Tryz
def abV (n d:Int)(hn:0<=n/\n<=1000000000)(hd:0<=d/\d<=1000000000):Fk 265 [dI n,dI d] (vI (ratio n d)):=by
 refine fE [] ntmps265 fun _ _=> ?_;simp;apply gw<;>intro h1
 ·simp;grind[ratio]
 ·simp;iterate 3 refine ai ?_
  grind[ratio]
def NM (l w:L1)(hl:Qle l:=by first|omega|grind)(hw:Qle w:=by first|omega|grind):Fk 333 [nInts l,nInts w] (vI (oP l w)):=by
 refine fE [] ntmps333 fun _ _=> ?_;simp;apply gw<;>intro e
 ·simp;simp[oP];omega
 ·simp;refine wlt (Nat×Int×Int) (fun(i,s,t)=>([(0,vN l),(1,vN w),(5,vI s),(6,vI t),(7,vI i)],l.length-i,(i<=l.length)/\((List.range i).all (sP l w)=true)/\(s=xG l w i)/\(t=uE w i))) ((0,0,0)) ⟨by omega,rfl,rfl,rfl⟩ ?_;rintro⟨i,s,t⟩ ⟨h1,h2,h3,h4⟩;simp;apply gw<;>intro a
  ·have hl1:=aU (l:=l) (i:=i);have hw1:=aU (l:=w) (i:=i);have hb:∀j<i,sP l w j:=fun j hj=>aI.1 h2 j (aY.2 hj);have hN:=CS i hb;have hD:=CR i hb;simp[hl1];refine ck (bC _ _ _) ?_;simp;apply gv<;>intro e
   ·have e':=e;simp at e';have hn:=mZ a (P:=sP l w) (by simp[sP];omega);simp[e];all_goals simp[oP,hn]
   ·have e':=e;simp at e';simp[hw1,e];refine ck (bC _ _ _) ?_;simp;apply gw<;>intro f
    ·simp at f;have hn:=mZ a (P:=sP l w) (by simp[sP];omega);simp;all_goals simp[oP,hn]
    ·simp at f;have hc:sP l w i:=by simp[sP];omega
     have hp1:0<=at1 l i*at1 w i:=Int.mul_nonneg (by omega) (by omega);have hp2:at1 l i*at1 w i<=1000*1000:=Int.mul_le_mul (by omega) (by omega) (by omega) (by omega);simp;refine wdt 11 ?_;simp[hl1,hw1];iterate 4 refine ai ?_
     refine nx (i+1,s+at1 l i*at1 w i,t+at1 w i) ⟨by omega,(oK h2 hc),by rw[h3,xG,xG,aL],by rw[h4,uE,uE,aL]⟩
  ·simp at a;have hi:l.length=i:=by omega
   subst hi;have hb:∀j<l.length,sP l w j:=fun j hj=>aI.1 h2 j (aY.2 hj);have hN:=CS l.length hb;have hD:=CR l.length hb;simp;apply gw<;>intro b
   ·simp;all_goals simp[oP,←h4,b]
   ·simp;iterate 2 refine ai ?_
    all_goals(rw[oP,if_pos ⟨by omega,h2⟩,←h4,if_neg b,←h3])
def WU (s:Sco)(f:L1)(hs:Qle s.weights:=by first|omega|grind)(hf:Qle f:=by first|omega|grind):Fk 242 [H7 s,nInts f] (vI (mF s f)):=by
 refine fE [] ntmps242 fun _ _=> ?_;simp;refine ck (oU _) ?_;simp;apply gv<;>intro e
 ·have e':=e;simp at e';simp[e];grind[mF]
 ·have e':=e;simp at e';simp[e];refine ck (nY _) ?_;simp;apply gw<;>intro b
  ·simp at b;simp;grind[mF]
  ·simp at b;simp;refine ck (NM _ _) ?_;simp;grind[mF]
def WZ (t:Tst)(f:L1)(hf:Qle f:=by first|omega|grind):Fk 174 [zN t,nInts f] (vB (pQ f t)):=by
 refine fE [] ntmps174 fun _ _=> ?_;simp;refine wdt 20 ?_;simp;refine cd (nY _) ?_;simp;apply gv<;>intro e
 ·have e':=e;simp[e];refine cd (bC _ _ _) ?_;simp;apply gv<;>intro g
  ·have g':=g;simp at g';have h6:f.length=6:=by simp only[uU,k_Bool_and_eq_true,decide_eq_true_eq]at e;exact e.2
   have hx:=aU (l:=f) (i:=t.feature.toNat);simp[g,hx];refine ai ?_;all_goals(simp only[pQ];rw[e',show inR t.feature 0 5=true by simp;omega];simp)
  ·have g':=g;simp at g';simp[g];all_goals(simp only[pQ];rw[e',show inR t.feature 0 5=false by simp;omega];simp)
 ·have e':=e;simp[e];all_goals simp[pQ,e']
def WV (r:List Tst)(f:L1)(hr:Qle r)(hf:Qle f:=by first|omega|grind):Fk 95 [vZ r,nInts f] (vB (tY f r)):=by
 refine fE [] ntmps95 fun _ _=> ?_;simp;refine wlt Nat (fun i=>([(1,vN f),(2,.own (.bx true (vZ r))),(5,vI i)],r.length-i,(i<=r.length)/\((r.take i).all (pQ f)=true))) (0) ⟨by omega,rfl⟩ ?_;rintro i ⟨h1,h2⟩;simp;apply gw<;>intro a
 ·obtain⟨c,hc⟩:=aN (l:=r) (i:=i);simp[hc];refine ck (WZ _ _) ?_;simp;apply gw<;>intro b
  ·simp at b;have hn:=fJ hc (P:=(pQ f)) (by first|assumption|(simp[*];done)|grind|(simp;omega));simp;grind[tY]
  ·simp at b;simp;refine nxa (i+1) ⟨by omega,(bW hc h2 (by first|assumption|(simp[*];done)|grind|(simp;omega)))⟩
 ·simp at a;have hf:=iO h2 a;simp;refine ck (nY _) ?_;simp;grind[tY]
def BB (rs:List (List Tst))(f:L1)(hs:Qle rs:=by first|omega|grind)(hr:∀l∈rs,Qle l:=by first|omega|grind)(hf:Qle f:=by first|omega|grind):Fk 48 [mQ rs,nInts f] (vI (nT rs f)):=by
 refine fE [] ntmps48 fun _ _=> ?_;simp;refine wlt Nat (fun i=>([(1,vN f),(2,.own (.bx true (mQ rs))),(5,vI i)],rs.length-i,(i<=rs.length)/\((rs.take i).any (tY f)=false))) (0) ⟨by omega,rfl⟩ ?_;rintro i ⟨h1,h2⟩;simp;apply gv<;>intro a
 ·have a':=a;simp[a];refine ck (rJ _) ?_;simp;apply gw<;>intro b
  ·obtain⟨c,hc⟩:=aN (l:=rs) (i:=i);simp[hc];refine ck (WV c f (hr c (aA hc))) ?_;simp;apply gw<;>intro e
   ·have hx:ix (tY f) rs=i:=BI hc h2 e;simp;grind[nT]
   ·simp;refine nxa (i+1) ⟨by omega,(jB hc h2 e)⟩
  ·simp;grind[nT]
 ·have a':=a;simp at a';have hx:=qQ (mR h2);simp[a];grind[nT]
def WW (rs:List (List Tst))(f:L1)(hs:Qle rs:=by first|omega|grind)(hr:∀l∈rs,Qle l:=by first|omega|grind)(hf:Qle f:=by first|omega|grind):Fk 243 [mQ rs,nInts f] (vB (decide (0<=nT rs f))):=by
 refine fE [] ntmps243 fun _ _=> ?_;simp;refine ck (BB _ _) ?_;simp
def UD (rs:List (List Tst))(s:Sco)(f:L1)(hs:Qle rs)(hr:∀l∈rs,Qle l)(hw:Qle s.weights)(hf:Qle f):Fk 157 [mQ rs,H7 s,nInts f] (vI (iT rs s f)):=by
 refine fE [] ntmps157 fun _ _=> ?_;simp;refine ck (rJ _) ?_;simp;apply gv<;>intro e
 ·have e':=e;simp at e';simp[e];grind[iT]
 ·have e':=e;simp at e';simp[e];refine ck (oU _) ?_;simp;apply gv<;>intro g
  ·have g':=g;simp at g';simp[g];grind[iT]
  ·have g':=g;simp at g';simp[g];refine ck (nY _) ?_;simp;apply gw<;>intro b
   ·simp at b;simp;grind[iT]
   ·simp at b;have hp:=XW s f hf;have hb:0<=s.bias/\s.bias<=1000:=by simp only[lX,k_Bool_and_eq_true,decide_eq_true_eq]at g';exact g'.2
    simp;refine wdt 6 ?_;simp;refine cd (WU _ _) ?_;simp;refine ai ?_;refine ck (WW _ _) ?_;simp;apply gw<;>intro d
    ·simp;grind[iT]
    ·simp at d;simp;grind[iT]
def aeA (x y:Str)(hx:Qle x)(hy:Qle y):Fk 341 [dS x,dS y] (vB (decide (x.length<=40)&&decide (y.length<=40))):=by
 refine fE [] ntmps341 fun _ _=> ?_;simp;apply gv<;>intro e
 ·have e':=e;simp[e];grind
 ·have e':=e;simp at e';simp[e];omega
def abQ (s:Str)(hs:s.length<=65536):Fk 182 [dS s] (vS (jG s)):=by
 refine fE [] ntmps182 fun _ _=> ?_;simp;refine wlt (Nat×Str×Int) (fun(i,o,l)=>([(0,vS s),(3,.own (oBs o)),(4,vI l),(5,vI i)],s.length-i,(i<=s.length)/\((o,l)=(s.take i).foldl vQ ([],0))/\(o.length<=4/\(o=[]↔i=0))/\((s.take i).all (fun c=>decide (aM c≠ -2))=true))) ((0,[],0)) ⟨by omega,rfl,by simp,rfl⟩ ?_;rintro⟨i,o,l⟩ ⟨h1,h2,h3,h4⟩;simp;apply gw<;>intro a
 ·obtain⟨c,hc⟩:=aN (l:=s) (i:=i);have hm:=fA vQ ([],0) hc;rw[←h2]at hm;have hcl:=YC c;simp[hc];refine ck (WX _) ?_;simp;apply gw<;>intro b
  ·have hn:=fJ hc (P:=fun c=>decide (aM c≠ -2)) (by simp[b]);have hr:jG s=[]:=if_pos (.inr hn);simp[hr]
  ·simp;apply gw<;>intro d
   ·have ht:s.take 1=[c]:=by subst d;simpa using dV hc
    have hf:vY [c]=[iJ c]:=rfl;have ho:o=[]:=h3.2.2 d;have hb0:({data:= #[iJ c]}:ByteArray)[0]'(by show 0<1;omega)=iJ c:=rfl;simp[ht];refine ai ?_;refine ck (xK [c]) ?_;have hu:vQ (o,l) c=([iJ c],aM c):=if_pos ho;simp[hf,hb0,ho];refine nxa (i+1,[iJ c],aM c) ⟨by omega,by rw[hm,hu],by simp,(bW hc h4 (by simp[b]))⟩
   ·have ho:o≠[]:=fun h=>d (h3.2.1 h);have hsx:vQ (o,l) c=(if aM c>0/\aM c≠l/\o.length<4 then o++[UInt8.ofNat (48+aM c).toNat]else o,if 0<=aM c then aM c else l):=if_neg ho;simp;apply gv<;>intro e
    ·have e':=e;have hu8:IntKind.u8.wrap (48+aM c)=max (48+aM c) 0 % 256:=by simp[IntKind.wrap,IntKind.bits,IntKind.signed];omega
     simp[e];apply gv<;>intro f
     ·have f':=f;simp[f];apply gw<;>intro g
      ·have hp:vQ (o,l) c=(o++[UInt8.ofNat (48+aM c).toNat],aM c):=by rw[hsx,if_pos ⟨by omega,by simpa using f,by omega⟩,if_pos (by omega)]
       simp[hu8];iterate 2 refine ai ?_
       apply gw<;>intro k
       ·simp;refine nxa (i+1,o++[UInt8.ofNat (48+aM c).toNat],aM c) ⟨by omega,by rw[hm,hp],by simp;omega,(bW hc h4 (by simp[b]))⟩
       ·simp at k;exfalso;omega
      ·simp at g;have hp:vQ (o,l) c=(o,aM c):=by rw[hsx,if_neg (by rintro⟨_,_,h⟩;omega),if_pos (by omega)]
       simp;apply gw<;>intro k
       ·simp;refine nxa (i+1,o,aM c) ⟨by omega,by rw[hm,hp],by simp[ho];omega,(bW hc h4 (by simp[b]))⟩
       ·simp at k;exfalso;omega
     ·have f':=f;have hp:vQ (o,l) c=(o,aM c):=by rw[hsx,if_neg (by rintro⟨_,h,_⟩;exact h (by simpa using f')),if_pos (by omega)]
      simp[f];apply gw<;>intro k
      ·simp;refine nxa (i+1,o,aM c) ⟨by omega,by rw[hm,hp],by simp[ho];omega,(bW hc h4 (by simp[b]))⟩ (h3:=by simp[hc,e,f])
      ·simp at k;exfalso;omega
    ·have e':=e;simp at e';have hp:vQ (o,l) c=(o,if 0<=aM c then aM c else l):=by rw[hsx,if_neg (by rintro⟨h,_⟩;exact e (by simpa using h))]
     simp[e];apply gw<;>intro k
     ·simp;refine nxa (i+1,o,aM c) ⟨by omega,by rw[hm,hp,if_pos (by omega)],by simp[ho];omega,(bW hc h4 (by simp[b]))⟩
     ·simp at k;simp;refine nxa (i+1,o,l) ⟨by omega,by rw[hm,hp,if_neg (by omega)],by simp[ho];omega,(bW hc h4 (by simp[b]))⟩
 ·simp at a;have hi:s.length=i:=by omega
  have hf:=iO h4 a;rw[bS a]at h2;simp;apply gw<;>intro b
  ·have hr:jG s=[]:=if_pos (.inl (by have:=h3.2.1 (by simpa using b);exact bA (by omega)));simp[hr]
  ·have hs0:s≠[]:=fun h=>b (by have:=h3.2.2 (by subst h;simpa using hi.symm);simpa using this);have hr:jG s=abZ o:=by rw[jG,if_neg (by rw[hf];simp[hs0]),←h2]
   simp;refine wlt Str (fun q=>([(3,.own (oBs q))],4-q.length,(q.length<=4)/\(abZ q=abZ o))) (o) ⟨h3.1,rfl⟩ ?_;rintro q ⟨h5,h6⟩;simp;apply gw<;>intro g
   ·have hp:abZ (q++[48])=abZ q:=by simp only[abZ,aP,dZ];rw[bN];congr 1;rw[show 4-q.length=(4-(q.length+1))+1 by omega,fI];rfl
    simp;refine nxa (q++[48]) ⟨by simp;omega,by rw[hp,h6]⟩
   ·simp at g;have hq:abZ q=q:=by simp[abZ,show 4-q.length=0 by omega]
    simp;all_goals(rw[hr,←h6,hq])
def afT {l:List Str}{x y:Str}{b:Bool}(h:y∈jT l x b):y∈l\/y=x:=by
 unfold jT at h;split at h
 ·exact .inl h
 ·rcases k_List_mem_append.1 h with h|h
  ·rcases k_List_mem_append.1 h with h|h
   ·exact .inl (iQ h)
   ·exact .inr (by simpa using h)
  ·exact .inl (iP h)
def MV (s:Str):(tokens s).length<=2*s.length+1/\∀x∈tokens s,x.length<=2*s.length:=by
 have hc:=alC 32 (normal s);have hn:=H9 s
 have key:∀(L:List Str) (t:List Str),(∀x∈L,x.length<=2*s.length)->(∀x∈t,x.length<=2*s.length)->(L.foldl xU t).length<=t.length+L.length/\∀x∈L.foldl xU t,x.length<=2*s.length:=by
  intro L
  induction L with
  |nil=>intro t _ ht;exact⟨by simp,ht⟩
  |cons y L ih=>
   intro t hL ht;have h1:=aoT t y
   have h2:∀x∈xU t y,x.length<=2*s.length:=fun x hx=>by
    unfold xU at hx;split at hx
    ·rcases afT hx with h|rfl
     ·exact ht x h
     ·exact hL _ (by simp)
    ·exact ht x hx
   have:=ih (xU t y) (fun x hx=>hL x (bD _ hx)) h2;refine⟨?_,this.2⟩;have:=this.1;simp only[k_List_foldl_cons,aR];omega
 have:=key (adL 32 (normal s)) [] (fun x hx=>by have:=hc.2 x hx;omega) (by simp);unfold tokens;refine⟨?_,this.2⟩;have:=this.1;simp at this;omega
def JD (s:Str)(hs:s.length<=4096):Fk 100 [dS s] (vR (mH s)):=by
 refine fE [] ntmps100 fun _ _=> ?_;have ht:=MV s;simp;refine ck (GZ _) ?_;generalize hcs:tokens s=L at ht|-
 simp;refine wld [3] (Nat×List Str) (fun(i,o)=>([(3,vR o),(4,vR L),(5,vI i)],L.length-i,(i<=L.length)/\(o=(L.take i).foldl xO [])/\(o.length<=i))) ((0,[])) ⟨by omega,rfl,by simp⟩ ?_;rintro⟨i,o⟩ ⟨h1,h2,h3⟩;simp;apply gw<;>intro a
 ·obtain⟨c,hc⟩:=aN (l:=L) (i:=i);have hm:=fA xO [] hc;rw[←h2]at hm;have hl:=ht.2 c (J2 hc);simp[hc];refine ck (abQ c (by omega)) ?_;simp;apply gw<;>intro b
  ·have hu:xO o c=jT o (jG c) false:=if_pos b;have hp:=sH o (jG c) false;simp;refine ck (yV o (jG c) false) ?_;simp;refine ai ?_;refine nxc (i+1,jT o (jG c) false) [3] ⟨by omega,by rw[hm,hu],by omega⟩
  ·have hu:xO o c=o:=if_neg (by simp[b]);simp;refine ai ?_;refine nxc (i+1,o) [3] ⟨by omega,by rw[hm,hu],by omega⟩
 ·simp at a;rw[bS a]at h2;simp;simp[mH,hcs,←h2]
def GV (l:List Str)(hl:Qle l)(hs:∀x∈l,Qle x):Fk 343 [mM l] (vB (qB l)):=by
 refine fE [200001] ntmps343 fun _ _=> ?_;simp;refine wlt Nat (fun i=>([(0,vR l),(3,vI i)],l.length-i,(i<=l.length)/\((l.take i).all R8=true)/\(adj ltL (l.take i)=true))) (0) ⟨by omega,rfl,rfl⟩ ?_;rintro i ⟨h1,h2,h3⟩;simp;apply gw<;>intro a
 ·obtain⟨c,hc⟩:=aN (l:=l) (i:=i);simp;refine NV (fun(_:Unit)=>[(0,vR l),(3,vI i)]) (fun(_:Unit)=>(c≠[])/\(adj ltL (l.take (i+1))=true)) ?_ ?_
  ·simp;refine wdr ?_;simp[hc];apply gv<;>intro e
   ·have e':=e;have hn:=fJ hc (P:=R8) (by simp[R8,e]);simp[e];grind[qB]
   ·have e':=e;simp[e];apply gv<;>intro f
    ·have f':=f;obtain⟨p,hp⟩:=aN (l:=l) (i:=i-1);have hi1:i-1+1=i:=by omega
     simp[hc,f,hp];iterate 2 refine ai ?_
     apply gw<;>intro b
     ·simp at b;have hn:=JO hp (by rw[hi1];exact hc) (R:=ltL) (by simpa using b);simp;grind[qB]
     ·simp at b;simp;refine jn (()) ⟨by simpa using e,by have:=yU (i:=i-1) (by rw[hi1];exact h3) hp (by rw[hi1];exact hc) (R:=ltL) (by simpa using b);rwa [hi1]at this⟩
    ·have f':=f;simp at f';simp[f];refine jn (()) ⟨by simpa using e,(by obtain rfl:i=0:=(by omega);exact vF)⟩
  rintro⟨⟩ ⟨h5,h4⟩;have hcl:=hs c (J2 hc);simp;refine wlt Nat (fun j=>([(0,vR l),(3,vI i),(4,vI j)],c.length-j,(j<=c.length)/\((c.take j).all xD=true)/\(0<j->vY c=c))) (0) ⟨by omega,rfl,by omega⟩ ?_;rintro j ⟨h1j,h2j,h3j⟩;simp[hc];apply gw<;>intro aj
  ·obtain⟨cj,hcj⟩:=aN (l:=c) (i:=j);simp;refine wdr ?_;simp[hc,hcj];refine cd (PI _) ?_;simp;apply gv<;>intro e
   ·have e':=e;simp at e';have hn:=fJ hc (P:=R8) (by have:=fJ hcj (P:=xD) (by simpa using e);simp[R8,this]);simp[e];grind[qB]
   ·have e':=e;simp at e';simp[hc,e];refine cd (xK _) ?_;simp[hc];apply gw<;>intro b
    ·have hn:=fJ hc (P:=R8) (by simp[R8,b]);simp;grind[qB]
    ·simp;refine nxa (j+1) ⟨by omega,(bW hcj h2j (by simpa using e)),(fun _=>by simpa using b)⟩
  ·simp at aj;have hw:=iO h2j aj;have hpos:0<c.length:=kG.2 h5;simp;refine nxa (i+1) ⟨by omega,(bW hc h2 (by simp[R8,hw,h5,h3j (by omega)])),h4⟩
 ·simp at a;have hf:=iO h2 a;rw[bS a]at h3;simp;grind[qB]
def aeB (l m:List Str)(hl:l.length<=262144)(hs:∀x∈l,Qle x)(hm:m.length<=262144)(ht:∀x∈m,Qle x):Fk 264 [mM l,mM m] (vB (wE l m)):=by
 refine fE [] ntmps264 fun _ _=> ?_;simp;refine ck (GV l (by omega) hs) ?_;simp;apply gv<;>intro e
 ·have e':=e;simp[e];refine ck (GV m (by omega) ht) ?_;simp;grind[wE]
 ·have e':=e;simp[e];grind[wE]
def apH (l m:List Str):(common l m).length<=l.length:=by
 have:=F4 (IW m) (fun t x=>by unfold IW;split;(exact sH _ _ _);omega) l [];simpa[common]using this
def av1 (l m:List Str):(YJ l m).length<=l.length+m.length:=by
 have h1:=F4 xV (fun t x=>sH _ _ _) l [];have h2:=F4 xV (fun t x=>sH _ _ _) m (l.foldl xV []);unfold YJ;simp at h1;omega
def abP (l m:List Str)(hl:l.length<=262144)(hs:∀x∈l,Qle x)(hm:m.length<=262144)(ht:∀x∈m,Qle x):Fk 179 [mM l,mM m] (vI (BJ l m)):=by
 refine fE [] ntmps179 fun _ _=> ?_;simp;refine ck (aeB l m hl hs hm ht) ?_;simp;apply gw<;>intro e
 ·simp at e;simp;grind[BJ]
 ·simp at e;have h1:=apH l m;have h2:=av1 l m;simp;refine ck (O9 l m hl hm) ?_;simp;refine ck (R5 l m hl hm) ?_;simp;refine ck (abV ((common l m).length:Int) ((YJ l m).length:Int) (by omega) (by omega)) ?_;simp;grind[BJ]
def PL (l m:List Str)(hl:l.length<=262144)(hs:∀x∈l,Qle x)(hm:m.length<=262144)(ht:∀x∈m,Qle x):Fk 98 [mM l,mM m] (vI (uA l m)):=by
 refine fE [] ntmps98 fun _ _=> ?_;simp;apply gv<;>intro e
 ·have e':=e;simp[e];grind[uA]
 ·have e':=e;simp[e];apply gw<;>intro f
  ·simp;grind[uA]
  ·simp;refine ck (abP l m hl hs hm ht) ?_;simp;grind[uA]
def abU (x y:Str)(tr:Bool)(hx:x.length<=4096)(hy:y.length<=4096):Fk 342 [dS x,dS y,dB tr] (.own (mY (QZ x y tr))):=by
 refine fE [200003] ntmps342 fun _ _=> ?_;simp;refine wlt (Nat×L2) (fun(i,T)=>([(0,vS x),(1,vS y),(2,vB tr),(7,.own (mY T)),(8,vI i)],(x.length+1)-i,(i<=(x.length+1))/\(T=loopN i ([]) ((fun i T=>T++[adR x y tr i T])))/\T.length=i/\(aa1 (y.length+1) T))) ((0,[])) ⟨by simp,rfl,rfl,((fun i hi=>by simp at hi))⟩ ?_;rintro⟨i,T⟩ ⟨h1,h2,h3,h4⟩;simp;apply gw<;>intro a
 ·have hs:=aL i ([]) ((fun i T=>T++[adR x y tr i T]));rw[←h2]at hs;simp;iterate 3 refine ai ?_
  refine wlt (Nat×L1) (fun(j,r)=>([(0,vS x),(1,vS y),(2,vB tr),(7,.own (mY T)),(8,vI i),(9,wN r),(10,vI j)],(y.length+1)-j,(j<=(y.length+1))/\(r=loopN j ((List.replicate (y.length+1) 0)) ((GA x y tr T i)))/\(ai5 (y.length+1) j i r))) ((0,(List.replicate (y.length+1) 0))) ⟨by simp,rfl,(⟨by simp,by omega⟩)⟩ ?_;rintro⟨j,r⟩ ⟨h1j,h2j,h3j⟩;simp;apply gw<;>intro aj
  ·have hsj:=aL j ((List.replicate (y.length+1) 0)) ((GA x y tr T i));rw[←h2j]at hsj;have hrl:=h3j.1;have hrj:=aU (l:=r) (i:=j);simp;refine NV (fun(_:Unit)=>[(0,vS x),(1,vS y),(2,vB tr),(7,.own (mY T)),(8,vI i),(9,wN (r.set j (edOne x y T i r j))),(10,vI j)]) (fun(_:Unit)=>True) ?_ ?_
   ·simp;apply gw<;>intro b
    ·have hv:edOne x y T i r j=j:=if_pos (by simpa using b);simp[hrj];refine jn (()) trivial (h3:=by simp[hrj,hrl,hv])
    ·simp;apply gw<;>intro d
     ·have hv:edOne x y T i r j=i:=by rw[edOne,if_neg (by simpa using b),if_pos (by simpa using d)]
      simp[hrj];refine jn (()) trivial (h3:=by simp[hrj,hrl,hv])
     ·have hcx:=AX (s:=x) (i:=i-1);have hcy:=AX (s:=y) (i:=j-1);obtain⟨q,hq,hqj,hb1,hb2⟩:=EO h4 (i:=i-1) (j:=j-1) (by omega) (by omega);obtain⟨q',hq',hqk,hb3,hb4⟩:=EO h4 (i:=i-1) (j:=j) (by omega) (by omega);obtain rfl:q=q':=by rw[hq]at hq';exact k_Option_some_inj hq'
      simp;refine wdt 9 ?_;simp[hcx,hcy];iterate 4 refine ai ?_
      apply gw<;>intro f
      ·have hv:edOne x y T i r j=at2 T (i-1) (j-1):=by rw[edOne,if_neg (by simpa using b),if_neg (by simpa using d),if_pos f]
       simp[hrj,hq,hqj];iterate 4 refine ai ?_
       refine jn (()) trivial (h3:=by simp[hrj,hrl,hcx,hcy,hv,hq,hqj])
      ·have hr1:=aU (l:=r) (i:=j-1);have hb5:=h3j.2 (j-1) (by omega);have hv:edOne x y T i r j=1+min (min (at2 T (i-1) j) (at1 r (j-1))) (at2 T (i-1) (j-1)):=by rw[edOne,if_neg (by simpa using b),if_neg (by simpa using d),if_neg f]
       simp;refine wdt 27 ?_;simp[hrj,hq,hqj,hqk,hr1];iterate 9 refine ai ?_
       refine jn (()) trivial (h3:=by simp[hrj,hrl,hcx,hcy,hv,hq,hqj,hqk,hr1])
   rintro⟨⟩ -
   have hve:0<=edOne x y T i r j/\edOne x y T i r j<=i+j:=aEJ h3 h4 h3j (by omega) (by omega);have hok:=VP h3j (by omega) hve.1 hve.2;have hat:at1 (r.set j (edOne x y T i r j)) j=edOne x y T i r j:=by rw[zC _ (by omega),if_pos rfl]
   have hsw:∀h:wD x y tr i j=false,GA x y tr T i j r=r.set j (edOne x y T i r j):=fun h=>by rw[GA,ag2,if_neg (by simp[h])]
   generalize hr':r.set j (edOne x y T i r j)=r' at hok hat hsw|-
   have hes:GA x y tr T i j r=ag2 x y tr T i j r':=by rw[GA,hr']
   have hok1:=hok.1;simp;refine wdr ?_;simp;apply gv<;>intro e
   ·have e':=e;simp[e];apply gv<;>intro f
    ·have f':=f;simp[f];apply gv<;>intro g
     ·have g':=g;have hx1:=AX (s:=x) (i:=i-1);have hy2:=AX (s:=y) (i:=j-2);have hx2:=AX (s:=x) (i:=i-2);have hy1:=AX (s:=y) (i:=j-1);have hj2:((j:Int)-2).toNat=j-2:=by omega
      have hi2:((i:Int)-2).toNat=i-2:=by omega
      simp[g,hx1,hy2,hj2];iterate 4 refine ai ?_
      apply gv<;>intro k
      ·have k':=k;simp[hx2,hy1,hi2,k];iterate 4 refine ai ?_
       apply gw<;>intro m
       ·have hw:wD x y tr i j:=by simp[wD,e,k,m];omega
        obtain⟨q,hq,hqj,hb1,hb2⟩:=EO h4 (i:=i-2) (j:=j-2) (by omega) (by omega);have hrj2:=aU (l:=r') (i:=j);have hst:GA x y tr T i j r=r'.set j (min (at1 r' j) (at2 T (i-2) (j-2)+1)):=by rw[hes,ag2,if_pos hw]
        have hok2:=VP (k:=j) (v:=min (at1 r' j) (at2 T (i-2) (j-2)+1)) ⟨hok.1,fun j' hj'=>hok.2 j' (by omega)⟩ (by omega) (by omega) (by omega);simp;refine wdt 18 ?_;simp[hj2,hi2,hq,hqj,hrj2];iterate 6 refine ai ?_
        refine nx (j+1,r'.set j (min (at1 r' j) (at2 T (i-2) (j-2)+1))) ⟨by omega,by rw[hsj,hst],hok2⟩ (h3:=by simp[hrj,hrl,e,f,g,hx1,hy2,hx2,hy1,hj2,hi2,k,hq,hqj,hrj2,hok1])
       ·have hw:wD x y tr i j=false:=by simp[wD,m]
        simp;refine nxa (j+1,r') ⟨by omega,by rw[hsj,hsw hw],hok⟩ (h3:=by simp[hrj,hrl,e,f,g,hx1,hy2,hx2,hy1,hj2,hi2,k])
      ·have k':=k;have hw:wD x y tr i j=false:=by simp[wD,k]
       simp[k];refine nxa (j+1,r') ⟨by omega,by rw[hsj,hsw hw],hok⟩ (h3:=by simp[hrj,hrl,e,f,g,hx1,hy2,hx2,hy1,hj2,hi2,k])
     ·have g':=g;simp at g';have hw:wD x y tr i j=false:=by simp[wD];omega
      simp[g];refine nxa (j+1,r') ⟨by omega,by rw[hsj,hsw hw],hok⟩ (h3:=by simp[hrj,hrl,e,f,g])
    ·have f':=f;simp at f';have hw:wD x y tr i j=false:=by simp[wD];omega
     simp[f];refine nxa (j+1,r') ⟨by omega,by rw[hsj,hsw hw],hok⟩ (h3:=by simp[hrj,hrl,e,f])
   ·have e':=e;have hw:wD x y tr i j=false:=by simp[wD,e']
    simp[e];refine nxa (j+1,r') ⟨by omega,by rw[hsj,hsw hw],hok⟩ (h3:=by simp[hrj,hrl,e])
  ·simp at aj;have hij:(y.length+1)=j:=by omega
   subst hij;simp;refine nxb (i+1,T++[r]) ⟨by omega,by rw[hs,adR,h2j],by simp[h3],(afS h4 (by rw[h3];exact h3j))⟩
 ·simp at a;have hi:(x.length+1)=i:=by omega
  subst hi;simp;exact congrArg _ h2
def PD (x y:Str)(hx:Qle x)(hy:Qle y):Fk 263 [dS x,dS y] (vI (qW x y)):=by
 refine fE [] ntmps263 fun _ _=> ?_;simp;refine ck (aeA x y hx hy) ?_;simp;apply gw<;>intro e
 ·simp at e;have hr:qW x y= -1:=if_neg (by simp only[F9];simp;omega);simp[hr]
 ·simp at e;have hf:F9 x y:=by simp only[F9];simp;omega
  have hr:qW x y=at2 (QZ x y false) x.length y.length:=if_pos hf;have h1:=adS x y false;obtain⟨q,hq,hqj,hb1,hb2⟩:=EO h1.2 (i:=x.length) (j:=y.length) (by omega) (by omega);simp;refine ck (abU x y false (by omega) (by omega)) ?_;simp[hq,hqj,hr]
def WR (x y:Str)(hx:Qle x)(hy:Qle y):Fk 178 [dS x,dS y] (vI (xH x y)):=by
 refine fE [] ntmps178 fun _ _=> ?_;have hd:=ag1 x y;simp;refine ck (PD x y hx hy) ?_;simp;apply gw<;>intro b
 ·have hr:xH x y=0:=if_pos b;simp[hr]
 ·simp at b;simp;apply gw<;>intro d
  ·have hr:xH x y=1000:=by rw[xH,if_neg (by omega),if_pos d]
   simp[hr]
  ·have hr:xH x y=(1000*(max (x.length:Int) y.length-qW x y)).tdiv (max (x.length:Int) y.length):=by rw[xH,if_neg (by omega),if_neg d]
   have hq:=KZ (a:=1000*(max (x.length:Int) y.length-qW x y)) (b:=max (x.length:Int) y.length);simp[hq];iterate 3 refine ai ?_
   all_goals(first|exact hr.symm|simp[hr])
def PK (x y:Str)(hx:x.length<=65536:=by omega)(hy:y.length<=65536:=by omega):Fk 97 [dS x,dS y] (vI (pR x y)):=by
 refine fE [] ntmps97 fun _ _=> ?_;have h1:=H9 x;have h2:=H9 y;simp;first|refine ck (rM x (by omega)) ?_|refine ckz (rM x (by omega)) ?_
 simp;first|refine ck (rM y (by omega)) ?_|refine ckz (rM y (by omega)) ?_
 simp;apply gv<;>intro e
 ·have e':=e;simp[e];grind[pR]
 ·have e':=e;simp[e];apply gw<;>intro f
  ·simp;grind[pR]
  ·simp;refine ck (WR (normal x) (normal y) (by omega) (by omega)) ?_;simp;grind[pR]
def WS (n:Int)(hn: -9000000000000000000<=n/\n<=9000000000000000000):Fk 269 [dI n] (vS (yE n)):=by
 refine fE [13] ntmps269 fun _ _=> ?_;simp;apply gw<;>intro e
 ·have hr:yE n=[48]:=if_pos e;simp[hr]
 ·simp;refine wlt (Int×Str) (fun(k,s)=>([(0,vI k),(3,vS s),(4,vB (decide (n<0)))],k.natAbs,(oJ k.natAbs++s=oJ n.natAbs)/\(k.natAbs<=n.natAbs))) ((n,[])) ⟨by simp,by simp⟩ ?_;rintro⟨k,s⟩ ⟨h1,h2⟩;have hlen:s.length<=19:=by have h3:=congrArg List.length h1;have h4:=UU n.natAbs 19 (by (try unfold Qle);rw[show(10:Nat)^19=10000000000000000000 by rfl];omega);simp only[aP]at h3;omega
  simp;apply gw<;>intro a
  ·have ht:(k.tmod 10).natAbs=k.natAbs % 10:=Int.natAbs_tmod k 10;have hq:(k.tdiv 10).natAbs=k.natAbs/10:=Int.natAbs_tdiv k 10;have hqi:=KZ (a:=k) (b:=10);have hdec:=wY (m:=k.natAbs) (by omega);generalize hT:k.tmod 10=t at ht|-
   generalize hQ:k.tdiv 10=q at hq hqi|-
   simp[hT];refine NV (fun(_:Unit)=>[(0,vI k),(3,vS s),(4,vB (decide (n<0))),(5,vI (k.natAbs % 10:Nat))]) (fun(_:Unit)=>True) ?_ ?_
   ·simp;apply gw<;>intro b
    ·have hj: -t=(k.natAbs:Int) % 10:=by omega
     simp[hj];refine ai ?_;refine jn (()) trivial
    ·simp at b;have hj:t=(k.natAbs:Int) % 10:=by omega
     simp[hj];refine jn (()) trivial
   rintro⟨⟩ -
   obtain⟨c,hc⟩:∃c:UInt8,c=UInt8.ofNat (48+k.natAbs % 10):=⟨_,rfl⟩;have hu8:(48+(k.natAbs:Int) % 10) % 256=(c.toNat:Int):=by rw[hc,wU];omega
   have hu9:IntKind.u8.wrap (48+(k.natAbs:Int) % 10)=(c.toNat:Int):=by rw[←hu8];simp[IntKind.wrap,IntKind.bits,IntKind.signed]
   simp[hQ,hqi,hu9];refine nxb (q,c::s) ⟨by rw[hq,←h1,hdec,hc];simp,by omega⟩
  ·have hk:k=0:=by omega
   rw[hk]at h1;have hs:s=oJ n.natAbs:=by simpa[wZ]using h1
   simp;apply gw<;>intro b
   ·have hr:yE n=45::s:=by rw[yE,if_neg e,if_pos (by omega),hs];rfl
    simp[hr];omega
   ·simp at b;have hr:yE n=s:=by rw[yE,if_neg e,if_neg (by omega),hs];rfl
    simp[hr]
def aF5 {i:Nat}(h:i<=11):(10:Int)^i<=100000000000:=by
 have h1:(10:Nat)^i<=10^11:=iR (by omega) h;have h2:((10^i:Nat):Int)<=((10^11:Nat):Int):=by exact_mod_cast h1
 simpa using h2
def ZA (s:Str)(hs:Qle s):Fk 184 [dS s] (.tup [vI (if nI s=true then lU s else 0),vB (nI s)]):=by
 refine fE [5] ntmps184 fun _ _=> ?_;simp;refine as7 (fun((v,d):(Int)×(Int))=>[(0,vS s),(4,vI v),(5,vI d)]) (fun(v,d)=>((v,d)=tV s)/\(0<=v/\v<=100000000000)/\(0<=d/\d<=11)) ?_ ?_
 ·simp;refine wlt (Nat×Int×Int) (fun(i,v,d)=>([(0,vS s),(4,vI v),(5,vI d),(6,vI i)],s.length-i,(i<=s.length/\i<=11)/\((v,d)=(s.take i).foldl JI (0,0))/\(0<=v/\v<10^i)/\(0<=d/\d<=i))) ((0,0,0)) ⟨by simp,rfl,by simp,by simp⟩ ?_;rintro⟨i,v,d⟩ ⟨h1,h2,h3,h4⟩;have hp11:(10:Int)^i<=100000000000:=aF5 (by omega);simp;apply gv<;>intro a
  ·have a':=a;simp[a];apply gw<;>intro b
   ·obtain⟨c,hc⟩:=aN (l:=s) (i:=i);have hm:=fA JI (0,0) hc;rw[←h2]at hm;simp[hc];apply gv<;>intro e
    ·have e':=e;simp[hc,e];apply gw<;>intro f
     ·have hu:JI (v,d) c=(v*10+(c.toNat-48),d+1):=if_pos ⟨by omega,by omega⟩;have hw:IntKind.i64.wrap ((c.toNat:Int)-48)=c.toNat-48:=by simp[IntKind.wrap,IntKind.bits,IntKind.signed];omega
      have hps:(10:Int)^(i+1)=10^i*10:=Int.pow_succ 10 i;simp[hc,hw];iterate 5 refine ai ?_
      refine nx (i+1,v*10+(c.toNat-48),d+1) ⟨by omega,by rw[hm,hu],by rw[hps];omega,by omega⟩
     ·simp at f;have hu:JI (v,d) c=(v,d):=if_neg (by omega);have hps:(10:Int)^(i+1)=10^i*10:=Int.pow_succ 10 i;simp;refine nxa (i+1,v,d) ⟨by omega,by rw[hm,hu],by rw[hps];omega,by omega⟩
    ·have e':=e;simp at e';have hu:JI (v,d) c=(v,d):=if_neg (by omega);have hps:(10:Int)^(i+1)=10^i*10:=Int.pow_succ 10 i;simp[e];refine nxa (i+1,v,d) ⟨by omega,by rw[hm,hu],by rw[hps];omega,by omega⟩
   ·simp at b;simp;refine jn (v,d) ⟨by rw[h2,tV,show i=11 by omega],by omega,by omega⟩
  ·have a':=a;simp at a';simp[a];refine jn (v,d) ⟨by rw[h2,tV,k_List_take_of_length_le (show s.length<=i by omega),k_List_take_of_length_le (show s.length<=11 by omega)],by omega,by omega⟩
 rintro⟨v,d⟩ ⟨h5,h6,h7⟩;have hv:(tV s).1=v:=by rw[←h5]
 have hd:(tV s).2=d:=by rw[←h5]
 refine NV (fun(z:Int)=>[(0,vS s),(4,vI z),(5,vI d)]) (fun(z:Int)=>(z=lU s)/\(-100000000000<=z/\z<=100000000000)) ?_ ?_
 ·simp;apply gv<;>intro e
  ·have e':=e;obtain⟨c,hc⟩:=aN (l:=s) (i:=0) (by simpa using e);have hcz:∀h,(⟨s.toArray⟩:ByteArray)[0]'h=c:=fun h=>by have:=ba_get s 0;rw[hc]at this;exact k_Option_some_inj ((getElem?_pos (⟨s.toArray⟩:ByteArray) 0 h).symm.trans this)
   simp[e,hcz];apply gw<;>intro f
   ·have hpv:lU s= -v:=by rw[lU,if_pos (by rw[hc];congr 1;exact k_UInt8_toNat_inj.1 (by show c.toNat=45;omega)),hv]
    simp;refine ai ?_;refine jn (-v) ⟨hpv.symm,by omega⟩
   ·have hpv:lU s=v:=by rw[lU,if_neg (by rw[hc];intro h;have:=k_Option_some_inj h;subst this;exact f rfl),hv]
    simp;refine jn (v) ⟨hpv.symm,by omega⟩
  ·have e':=e;simp at e';have hpv:lU s=v:=by rw[lU,if_neg (by rw[show s=[]from bA (by simpa using e)];simp),hv]
   simp[e];refine jn (v) ⟨hpv.symm,by omega⟩
 rintro z ⟨h8,h9⟩;simp;apply gv<;>intro e
 ·have e':=e;have hb:nI s=false:=by simp only[nI,hd];rw[decide_eq_false (by omega)];rfl
  simp[e];all_goals simp[hb]
 ·have e':=e;simp at e';simp[e];apply gv<;>intro g
  ·have g':=g;have hb:nI s=false:=by simp only[nI,hd];rw[decide_eq_false (p:=s.length<=10) (by omega)];simp
   simp[g];all_goals simp[hb]
  ·have g':=g;simp at g';simp[g];refine ck (WS z (by omega)) ?_;simp;apply gw<;>intro b
   ·have hb:nI s=false:=by simp only[nI,hd,←h8];rw[decide_eq_false (p:=yE z=s) b];simp
    simp;all_goals simp[hb]
   ·have hb:nI s:=by simp only[nI,hd,←h8];simp[b];omega
    simp;all_goals simp[hb,h8]
def UE (x y:Str)(hx:Qle x)(hy:Qle y):Fk 101 [dS x,dS y] (vI (sF x y)):=by
 refine fE [7] ntmps101 fun _ _=> ?_;have hdx:(digits x).length<=x.length:=bK _ _;have hdy:(digits y).length<=y.length:=bK _ _;have hps:sF x y=JJ (digits x) (digits y):=rfl;simp;refine ck (KV x hx) ?_;simp;refine ck (KV y hy) ?_;generalize digits x=p at*
 generalize digits y=q at*
 simp;refine as7 (fun(n:Nat)=>[(5,vS p),(6,vS q),(7,vI n)]) (fun(n:Nat)=>(shared p.reverse q.reverse=n)/\(n<=p.length/\n<=q.length)) ?_ ?_
 ·simp;refine wlt Nat (fun n=>([(5,vS p),(6,vS q),(7,vI n)],p.length-n,(n<=p.length/\n<=q.length)/\(shared p.reverse q.reverse=n+shared (p.reverse.drop n) (q.reverse.drop n)))) (0) ⟨by omega,by simp⟩ ?_;rintro n ⟨h1,h2⟩;simp;refine wdr ?_;simp;apply gv<;>intro a
  ·have a':=a;simp[a];apply gv<;>intro b
   ·have b':=b;have hk:((p.length:Int)-1-n).toNat=p.length-1-n:=by omega
    have hk2:((q.length:Int)-1-n).toNat=q.length-1-n:=by omega
    have hcx:=acL (s:=p) (i:=n);have hcy:=acL (s:=q) (i:=n);have hss:=aaY (p:=p.reverse) (q:=q.reverse) (i:=n) (by simp;omega) (by simp;omega);simp[b,hk,hk2,hcx,hcy];iterate 6 refine ai ?_
    apply gw<;>intro f
    ·simp;refine nxa (n+1) ⟨by omega,by rw[h2,hss,if_pos (by simpa using f)];omega⟩
    ·simp;refine jn (n) ⟨by rw[h2,hss,if_neg (by simpa using f)];rfl,(by first|omega|(simp;omega)|grind)⟩
   ·have b':=b;simp at b';simp[b];refine jn (n) ⟨by rw[h2,MQ (.inr (by simp;omega))];rfl,(by first|omega|(simp;omega)|grind)⟩
  ·have a':=a;simp at a';simp[a];refine jn (n) ⟨by rw[h2,MQ (.inl (by simp;omega))];rfl,(by first|omega|(simp;omega)|grind)⟩
 rintro n ⟨h5,h6⟩;have hlt:JJ p q=if p.length<4\/q.length<4\/n<4 then 0 else if n=p.length/\n=q.length then 1000 else if n>=7\/n=p.length\/n=q.length then 800 else 400:=by rw[JJ,h5]
 rw[←hps]at hlt;refine NV (fun(_:Unit)=>[(5,vS p)]) (fun(_:Unit)=>(sF x y=400)) ?_ ?_
 ·simp;apply gv<;>intro a
  ·have a':=a;rw[if_pos (by omega)]at hlt;simp[a,hlt]
  ·have a':=a;simp at a';simp[a];apply gv<;>intro b
   ·have b':=b;rw[if_pos (by omega)]at hlt;simp[b,hlt]
   ·have b':=b;simp at b';simp[b];apply gw<;>intro d
    ·rw[if_pos (by omega)]at hlt;simp[hlt]
    ·simp at d;rw[if_neg (by omega)]at hlt;simp;apply gv<;>intro e
     ·have e':=e;simp[a,e];apply gw<;>intro f
      ·rw[if_pos (by omega)]at hlt;simp[hlt]
      ·rw[if_neg (by omega)]at hlt;simp;apply gv<;>intro g
       ·have g':=g;rw[if_pos (by omega)]at hlt;simp[g,hlt]
       ·have g':=g;simp at g';rw[if_pos (by omega)]at hlt;simp[g,hlt]
     ·have e':=e;rw[if_neg (by omega)]at hlt;simp[e];apply gv<;>intro g
      ·have g':=g;rw[if_pos (by omega)]at hlt;simp[g,hlt]
      ·have g':=g;simp at g';simp[e,g];apply gw<;>intro l
       ·rw[if_pos (by omega)]at hlt;simp[hlt]
       ·rw[if_neg (by omega)]at hlt;simp;refine jn (()) (by first|omega|(simp;omega)|grind)
 rintro⟨⟩ h7;simp[h7]
def JC (s:Str)(hs:Qle s):Fk 102 [dS s] (vI (iX s)):=by
 refine fE [] ntmps102 fun _ _=> ?_;simp;refine ck (ZA s hs) ?_;simp;apply gv<;>intro a
 ·have a':=a;simp at a';simp[a];grind[iX]
 ·have a':=a;simp at a';simp[a];refine ck (bC (if nI s=true then lU s else 0) 1000 9999) ?_;simp;apply gw<;>intro b
  ·simp at b;simp;grind[iX]
  ·simp at b;simp;grind[iX]
def R3 (x y z:Int):Fk 103 [dI x,dI y,dI z] (vI (mX x y z)):=by
 refine fE [] ntmps103 fun _ _=> ?_;simp;refine ck (SF x) ?_;simp;apply gv<;>intro e
 ·have e':=e;simp at e';simp[e];all_goals(simp only[mX];rw[if_neg (by intro h;simp_all;omega)])
 ·have e':=e;simp at e';simp[e];refine ck (SF y) ?_;simp;apply gv<;>intro f
  ·have f':=f;simp at f';simp[f];all_goals(simp only[mX];rw[if_neg (by intro h;simp_all;omega)])
  ·have f':=f;simp at f';simp[f];refine ck (bC z 1 9999) ?_;simp;apply gw<;>intro g
   ·simp at g;simp;all_goals(simp only[mX];rw[if_neg (by intro h;simp_all;omega)])
   ·simp at g;have hxy:inR x 0 9999=true/\inR y 0 9999=true/\inR z 1 9999:=by simp_all
    obtain⟨M,hM⟩:∃M,max x y=M:=⟨_,rfl⟩;obtain⟨m,hm⟩:∃m,min x y=m:=⟨_,rfl⟩;have hns:mX x y z=if M-m>=z then 0 else(1000*(z-(M-m))).tdiv z:=by rw[mX,if_pos hxy,hM,hm]
    have hMb:0<=M-m/\M-m<=9999:=by simp at hxy;omega
    clear hxy;simp[hM,hm];refine ai ?_;apply gw<;>intro d
    ·rw[if_pos (by omega)]at hns;simp;all_goals simp[hns]
    ·simp at d;rw[if_neg (by omega)]at hns;have hq:=KZ (a:=1000*(z-(M-m))) (b:=z);simp[hq];iterate 3 refine ai ?_
     all_goals simp[hns]
def aq4 (st:Str×Int)(c:UInt8):(vQ st c).1.length<=st.1.length+1:=by
 unfold vQ;split
 ·simp
 ·simp only;split
  ·simp
  ·omega
def aAV:∀(s:Str) (st:Str×Int),(s.foldl vQ st).1.length<=st.1.length+s.length
 |[],st=>by simp
 |c::s,st=>by have:=aAV s (vQ st c);have:=aq4 st c;simp only[k_List_foldl_cons,aR];omega
def aoE (s:Str):(jG s).length<=s.length+4:=by
 have:=aAV s ([],0);unfold jG;split
 ·simp
 ·simp[abZ];simp at this;omega
def MG (s:Str)(hs:s.length<=40):(mH s).length<=262144/\∀x∈mH s,Qle x:=by
 have ht:=MV s
 have key:∀(L t:List Str),(∀x∈L,x.length<=80)->(∀x∈t,x.length<=84)->(L.foldl xO t).length<=t.length+L.length/\∀x∈L.foldl xO t,x.length<=84:=by
  intro L
  induction L with
  |nil=>intro t _ ht;exact⟨by simp,ht⟩
  |cons y L ih=>
   intro t hL ht
   have h1:(xO t y).length<=t.length+1:=by
    unfold xO;split
    ·exact sH _ _ _
    ·omega
   have h2:∀x∈xO t y,x.length<=84:=fun x hx=>by
    unfold xO at hx;split at hx
    ·rcases afT hx with h|rfl
     ·exact ht x h
     ·have:=aoE y;have:=hL y (by simp);omega
    ·exact ht x hx
   have:=ih (xO t y) (fun x hx=>hL x (bD _ hx)) h2;refine⟨?_,this.2⟩;have:=this.1;simp only[k_List_foldl_cons,aR];omega
 have:=key (tokens s) [] (fun x hx=>by have:=ht.2 x hx;omega) (by simp);unfold mH;refine⟨by have:=this.1;simp at this;omega,fun x hx=>by have:=this.2 x hx;omega⟩
def MW (s:Str)(hs:s.length<=40):(tokens s).length<=262144/\∀x∈tokens s,Qle x:=by
 have ht:=MV s;exact⟨by omega,fun x hx=>by have:=ht.2 x hx;omega⟩
variable {r:Rec}
def RD (h:bE r):E5 r:=by
 have h1:=gZ h;refine⟨by omega,fun f hf=> ?_⟩;obtain⟨i,hi⟩:=dD hf;have hlt:=(aD.1 hi).1;have h2:=h1.2 i (by omega);rw[h2.1]at hi;obtain rfl:=k_Option_some_inj hi;have:=h2.2;unfold afJ;omega
def EE (a b:Rec)(ha:bE a)(hb:bE b):Fk 49 [zA a,zA b] (wN (pW a b)):=by
 refine fE [] ntmps49 fun _ _=> ?_;have hsa:=RD ha;have hsb:=RD hb;obtain⟨a0,hal0⟩:=(gZ ha).2 0 (by omega);obtain⟨a1,hal1⟩:=(gZ ha).2 1 (by omega);obtain⟨a2,hal2⟩:=(gZ ha).2 2 (by omega);obtain⟨a3,hal3⟩:=(gZ ha).2 3 (by omega);obtain⟨b0,hbl0⟩:=(gZ hb).2 0 (by omega);obtain⟨b1,hbl1⟩:=(gZ hb).2 1 (by omega);obtain⟨b2,hbl2⟩:=(gZ hb).2 2 (by omega);obtain⟨b3,hbl3⟩:=(gZ hb).2 3 (by omega);simp;refine ck (qO a hsa) ?_;simp[ha];refine ck (qO b hsb) ?_;have ta:=MW _ hal0;have tb:=MW _ hbl0;have ka:=MG _ hal0;have kb:=MG _ hbl0;simp[hb];refine wdt 45 ?_;simp[a0,b0];refine cd (PK (fld a 0) (fld b 0)) ?_;simp[a0];refine cd (GZ (fld a 0) (by omega)) ?_;simp[b0];refine cd (GZ (fld b 0) (by omega)) ?_;simp;refine cd (PL (tokens (fld a 0)) (tokens (fld b 0)) ta.1 ta.2 tb.1 tb.2) ?_;simp[a0];refine cd (JD (fld a 0) (by omega)) ?_;simp[b0];refine cd (JD (fld b 0) (by omega)) ?_;simp;refine cd (PL (mH (fld a 0)) (mH (fld b 0)) ka.1 ka.2 kb.1 kb.2) ?_;simp[a1,b1];refine cd (PK (fld a 1) (fld b 1)) ?_;simp[a3,b3];refine cd (UE (fld a 3) (fld b 3) (by omega) (by omega)) ?_;simp[a2];refine ck (JC (fld a 2) (by omega)) ?_;simp[b2];refine ck (JC (fld b 2) (by omega)) ?_;simp;apply gv<;>intro e
 ·have e':=e;simp[e];apply gw<;>intro f
  ·simp;refine ck (R3 (iX (fld a 2)) (iX (fld b 2)) 10) ?_;simp;simp[pW,uC,e,f]
  ·simp at f;simp;simp[pW];rw[uC,if_neg (by omega)]
 ·have e':=e;simp at e';simp[e];simp[pW];rw[uC,if_neg (by omega)]
def O7 (l:List Rec)(rs:List (List Tst))(s:Sco)(hl:1<=l.length/\l.length<=8)(hv:∀r∈l,bE r)(hr:jA rs)(hs:lX s)(hrl:∀t∈rs,Qle t)(hrn:Qle rs)(hw:Qle s.weights):Fk 86 [H6 l,mQ rs,H7 s] (.own (mY (weights l rs s))):=by
 refine fE [23] ntmps86 fun _ _=> ?_;have hall:l.all bE:=aI.2 hv;have hlen:decide (l.length<=12)=true:=by simp;omega
 have hl1:inR l.length 1 8:=by simp;omega
 simp;refine ck (abR l (by omega) (fun r hr=>RD (hv r hr))) ?_;simp[hall,hlen];refine ck (bC l.length 1 8) ?_;simp[hl1];refine ck (rJ rs hrn hrl) ?_;simp[hr];refine ck (oU s hw) ?_;simp[hs];refine wl (fun(i:Nat)=>[(0,vT l),(4,.own (.bx true (mQ rs))),(5,.own (.bx true (H7 s))),(7,.own (mY ((List.range i).map (xW l rs s)))),(8,vI i)]) (fun(i:Nat)=>l.length-i) (fun(i:Nat)=>(i<=l.length)) (0) (by omega) ?_;rintro i h1;simp;apply gw<;>intro a
 ·simp;refine wl (fun(k:Nat)=>[(0,vT l),(4,.own (.bx true (mQ rs))),(5,.own (.bx true (H7 s))),(7,.own (mY ((List.range i).map (xW l rs s)))),(8,vI i),(9,wN ((List.range k).map (lY l rs s i))),(10,vI k)]) (fun(k:Nat)=>l.length-k) (fun(k:Nat)=>(k<=l.length)) (0) (by omega) ?_;rintro k h2;simp;apply gw<;>intro b
  ·have hrm:=ZN (lY l rs s i) k;simp;refine NV (fun(_:Unit)=>[(0,vT l),(4,.own (.bx true (mQ rs))),(5,.own (.bx true (H7 s))),(7,.own (mY ((List.range i).map (xW l rs s)))),(8,vI i),(9,wN ((List.range k).map (lY l rs s i))),(10,vI k),(11,vI (lY l rs s i k))]) (fun(_:Unit)=>True) ?_ ?_
   ·simp;apply gw<;>intro f
    ·have hw1:lY l rs s i k=iT rs s (pW (recAt l (min i k)) (recAt l (max i k))):=if_neg (by omega);have hm1:(min (i:Int) k).toNat=min i k:=by omega
     have hm2:(max (i:Int) k).toNat=max i k:=by omega
     have hx:=RB (l:=l) (i:=min i k);have hy:=RB (l:=l) (i:=max i k);have hvx:=hv _ (J2 hx);have hvy:=hv _ (J2 hy);simp;refine wdt 16 ?_;simp[hm1,hm2,hx,hy];iterate 2 refine ai ?_
     refine cd (EE (recAt l (min i k)) (recAt l (max i k)) hvx hvy) ?_;simp;refine cd (UD rs s (pW (recAt l (min i k)) (recAt l (max i k))) hrn hrl hw (by simp[pW])) ?_;simp;refine jn (()) trivial (h3:=by simp[hrm,hm1,hm2,hx,hy,hw1])
    ·have hw1:lY l rs s i k=0:=if_pos (by omega);simp;refine jn (()) trivial (h3:=by simp[hrm,hw1])
   rintro⟨⟩ -
   simp;refine nxb (k+1) (by first|omega|(simp;omega)|grind)
  ·simp at b;have hk:k=l.length:=by omega
   subst hk;have hrm:=ZN (xW l rs s) i;have hwr:(List.range l.length).map (lY l rs s i)=xW l rs s i:=rfl;simp[hwr];refine nxb (i+1) (by first|omega|(simp;omega)|grind)
 ·simp at a;have hk:i=l.length:=by omega
  subst hk;simp;rw[weights,tL]
def ZO {α β:Type}(f:α->β)(l:List α):List.take l.length (l.map f)=l.map f:=k_List_take_of_length_le (by simp)
def aeW (x:List Str):mcount x []=0:=by cases x<;>rw[mcount]
def aaM (u v:Str)(x y:List Str):mcount (u::x) (v::y)=if ltL u v=true then mcount x (v::y)else if ltL v u=true then mcount (u::x) y else mcount x y+1:=by rw[mcount]
def RP (a b:List Str)(ha:1<=a.length/\a.length<=262144)(hb:1<=b.length/\b.length<=262144):Fk 382 [mM a,mM b] (vI (mcount (sJ a) (sJ b))):=by
 refine fE [8] ntmps382 fun _ _=> ?_;simp;refine ck (IZ a ha) ?_;simp;refine ck (IZ b hb) ?_;simp;refine nC rfl (GU a ha) ?_;rintro r d ⟨rfl,rfl⟩;simp;refine nC rfl (GU b hb) ?_;rintro r d ⟨rfl,rfl⟩;have hsa:=uB a;have hsb:=uB b;simp;refine kQ [] (uQ.trans (dH 5) (dH 6)) ?_;generalize sJ a=A at*
 generalize sJ b=B at*
 simp;refine wlt (List Str×List Str×Nat) (fun(x,y,k)=>([(5,vR x),(6,vR y),(7,vI k)],x.length+y.length,(mcount A B=k+mcount x y)/\(x.length<=262144/\y.length<=262144)/\(k+x.length<=262144))) ((A,B,0)) ⟨by omega,by omega,by omega⟩ ?_;rintro⟨x,y,k⟩ ⟨h1,h2,h3⟩;simp;apply gv<;>intro g
 ·have g':=g;simp[g];apply gw<;>intro e
  ·obtain⟨u,x2,rfl⟩:=List.exists_cons_of_length_pos (l:=x) (by omega);obtain⟨v,y2,rfl⟩:=List.exists_cons_of_length_pos (l:=y) (by omega);have hmc:=aaM u v x2 y2;simp only[aR]at h2 h3;simp;refine wdr ?_;simp;apply gw<;>intro f
   ·simp[ZO];refine nx (x2,v::y2,k) ⟨by rw[h1,hmc,if_pos f],by simp;omega,by omega⟩
   ·simp;refine wdr ?_;simp;apply gw<;>intro q
    ·simp[ZO];refine nx (u::x2,y2,k) ⟨by rw[h1,hmc,if_neg (by simp[f]),if_pos q],by simp;omega,by simp;omega⟩
    ·simp;refine wdr ?_;simp[ZO];refine nxa (x2,y2,k+1) ⟨by rw[h1,hmc,if_neg (by simp[f]),if_neg (by simp[q])];omega,by omega,by omega⟩
  ·simp at e;have hy:y=[]:=by first|exact e|exact bA (by omega)
   rw[hy,aeW]at h1;have hr:(mcount A B:Int)=k:=by omega
   simp[hr]
 ·have g':=g;simp at g';have hx:x=[]:=by first|exact g|exact bA (by omega)
  rw[hx,mcount]at h1;have hr:(mcount A B:Int)=k:=by omega
  simp[g,hr]
def abD (a b:List Str)(ha:1<=a.length/\a.length<=262144)(hb:1<=b.length/\b.length<=262144):Fk 321 [mM a,mM b] (vI (mcount (sJ a) (sJ b))):=by
 refine fE [] ntmps321 fun _ _=> ?_;simp;refine ck (RP a b ha hb) ?_;simp
def K5:∀(a b:List Str),mcount a b<=a.length
 |[],b=>by rw[mcount];simp
 |u::x,[]=>by rw[aeW];simp
 |u::x,v::y=>by
  rw[aaM];have h1:=K5 x (v::y);have h2:=K5 (u::x) y;have h3:=K5 x y;simp only[aR]at h2|-
  split
  ·omega
  ·split<;>omega
termination_by a b=>a.length+b.length
def aAO {a b:List Str}(h:wE a b):Asc a/\Asc b:=by
 simp only[wE,qB,k_Bool_and_eq_true]at h;exact⟨VB.1 h.1.2,VB.1 h.2.2⟩
def aa7 (a b:List Str)(ha:1<=a.length/\a.length<=262144)(hb:1<=b.length/\b.length<=262144)(hsa:∀x∈a,Qle x)(hsb:∀x∈b,Qle x):Fk 231 [mM a,mM b] (vI (BJ a b)):=by
 refine fE [] ntmps231 fun _ _=> ?_;have hj:=UK a b;simp;refine ck (O3 a b (by omega) hsa (by omega) hsb) ?_;simp;apply gw<;>intro e
 ·simp at e;have hr:BJ a b=0:=by rw[hj,if_neg (by simp[e])]
  simp[hr]
 ·simp at e;rw[if_pos e]at hj;have hA:=aAO e;have h1:=ah8 hA.1;have h2:=ah8 hA.2;have hl1:=K5 a b;have hl2:=K5 b a;rw[EJ b a]at hl2;simp;refine ck (abD a b ha hb) ?_;obtain⟨m,hm⟩:∃m:Nat,mcount a b=m:=⟨_,rfl⟩;rw[hm]at hl1 hl2 hj;simp[h1,h2,hm];iterate 3 refine ai ?_
  refine ck (YY (1000*(m:Int)) ((a.length:Int)+b.length-m) (by omega) (by omega)) ?_;simp[hj]
def KQ (a b:List Str)(ha:a.length<=262144)(hb:b.length<=262144)(hsa:∀x∈a,Qle x)(hsb:∀x∈b,Qle x):Fk 144 [mM a,mM b] (vI (uA a b)):=by
 refine fE [] ntmps144 fun _ _=> ?_;simp;apply gv<;>intro e
 ·have e':=e;have hr:uA a b=0:=if_pos (.inl e);simp[e];grind
 ·have e':=e;simp[e];apply gw<;>intro f
  ·have hr:uA a b=0:=if_pos (.inr f);simp[hr]
  ·have hr:uA a b=BJ a b:=if_neg (by rintro(h|h);exact e h;exact f h);have he:1<=a.length:=kG.2 e;have hf:1<=b.length:=kG.2 f;simp;refine ck (aa7 a b ⟨he,ha⟩ ⟨hf,hb⟩ hsa hsb) ?_;simp[hr]
def KP (a b:Rec)(ha:bE a)(hb:bE b):Fk 72 [zA a,zA b] (wN (pW a b)):=by
 refine fE [] ntmps72 fun _ _=> ?_;obtain⟨a0,hal0⟩:=(gZ ha).2 0 (by omega);obtain⟨a1,hal1⟩:=(gZ ha).2 1 (by omega);obtain⟨a2,hal2⟩:=(gZ ha).2 2 (by omega);obtain⟨a3,hal3⟩:=(gZ ha).2 3 (by omega);obtain⟨b0,hbl0⟩:=(gZ hb).2 0 (by omega);obtain⟨b1,hbl1⟩:=(gZ hb).2 1 (by omega);obtain⟨b2,hbl2⟩:=(gZ hb).2 2 (by omega);obtain⟨b3,hbl3⟩:=(gZ hb).2 3 (by omega);have ta:=MW _ hal0;have tb:=MW _ hbl0;have ka:=MG _ hal0;have kb:=MG _ hbl0;simp;refine wdf [(13,[17,18]),(18,[22,23]),(24,[28,29]),(29,[33,34]),(58,[13,24,35,44,53,62,63]),(59,[63,4])] [(2,.own (.bx true (zA a))),(3,.own (.bx true (zA b)))] [] (by simp) ?_;simp[a0,b0];refine cd (JA (fld a 0) (fld b 0)) ?_;simp[a0];refine cf (GI (fld a 0)) ?_;simp[b0];refine cf (GI (fld b 0)) ?_;simp;refine cd (KQ (tokens (fld a 0)) (tokens (fld b 0)) ta.1 tb.1 ta.2 tb.2) ?_;simp[a0];refine cf (I6 (fld a 0) (by omega)) ?_;simp[b0];refine cf (I6 (fld b 0) (by omega)) ?_;simp;refine cd (KQ (mH (fld a 0)) (mH (fld b 0)) ka.1 kb.1 ka.2 kb.2) ?_;simp[a1,b1];refine cd (JA (fld a 1) (fld b 1)) ?_;simp[a2,b2];refine cd (V4 (fld a 2) (fld b 2) (by omega) (by omega)) ?_;simp[a3,b3];refine cd (TS (fld a 3) (fld b 3) (by omega) (by omega)) ?_;simp;simp_all[pW];done
def J3 (l:List Rec)(i:Nat):List Rec:=l.take i
def OP (l:List Rec)(rs:List (List Tst))(s:Sco)(hl:1<=l.length/\l.length<=8)(hv:∀r∈l,bE r)(hr:jA rs)(hs:lX s)(hrl:∀t∈rs,Qle t)(hrn:Qle rs)(hw:Qle s.weights):Fk 121 [H6 l,mQ rs,H7 s] (.own (mY (weights l rs s))):=by
 refine fE [] ntmps121 fun _ _=> ?_;have hin:inR (l.length:Int) 1 8:=by simp[inR];omega
 have hal:l.all bE:=aI.2 hv;have hbw:=aE6 l rs s;obtain⟨n,hn⟩:∃n,l.length=n:=⟨_,rfl⟩;simp;refine ck (bB l.length 1 8) ?_;simp[hin];refine ck (TU l (by omega) (fun r hr=>RD (hv r hr))) ?_;simp[hal];refine ck (rG rs hrn hrl) ?_;simp[hr];refine ck (oQ s hw) ?_;have hz:List.replicate l.length (cO (List.replicate l.length 0))=(zeros l.length).map cO:=by simp[zeros]
 simp[hs];refine ck (sZ l.length) ?_;simp[hz];refine wlt (Nat×L2) (fun(i,m)=>([(0,vT l),(4,.own (.bx true (mQ rs))),(5,.own (.bx true (H7 s))),(7,.own (mY m)),(35,vT l),(36,vI l.length),(37,vI i)],l.length-i,(i<=l.length)/\(m=loopN i (zeros l.length) (ak0 l rs s))/\(sq2 l.length m))) ((0,zeros l.length)) ⟨by omega,rfl,(pO l.length)⟩ ?_ (h0:=by simp[hin,hal,hr,hs,hz]);rintro⟨i,m⟩ ⟨h1,h2,h3⟩;simp;apply gw<;>intro a
 ·have hci:=RB a;obtain⟨ci,hcie⟩:∃ci,recAt l i=ci:=⟨_,rfl⟩;rw[hcie]at hci;have hvi:=hv ci (aA hci);have hii:i<=l.length:=by omega
  have hto1:List.take i (l.map zA)=(J3 l i).map zA:=by rw[J3,uX]
  have hto2:(l.take i).map zA=(J3 l i).map zA:=rfl;have htl:(J3 l i).length=i:=by rw[J3,cZ];omega
  simp[hci,hii,hto1,htl];refine wlt (Nat×L2) (fun(k,q)=>([(0,vT l),(4,.own (.bx true (mQ rs))),(5,.own (.bx true (H7 s))),(7,.own (mY q)),(8,vI i),(9,.own (.bx true (zA ci))),(35,vT l),(36,vI l.length),(37,vI i),(44,vT (J3 l i)),(45,vI i),(46,vI k)],i-k,(k<=i)/\(q=loopN k m (aiU l rs s i))/\(sq2 l.length q))) ((0,m)) ⟨by omega,rfl,h3⟩ ?_;rintro⟨k,q⟩ ⟨h4,h5,h6⟩;simp;apply gw<;>intro d
  ·have hck:=RB (l:=l) (i:=k);obtain⟨ck,hcke⟩:∃ck,recAt l k=ck:=⟨_,rfl⟩;rw[hcke]at hck;have hvk:=hv ck (aA hck);have hckt:(J3 l i)[k]?=some ck:=by rw[J3,aZ,if_pos d];exact hck
   simp[hckt];refine wdf [(4,[53,54,55]),(6,[56,12])] [(0,vT l),(4,.own (.bx true (mQ rs))),(5,.own (.bx true (H7 s))),(7,.own (mY q)),(8,vI i),(9,.own (.bx true (zA ci))),(10,vI k),(11,.own (.bx true (zA ck))),(35,vT l),(36,vI l.length),(37,vI i),(44,vT (J3 l i)),(45,vI i),(46,vI k)] [] (by simp) ?_;simp;refine cf (KP ci ck hvi hvk) ?_;simp;refine cd (TR rs s (pW ci ck) hrn hrl hw (by simp[pW])) ?_;obtain⟨w,hwe⟩:∃w,iT rs s (pW ci ck)=w:=⟨_,rfl⟩;have hwa:wAt l rs s i k=w:=by rw[wAt,hcie,hcke,hwe]
   obtain⟨hA,hA2⟩:=sO h6 (i:=i);obtain⟨hB,hB2⟩:=sO h6 (i:=k);have hgA:=MR h6 (i:=i) (k:=k);have hgB:=MR h6 (i:=k) (k:=i);have hml:i<q.length:=by rw[h6.1];omega
   have hml2:k<q.length:=by rw[h6.1];omega
   have hne:¬i=k:=by omega
   have hset:=asY (m:=q) (v:=w) (w:=w) hne;have hmm:aiU l rs s i k q=set2 (set2 q i k w) k i w:=by rw[aiU,hwa]
   rw[←hmm]at hset;simp[hwe];refine wdf [(13,[69,67,7,57,59,60,62,64,65]),(15,[70,68,7,57,59,60,62,64,65,69])] [(0,vT l),(4,.own (.bx true (mQ rs))),(5,.own (.bx true (H7 s))),(7,.own (mY q)),(8,vI i),(9,.own (.bx true (zA ci))),(10,vI k),(12,vI w),(35,vT l),(36,vI l.length),(37,vI i),(44,vT (J3 l i)),(45,vI i),(46,vI k)] [] (by simp) ?_;simp[hA,hB,hgA,hgB,hne,hset];refine nxa (k+1,aiU l rs s i k q) ⟨by omega,by rw[aL,←h5],(aiV h6 (by omega) d)⟩
  ·simp at d;obtain rfl:k=i:=by omega
   simp;refine nxa (k+1,q) ⟨by omega,by rw[aL,←h2,h5];rfl,h6⟩
 ·simp at a;have hfin:weights l rs s=m:=by rw[←hbw,h2,show i=l.length by omega];rfl
  simp[hfin]
def aeQ (l:List Ver)(hl:l.length<=8):(jZ l).length<=8:=by
 unfold jZ;rw[JL];have h0:(apart (gN l)).length<=8:=k_Nat_le_trans (bK _ _) (k_Nat_le_trans (Z7 l) hl)
 have key:∀(L:List Ver) (st:L2×List Ver×List Ver) (C:List Ver),st.2.1.length<=8->(L.foldl (vD C) st).2.1.length<=8:=by
  intro L C0 C
  induction L generalizing C0 with
  |nil=>exact fun h=>h
  |cons v L ih=>
   intro h;rw[k_List_foldl_cons];refine ih _ ?_;unfold vD;split
   ·exact awM v (by rw[JL];exact h)
   ·exact h
 exact key _ _ _ h0
def YE (kept:List Ver)(items:L1)(hk:kept.length<=8)(hi:items.length<=8):(oD kept items).length<=16:=by
 have h1:(FZ (apart kept) items).length<=kept.length:=k_Nat_le_trans (jM _ _) (bK _ _)
 have h2:∀n,((List.range n).flatMap (sN (joined kept) items)).length<=n:=by
  intro n
  induction n with
  |zero=>simp
  |succ n ih=>
   rw[gD,List.flatMap_append,aP];have:=aaW (joined kept) items n;simp only[yL,List.flatMap_nil,dP];omega
 have h3:=h2 items.length;unfold oD LB;rw[aP];omega
def tX (items:L1)(b:L1):L1:=b.map (at1 items ·.toNat)
def BK (c:Cfg)(s:Sto):L1:=nL (weights s.recs c.rules c.sco) (oD (jZ s.vers) (s.recs.map jQ))
def DX (c:Cfg)(s:Sto):L2:=(blocksP (BK c s)).map (tX (s.recs.map jQ))
def yR (c:Cfg)(s:Sto):L2:=if(kY c&&iM s)=true then(if s.recs.length=0 then[]else DX c s)else[]
def EZ (c:Cfg)(s:Sto):List Ver:=if(kY c&&iM s)=true then jS s.vers else[]
structure ao2 (c:Cfg):Prop where
 rules:Qle c.rules
 rule:∀l∈c.rules,Qle l
 weights:Qle c.sco.weights
 surv:Qle c.surv
structure awJ (s:Sto):Prop where
 recs:Qle s.recs
 rec1:∀r∈s.recs,E5 r
 vers:Qle s.vers
def ajJ {m:L2}(cs:List Con)(hm:bQ m):(nL m cs).length=0\/(fO (nL m cs)=true/\(nL m cs).length=m.length):=by
 have hml:=dJ hm;unfold nL;split
 ·right;have h1:(nR m cs).length=m.length:=by rw[nR,pI,YS]
  exact⟨isPart_iff.2 ⟨KA _,by omega,by omega⟩,h1⟩
 ·left;rfl
def aeT {l:L1}{n:Nat}(h:l.length=0\/(fO l=true/\l.length=n))(v:Nat)(hv:v<(blocksP l).length):NZ n (gat (blocksP l) v)/\(gat (blocksP l) v).length<=n:=by
 rcases h with h|⟨h1,h2⟩
 ·rw[k_List_length_eq_zero_iff.1 h]at hv;simp[blocksP,loopN]at hv
 ·have:=QQ (isPart_iff.1 h1).1 hv;rw[h2]at this;exact⟨this.1,this.2.2⟩
def aw5 {c:Cfg}(h:kY c):jA c.rules=true/\lX c.sco=true:=by
 simp only[kY,k_Bool_and_eq_true]at h;exact h.1
variable {s:Sto}
def MS (h:iM s):(∀r∈s.recs,bE r=true)/\s.recs.length<=8/\kZ s.vers=true/\s.vers.length<=8:=by
 simp only[iM,k_Bool_and_eq_true,decide_eq_true_eq,aI]at h;have h2:=h.2;simp only[kZ,k_Bool_and_eq_true,decide_eq_true_eq]at h2;exact⟨h.1.1.1.1,h.1.2,h.2,h2.2⟩
def PH (c:Cfg)(s:Sto)(hc:ao2 c)(hs:awJ s):Fk 42 [agC c,NT s] (.tup [.val (bV (yR c s)),vV (EZ c s),vB (kY c&&iM s)]):=by
 refine fE [7,13,43] ntmps42 fun _ _=> ?_;simp;refine ck (NP c hc.rules hc.rule hc.weights hc.surv) ?_;simp;apply gv<;>intro a
 ·have a':=a;simp at a';have a2:kY c=false:=by simpa using a
  have hr1:yR c s=[]:=if_neg (by simp[a2]);have hr2:EZ c s=[]:=if_neg (by simp[a2]);simp[a2];refine kQ [] ((dH 4).trans (dH 5)) ?_;simp[a2,hr1,hr2]
 ·have a':=a;simp at a';have a2:kY c:=by simpa using a
  simp[a2];refine ck (ED s hs.recs hs.rec1 hs.vers) ?_;simp;apply gw<;>intro b
  ·simp at b;have hr1:yR c s=[]:=if_neg (by simp[b]);have hr2:EZ c s=[]:=if_neg (by simp[b]);simp[b];refine kQ [] ((dH 4).trans (dH 5)) ?_;simp[a2,b,hr1,hr2]
  ·simp at b;have hcv:=aw5 a2;have hsv:=MS b;have hr1:yR c s=if s.recs.length=0 then[]else DX c s:=if_pos (by simp[a2,b])
   have hr2:EZ c s=jS s.vers:=if_pos (by simp[a2,b]);simp[b];refine ck (vM s.vers (by omega) hsv.2.2.1) ?_;simp;apply gw<;>intro d
   ·have hr3:yR c s=[]:=by rw[hr1];exact if_pos (by simpa using d)
    simp;refine kQ [] ((dH 4).trans (dH 5)) ?_;simp[a2,b,hr3,hr2]
   ·have hr3:yR c s=DX c s:=by rw[hr1];exact if_neg (by simpa using d)
    have hn:1<=s.recs.length/\s.recs.length<=8:=⟨by have:s.recs.length≠0:=(by simpa using d);omega,hsv.2.1⟩;obtain⟨items,hit⟩:∃items,items=s.recs.map jQ:=⟨_,rfl⟩;have hit2:s.recs.map jQ=items:=hit.symm;have hil:items.length=s.recs.length:=by rw[hit];simp
    have hmat:=J5 c.rules c.sco hn;have hk8:=aeQ s.vers hsv.2.2.2;simp;refine ck (UF s hs.recs hs.rec1 hs.vers b) ?_;simp[hit2];refine ck (O7 s.recs c.rules c.sco hn hsv.1 hcv.1 hcv.2 hc.rule hc.rules hc.weights) ?_;simp;refine ck (abT (jZ s.vers) items hk8 (by omega)) ?_;have hsc:=YE (jZ s.vers) items hk8 (by omega);simp;refine eT (O8 (weights s.recs c.rules c.sco) (oD (jZ s.vers) items) hmat (by omega)) (by simp) ?_;rintro r ⟨c1,e1,g1,rfl⟩;refine⟨by simp,?_⟩;have hlab:=ajJ (oD (jZ s.vers) items) hmat;have hlO:nL (weights s.recs c.rules c.sco) (oD (jZ s.vers) items)=BK c s:=by rw[hit];rfl
    have hwl:(weights s.recs c.rules c.sco).length=s.recs.length:=by simp[weights]
    rw[hlO,hwl]at hlab;simp[hlO];refine ck (zY (BK c s) (by omega) (hlab.imp id And.left)) ?_;have hbs:=aeT hlab;have hrc:DX c s=(blocksP (BK c s)).map (tX items):=by rw[hit];rfl
    have hbl:(blocksP (BK c s)).length<=8:=by rcases hlab with h|h;(rw[k_List_length_eq_zero_iff.1 h];simp[blocksP,loopN]);exact k_Nat_le_trans (blocksI (isPart_iff.1 h.1).1 (k_Nat_le_refl _)).len (by omega)
    clear hlO hlab;generalize blocksP (BK c s)=bs at*
    simp;refine wlt (Nat×L2) (fun(i,o)=>([(7,.own (mY o)),(9,vV (jS s.vers)),(10,wN items),(15,.own (mY bs)),(16,vI i)],bs.length-i,(i<=bs.length)/\(o=(bs.take i).map (tX items)))) ((0,[])) ⟨by omega,rfl⟩ ?_;rintro⟨i,o⟩ ⟨h1,h2⟩;simp;apply gw<;>intro e
    ·have hr:=afH e;have hsel:=hbs i e;have hol:o.length<=8:=by rw[h2,aV,cZ];omega
     have hgm:=yZ (tX items) hr;generalize hbg:gat bs i=bb at hr hsel hgm|-
     simp;refine wlt (Nat×L1) (fun(j,g)=>([(7,.own (mY o)),(9,vV (jS s.vers)),(10,wN items),(15,.own (mY bs)),(16,vI i),(17,wN g),(18,vI j)],bb.length-j,(j<=bb.length)/\(g=tX items (bb.take j)))) ((0,[])) ⟨by omega,rfl⟩ ?_;rintro⟨j,g⟩ ⟨h3,h4⟩;simp[hr];apply gw<;>intro f
     ·have hg:=aU f;have hgx:=hsel.1.1 _ (aA hg);have ha0:0<=at1 bb j:=hgx.1;have hix:(at1 bb j).toNat<items.length:=by rw[hil];omega
      have hg2:=aU hix;have hgl:g.length<=8:=by rw[h4,tX,aV,cZ];omega
      have hpk:tX items (bb.take (j+1))=g++[at1 items (at1 bb j).toNat]:=by rw[tX,yZ _ hg,h4];rfl
      simp[hr,hg,ha0,hg2];refine nxb (j+1,g++[at1 items (at1 bb j).toNat]) ⟨by omega,hpk.symm⟩
     ·simp at f;have hgE:tX items bb=g:=by rw[h4,bS f]
      simp;refine nxb (i+1,o++[g]) ⟨by omega,by rw[hgm,hgE,←h2]⟩
    ·simp at e;have ho:DX c s=o:=by rw[hrc,h2,bS e]
     simp;refine kQ [] ((dH 4).trans (dH 5)) ?_;simp[a2,b,hr3,ho,hr2]
def K9 (h:bE r):0<=r.source/\r.source<=3/\1<=r.key/\r.key<=99:=by
 simp only[bE,inR,k_Bool_and_eq_true,decide_eq_true_eq]at h;omega
def ayS (h:iM s):(∀x∈s.recs.map jQ,inT x)/\(s.recs.map jQ).Nodup:=by
 constructor
 ·intro x hx;obtain⟨r,hr,rfl⟩:=dE.1 hx;have:=K9 ((MS h).1 r hr);unfold jQ inT;omega
 ·simp only[iM,k_Bool_and_eq_true]at h;have h1:=aiL (R:=fun a b=>decide (jQ a<jQ b)) (fun a b c hab hbc=>by simp only[decide_eq_true_eq]at*;omega) h.1.1.1.2;unfold List.Nodup;rw[yM];exact h1.imp fun hab=>by simp only[decide_eq_true_eq]at hab;omega
def aoP {P:Ver->Prop}:∀(L:List Ver) (st:List Ver×List Ver),(∀v∈st.1,P v)->(∀v∈L,P v)->∀v∈(L.foldl IJ st).1,P v
 |[],st,h,_=>h
 |c::L,st,h,hL=>aoP L (IJ st c) (fun v hv=>by
   unfold IJ at hv;split at hv
   ·exact h v hv
   ·rcases k_List_mem_append.1 hv with h1|h1
    ·exact h v h1
    ·rw[k_List_mem_singleton.1 h1];exact hL c wT) (fun v hv=>hL v (bD _ hv))
def UM {l:List Ver}(h:kZ l):∀v∈jZ l,fH v=true:=fun v hv=>by
 rw[←(afO h).1]at hv;have hc:=(apI h).1;exact aoP (P:=fun v=>fH v=true) _ _ (fun v hv=>hc v (dY.1 hv).1) (fun v hv=>hc v (dY.1 ((IV _).mem_iff.1 hv)).1) v ((FX _).mem_iff.1 hv)
def mxP (items:L1)(B:L2)(i:Nat):L2:=(B.take i).map (tX items)++B.drop i
def mxR (items b:L1)(j:Nat):L1:=tX items (b.take j)++b.drop j
def acH {items:L1}{B:L2}{i:Nat}(h:i<=B.length):(mxP items B i).length=B.length:=by simp[mxP];omega
def asC {items:L1}{B:L2}{i:Nat}(h:i<B.length):(mxP items B i)[i]?=B[i]?:=by
 unfold mxP;rw[aX (by simp;omega),dQ,aV,cZ,fG (by omega),eO,kJ]
def aC6 {items:L1}{B:L2}{i:Nat}{b:L1}(h:B[i]?=some b):(mxP items B i).set i (tX items b)=mxP items B (i+1):=by
 have hi:=dL h;unfold mxP;have hl:((B.take i).map (tX items)).length=i:=by simp;omega
 rw[List.set_append,if_neg (by omega),hl,eO,bM hi,kV,dV h,jE,bN];rfl
def azF {items:L1}{B:L2}{i:Nat}{b:L1}(h:B[i]?=some b):(mxP items B i).set i b=mxP items B i:=by
 apply jX;intro m;by_cases hm:i=m
 ·subst hm;have hi:=dL h;rw[bR (by rw[acH (by omega)];exact hi),asC hi,h]
 ·rw[bI hm]
def aDD {items b:L1}{j:Nat}(h:j<=b.length):(mxR items b j).length=b.length:=by simp[mxR,tX];omega
def aDC {items b:L1}{j:Nat}(h:j<b.length):(mxR items b j)[j]?=b[j]?:=by
 unfold mxR tX;rw[aX (by simp;omega),dQ,aV,cZ,fG (by omega),eO,kJ]
def aDE {items b:L1}{j:Nat}(h:j<b.length):(mxR items b j).set j (at1 items (at1 b j).toNat)=mxR items b (j+1):=by
 have hg:=aU h;unfold mxR tX;have hl:((b.take j).map (at1 items ·.toNat)).length=j:=by simp;omega
 have hd:b.drop j=at1 b j::b.drop (j+1):=by rw[bM h];rw[aB h]at hg;rw[k_Option_some_inj hg]
 rw[List.set_append,if_neg (by omega),hl,eO,hd,kV,dV hg,jE,bN];rfl
def aDB (items b:L1):mxR items b b.length=tX items b:=by simp[mxR]
def mxQ (items:L1)(B:L2)(i:Nat)(b:L1)(j:Nat):L2:=(mxP items B i).set i (mxR items b j)
def azG {items:L1}{B:L2}{i:Nat}{b:L1}(h:B[i]?=some b):mxQ items B i b 0=mxP items B i:=by
 have:mxR items b 0=b:=by simp[mxR,tX]
 rw[mxQ,this,azF h]
def aC9 {items:L1}{B:L2}{i:Nat}{b:L1}{j:Nat}(h:i<=B.length):(mxQ items B i b j).length=B.length:=by rw[mxQ,rQ,acH h]
def aC8 {items:L1}{B:L2}{i:Nat}{b:L1}{j:Nat}(h:i<B.length):(mxQ items B i b j)[i]?=some (mxR items b j):=by rw[mxQ,bR (by rw[acH (by omega)];exact h)]
def aDA {items:L1}{B:L2}{i:Nat}{b:L1}{j:Nat}(h:i<B.length)(hj:j<b.length):((mxQ items B i b j).map cO).set i (D.sl (some 3) (((mxR items b j).map dI).set j (dI (at1 items (at1 b j).toNat))))=(mxQ items B i b (j+1)).map cO:=by
 rw[←List.map_set,aDE hj];show((mxQ items B i b j).map cO).set i (cO (mxR items b (j+1)))=_;rw[←List.map_set,mxQ,mxQ,List.set_set]
def aC7 {items:L1}{B:L2}{i:Nat}{b:L1}(h:B[i]?=some b):mxQ items B i b b.length=mxP items B (i+1):=by rw[mxQ,aDB,aC6 h]
def aaS (c:Cfg)(s:Sto):L2:=if s.recs.length=0 then[]else DX c s
def abE (c:Cfg)(s:Sto)(hc:kY c)(hs:iM s)(hsc:ao2 c):Fk 64 [agC c,NT s] (.tup [.own (mY (aaS c s)),wV (jS s.vers)]):=by
 refine fE [7] ntmps64 fun _ _=> ?_;have hcv:=aw5 hc;have hsv:=MS hs;have hk8:=aeQ s.vers hsv.2.2.2;have hkv:=UM hsv.2.2.1;simp;refine ck (vL s.vers (by omega) hsv.2.2.1) ?_;simp;apply gw<;>intro d
 ·have hr:aaS c s=[]:=if_pos (by simpa using d);try simp
  refine kQ [] (LC (L:=[(4,.own (mY [])),(5,wV (jS s.vers))]) (by simp)) ?_;simp[hr]
 ·have hr:aaS c s=DX c s:=if_neg (by simpa using d);have hn:1<=s.recs.length/\s.recs.length<=8:=⟨by have:s.recs.length≠0:=(by simpa using d);omega,hsv.2.1⟩;have hio:=ayS hs;have hperm:=atO hkv hio.1 hio.2;have hmat:=J5 c.rules c.sco hn;have hcl:=af0 hmat hperm;have hcl2:nL (weights s.recs c.rules c.sco) (oD (jZ s.vers) (s.recs.map jQ))=BK c s:=rfl;rw[hcl2]at hcl;have h16:=YE (jZ s.vers) (s.recs.map jQ) hk8 (by simp;omega);rw[←hperm.length_eq]at h16;have hlab:=ajJ (oD (jZ s.vers) (s.recs.map jQ)) hmat;rw[hcl2]at hlab;have hrc:DX c s=(blocksP (BK c s)).map (tX (s.recs.map jQ)):=rfl;have hwl:(weights s.recs c.rules c.sco).length=s.recs.length:=by simp[weights]
  rw[hwl]at hlab;obtain⟨items,hit⟩:∃items,s.recs.map jQ=items:=⟨_,rfl⟩;rw[hit]at hio hperm hcl h16 hrc;have hil:items.length=s.recs.length:=by rw[←hit];simp
  simp;refine ck (UB s (by omega) (fun r hr=>by have:=K9 (hsv.1 r hr);unfold jQ;simp only[inI];omega)) ?_;simp[hit];refine ck (OP s.recs c.rules c.sco hn hsv.1 hcv.1 hcv.2 hsc.rule hsc.rules hsc.weights) ?_;simp;refine ck (NJ (jZ s.vers) items hk8 (fun v hv=>⟨(jP (hkv v hv)).1,(jP (hkv v hv)).2.1⟩) (by omega) hio.1) ?_;simp;refine eT (OQ (weights s.recs c.rules c.sco) (alA (jZ s.vers) items) hmat (by omega)) (by simp) ?_;rintro r ⟨c1,e1,g1,rfl⟩;refine⟨by simp,?_⟩;simp[hcl];refine ck (O4 (BK c s) (by omega) (hlab.imp id And.left)) ?_;have hbs:=aeT hlab;have hbl:(blocksP (BK c s)).length<=8:=by rcases hlab with h|h;(rw[k_List_length_eq_zero_iff.1 h];simp[blocksP,loopN]);exact k_Nat_le_trans (blocksI (isPart_iff.1 h.1).1 (k_Nat_le_refl _)).len (by omega)
  clear hcl hlab hperm;generalize blocksP (BK c s)=B at*
  have hm0:mxP items B 0=B:=by simp[mxP]
  simp;refine wl (fun(i:Nat)=>[(7,wV (jS s.vers)),(8,wN items),(11,.own (mY (mxP items B i))),(46,.al 11 []),(47,vI B.length),(48,vI i)]) (fun(i:Nat)=>B.length-i) (fun(i:Nat)=>(i<=B.length)) (0) (by omega) ?_ (h0:=by simp[hit,hm0]);rintro i h1;simp;apply gw<;>intro a
  ·obtain⟨b,hb⟩:=aN (l:=B) (i:=i) a;have hmg:=asC (items:=items) a;rw[hb]at hmg;have hml:=acH (items:=items) h1;have hgb:gat B i=b:=by simp[gat,List.getD,hb]
   have hsel:=hbs i a;rw[hgb]at hsel;have hz:=azG (items:=items) hb;simp[hmg];refine wl (fun(j:Nat)=>[(7,wV (jS s.vers)),(8,wN items),(11,.own (mY (mxQ items B i b j))),(13,.al 11 [i]),(46,.al 11 []),(47,vI B.length),(48,vI i),(52,.al 11 [i]),(53,vI b.length),(54,vI j)]) (fun(j:Nat)=>b.length-j) (fun(j:Nat)=>(j<=b.length)) (0) (by omega) ?_ (h0:=by simp[hit,hmg,hml,hz]);rintro j h2;simp;apply gw<;>intro f
   ·have hg:=aU f;have hgx:=hsel.1.1 _ (aA hg);have hg3:=aU (l:=items) (i:=(at1 b j).toNat) (by rw[hil];have:=hgx.1;have:=hgx.2;omega);have hq1:=aC8 (items:=items) (b:=b) (j:=j) a;have hq2:=aC9 (items:=items) (b:=b) (j:=j) h1;have hq3:=aDC (items:=items) f;rw[hg]at hq3;have hq4:=aDA (items:=items) a f;have hq5:=aDD (items:=items) (b:=b) (j:=j) (by omega);obtain⟨x,hx⟩:∃x,at1 b j=x:=⟨_,rfl⟩;rw[hx]at hg3 hq3 hq4 hgx;have hx0:=hgx.1;simp[hg3,hq1,hq3,hq4,hx0];refine nxa (j+1) (by omega)
   ·simp at f;obtain rfl:j=b.length:=by omega
    have hqa:=aC7 (items:=items) hb;simp[hqa];refine nxa (i+1) (by omega)
  ·simp at a;obtain rfl:i=B.length:=by omega
   have hfin:DX c s=mxP items B B.length:=by rw[hrc];simp[mxP]
   simp[hr,hfin]
def X5 (c:Cfg)(s:Sto):(yR c s).length<=8/\∀r∈yR c s,r.length<=8:=by
 unfold yR;split
 ·rename_i h;rw[k_Bool_and_eq_true]at h;split
  ·simp
  ·rename_i hn;have hsv:=MS h.2;have hmat:=J5 c.rules c.sco (l:=s.recs) ⟨by omega,hsv.2.1⟩;have hlab:=ajJ (oD (jZ s.vers) (s.recs.map jQ)) hmat;have hwl:(weights s.recs c.rules c.sco).length=s.recs.length:=by simp[weights]
   rw[hwl]at hlab;have hbs:=aeT hlab
   have hbl:(blocksP (BK c s)).length<=8:=by
    rcases hlab with h|h
    ·unfold BK;rw[k_List_length_eq_zero_iff.1 h];simp[blocksP,loopN]
    ·exact k_Nat_le_trans (blocksI (isPart_iff.1 h.1).1 (k_Nat_le_refl _)).len (by have:=h.2;have:=hsv.2.1;omega)
   unfold DX;refine⟨by rw[aV];exact hbl,fun r hr=> ?_⟩;obtain⟨b,hb,rfl⟩:=dE.1 hr;obtain⟨v,hv⟩:=dD hb;have hvl:=dL hv;have hg:gat (blocksP (BK c s)) v=b:=by simp[gat,List.getD,hv]
   have:=(hbs v hvl).2;have hg2:gat (blocksP (nL (weights s.recs c.rules c.sco) (oD (jZ s.vers) (s.recs.map jQ)))) v=b:=hg;rw[hg2]at this;rw[tX,aV];omega
 ·simp
def take_len:∀(L:List Ver) (st:List Ver×List Ver),(L.foldl IJ st).1.length+(L.foldl IJ st).2.length=st.1.length+st.2.length+L.length
 |[],st=>by simp
 |c::L,st=>by
  rw[k_List_foldl_cons,take_len L,aR];unfold IJ;split<;>simp<;>omega
def X6 (c:Cfg)(s:Sto):(EZ c s).length<=8:=by
 unfold EZ;split
 ·rename_i h;rw[k_Bool_and_eq_true]at h;have hv:=(MS h.2).2.2.1;rw[←(afO hv).2,JL];have h1:=take_len (uD (tZ (gN s.vers))) (apart (gN s.vers),[]);have h2:=ajP (gN s.vers);have h3:=adK s.vers;have h4:=(MS h.2).2.2.2;rw[ac3]at h1;simp only[jD]at h1;unfold afN;omega
 ·simp
def AZ {α:Type}(f:α->D)(z:D)(l:List α)(i:Nat):List D:=(l.take i).map f++List.replicate (l.length-i) z
section
variable {α:Type}{f:α->D}{z:D}{l:List α}{i:Nat}{c:α}
def zU (h:i<=l.length):(AZ f z l i).length=l.length:=by simp[AZ];omega
def zT (h:i<l.length:=by omega):(AZ f z l i)[i]?=some z:=by
 unfold AZ;rw[aX (by simp;omega)];rw[aV,cZ,fG (by omega),eO,eZ,if_pos (by omega)]
def zV (h:l[i]?=some c):(AZ f z l i).set i (f c)=AZ f z l (i+1):=by
 have hi:=dL h;unfold AZ;have hl:((l.take i).map f).length=i:=by simp;omega
 rw[List.set_append,if_neg (by omega),hl,eO,yZ f h,show l.length-i=(l.length-(i+1))+1 by omega,fI];simp
def wJ:List.replicate l.length z=AZ f z l 0:=by simp[AZ]
def zS:AZ f z l l.length=l.map f:=by simp[AZ]
end
def ad6 (t:Tst):Fk 345 [zN t] (.val (zN t)):=by
 refine fE [] ntmps345 fun _ _=> ?_;simp
def abN (l:List Tst)(hl:Qle l):Fk 270 [.sl none (l.map zN)] (.own (.sl (some 206) (l.map zN))):=by
 refine fE [] ntmps270 fun _ _=> ?_;have hz:=wJ (f:=zN) (z:=(.agg [dI 0,dI 0,dB false])) (l:=l);simp[hz];refine ai ?_;refine wl (fun(i:Nat)=>[(0,.val (.sl none (l.map zN))),(3,.own (.sl (some 206) (AZ zN (.agg [dI 0,dI 0,dB false]) l i))),(4,vI i)]) (fun(i:Nat)=>l.length-i) (fun(i:Nat)=>(i<=l.length)) (0) (by omega) ?_;rintro i h1;simp;apply gw<;>intro a
 ·obtain⟨c,hc⟩:=aN (l:=l) (i:=i);have hg:=zT (f:=zN) (z:=(.agg [dI 0,dI 0,dB false])) (l:=l) (i:=i);have hfl:=zU (f:=zN) (z:=(.agg [dI 0,dI 0,dB false])) h1;have hst:=zV (f:=zN) (z:=(.agg [dI 0,dI 0,dB false])) hc;simp[hc];refine ck (ad6 c) ?_;simp[hg,hst];refine nxa (i+1) (by first|omega|(simp;omega)|grind)
 ·simp at a;obtain rfl:i=l.length:=by omega
  have hfa:=zS (f:=zN) (z:=(.agg [dI 0,dI 0,dB false])) (l:=l);simp[hfa]
abbrev NB (l:List Tst):D:= .agg [.sl (some 206) (l.map zN)]
def ad5 (l:List Tst)(hl:Qle l):Fk 189 [vZ l] (.own (NB l)):=by
 refine fE [] ntmps189 fun _ _=> ?_;simp;refine ck (abN l hl) ?_;simp
def abL (l:List (List Tst))(hl:Qle l)(hs:∀t∈l,Qle t):Fk 109 [.sl none (l.map vZ)] (.own (.sl (some 154) (l.map NB))):=by
 refine fE [] ntmps109 fun _ _=> ?_;have hz:=wJ (f:=NB) (z:=(.agg [.sl (some 206) []])) (l:=l);simp[hz];refine ai ?_;refine wl (fun(i:Nat)=>[(0,.val (.sl none (l.map vZ))),(3,.own (.sl (some 154) (AZ NB (.agg [.sl (some 206) []]) l i))),(4,vI i)]) (fun(i:Nat)=>l.length-i) (fun(i:Nat)=>(i<=l.length)) (0) (by omega) ?_;rintro i h1;simp;apply gw<;>intro a
 ·obtain⟨c,hc⟩:=aN (l:=l) (i:=i);have hg:=zT (f:=NB) (z:=(.agg [.sl (some 206) []])) (l:=l) (i:=i);have hfl:=zU (f:=NB) (z:=(.agg [.sl (some 206) []])) h1;have hst:=zV (f:=NB) (z:=(.agg [.sl (some 206) []])) hc;simp[hc];refine ck (ad5 c (hs c (aA hc))) ?_;simp[hg,hst];refine nxa (i+1) (by first|omega|(simp;omega)|grind)
 ·simp at a;obtain rfl:i=l.length:=by omega
  have hfa:=zS (f:=NB) (z:=(.agg [.sl (some 206) []])) (l:=l);simp[hfa]
def WL (l:List (List Tst))(hl:Qle l)(hs:∀t∈l,Qle t):Fk 52 [mQ l] (.own (.agg [.sl (some 154) (l.map NB)])):=by
 refine fE [] ntmps52 fun _ _=> ?_;simp;refine ck (abL l hl hs) ?_;simp
def GQ (l:L1)(hl:Qle l):Fk 54 [nInts l] (wN l):=by
 refine fE [] ntmps54 fun _ _=> ?_;have hz:=wJ (f:=dI) (z:=(dI 0)) (l:=l);simp[hz];refine ai ?_;refine wl (fun(i:Nat)=>[(0,vN l),(3,.own (.sl (some 3) (AZ dI (dI 0) l i))),(4,vI i)]) (fun(i:Nat)=>l.length-i) (fun(i:Nat)=>(i<=l.length)) (0) (by omega) ?_;rintro i h1;simp;apply gw<;>intro a
 ·obtain⟨c,hc⟩:=aN (l:=l) (i:=i);have hg:=zT (f:=dI) (z:=(dI 0)) (l:=l) (i:=i);have hfl:=zU (f:=dI) (z:=(dI 0)) h1;have hst:=zV (f:=dI) (z:=(dI 0)) hc;simp[hc,hg,hst];refine nxa (i+1) (by first|omega|(simp;omega)|grind)
 ·simp at a;obtain rfl:i=l.length:=by omega
  have hfa:=zS (f:=dI) (z:=(dI 0)) (l:=l);simp[hfa]
def WM (s:Sco)(hl:Qle s.weights):Fk 53 [H7 s] (.own (.agg [cO s.weights,dI s.bias])):=by
 refine fE [] ntmps53 fun _ _=> ?_;simp;refine ck (GQ s.weights hl) ?_;simp
def WN (l:List Str)(hl:Qle l):Fk 190 [mM l] (.own (FD l)):=by
 refine fE [] ntmps190 fun _ _=> ?_;have hz:=wJ (f:=dS) (z:=(dS [])) (l:=l);simp[hz];refine ai ?_;refine wl (fun(i:Nat)=>[(0,vR l),(3,.own (.sl (some 9) (AZ dS (dS []) l i))),(4,vI i)]) (fun(i:Nat)=>l.length-i) (fun(i:Nat)=>(i<=l.length)) (0) (by omega) ?_;rintro i h1;simp;apply gw<;>intro a
 ·obtain⟨c,hc⟩:=aN (l:=l) (i:=i);have hg:=zT (f:=dS) (z:=(dS [])) (l:=l) (i:=i);have hfl:=zU (f:=dS) (z:=(dS [])) h1;have hst:=zV (f:=dS) (z:=(dS [])) hc;simp[hc,hg,hst];refine nxa (i+1) (by first|omega|(simp;omega)|grind)
 ·simp at a;obtain rfl:i=l.length:=by omega
  have hfa:=zS (f:=dS) (z:=(dS [])) (l:=l);simp[hfa]
abbrev ae2 (r:Rec):D:= .agg [dI r.source,dI r.key,dI r.version,FD r.fields]
def Y7 (r:Rec)(hl:Qle r.fields):Fk 110 [zA r] (.own (ae2 r)):=by
 refine fE [] ntmps110 fun _ _=> ?_;simp;refine ck (WN r.fields hl) ?_;simp
def WK (l:List Rec)(hl:Qle l)(hs:∀r∈l,Qle r.fields):Fk 55 [H6 l] (.own (.sl (some 108) (l.map ae2))):=by
 refine fE [] ntmps55 fun _ _=> ?_;have hz:=wJ (f:=ae2) (z:=(.agg [dI 0,dI 0,dI 0,.sl (some 9) []])) (l:=l);simp[hz];refine ai ?_;refine wl (fun(i:Nat)=>[(0,vT l),(3,.own (.sl (some 108) (AZ ae2 (.agg [dI 0,dI 0,dI 0,.sl (some 9) []]) l i))),(4,vI i)]) (fun(i:Nat)=>l.length-i) (fun(i:Nat)=>(i<=l.length)) (0) (by omega) ?_;rintro i h1;simp;apply gw<;>intro a
 ·obtain⟨c,hc⟩:=aN (l:=l) (i:=i);have hg:=zT (f:=ae2) (z:=(.agg [dI 0,dI 0,dI 0,.sl (some 9) []])) (l:=l) (i:=i);have hfl:=zU (f:=ae2) (z:=(.agg [dI 0,dI 0,dI 0,.sl (some 9) []])) h1;have hst:=zV (f:=ae2) (z:=(.agg [dI 0,dI 0,dI 0,.sl (some 9) []])) hc;simp[hc];refine ck (Y7 c (hs c (aA hc))) ?_;simp[hg,hst];refine nxa (i+1) (by first|omega|(simp;omega)|grind)
 ·simp at a;obtain rfl:i=l.length:=by omega
  have hfa:=zS (f:=ae2) (z:=(.agg [dI 0,dI 0,dI 0,.sl (some 9) []])) (l:=l);simp[hfa]
def WO (v:Ver):Fk 57 [mP v] (.val (mP v)):=by
 refine fE [] ntmps57 fun _ _=> ?_;simp
def GR (l:List Ver)(hl:Qle l):Fk 26 [nVers l] (wV l):=by
 refine fE [] ntmps26 fun _ _=> ?_;have hz:=wJ (f:=mP) (z:=(.agg [dI 0,dI 0,dB false,dI 0])) (l:=l);simp[hz];refine ai ?_;refine wl (fun(i:Nat)=>[(0,vV l),(3,.own (.sl (some 99) (AZ mP (.agg [dI 0,dI 0,dB false,dI 0]) l i))),(4,vI i)]) (fun(i:Nat)=>l.length-i) (fun(i:Nat)=>(i<=l.length)) (0) (by omega) ?_;rintro i h1;simp;apply gw<;>intro a
 ·obtain⟨c,hc⟩:=aN (l:=l) (i:=i);have hg:=zT (f:=mP) (z:=(.agg [dI 0,dI 0,dB false,dI 0])) (l:=l) (i:=i);have hfl:=zU (f:=mP) (z:=(.agg [dI 0,dI 0,dB false,dI 0])) h1;have hst:=zV (f:=mP) (z:=(.agg [dI 0,dI 0,dB false,dI 0])) hc;simp[hc];refine ck (WO c) ?_;simp[hg,hst];refine nxa (i+1) (by first|omega|(simp;omega)|grind)
 ·simp at a;obtain rfl:i=l.length:=by omega
  have hfa:=zS (f:=mP) (z:=(.agg [dI 0,dI 0,dB false,dI 0])) (l:=l);simp[hfa]
def ad3 (t:Tst):Fk 387 [zN t,zN t] (vB true):=by
 refine fE [] ntmps387 fun _ _=> ?_;simp
def abH (l:List Tst)(hl:Qle l):Fk 332 [.sl none (l.map zN),.sl none (l.map zN)] (vB true):=by
 refine fE [] ntmps332 fun _ _=> ?_;simp;refine wl (fun(i:Nat)=>[(0,.val (.sl none (l.map zN))),(1,.val (.sl none (l.map zN))),(5,vI i)]) (fun(i:Nat)=>l.length-i) (fun(i:Nat)=>(i<=l.length)) (0) (by omega) ?_;rintro i h1;simp;apply gw<;>intro a
 ·obtain⟨c,hc⟩:=aN (l:=l) (i:=i);simp;refine wdr ?_;simp[hc];refine cd (ad3 c) ?_;simp;refine nxa (i+1) (by first|omega|(simp;omega)|grind)
 ·simp at a;simp
def ad2 (l:List Tst)(hl:Qle l):Fk 239 [vZ l,vZ l] (vB true):=by
 refine fE [] ntmps239 fun _ _=> ?_;simp;refine ck (abH l hl) ?_;simp
def abF (l:List (List Tst))(hl:Qle l)(hs:∀t∈l,Qle t):Fk 149 [.sl none (l.map vZ),.sl none (l.map vZ)] (vB true):=by
 refine fE [] ntmps149 fun _ _=> ?_;simp;refine wl (fun(i:Nat)=>[(0,.val (.sl none (l.map vZ))),(1,.val (.sl none (l.map vZ))),(5,vI i)]) (fun(i:Nat)=>l.length-i) (fun(i:Nat)=>(i<=l.length)) (0) (by omega) ?_;rintro i h1;simp;apply gw<;>intro a
 ·obtain⟨c,hc⟩:=aN (l:=l) (i:=i);simp;refine wdr ?_;simp[hc];refine cd (ad2 c (hs c (aA hc))) ?_;simp;refine nxa (i+1) (by first|omega|(simp;omega)|grind)
 ·simp at a;simp
def V7 (l:List (List Tst))(hl:Qle l)(hs:∀t∈l,Qle t):Fk 73 [mQ l,mQ l] (vB true):=by
 refine fE [] ntmps73 fun _ _=> ?_;simp;refine ck (abF l hl hs) ?_;simp
def GK (l:L1)(hl:Qle l):Fk 75 [nInts l,nInts l] (vB true):=by
 refine fE [] ntmps75 fun _ _=> ?_;simp;refine wl (fun(i:Nat)=>[(0,vN l),(1,vN l),(5,vI i)]) (fun(i:Nat)=>l.length-i) (fun(i:Nat)=>(i<=l.length)) (0) (by omega) ?_;rintro i h1;simp;apply gw<;>intro a
 ·obtain⟨c,hc⟩:=aN (l:=l) (i:=i);simp;refine wdr ?_;simp[hc];refine nxa (i+1) (by first|omega|(simp;omega)|grind)
 ·simp at a;simp
def V8 (s:Sco)(hl:Qle s.weights):Fk 74 [H7 s,H7 s] (vB true):=by
 refine fE [] ntmps74 fun _ _=> ?_;simp;refine ck (GK s.weights hl) ?_;simp
def YZ (c:Cfg)(hl:Qle c.rules)(hs:∀t∈c.rules,Qle t)(hw:Qle c.sco.weights)(hv:Qle c.surv):Fk 29 [agC c,agC c] (vB true):=by
 refine fE [] ntmps29 fun _ _=> ?_;simp;refine ck (V7 c.rules hl hs) ?_;simp;refine ck (V8 c.sco hw) ?_;simp;refine ck (GK c.surv hv) ?_;simp
def V9 (l:List Str)(hl:Qle l):Fk 240 [mM l,mM l] (vB true):=by
 refine fE [] ntmps240 fun _ _=> ?_;simp;refine wl (fun(i:Nat)=>[(0,vR l),(1,vR l),(5,vI i)]) (fun(i:Nat)=>l.length-i) (fun(i:Nat)=>(i<=l.length)) (0) (by omega) ?_;rintro i h1;simp;apply gw<;>intro a
 ·obtain⟨c,hc⟩:=aN (l:=l) (i:=i);simp;refine wdr ?_;simp[hc];refine nxa (i+1) (by first|omega|(simp;omega)|grind)
 ·simp at a;simp
def Y1 (r:Rec)(hl:Qle r.fields):Fk 150 [zA r,zA r] (vB true):=by
 refine fE [] ntmps150 fun _ _=> ?_;simp;refine ck (V9 r.fields hl) ?_;simp
def V6 (l:List Rec)(hl:Qle l)(hs:∀r∈l,Qle r.fields):Fk 76 [H6 l,H6 l] (vB true):=by
 refine fE [] ntmps76 fun _ _=> ?_;simp;refine wl (fun(i:Nat)=>[(0,vT l),(1,vT l),(5,vI i)]) (fun(i:Nat)=>l.length-i) (fun(i:Nat)=>(i<=l.length)) (0) (by omega) ?_;rintro i h1;simp;apply gw<;>intro a
 ·obtain⟨c,hc⟩:=aN (l:=l) (i:=i);simp;refine wdr ?_;simp[hc];refine cd (Y1 c (hs c (aA hc))) ?_;simp;refine nxa (i+1) (by first|omega|(simp;omega)|grind)
 ·simp at a;simp
def WA (v:Ver):Fk 78 [mP v,mP v] (vB true):=by
 refine fE [] ntmps78 fun _ _=> ?_;simp
def GL (l:List Ver)(hl:Qle l):Fk 32 [nVers l,nVers l] (vB true):=by
 refine fE [] ntmps32 fun _ _=> ?_;simp;refine wl (fun(i:Nat)=>[(0,vV l),(1,vV l),(5,vI i)]) (fun(i:Nat)=>l.length-i) (fun(i:Nat)=>(i<=l.length)) (0) (by omega) ?_;rintro i h1;simp;apply gw<;>intro a
 ·obtain⟨c,hc⟩:=aN (l:=l) (i:=i);simp;refine wdr ?_;simp[hc];refine cd (WA c) ?_;simp;refine nxa (i+1) (by first|omega|(simp;omega)|grind)
 ·simp at a;simp
def abG (s:Sto)(hl:Qle s.recs)(hs:∀r∈s.recs,Qle r.fields)(hv:Qle s.vers):Fk 30 [NT s,NT s] (vB true):=by
 refine fE [] ntmps30 fun _ _=> ?_;simp;refine ck (V6 s.recs hl hs) ?_;simp;refine ck (GL s.vers hv) ?_;simp
def Y2 (c:Cfg)(left:Int)(hr:atF c.rules)(hw:c.sco.weights.length<=9223372036854775807)(hs:c.surv.length<=9223372036854775807)(h0:0<=left/\left<=1048576):fD prog 16 [agC c,dI left] (fun r=>∃v:Int,r=vI v/\(-1<=v/\v<=left)/\(0<=v->aB7 c.rules left/\(c.sco.weights.length:Int)<=left/\(c.surv.length:Int)<=left)):=by
 refine fE [] ntmps16 fun _ _=> ?_;simp;refine eT (WG c.rules left hr h0) (by simp) ?_;rintro r ⟨v1,rfl,hv1,hf1⟩;refine⟨by simp,?_⟩;simp;apply gw<;>intro b
 ·simp;omega
 ·simp at b;simp;refine eT (WH c.sco v1 hw (by omega)) (by simp) ?_;rintro r ⟨v2,rfl,hv2,hf2⟩;refine⟨by simp,?_⟩;simp;apply gw<;>intro d
  ·simp;omega
  ·simp at d;simp;refine eT (GM c.surv v2 hs (by omega)) (by simp) ?_;rintro r ⟨v3,rfl,hv3,hf3⟩;refine⟨by simp,?_⟩;simp;apply gw<;>intro e
   ·simp;omega
   ·simp at e;have k1:=hf1 (by omega);have k2:=hf2 (by omega);have k3:=hf3 (by omega);have k4:(c.sco.weights.length:Int)<=left/\(c.surv.length:Int)<=left:=by omega
    simp[k1,k4];refine ai ?_;omega
def abJ (s:Sto)(left:Int)(hr:awV s.recs)(hw:s.vers.length<=9223372036854775807)(h0:0<=left/\left<=1048576):fD prog 17 [NT s,dI left] (fun r=>∃v:Int,r=vI v/\(-1<=v/\v<=left)/\(0<=v->aFG s.recs left/\(s.vers.length:Int)<=left)):=by
 refine fE [] ntmps17 fun _ _=> ?_;simp;refine eT (WF s.recs left hr h0) (by simp) ?_;rintro r ⟨v1,rfl,hv1,hf1⟩;refine⟨by simp,?_⟩;simp;apply gw<;>intro b
 ·simp;omega
 ·simp at b;simp;refine eT (GN s.vers v1 hw (by omega)) (by simp) ?_;rintro r ⟨v2,rfl,hv2,hf2⟩;refine⟨by simp,?_⟩;simp;apply gw<;>intro d
  ·simp;omega
  ·simp at d;have k1:=hf1 (by omega);have k2:=hf2 (by omega);have k4:(s.vers.length:Int)<=left:=by omega
   simp[k1,k4];refine ai ?_;omega
def Y5 (c:Cfg)(hl:Qle c.rules)(hs:∀t∈c.rules,Qle t)(hw:Qle c.sco.weights)(hv:Qle c.surv):Fk 23 [agC c] (.own (.agg [.agg [.sl (some 154) (c.rules.map NB)],.agg [cO c.sco.weights,dI c.sco.bias],cO c.surv])):=by
 refine fE [] ntmps23 fun _ _=> ?_;simp;refine ck (WL c.rules hl hs) ?_;simp;refine ck (WM c.sco hw) ?_;simp;refine ck (GQ c.surv hv) ?_;simp
def abM (s:Sto)(hl:Qle s.recs)(hs:∀r∈s.recs,Qle r.fields)(hv:Qle s.vers):Fk 24 [NT s] (.own (.agg [dI s.version,.sl (some 108) (s.recs.map ae2),oVers s.vers])):=by
 refine fE [] ntmps24 fun _ _=> ?_;simp;refine ck (WK s.recs hl hs) ?_;simp;refine ck (GR s.vers hv) ?_;simp
abbrev ajR (e:Ent):D:= .agg [dI e.id,nInts e.mem]
abbrev sI (l:List Ent):D:= .sl none (l.map ajR)
abbrev anO (e:Ent):D:= .agg [dI e.id,cO e.mem]
abbrev azK (l:List Ent):D:= .sl (some 101) (l.map anO)
abbrev nSys (x:wF):D:= .agg [agC x.cfg,NT x.sto,sI x.ents,dI x.next,nVers x.ref]
def BN (l:List Ent):Nat:=(l.map fun e=>e.mem.length).sum
def anF {l:List Ent}{i:Nat}{c:Ent}(h:l[i]?=some c):BN (l.take (i+1))=BN (l.take i)+c.mem.length:=by simp[BN,dV h]
def PW {l:List Ent}{e:Ent}(h:e∈l):e.mem.length<=BN l:=by
 obtain⟨a,b,rfl⟩:=List.append_of_mem h;simp[BN];omega
def aE5 (l:List Ent):Prop:=l.length<=9223372036854775807/\∀e∈l,e.mem.length<=9223372036854775807
structure yA (x:wF):Prop where
 cfg:ao2 x.cfg
 sto:awJ x.sto
 ents:Qle x.ents
 mem:BN x.ents<=1048576
 ref:Qle x.ref
structure aBK (x:wF):Prop where
 rules:atF x.cfg.rules
 wts:x.cfg.sco.weights.length<=9223372036854775807
 surv:x.cfg.surv.length<=9223372036854775807
 recs:awV x.sto.recs
 vers:x.sto.vers.length<=9223372036854775807
 ents:aE5 x.ents
 ref:x.ref.length<=9223372036854775807
def Y3 (e:Ent)(left:Int)(hl:e.mem.length<=9223372036854775807)(h0:0<=left/\left<=1048576):fD prog 41 [ajR e,dI left] (fun r=>∃v:Int,r=vI v/\(-1<=v/\v<=left)/\(0<=v->v+(e.mem.length:Int)<=left)):=by
 refine fE [] ntmps41 fun _ _=> ?_;simp;refine eT (GM e.mem left hl h0) (by simp) ?_;rintro r ⟨v,rfl,hv,hf⟩;refine⟨by simp,?_⟩;simp;apply gw<;>intro b
 ·simp;omega
 ·simp at b;have hfit:=hf (by omega);simp[hfit];refine ai ?_;omega
def WB (l:List Ent)(left:Int)(hl:aE5 l)(h0:0<=left/\left<=1048576):fD prog 18 [sI l,dI left] (fun r=>∃v:Int,r=vI v/\(-1<=v/\v<=left)/\(0<=v->v+(l.length:Int)+BN l<=left)):=by
 refine fE [] ntmps18 fun _ _=> ?_;have hl1:=hl.1;simp;refine ai ?_;apply gw<;>intro e
 ·simp;omega
 ·simp at e;simp;refine wlt (Nat×Int) (fun(i,L)=>([(0,.val (sI l)),(1,vI L),(5,vI i)],l.length-i,(i<=l.length)/\(0<=L/\L+(l.length:Int)+BN (l.take i)<=left))) ((0,left-l.length)) ⟨by omega,by simp[BN];omega⟩ ?_;rintro⟨i,L⟩ ⟨h1,h2⟩;simp;apply gw<;>intro a
  ·obtain⟨c,hc⟩:=aN (l:=l) (i:=i);have hcl:=hl.2 c (aA hc);have hms:=anF hc;simp[hc];refine eT (Y3 c L hcl (by omega)) (by simp) ?_;rintro r ⟨v,rfl,hv,hf⟩;refine⟨by simp,?_⟩;simp;apply gw<;>intro b
   ·simp;omega
   ·simp at b;have hfc:=hf (by omega);simp;refine nxa (i+1,v) ⟨by omega,by omega⟩
  ·simp at a;have hfit:L+(l.length:Int)+BN l<=left:=by rw[bS]at h2;omega
   simp[hfit];refine ai ?_;omega
def KR (x:wF)(left:Int)(hl:aBK x)(h0:0<=left/\left<=1048576):fD prog 5 [nSys x,dI left] (fun r=>∃v:Int,r=vI v/\(-1<=v/\v<=left)/\(0<=v->yA x)):=by
 refine fE [] ntmps5 fun _ _=> ?_;simp;refine eT (Y2 x.cfg left hl.rules hl.wts hl.surv h0) (by simp) ?_;rintro r ⟨v1,rfl,hv1,hf1⟩;refine⟨by simp,?_⟩;simp;apply gw<;>intro b
 ·simp;omega
 ·simp at b;simp;refine eT (abJ x.sto v1 hl.recs hl.vers (by omega)) (by simp) ?_;rintro r ⟨v2,rfl,hv2,hf2⟩;refine⟨by simp,?_⟩;simp;apply gw<;>intro d
  ·simp;omega
  ·simp at d;simp;refine eT (WB x.ents v2 hl.ents (by omega)) (by simp) ?_;rintro r ⟨v3,rfl,hv3,hf3⟩;refine⟨by simp,?_⟩;simp;apply gw<;>intro e
   ·simp;omega
   ·simp at e;simp;refine eT (GN x.ref v3 hl.ref (by omega)) (by simp) ?_;rintro r ⟨v4,rfl,hv4,hf4⟩;refine⟨by simp,?_⟩;simp;apply gw<;>intro f
    ·simp;omega
    ·simp at f;have k1:=hf1 (by omega);have k2:=hf2 (by omega);have k3:=hf3 (by omega);have k4:=hf4 (by omega);have hx:yA x:=⟨⟨by have:=k1.1.1;omega,fun l hl=>by have:=k1.1.2 l hl;omega,by omega,by omega⟩,⟨by have:=k2.1.1;omega,fun r hr=>⟨by have:=(k2.1.2 r hr).1;omega,fun f hf=>by have:=(k2.1.2 r hr).2 f hf;unfold afJ;omega⟩,by omega⟩,by omega,by omega,by omega⟩;simp[hx];refine ai ?_;omega
def Y6 (e:Ent)(hl:Qle e.mem):Fk 56 [ajR e] (.own (anO e)):=by
 refine fE [] ntmps56 fun _ _=> ?_;simp;refine ck (GQ e.mem hl) ?_;simp
def WJ (l:List Ent)(hl:Qle l)(hs:∀e∈l,Qle e.mem):Fk 25 [sI l] (.own (azK l)):=by
 refine fE [] ntmps25 fun _ _=> ?_;have hz:=wJ (f:=anO) (z:=(.agg [dI 0,.sl (some 3) []])) (l:=l);simp[hz];refine ai ?_;refine wl (fun(i:Nat)=>[(0,.val (sI l)),(3,.own (.sl (some 101) (AZ anO (.agg [dI 0,.sl (some 3) []]) l i))),(4,vI i)]) (fun(i:Nat)=>l.length-i) (fun(i:Nat)=>(i<=l.length)) (0) (by omega) ?_;rintro i h1;simp;apply gw<;>intro a
 ·obtain⟨c,hc⟩:=aN (l:=l) (i:=i);have hg:=zT (f:=anO) (z:=(.agg [dI 0,.sl (some 3) []])) (l:=l) (i:=i);have hfl:=zU (f:=anO) (z:=(.agg [dI 0,.sl (some 3) []])) h1;have hst:=zV (f:=anO) (z:=(.agg [dI 0,.sl (some 3) []])) hc;simp[hc];refine ck (Y6 c (hs c (aA hc))) ?_;simp[hg,hst];refine nxa (i+1) (by first|omega|(simp;omega)|grind)
 ·simp at a;obtain rfl:i=l.length:=by omega
  have hfa:=zS (f:=anO) (z:=(.agg [dI 0,.sl (some 3) []])) (l:=l);simp[hfa]
def jR (x:wF)(hx:yA x):Fk 7 [nSys x] (.own (.agg [.agg [.agg [.sl (some 154) (x.cfg.rules.map NB)],.agg [cO x.cfg.sco.weights,dI x.cfg.sco.bias],cO x.cfg.surv],.agg [dI x.sto.version,.sl (some 108) (x.sto.recs.map ae2),oVers x.sto.vers],azK x.ents,dI x.next,oVers x.ref])):=by
 refine fE [] ntmps7 fun _ _=> ?_;have hme:∀e∈x.ents,Qle e.mem:=fun e he=>k_Nat_le_trans (PW he) hx.mem;simp;refine ck (Y5 x.cfg hx.cfg.rules hx.cfg.rule hx.cfg.weights hx.cfg.surv) ?_;simp;refine ck (abM x.sto hx.sto.recs (fun r hr=>(hx.sto.rec1 r hr).1) hx.sto.vers) ?_;simp;refine ck (WJ x.ents hx.ents hme) ?_;simp;refine ck (GR x.ref hx.ref) ?_;simp
def JN (x:wF)(hx:yA x):fD prog 7 [nSys x] (fun r=>r= .val (.agg [.agg [.agg [.sl (some 154) (x.cfg.rules.map NB)],.agg [cO x.cfg.sco.weights,dI x.cfg.sco.bias],cO x.cfg.surv],.agg [dI x.sto.version,.sl (some 108) (x.sto.recs.map ae2),oVers x.sto.vers],azK x.ents,dI x.next,oVers x.ref])):=(jR x hx).ayA
def Y0 (e:Ent)(hl:Qle e.mem):Fk 77 [ajR e,ajR e] (vB true):=by
 refine fE [] ntmps77 fun _ _=> ?_;simp;refine ck (GK e.mem hl) ?_;simp
def V5 (l:List Ent)(hl:Qle l)(hs:∀e∈l,Qle e.mem):Fk 31 [sI l,sI l] (vB true):=by
 refine fE [] ntmps31 fun _ _=> ?_;simp;refine wl (fun(i:Nat)=>[(0,.val (sI l)),(1,.val (sI l)),(5,vI i)]) (fun(i:Nat)=>l.length-i) (fun(i:Nat)=>(i<=l.length)) (0) (by omega) ?_;rintro i h1;simp;apply gw<;>intro a
 ·obtain⟨c,hc⟩:=aN (l:=l) (i:=i);simp;refine wdr ?_;simp[hc];refine cd (Y0 c (hs c (aA hc))) ?_;simp;refine nxa (i+1) (by first|omega|(simp;omega)|grind)
 ·simp at a;simp
def xJ (x:wF)(hx:yA x):Fk 10 [nSys x,nSys x] (vB true):=by
 refine fE [] ntmps10 fun _ _=> ?_;have hme:∀e∈x.ents,Qle e.mem:=fun e he=>k_Nat_le_trans (PW he) hx.mem;simp;refine ck (YZ x.cfg hx.cfg.rules hx.cfg.rule hx.cfg.weights hx.cfg.surv) ?_;simp;refine ck (abG x.sto hx.sto.recs (fun r hr=>(hx.sto.rec1 r hr).1) hx.sto.vers) ?_;simp;refine ck (V5 x.ents hx.ents hme) ?_;simp;refine ck (GL x.ref hx.ref) ?_;simp
end Go.Proofs.YtafdbpehjfmnpaaGreatDoor
end
