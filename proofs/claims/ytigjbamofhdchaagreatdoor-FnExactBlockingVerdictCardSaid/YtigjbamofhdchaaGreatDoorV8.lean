/- Lemmas and walks that the law leans on, part 8. No condition. -/
import Derived.Laws.CopyOwn
import Derived.LoopTactic
import Derived.Sort.Grow
import Derived.Still
import Derived.StillTactics
import Derived.Test.YtigjbamofhdchaaGreatDoorV7
set_option linter.unusedVariables false
set_option linter.defProp false
set_option linter.unusedSimpArgs false
set_option linter.unusedSectionVars false
set_option maxRecDepth 10000
set_option maxHeartbeats 1000000
section
namespace Go.Proofs.YtigjbamofhdchaaGreatDoor
open Go.Dv Go.Pl Go.Proofs.Tryz
variable {x:Int}
def abB (h: -1000<=x/\x<=1000):0<=zM x/\zM x<=1000:=by unfold zM;split<;>omega
def NI (m:L2)(hm:bP m):fP prog 237 [bZ m] (fun r=>∃l:List Tri,r=wC l/\l.length<=512/\∀t∈l,JD m.length t/\0<=t.w/\t.w<=1000):=by
 refine fE [] ntmps237 fun _ _=> ?_;have hn8:=dK hm;simp;refine ck (gX m (by omega) (vY hm)) ?_;simp[hm];refine wlt (Nat×List Tri) (fun(i,o)=>([(0,.val (bZ m)),(3,wC o),(12,vI m.length),(13,vI i)],m.length-i,(i<=m.length)/\(o.length<=64*i)/\(∀t∈o,JD m.length t/\0<=t.w/\t.w<=1000))) ((0,[])) ⟨by omega,by simp,by simp⟩ ?_;rintro⟨i,o⟩ ⟨h1,h2,h3⟩;simp;apply gw<;>intro a
 ·simp;refine ai ?_;refine wlt (Nat×List Tri) (fun(j,p)=>([(0,.val (bZ m)),(3,wC p),(4,vI i),(5,vI j),(12,vI m.length),(13,vI i)],m.length-j,(i+1<=j/\j<=m.length)/\(p.length<=64*i+8*j)/\(∀t∈p,JD m.length t/\0<=t.w/\t.w<=1000))) ((i+1,o)) ⟨by omega,by omega,h3⟩ ?_;rintro⟨j,p⟩ ⟨h4,h5,h6⟩;simp;apply gw<;>intro b
  ·simp;refine ai ?_;refine wlt (Nat×List Tri) (fun(k,q)=>([(0,.val (bZ m)),(3,wC q),(4,vI i),(5,vI j),(6,vI k),(12,vI m.length),(13,vI i)],m.length-k,(j+1<=k/\k<=m.length)/\(q.length<=64*i+8*j+k)/\(∀t∈q,JD m.length t/\0<=t.w/\t.w<=1000))) ((j+1,p)) ⟨by omega,by omega,h6⟩ ?_;rintro⟨k,q⟩ ⟨h7,h8,h9⟩;simp;apply gw<;>intro c
   ·obtain⟨r1,e1,f1⟩:=kU hm (i:=i) (k:=j);obtain⟨r2,e2,f2⟩:=kU hm (i:=i) (k:=k);obtain⟨r3,e3,f3⟩:=kU hm (i:=j) (k:=k);have b1:=iH hm i j;have b2:=iH hm i k;have b3:=iH hm j k;rw[e1]at e2;obtain rfl:=k_Option_some_inj e2;simp;refine wdf [(28,[32,33,34,59,60]),(29,[7]),(30,[7,60])] [(0,.val (bZ m)),(3,wC q),(4,vI i),(5,vI j),(6,vI k),(12,vI m.length),(13,vI i)] [] (by simp) ?_;simp[e1,f1];refine cd (sI (at2 m i j)) ?_;simp[e1,f2];refine cd (sI (at2 m i k)) ?_;simp[e3,f3];refine cd (sI (at2 m j k)) ?_;obtain⟨w,hw⟩:∃w,w=min (zM (at2 m i j)) (min (zM (at2 m i k)) (zM (at2 m j k))):=⟨_,rfl⟩;have a1:=abB b1;have a2:=abB b2;have a3:=abB b3;have hw2:=hw.symm;have ht:JD m.length ⟨i,j,k,w⟩:=⟨by show(0:Int)<=i;omega,by show(i:Int)<j;omega,by show(j:Int)<k;omega,by show(k:Int)<m.length;omega⟩;simp[hw2];refine fC (adG ⟨i,j,k,w⟩ m hm ht) (by simp) ?_;rintro r ⟨bb,rfl⟩;refine⟨by simp,?_⟩;simp;apply gw<;>intro d
    ·simp;refine nxb (k+1,q++[⟨i,j,k,w⟩]) ⟨by omega,by simp;omega,(by intro t htm;rcases k_List_mem_append.1 htm with h|h;exact h9 t h;obtain rfl:=k_List_mem_singleton.1 h;exact⟨ht,by show 0<=w;omega,by show w<=1000;omega⟩)⟩
    ·simp;refine nxa (k+1,q) ⟨by omega,by omega,h9⟩
   ·simp at c;simp;refine nxa (j+1,q) ⟨by omega,by omega,h9⟩
  ·simp at b;simp;refine nxa (i+1,p) ⟨by omega,by omega,h6⟩
 ·simp at a;simp;exact⟨o,rfl,by omega,h3⟩
variable {m u:L2}{y:Nat}
def XM {x:Nat}(hu:sq2 m.length u)(hx:x<m.length)(hy:y<m.length):u[x]?=some (gat u x)/\(gat u x)[y]?=some (at2 u x y):=⟨(rZ hu hx).1,LM hu hx hy⟩
def LV (m u:L2)(b:Int):Prop:=sq2 m.length u/\∀x y,x<m.length->y<m.length->0<=at2 u x y/\at2 u x y<=b
variable {b:Int}
def anW {w:Int}{x:Nat}(h:LV m u b)(hx:x<m.length)(hy:y<m.length)(hw:0<=w/\w<=1000):LV m (set2 u x y (at2 u x y+w)) (b+1000):=by
 refine⟨wZ h.1 hx _,fun a c ha hc=> ?_⟩;rw[CZ h.1 hx hy];have h1:=h.2 a c ha hc;have h2:=h.2 x y hx hy;split<;>omega
variable {c:Int}
def CQ (h:LV m u b)(hb:b<=c:=by omega):LV m u c:=⟨h.1,fun x y hx hy=>by have:=h.2 x y hx hy;omega⟩
def uU (m:L2)(hm:bP m):fP prog 170 [bZ m] (fun r=>∃l:List Tri,r=wC l/\l.length<=512/\∀t∈l,JD m.length t/\1<=t.w/\t.w<=1000):=by
 refine fE [] ntmps170 fun _ _=> ?_;have hn8:=dK hm;have hz:List.replicate m.length (dG (List.replicate m.length 0))=(zeros m.length).map dG:=by simp[zeros]
 simp;refine ck (sJ m.length) ?_;simp[hz];refine fC (NI m hm) (by simp) ?_;rintro r ⟨L,rfl,hL,hT⟩;refine⟨by simp,?_⟩;simp;refine wlt (Nat×L2×List Tri) (fun(i,u,o)=>([(0,.val (bZ m)),(3,wC o),(4,.own (mQ u)),(15,wC L),(16,vI L.length),(17,vI i)],L.length-i,(i<=L.length)/\(LV m u (3000*i))/\o.length<=i/\(∀t∈o,JD m.length t/\1<=t.w/\t.w<=1000))) ((0,zeros m.length,[])) ⟨by omega,(⟨pF _,fun x y _ _=>by rw[JG];omega⟩),by simp,by simp⟩ ?_ (h0:=by simp[hz]);rintro⟨i,u,o⟩ ⟨h1,h2,h3,h4⟩;simp;apply gw<;>intro a
 ·obtain⟨t,ht⟩:=aQ (l:=L) (i:=i);have hto:=hT t (aA ht);simp[ht];refine ck (ES t) ?_;simp;refine wlt (Nat×Int) (fun(k,w)=>([(0,.val (bZ m)),(3,wC o),(4,.own (mQ u)),(6,.own (.bx true (akJ ⟨t.a,t.b,t.c,w⟩))),(15,wC L),(16,vI L.length),(17,vI i),(22,.val (akI t)),(23,vI k)],3-k,(k<=3)/\(-2000000<=w/\w<=1000))) ((0,t.w)) ⟨by omega,by omega⟩ ?_;rintro⟨k,w⟩ ⟨h5,h6⟩;simp;apply gw<;>intro b
  ·obtain⟨x,y,hx,hy,hp⟩:=abQ hto.1 (show k<3 by omega);obtain⟨r,hr,hv⟩:=kU hm hx hy;obtain⟨q1,q2⟩:=XM h2.1 hx hy;have q3:=h2.2 x y hx hy;have b1:=iH hm x y;have a1:=abB b1;simp[hp];refine ai ?_;refine wdt 24 ?_;simp[hr,hv];refine cd (sI (at2 m x y)) ?_;simp[q1,q2];refine nxb (k+1,min w (zM (at2 m x y)-at2 u x y)) ⟨by omega,by omega⟩
  ·simp at b;have hu1:LV m u (3000*((i+1:Nat):Int)):=CQ h2;simp;apply gw<;>intro c
   ·simp;refine nxa (i+1,u,o) ⟨by omega,hu1,by omega,h4⟩
   ·simp at c;have htw:JD m.length ⟨t.a,t.b,t.c,w⟩:=⟨hto.1.a,hto.1.b,hto.1.c,hto.1.n⟩;simp;refine ck (ES ⟨t.a,t.b,t.c,w⟩) ?_;simp;refine wlt (Nat×L2) (fun(j,v)=>([(0,.val (bZ m)),(3,wC o),(4,.own (mQ v)),(6,.own (.bx true (akJ ⟨t.a,t.b,t.c,w⟩))),(15,wC L),(16,vI L.length),(17,vI i),(55,.val (akI t)),(56,vI j)],3-j,(j<=3)/\(LV m v (3000*i+1000*j)))) ((0,u)) ⟨by omega,(CQ h2)⟩ ?_;rintro⟨j,v⟩ ⟨h7,h8⟩;simp;apply gw<;>intro b2
    ·obtain⟨x,y,hx,hy,hp⟩:=abQ hto.1 (show j<3 by omega);obtain⟨q1,q2⟩:=XM h8.1 hx hy;have q3:=h8.2 x y hx hy;have hset:=J6 v x y (at2 v x y+w);simp[hp];refine ai ?_;refine wdt 13 ?_;simp[q1,q2,hset];refine nxb (j+1,set2 v x y (at2 v x y+w)) ⟨by omega,(CQ (anW h8 hx hy (by omega)))⟩
    ·simp at b2;obtain rfl:j=3:=by omega
     simp;refine nxb (i+1,v,o++[⟨t.a,t.b,t.c,w⟩]) ⟨by omega,(CQ h8),by simp;omega,(by intro z hz;rcases k_List_mem_append.1 hz with h|h;exact h4 z h;obtain rfl:=k_List_mem_singleton.1 h;exact⟨htw,by show 1<=w;omega,by show w<=1000;omega⟩)⟩
 ·simp at a;simp;exact⟨o,rfl,by omega,h4⟩
def U4 (m:L2)(l:List Tri)(hm:bP m)(hl:l.length<=512)(hT:∀t∈l,JD m.length t/\1<=t.w/\t.w<=1000):fP prog 301 [bZ m,GJ l] (fun r=>∃b:Bool,r=vB b):=by
 refine fE [] ntmps301 fun _ _=> ?_;have hn8:=dK hm;have hz:List.replicate m.length (dG (List.replicate m.length 0))=(zeros m.length).map dG:=by simp[zeros]
 simp;refine ck (gX m (by omega) (vY hm)) ?_;simp[hm];apply gw<;>intro a0
 ·simp
 ·simp at a0;simp;refine ck (sJ m.length) ?_;simp[hz];refine wlt (Nat×L2) (fun(i,u)=>([(0,.val (bZ m)),(5,.own (mQ u)),(21,.val (GJ l)),(22,vI l.length),(23,vI i)],l.length-i,(i<=l.length)/\(LV m u (3000*i)))) ((0,zeros m.length)) ⟨by omega,(⟨pF _,fun x y _ _=>by rw[JG];omega⟩)⟩ ?_ (h0:=by simp[hm,hz]);rintro⟨i,u⟩ ⟨h1,h2⟩;simp;apply gw<;>intro a
  ·obtain⟨t,ht⟩:=aQ (l:=l) (i:=i);have hto:=hT t (aA ht);simp[ht];refine fC (as4 t m.length (by omega)) (by simp) ?_;rintro r ⟨b1,rfl⟩;refine⟨by simp,?_⟩;simp;apply gv<;>intro e
   ·have e':=e;simp at e';simp[e]
   ·have e':=e;simp at e';simp[e];refine fC (adG t m hm hto.1) (by simp) ?_;rintro r ⟨b2,rfl⟩;refine⟨by simp,?_⟩;simp;apply gv<;>intro f
    ·have f':=f;simp at f';simp[f]
    ·have f':=f;simp at f';simp[f];refine ck (bD t.w 1 1000) ?_;simp;apply gw<;>intro g
     ·simp at g;simp
     ·simp at g;simp;refine ck (ES t) ?_;simp;refine wlt (Nat×L2) (fun(j,v)=>([(0,.val (bZ m)),(5,.own (mQ v)),(7,.own (.bx true (akJ t))),(21,.val (GJ l)),(22,vI l.length),(23,vI i),(45,.val (akI t)),(46,vI j)],3-j,(j<=3)/\(LV m v (3000*i+1000*j)))) ((0,u)) ⟨by omega,(CQ h2)⟩ ?_;rintro⟨j,v⟩ ⟨h7,h8⟩;simp;apply gw<;>intro c
      ·obtain⟨x,y,hx,hy,hp⟩:=abQ hto.1 (show j<3 by omega);obtain⟨q1,q2⟩:=XM h8.1 hx hy;obtain⟨r,hr,hv⟩:=kU hm hx hy;have q3:=h8.2 x y hx hy;have hset:=J6 v x y (at2 v x y+t.w);have h9:=anW h8 hx hy (w:=t.w) (by omega);obtain⟨p1,p2⟩:=XM h9.1 hx hy;have b3:=iH hm x y;simp[hp];refine ai ?_;refine wdt 13 ?_;simp[q1,q2,hset];refine ai ?_;refine wdr ?_;simp[p1,p2,hr,hv];refine cd (sI (at2 m x y)) ?_;simp;apply gw<;>intro d
       ·simp
       ·simp at d;simp;refine nxa (j+1,set2 v x y (at2 v x y+t.w)) ⟨by omega,(CQ h9)⟩
      ·simp at c;obtain rfl:j=3:=by omega
       simp;refine nxa (i+1,v) ⟨by omega,(CQ h8)⟩
  ·simp at a;simp
def NQ (m:L2)(l:List Tri)(hm:bP m)(hl:l.length<=512)(hT:∀t∈l,JD m.length t/\1<=t.w/\t.w<=1000):fP prog 236 [bZ m,GJ l] (fun r=>∃k:Int,r=vI k/\ -1<=k/\k<=512000):=by
 refine fE [] ntmps236 fun _ _=> ?_;simp;refine fC (U4 m l hm hl hT) (by simp) ?_;rintro r ⟨b1,rfl⟩;refine⟨by simp,?_⟩;simp;apply gw<;>intro a0
 ·simp at a0;simp
 ·simp at a0;simp;refine wlt (Nat×Int) (fun(i,s)=>([(5,vI s),(12,.val (GJ l)),(13,vI l.length),(14,vI i)],l.length-i,(i<=l.length)/\(0<=s/\s<=1000*i))) ((0,0)) ⟨by omega,by omega⟩ ?_;rintro⟨i,s⟩ ⟨h1,h2⟩;simp;apply gw<;>intro a
  ·obtain⟨t,ht⟩:=aQ (l:=l) (i:=i);have hto:=hT t (aA ht);simp[ht];refine nxb (i+1,s+t.w) ⟨by omega,by omega⟩
  ·simp at a;simp;refine ai ?_;omega
def uV (m:L2)(p:L1)(l:List Tri)(hm:bP m)(hp:Qle p)(hl:l.length<=512)(hT:∀t∈l,JD m.length t/\1<=t.w/\t.w<=1000):fP prog 169 [bZ m,nInts p,GJ l] (fun r=>∃k:Int,r=vI k):=by
 refine fE [] ntmps169 fun _ _=> ?_;have hpc:=AO m p;simp;refine ck (A8 m p hm hp) ?_;simp;refine fC (NQ m l hm hl hT) (by simp) ?_;rintro r ⟨k,rfl,hk1,hk2⟩;refine⟨by simp,?_⟩;simp;apply gv<;>intro e
 ·have e':=e;simp[e]
 ·have e':=e;simp at e';simp[e];apply gw<;>intro f
  ·simp
  ·simp at f;simp;simp only[inI];omega
structure aDI (a b c d e:Nat):Prop where
 ab:¬a=b
 ac:¬a=c
 ad:¬a=d
 ae:¬a=e
 bc:¬b=c
 bd:¬b=d
 be:¬b=e
 cd:¬c=d
 ce:¬c=e
 de:¬d=e
def aw0 (m:L2)(cs:List Con)(l:L1)(s:S20)(k:Int)(bc bm bl bf bn:Nat)(hA:aDI bc bm bl bf bn)(hm:bP m)(hl:l.length=m.length)(hc:Qle cs):FnW prog 294 [dG l] [(bc,some (jG cs)),(bm,some (bZ m)),(bl,none),(bf,none),(bn,none)] [(bc,jG cs),(bm,bZ m)] [(bl,dI s.cost),(bf,dG s.best),(bn,dI k)] (fun r ds'=>r= .tup []/\∃k',ds'=[dI (lZ m cs l s).cost,dG (lZ m cs l s).best,dI k']):=by
 refine fW [10] ntmps294 fun w0 ow0=> ?_;obtain⟨a1,a2,a3,a4,a5,a6,a7,a8,a9,a10⟩:=hA;have c1:=k_Ne_symm a1;have c2:=k_Ne_symm a2;have c3:=k_Ne_symm a3;have c4:=k_Ne_symm a4;have c5:=k_Ne_symm a5;have c6:=k_Ne_symm a6;have c7:=k_Ne_symm a7;have c8:=k_Ne_symm a8;have c9:=k_Ne_symm a9;have c0:=k_Ne_symm a10;have hn8:=dK hm;simp;refine ck (CW l cs) ?_;simp;apply gw<;>intro e
 ·simp at e;have hb:lZ m cs l s=s:=if_neg (by simpa using e);simp[c8,c9,c0,hb]
 ·simp at e;have hk:mY cs l:=by simpa using e
  have hbs:lZ m cs l s=if s.cost<0\/dL m l<s.cost then⟨l,dL m l,1⟩else if dL m l=s.cost then⟨s.best,s.cost,s.count+1⟩else s:=if_pos hk
  simp;refine ck (jY m l hm hl) ?_;simp;apply gv<;>intro f
  ·have f':=f;have hb:lZ m cs l s=⟨l,dL m l,1⟩:=by rw[hbs,if_pos (.inl f)]
   simp[f];refine ck (nQ l ⟨by omega,by omega⟩) ?_;simp[a8,a9,a10,c8,c9,c0,hb]
  ·have f':=f;simp at f';simp[f];apply gw<;>intro g
   ·have hb:lZ m cs l s=⟨l,dL m l,1⟩:=by rw[hbs,if_pos (.inr g)]
    simp;refine ck (nQ l ⟨by omega,by omega⟩) ?_;simp[a8,a9,a10,c8,c9,c0,hb]
   ·simp at g;simp;apply gw<;>intro h
    ·have hb:lZ m cs l s=⟨s.best,s.cost,s.count+1⟩:=by rw[hbs,if_neg (by omega),if_pos h]
     simp;refine wrw [1] ?_;simp[a9,a10,c8,c9,c0,hb]
    ·have hb:lZ m cs l s=s:=by rw[hbs,if_neg (by omega),if_neg h]
     simp[c8,c9,c0,hb]
abbrev abA (bc bm bl bf bk:Nat):D:= .one (.func (.func 294) #[] #[YT bc,YT bm,YT bl,YT bf,YT bk])
abbrev ak1 (bn bY bL bF:Nat):D:= .one (.func (.func 341) #[] #[YT bn,YT bY,YT bL,YT bF])
def FH {a:Nat}{l:List Nat}(h:∀b∈l,¬a=b)(hl:nD l):nD (a::l):=⟨fun b hb=>⟨h b hb,fun e=>h b hb e.symm⟩,hl⟩
def ak2 (m:L2)(cs:List Con)(bn bY bL bF bc bm bl bf bk d:Nat):Prop:=∀(i nt:Nat) (I N:Int) (l:L1) (s:S20) (k:Int),I=i->N=nt->i+d=m.length->nt<=i->l.length=m.length->
 FnW prog 341 [dI I,dI N] [(bn,some (dI m.length)),(bY,some (abA bc bm bl bf bk)),(bL,none),(bF,some (ak1 bn bY bL bF))] [(bn,dI m.length),(bY,abA bc bm bl bf bk),(bF,ak1 bn bY bL bF),(bc,jG cs),(bm,bZ m)] [(bL,dG l),(bl,dI s.cost),(bf,dG s.best),(bk,dI k)]
  (fun r ds'=>r= .tup []/\∃l' k',(l'.length=m.length/\l'.take i=l.take i)/\ds'=[dG l',dI (pK (lZ m cs) d (l.take i) nt s).cost,dG (pK (lZ m cs) d (l.take i) nt s).best,dI k'])
def awR (m:L2)(cs:List Con)(bn bY bL bF bc bm bl bf bk:Nat)(hA:nD [bF,bL,bY,bn,bc,bm,bl,bf,bk])(hm:bP m)(hc:Qle cs)(N:Int)(l:L1)(s:S20)(k:Int)(hl:l.length=m.length):FnW prog 341 [dI (m.length:Int),dI N] [(bn,some (dI m.length)),(bY,some (abA bc bm bl bf bk)),(bL,none),(bF,some (ak1 bn bY bL bF))] [(bn,dI m.length),(bY,abA bc bm bl bf bk),(bF,ak1 bn bY bL bF),(bc,jG cs),(bm,bZ m)] [(bL,dG l),(bl,dI s.cost),(bf,dG s.best),(bk,dI k)] (fun r ds'=>r= .tup []/\∃k',ds'=[dG l,dI (lZ m cs l s).cost,dG (lZ m cs l s).best,dI k']):=by
 refine fW [] ntmps341 fun w0 ow0=> ?_;have hA2:=hA;simp[nD]at hA2;simp;refine UM (aw0 m cs l s k bc bm bl bf bk ⟨by omega,by omega,by omega,by omega,by omega,by omega,by omega,by omega,by omega,by omega⟩ hm hl hc) rfl ?_;simp[hA2];refine WK ?_;rintro _ _ ⟨rfl,k',rfl⟩;simp[hA2]
variable {i:Nat}
def auU {l l0:L1}(h:l.take i=l0.take i)(hi:i<l.length):(l.set i x).take (i+1)=l0.take i++[x]:=by
 have h1:(l.set i x)[i]?=some x:=by simp[hi]
 rw[dX h1,List.take_set_of_le (k_Nat_le_refl _),h]
def UW (m:L2)(cs:List Con)(d:Nat)(l:L1)(nt:Nat)(x:Nat)(s:S20):S20:=pK (lZ m cs) d (l++[(x:Int)]) (max nt (x+1)) s
def awS (m:L2)(cs:List Con)(bn bY bL bF bc bm bl bf bk d:Nat)(hA:nD [bF,bL,bY,bn,bc,bm,bl,bf,bk])(hm:bP m)(IH:ak2 m cs bn bY bL bF bc bm bl bf bk d)(i nt:Nat)(l:L1)(s:S20)(k:Int)(hi:i+d+1=m.length)(hnt:nt<=i)(hl:l.length=m.length):FnW prog 341 [dI (i:Int),dI (nt:Int)] [(bn,some (dI m.length)),(bY,some (abA bc bm bl bf bk)),(bL,none),(bF,some (ak1 bn bY bL bF))] [(bn,dI m.length),(bY,abA bc bm bl bf bk),(bF,ak1 bn bY bL bF),(bc,jG cs),(bm,bZ m)] [(bL,dG l),(bl,dI s.cost),(bf,dG s.best),(bk,dI k)] (fun r ds'=>r= .tup []/\∃l' k',(l'.length=m.length/\l'.take i=l.take i)/\ds'=[dG l',dI (pK (lZ m cs) (d+1) (l.take i) nt s).cost,dG (pK (lZ m cs) (d+1) (l.take i) nt s).best,dI k']):=by
 refine fW [] ntmps341 fun _ _=> ?_;have hA2:=hA;simp[nD]at hA2;have hn8:=dK hm;have hin:¬(i:Int)=(m.length:Int):=by omega
 simp[hin];refine wlt (Nat×L1×S20×Int) (fun(x,q,t,j)=>([(0,vI i),(1,vI nt),(2,.rp (dI m.length)),(3,.rp (abA bc bm bl bf bk)),(4,.rf (1000000+2*bL) [0]),(5,.rp (ak1 bn bY bL bF)),(8,vI x),(1000000+2*bn,.rp (dI m.length)),(1000000+2*bY,.rp (abA bc bm bl bf bk)),(1000000+2*bF,.rp (ak1 bn bY bL bF)),(1000000+2*bc,.rp (jG cs)),(1000000+2*bm,.rp (bZ m)),(1000000+2*bL,.own (.bx true (dG q))),(1000000+2*bl,.own (.bx true (dI t.cost))),(1000000+2*bf,.own (.bx true (dG t.best))),(1000000+2*bk,.own (.bx true (dI j)))],nt+1-x,(x<=nt+1)/\(t=loopN x s (UW m cs d (l.take i) nt))/\q.length=m.length/\(q.take i=l.take i))) ((0,l,s,k)) ⟨by omega,rfl,hl,rfl⟩ ?_ (h0:=by simp[hA2,hin]);rintro⟨x,q,t,j⟩ ⟨h1,h2,h3,h4⟩;simp;apply gw<;>intro a
 ·have hs:=aL x s (UW m cs d (l.take i) nt);rw[←h2]at hs;have hgi:=aV (l:=q) (i:=i);have hts:=auU (x:=(x:Int)) h4 (by omega);have hst:pK (lZ m cs) d (l.take i++[(x:Int)]) (max nt (x+1)) t=UW m cs d (l.take i) nt x t:=rfl;simp[hA2,hgi];iterate 2 refine ai ?_
  refine UM (IH (i+1) (max nt (x+1)) _ _ (q.set i (x:Int)) t j (by omega) (by omega) (by omega) (by omega) (by simp;omega)) rfl ?_;simp[hA2];refine WK ?_;rintro _ _ ⟨rfl,q2,j2,⟨e1,e2⟩,rfl⟩;rw[hts]at e2;have e3:q2.take i=l.take i:=by have:=congrArg (List.take i) e2;rw[List.take_left' (by simp;omega),List.take_take,fH (by omega)]at this;exact this
  simp[hts,hst];refine nxa (x+1,q2,UW m cs d (l.take i) nt x t,j2) ⟨by omega,hs.symm,e1,e3⟩ (h3:=by simp[hA2,hin,hgi,hts,hst])
 ·simp at a;obtain rfl:x=nt+1:=by omega
  have hfin:pK (lZ m cs) (d+1) (l.take i) nt s=t:=h2.symm;simp[hA2,hfin];exact⟨q,⟨h3,h4⟩,rfl⟩
variable {cs:List Con}
def aqY {bn bY bL bF bc bm bl bf bk:Nat}(hA:nD [bF,bL,bY,bn,bc,bm,bl,bf,bk])(hm:bP m)(hc:Qle cs):∀d,ak2 m cs bn bY bL bF bc bm bl bf bk d
 |0=>fun i nt I N l s k hI hN hi hnt hl=>by
  obtain rfl:i=m.length:=by omega
  subst hI;refine(awR m cs bn bY bL bF bc bm bl bf bk hA hm hc N l s k hl).mono ?_;rintro r ds' ⟨h1,k',h2⟩;have ht:l.take m.length=l:=by rw[←hl,dJ]
  exact⟨h1,l,k',⟨hl,rfl⟩,by rw[h2,ht];rfl⟩
 |d+1=>fun i nt I N l s k hI hN hi hnt hl=>by
  subst hI;subst hN;exact awS m cs bn bY bL bF bc bm bl bf bk d hA hm (aqY hA hm hc d) i nt l s k (by omega) hnt hl
def aAX (m:L2)(cs:List Con)(s:S20)(k:Int)(bc bm bl bf bk:Nat)(hA:nD [bc,bm,bl,bf,bk])(hm:bP m)(hc:Qle cs):FnW prog 293 [dI (m.length:Int),abA bc bm bl bf bk] [] [(bc,jG cs),(bm,bZ m)] [(bl,dI s.cost),(bf,dG s.best),(bk,dI k)] (fun r ds'=>r= .tup []/\∃k',ds'=[dI (pK (lZ m cs) m.length [] 0 s).cost,dG (pK (lZ m cs) m.length [] 0 s).best,dI k']):=by
 refine fW [] ntmps293 fun _ _=> ?_;have hA2:=hA;simp[nD]at hA2;have hn8:=dK hm;simp;refine ai ?_;refine apH (oW (dI m.length) (by simp) fun bn x1=> ?_);have n1:=oG.nr x1 (b':=bc) (d:=jG cs) (by simp[hA2]);have n2:=oG.nr x1 (b':=bm) (d:=bZ m) (by simp[hA2]);have n3:=oG.ne x1 (b':=bl) (o:=true) (d:=dI s.cost) (by simp);have n4:=oG.ne x1 (b':=bf) (o:=true) (d:=dG s.best) (by simp[hA2]);have n5:=oG.ne x1 (b':=bk) (o:=true) (d:=dI k) (by simp[hA2]);have hB1:nD [bn,bc,bm,bl,bf,bk]:=FH (by simp[n1,n2,n3,n4,n5]) hA;have hB1':=hB1;simp[nD]at hB1';refine oW (abA bc bm bl bf bk) (by simp) fun bY x2=> ?_;have m0:=oG.ne x2 (b':=bn) (o:=true) (d:=dI m.length) (by simp);have m1:=oG.nr x2 (b':=bc) (d:=jG cs) (by simp[hB1']);have m2:=oG.nr x2 (b':=bm) (d:=bZ m) (by simp[hB1']);have m3:=oG.ne x2 (b':=bl) (o:=true) (d:=dI s.cost) (by simp[hB1']);have m4:=oG.ne x2 (b':=bf) (o:=true) (d:=dG s.best) (by simp[hB1']);have m5:=oG.ne x2 (b':=bk) (o:=true) (d:=dI k) (by simp[hB1']);have hB2:nD [bY,bn,bc,bm,bl,bf,bk]:=FH (by simp[m0,m1,m2,m3,m4,m5]) hB1;have hB2':=hB2;simp[nD]at hB2';refine oW (dG (List.replicate m.length 0)) (by simp) fun bL x3=> ?_;have p0:=oG.ne x3 (b':=bn) (o:=true) (d:=dI m.length) (by simp[hB2']);have p9:=oG.ne x3 (b':=bY) (o:=true) (d:=abA bc bm bl bf bk) (by simp);have p1:=oG.nr x3 (b':=bc) (d:=jG cs) (by simp[hB2']);have p2:=oG.nr x3 (b':=bm) (d:=bZ m) (by simp[hB2']);have p3:=oG.ne x3 (b':=bl) (o:=true) (d:=dI s.cost) (by simp[hB2']);have p4:=oG.ne x3 (b':=bf) (o:=true) (d:=dG s.best) (by simp[hB2']);have p5:=oG.ne x3 (b':=bk) (o:=true) (d:=dI k) (by simp[hB2']);have hB3:nD [bL,bY,bn,bc,bm,bl,bf,bk]:=FH (by simp[p0,p1,p2,p3,p4,p5,p9]) hB2;have hB3':=hB3;simp[nD]at hB3';refine oW (.one .nilFunc) (by simp) fun bF x4=> ?_;have q0:=oG.ne x4 (b':=bn) (o:=true) (d:=dI m.length) (by simp[hB3']);have q9:=oG.ne x4 (b':=bY) (o:=true) (d:=abA bc bm bl bf bk) (by simp[hB3']);have q8:=oG.ne x4 (b':=bL) (o:=true) (d:=dG (List.replicate m.length 0)) (by simp);have q1:=oG.nr x4 (b':=bc) (d:=jG cs) (by simp[hB3']);have q2:=oG.nr x4 (b':=bm) (d:=bZ m) (by simp[hB3']);have q3:=oG.ne x4 (b':=bl) (o:=true) (d:=dI s.cost) (by simp[hB3']);have q4:=oG.ne x4 (b':=bf) (o:=true) (d:=dG s.best) (by simp[hB3']);have q5:=oG.ne x4 (b':=bk) (o:=true) (d:=dI k) (by simp[hB3']);have hB4:nD [bF,bL,bY,bn,bc,bm,bl,bf,bk]:=FH (by simp[q0,q1,q2,q3,q4,q5,q8,q9]) hB3;have hB4':=hB4;simp[nD]at hB4';refine XW ?_;clear x1 x2 x3 x4 hA2 hB1' hB2' hB3';simp;refine UM (aqY hB4 hm hc m.length 0 0 0 0 (List.replicate m.length 0) s k rfl rfl (by omega) (by omega) (by simp)) rfl ?_;simp[hB4'];refine WK ?_;rintro _ _ ⟨rfl,l2,k2,⟨e1,e2⟩,rfl⟩;simp[hB4']
def aiD (m:L2)(cs:List Con)(hm:bP m)(hc:Qle cs):fP prog 231 [bZ m,jG cs] (fun r=>∃k:Int,r= .tup [.val (nInts (xI m cs).best),.val (dI (xI m cs).cost),vI k]):=by
 refine fE [] ntmps231 fun _ _=> ?_;have hn8:=dK hm;simp;refine apH (oW (jG cs) (by simp) fun bc x1=> ?_);refine oW (bZ m) (by simp) fun bm x2=> ?_;have m0:=oG.ne x2 (b':=bc) (o:=true) (d:=jG cs) (by simp);have hB2:nD [bm,bc]:=FH (by simp[m0]) ⟨by simp,trivial⟩;have hB2':=hB2;simp[nD]at hB2';refine oW (dI (-1)) (by simp) fun bl x3=> ?_;have p0:=oG.ne x3 (b':=bc) (o:=true) (d:=jG cs) (by simp[hB2']);have p1:=oG.ne x3 (b':=bm) (o:=true) (d:=bZ m) (by simp);have hB3:nD [bl,bm,bc]:=FH (by simp[p0,p1]) hB2;have hB3':=hB3;simp[nD]at hB3';refine oW (dG []) (by simp) fun bf x4=> ?_;have q0:=oG.ne x4 (b':=bc) (o:=true) (d:=jG cs) (by simp[hB3']);have q1:=oG.ne x4 (b':=bm) (o:=true) (d:=bZ m) (by simp[hB3']);have q2:=oG.ne x4 (b':=bl) (o:=true) (d:=dI (-1)) (by simp);have hB4:nD [bf,bl,bm,bc]:=FH (by simp[q0,q1,q2]) hB3;have hB4':=hB4;simp[nD]at hB4';refine oW (dI 0) (by simp) fun bk x5=> ?_;have r0:=oG.ne x5 (b':=bc) (o:=true) (d:=jG cs) (by simp[hB4']);have r1:=oG.ne x5 (b':=bm) (o:=true) (d:=bZ m) (by simp[hB4']);have r2:=oG.ne x5 (b':=bl) (o:=true) (d:=dI (-1)) (by simp[hB4']);have r3:=oG.ne x5 (b':=bf) (o:=true) (d:=dG []) (by simp);have hB5:nD [bc,bm,bl,bf,bk]:=FH (by simp[hB4',r0.symm]) (FH (by simp[hB4',r1.symm]) (FH (by simp[hB4',r2.symm]) (FH (by simp[r3.symm]) ⟨by simp,trivial⟩)));have hB5':=hB5;simp[nD]at hB5';refine XW ?_;clear x1 x2 x3 x4 x5 hB2' hB3' hB4';simp;refine UM (aAX m cs ⟨[], -1,0⟩ 0 bc bm bl bf bk hB5 hm hc) rfl ?_;simp[hB5'];refine WK ?_;rintro _ _ ⟨rfl,k2,rfl⟩;have hbe:pK (lZ m cs) m.length [] 0 ⟨[], -1,0⟩=xI m cs:=rfl;simp[hbe];refine jV [] (anQ (d:=dG (xI m cs).best) 7 (1000000+2*bf) (by simp[hB5',hbe]) (by simp[hB5',hbe]) (by decide)) ?_;simp[hB5'];refine wdr ?_;simp[hB5']
def ajM (n:Nat)(v:Int):D.nC (List.replicate n (dI v))=true:=by
 induction n with
 |zero=>rfl
 |succ n ih=>rw[fJ];simp only[D.nC,k_Bool_and_eq_true];exact⟨rfl,ih⟩
variable {p:Nat}{v:Int}{q:L1}{k:Nat}
def arE {l:L1}(h:pvB m p k (at1 q k)=false):gstep (pvB m p) v k q=q:=if_neg (by simp[h])
def pv_set {l:L1}(h:pvB m p k (at1 q k)):gstep (pvB m p) v k q=q.set k v:=if_pos h
def KZ (m:L2)(o:L1)(hm:bP m)(ho:GA m.length o):Fk 296 [bZ m,nInts o] (wN (kI m o)):=by
 refine fE [] ntmps296 fun _ _=> ?_;have hml:=dK hm;have hoo:=WH ho;have hpe:=ay1 hm ho;simp;refine ck (gX m (by omega) (vY hm)) ?_;simp[hm];refine ck (aaB m.length o ⟨by omega,by omega⟩ ho (by omega)) ?_;have hao:D.nC (List.replicate m.length (dI (-1)))=true:=ajM m.length (-1);simp;refine ck ((aD1 (-1) m.length hml)) ?_;simp[hao];refine wlt (Nat×L1) (fun(i,l)=>([(0,.val (bZ m)),(1,vN o),(5,wN l),(24,vN o),(25,vI o.length),(26,vI i)],o.length-i,(i<=o.length)/\(l=loopN i (List.replicate m.length (-1)) (ZT m o))/\(l.length=m.length))) ((0,List.replicate m.length (-1))) ⟨by omega,rfl,by simp⟩ ?_;rintro⟨i,l⟩ ⟨h1,h2,h3⟩;simp;apply gw<;>intro a
 ·have hoi:=hoo.2.2.2.2 i a;have hg:=aV a;have hgl:=aV (l:=l) (i:=(at1 o i).toNat);have hs:=aL i (List.replicate m.length (-1)) (ZT m o);rw[←h2]at hs;simp[hg,hgl];refine ai ?_;apply gw<;>intro b
  ·have hu:ZT m o i l=l:=if_pos b;simp;refine nxa (i+1,l) ⟨by omega,by rw[hs,hu],h3⟩
  ·simp at b;have hu:ZT m o i l=loopN m.length (l.set (at1 o i).toNat (at1 o i)) (gstep (pvB m (at1 o i).toNat) (at1 o i)):=if_neg (by omega);obtain⟨r,hr,hrl⟩:=CB hm (a:=(at1 o i).toNat) (by omega);have hrk:∀k<m.length,r[k]?=some (at2 m (at1 o i).toNat k):=fun k hk=>by obtain⟨r2,e1,e2⟩:=kU hm (i:=(at1 o i).toNat) (k:=k) (by omega) hk;rw[hr]at e1;rw[k_Option_some_inj e1];exact e2
   simp[hgl,hr,hrl];refine ai ?_;refine wlt (Nat×L1) (fun(k,q)=>([(0,.val (bZ m)),(1,vN o),(5,wN q),(7,vI (at1 o i)),(24,vN o),(25,vI o.length),(26,vI i),(42,vN r),(43,vI m.length),(44,vI k)],m.length-k,(k<=m.length)/\(q=loopN k (l.set (at1 o i).toNat (at1 o i)) (gstep (pvB m (at1 o i).toNat) (at1 o i)))/\(q.length=m.length))) ((0,l.set (at1 o i).toNat (at1 o i))) ⟨by omega,rfl,by simp[h3]⟩ ?_;rintro⟨k,q⟩ ⟨h1k,h2k,h3k⟩;simp;apply gw<;>intro d
   ·have hgk:=aV (l:=q) (i:=k);have hk:=hrk k d;have hsk:=aL k (l.set (at1 o i).toNat (at1 o i)) (gstep (pvB m (at1 o i).toNat) (at1 o i));rw[←h2k]at hsk;simp[hk];apply gv<;>intro e
    ·have e':=e;simp[hgk,e];apply gw<;>intro f
     ·simp[hgk];refine nxa (k+1,q.set k (at1 o i)) ⟨by omega,by rw[hsk];exact(pv_set (l:=l) (by simp[pvB,e,f])).symm,by simp[h3k]⟩
     ·simp at f;simp;refine nxa (k+1,q) ⟨by omega,by rw[hsk];exact(arE (l:=l) (by simp[pvB,f])).symm,h3k⟩
    ·have e':=e;simp at e';simp[e];refine nxa (k+1,q) ⟨by omega,by rw[hsk];exact(arE (l:=l) (by simp[pvB,e])).symm,h3k⟩
   ·simp at d;obtain rfl:k=m.length:=by omega
    simp;refine nxa (i+1,q) ⟨by omega,by rw[hs,hu];exact h2k,h3k⟩
 ·simp at a;obtain rfl:i=o.length:=by omega
  have hp:canon l=kI m o:=by rw[h2];exact hpe
  simp;refine ck (sH l (by omega)) ?_;simp[hp]
variable {n:Nat}
def wrap_small (h:n<9223372036854775808:=by omega):IntKind.i64.wrap (n:Int)=n:=by
 simp[IntKind.wrap,IntKind.bits,IntKind.signed];omega
def QA (n:Nat):BitVec.ofInt 64 (n:Int)=BitVec.ofNat 64 n:=by
 apply BitVec.eq_of_toNat_eq;simp
def avT (s:Nat)(h:s<256):Y1 .and .i64 (s:Int) 1=((s % 2:Nat):Int):=by
 have e:(1:Int)=((1:Nat):Int):=rfl;show IntKind.i64.wrap ((((BitVec.ofInt 64 (s:Int))&&&(BitVec.ofInt 64 (1:Int))).toNat:Nat):Int)=_;rw[e,QA,QA,BitVec.toNat_and,qZ,qZ,jM (by omega),jM (by omega),Nat.and_one_is_mod,wrap_small]
def aAA (s t:Nat)(h:s<256)(h2:t<256):Y1 .or .i64 (s:Int) (t:Int)=((s|||t:Nat):Int):=by
 have h3:s|||t<2^8:=Nat.or_lt_two_pow (n:=8) h h2;show IntKind.i64.wrap ((((BitVec.ofInt 64 (s:Int))|||(BitVec.ofInt 64 (t:Int))).toNat:Nat):Int)=_;rw[QA,QA,BitVec.toNat_or,qZ,qZ,jM (by omega),jM (by omega),wrap_small]
variable {s:Nat}
def azC (hs:s<256)(hx:0<=x/\x<=7):(Y1 .and .i64 ((s:Int).fdiv (2^min x.toNat 64)) 1=1)=(s.testBit x.toNat=true):=by
 have e:(s:Int).fdiv (2^min x.toNat 64)=((s/2^x.toNat:Nat):Int):=by
  rw[fH (by omega)];have:((2:Int)^x.toNat)=((2^x.toNat:Nat):Int):=by simp
  rw[this];exact Int.ofNat_fdiv s (2^x.toNat)|>.symm
 have h1:s/2^x.toNat<=s:=Nat.div_le_self _ _;rw[e,avT _ (by omega),Nat.testBit_eq_decide_div_mod_eq,decide_eq_true_eq];exact propext ⟨fun h=>by omega,fun h=>by omega⟩
def aCL (hs:s<256)(hx:0<=x/\x<=7):Y1 .or .i64 (s:Int) (IntKind.i64.wrap (2^min x.toNat 64))=((s|||2^x.toNat:Nat):Int):=by
 have hpow:2^x.toNat<2^8:=Nat.pow_lt_pow_right (by omega) (by omega);have this:((2:Int)^x.toNat)=((2^x.toNat:Nat):Int):=by simp
 rw[fH (by omega),this,wrap_small,aAA _ _ hs hpow]
def aaT (n:Int)(l:L1)(hn: -1048576<=n/\n<=1048576:=by first|omega|grind)(hl:Qle l:=by first|omega|grind):Fk 280 [dI n,nInts l] (vB (GA n l)):=by
 refine fE [] ntmps280 fun _ _=> ?_;simp;refine wlt (Nat×Nat) (fun(i,s)=>([(0,vI n),(1,vN l),(5,vI s),(6,vI i)],l.length-i,(i<=l.length)/\(at7 n l i s))) ((0,0)) ⟨by omega,(auB n l)⟩ ?_;rintro⟨i,s⟩ ⟨h1,h2⟩;simp;apply gw<;>intro a
 ·have hg:=aV a;simp[hg];refine ai ?_;refine ck (bE _ _ _) ?_;simp;apply gv<;>intro b
  ·have b':=b;simp at b';have ho:=aeD h2 a (.inl (by simp at b;omega));simp[b];simp[ho]
  ·have b':=b;simp at b';simp[b];apply gv<;>intro d
   ·have d':=d;have ho:=aeD h2 a (.inr (.inl (by omega)));simp[d];simp[ho]
   ·have d':=d;simp at d';have hx:0<=at1 l i/\at1 l i<=7:=by simp at b;omega
    have hsb:=azC h2.2.1 hx;have hso:=aCL h2.2.1 hx;simp[hg,d,hsb];refine ai ?_;apply gw<;>intro e
    ·have ho:=aeD h2 a (.inr (.inr e));simp;simp[ho]
    ·have hst:=auA h2 a ⟨by omega,by omega⟩ (by omega) (by simpa using e);simp[hg,hso];refine nxb (i+1,s|||2^(at1 l i).toNat) ⟨by omega,hst⟩
 ·simp at a;obtain rfl:i=l.length:=by omega
  have ho:=ayY h2;simp;refine ck (bE _ _ _) ?_;simp;apply gv<;>intro f
  ·have f':=f;simp at f';simp[f];simp[ho,f]
  ·have f':=f;simp at f';simp[f];simp[ho,f]
def K6 (m:L2)(o:L1)(hm:bP m)(ho:GA m.length o):Fk 210 [bZ m,nInts o] (wN (kI m o)):=by
 refine fE [] ntmps210 fun _ _=> ?_;have hml:=dK hm;have hoo:=WH ho;simp;refine ck (eG m) ?_;simp[hm];refine ck (aaT m.length o) ?_;simp[ho];refine wl (fun(i:Nat)=>[(0,.val (bZ m)),(1,vN o),(5,wN (List.replicate i (-1))),(6,vI i)]) (fun(i:Nat)=>m.length-i) (fun(i:Nat)=>(i<=m.length)) (0) (by omega) ?_;rintro i h1;simp;apply gw<;>intro a
 ·have hx:=lH (n:=i) (a:=(-1:Int));simp;refine nxb (i+1) (by first|omega|(simp;omega)|grind) (h3:=by simp[hx])
 ·simp at a;obtain rfl:i=m.length:=by omega
  simp;refine wlt (Nat×L1) (fun(i,l)=>([(0,.val (bZ m)),(1,vN o),(5,wN l),(7,vI i)],o.length-i,(i<=o.length)/\(l=loopN i (List.replicate m.length (-1)) (pivOne m o))/\(l.length=m.length))) ((0,List.replicate m.length (-1))) ⟨by omega,rfl,by simp⟩ ?_;rintro⟨i,l⟩ ⟨h1,h2,h3⟩;simp;apply gw<;>intro a
  ·have hs:=aL i (List.replicate m.length (-1)) (pivOne m o);rw[←h2]at hs;have hoi:=hoo.2.2.2.2 i a;have hg:=aV a;have hgl:=aV (l:=l) (i:=(at1 o i).toNat);simp[hg,hgl];refine ai ?_;apply gw<;>intro b
   ·have hu:pivOne m o i l=l:=if_pos b;simp;refine nxa (i+1,l) ⟨by omega,by rw[hs,hu],h3⟩
   ·simp at b;have hu:pivOne m o i l=loopN m.length l (yP m (at1 o i) i):=if_neg (by omega);simp;refine wlt (Nat×L1) (fun(k,q)=>([(0,.val (bZ m)),(1,vN o),(5,wN q),(7,vI i),(8,vI (at1 o i)),(9,vI k)],m.length-k,(k<=m.length)/\(q=loopN k (l) (yP m (at1 o i) i))/\(q.length=m.length))) ((0,l)) ⟨by omega,rfl,by omega⟩ ?_;rintro⟨k,q⟩ ⟨h1k,h2k,h3k⟩;simp;apply gw<;>intro ak
    ·have hsk:=aL k (l) (yP m (at1 o i) i);rw[←h2k]at hsk;have hgk:=aV (l:=q) (i:=k);obtain⟨r,hr,hrk⟩:=kU hm (i:=(at1 o i).toNat) (k:=k) (by omega) ak;simp[hgk];apply gv<;>intro e
     ·have e':=e;simp[e];apply gv<;>intro f
      ·have f':=f;have hv:yP m (at1 o i) i k q=q.set k i:=if_pos ⟨e,.inl (by omega)⟩;have hk0:(at1 o i).toNat=k:=by omega
       have hgk2:q[(at1 o i).toNat]?=some (at1 q k):=by rw[hk0];exact hgk
       simp[f,hgk2];refine nxb (k+1,q.set (at1 o i).toNat i) ⟨by omega,by rw[hsk,hv,hk0],by simp[h3k]⟩ (h3:=by simp[hg,hgk,hr,hrk,h3k,e,f,hgk2])
      ·have f':=f;simp[hr,hrk,f];refine ai ?_;apply gw<;>intro g
       ·have hv:yP m (at1 o i) i k q=q.set k i:=if_pos ⟨e,.inr g⟩;simp[hgk];refine nxa (k+1,q.set k i) ⟨by omega,by rw[hsk,hv],by simp[h3k]⟩
       ·simp at g;have hv:yP m (at1 o i) i k q=q:=if_neg (by omega);simp;refine nxa (k+1,q) ⟨by omega,by rw[hsk,hv],h3k⟩
     ·have e':=e;simp at e';have hv:yP m (at1 o i) i k q=q:=if_neg (by omega);simp[e];refine nxa (k+1,q) ⟨by omega,by rw[hsk,hv],h3k⟩
    ·simp at ak;have hik:m.length=k:=by omega
     subst hik;simp;refine nxa (i+1,q) ⟨by omega,by rw[hs,hu];exact h2k,h3k⟩
  ·simp at a;have hi:o.length=i:=by omega
   subst hi;have hp:kI m o=canon l:=by rw[kI,abR,←h2]
   simp;refine ck (sM l (by omega)) ?_;simp;simp[hp]
def ay8 (n s i:Nat):(List.range (i+1)).map (fun i=>(((s+i) % n:Nat):Int))=(List.range i).map (fun i=>(((s+i) % n:Nat):Int))++[(((s+i) % n:Nat):Int)]:=by simp[gD]
def am4 (n s i:Nat):L1:=(List.range i).map fun i=>(((s+i) % n:Nat):Int)
def ag8 (n s:Nat):am4 n s 0=[]:=rfl
def ag7 (n s i:Nat):am4 n s (i+1)=am4 n s i++[(((s+i) % n:Nat):Int)]:=ay8 n s i
def am5 (n s:Nat):am4 n s n=rot n s:=rfl
def am6 (n s i:Nat):(am4 n s i).length=i:=by simp[am4]
def anS (n a b:Nat):((a:Int)+(b:Int)).tmod n=(((a+b) % n:Nat):Int):=by
 rw[←Int.natCast_add];exact(Int.ofNat_tmod _ _).symm
def VS (m:L2)(hm:bP m):Fk 141 [bZ m] (.tup [.val (nInts (kZ m).1),.val (dI (kZ m).2)]):=by
 refine fE [] ntmps141 fun _ _=> ?_;have hml:=dK hm;simp;refine wld [4] (Nat×L1×Int) (fun(i,b,c)=>([(0,.val (bZ m)),(4,vN b),(5,vI c),(6,vI i)],m.length-i,(i<=m.length)/\((b,c)=loopN i ([], -1) (xK m)))) ((0,[], -1)) ⟨by omega,rfl⟩ ?_;rintro⟨i,b,c⟩ ⟨h1,h2⟩;simp;apply gv<;>intro a
 ·have a':=a;simp[a];refine ck (eG m) ?_;have hs:=aL i ([], -1) (xK m);rw[←h2]at hs;have hz:=ag8 m.length i;simp[hm];refine wl (fun(k:Nat)=>[(0,.val (bZ m)),(4,vN b),(5,vI c),(6,vI i),(7,wN (am4 m.length i k)),(8,vI k)]) (fun(k:Nat)=>m.length-k) (fun(k:Nat)=>(k<=m.length)) (0) (by omega) ?_ (h0:=by simp[hm,hz]);rintro k h1k;simp;apply gw<;>intro d
  ·have hrl:=am6 m.length i k;have hrs:=ag7 m.length i k;have htm:=anS m.length i k;have hne:¬m=[]:=by intro e;rw[e]at hml;simp at hml
   simp[htm,hne];refine nxd (k+1) (by first|omega|(simp;omega)|grind) (h3:=by simp[hrs,htm,hne])
  ·simp at d;obtain rfl:k=m.length:=by omega
   rw[am5];have hpl:=TR m (rot m.length i);simp;refine ck (K6 m (rot m.length i) hm (arH hml a)) ?_;simp;refine ck (L8 m (kI m (rot m.length i)) hm hpl) ?_;simp;apply gv<;>intro e
   ·have e':=e;have hu:xK m i (b,c)=(kI m (rot m.length i),dL m (kI m (rot m.length i))):=if_pos (.inl e);simp[e];refine ai ?_;refine nxc (i+1,kI m (rot m.length i),dL m (kI m (rot m.length i))) [4] ⟨by omega,by rw[hs,hu]⟩
   ·have e':=e;simp at e';simp[e];apply gw<;>intro f
    ·have hu:xK m i (b,c)=(kI m (rot m.length i),dL m (kI m (rot m.length i))):=if_pos (.inr f);simp;refine ai ?_;refine nxc (i+1,kI m (rot m.length i),dL m (kI m (rot m.length i))) [4] ⟨by omega,by rw[hs,hu]⟩
    ·simp at f;have hu:xK m i (b,c)=(b,c):=if_neg (by simp only;omega);simp;refine ai ?_;refine nxc (i+1,b,c) [4] ⟨by omega,by rw[hs,hu]⟩
 ·have a':=a;simp at a';obtain rfl:i=m.length:=by omega
  have hb:kZ m=(b,c):=h2.symm;simp[a];simp[hb]
def aoU:Nat->L1->D
 |0,_=> .one (.slice none 0 0)
 |_+1,b=>nInts b
def asS (b:L1):aoU 0 b= .one (.slice none 0 0):=rfl
def asR (i:Nat)(b:L1):aoU (i+1) b=nInts b:=rfl
def awQ {b:L1}(h2:(b,c)=loopN i ([], -1) (xK m))(hc:0<=c):aoU i b=nInts b:=by
 cases i with
 |zero=>have e:(b,c)=(([]:L1),(-1:Int)):=h2
        have:c= -1:=congrArg Prod.snd e;omega
 |succ j=>rfl
def U1 (m:L2)(hm:bP m):Fk 232 [bZ m] (.tup [.val (nInts (kZ m).1),.val (dI (kZ m).2)]):=by
 refine fE [] ntmps232 fun _ _=> ?_;have hml:=dK hm;simp;refine ck (gX m (by omega) (vY hm)) ?_;have hf0:=asS [];simp[hm];refine wld [4] (Nat×L1×Int) (fun(i,b,c)=>([(0,.val (bZ m)),(4,.val (aoU i b)),(5,vI c),(15,vI m.length),(16,vI i)],m.length-i,(i<=m.length)/\((b,c)=loopN i ([], -1) (xK m)))) ((0,[], -1)) ⟨by omega,rfl⟩ ?_ (h0:=by simp[hm,hf0]);rintro⟨i,b,c⟩ ⟨h1,h2⟩;simp;apply gw<;>intro a
 ·have hs:=aL i ([], -1) (xK m);rw[←h2]at hs;have hf1:=asR i;have hi0:0<=c->aoU i b=nInts b:=awQ h2;have hz:=ag8 m.length i;simp;refine wl (fun(k:Nat)=>[(0,.val (bZ m)),(4,.val (aoU i b)),(5,vI c),(6,vI i),(7,wN (am4 m.length i k)),(15,vI m.length),(16,vI i),(20,vI m.length),(21,vI k)]) (fun(k:Nat)=>m.length-k) (fun(k:Nat)=>(k<=m.length)) (0) (by omega) ?_ (h0:=by simp[hm,hf0,hf1,hz]);rintro k h1k;simp;apply gw<;>intro d
  ·have hrl:=am6 m.length i k;have hrs:=ag7 m.length i k;have htm:=anS m.length i k;have hne:¬m=[]:=by intro e;rw[e]at hml;simp at hml
   simp[htm,hne];refine nxd (k+1) (by first|omega|(simp;omega)|grind) (h3:=by simp[hf0,hf1,hrs,htm,hne])
  ·simp at d;obtain rfl:k=m.length:=by omega
   rw[am5];have hpl:=TR m (rot m.length i);simp;refine ck (KZ m (rot m.length i) hm (arH hml a)) ?_;simp;refine ck (jY m (kI m (rot m.length i)) hm hpl) ?_;simp;apply gv<;>intro e
   ·have e':=e;have hu:xK m i (b,c)=(kI m (rot m.length i),dL m (kI m (rot m.length i))):=if_pos (.inl e);simp[e];refine ai ?_;refine nxc (i+1,kI m (rot m.length i),dL m (kI m (rot m.length i))) [4] ⟨by omega,by rw[hs,hu]⟩ (h3:=by simp[hf0,hf1,e])
   ·have e':=e;simp at e';simp[e];apply gw<;>intro f
    ·have hu:xK m i (b,c)=(kI m (rot m.length i),dL m (kI m (rot m.length i))):=if_pos (.inr f);simp;refine ai ?_;refine nxc (i+1,kI m (rot m.length i),dL m (kI m (rot m.length i))) [4] ⟨by omega,by rw[hs,hu]⟩ (h3:=by simp[hf0,hf1,e])
    ·simp at f;have hu:xK m i (b,c)=(b,c):=if_neg (by simp only;omega);have hi1:=hi0 (by omega);simp[hi1];refine ai ?_;refine nxc (i+1,b,c) [4] ⟨by omega,by rw[hs,hu]⟩ (h3:=by simp[hf0,hf1,e,hi1])
 ·simp at a;obtain rfl:i=m.length:=by omega
  have hb:kZ m=(b,c):=h2.symm;have hfm:aoU m.length b=nInts b:=by obtain⟨j,hj⟩:∃j,m.length=j+1:=⟨m.length-1,by omega⟩;rw[hj];rfl
  simp[hfm];simp[hb]
def amZ (s:L2)(q:List Con):L1:=if 6<s.length then qY s q 100 (lK s q)else(xI s q).best
def ay0 {items:L1}(h:Part m cs items):amZ (kF m items) (iG cs items)=partOf m cs items:=by
 unfold amZ partOf;rw[h.len,XB h.mat (by rw[h.len];exact h.are)]
def anI {s:L2}{q:List Con}(h:eF s.length q):mY q (lK s q)=true:=by
 unfold lK;split
 ·rename_i hk;unfold keepP at hk;simp only[k_Bool_and_eq_true]at hk;exact hk.1
 ·exact Q8 h
def QU (s:L2)(q:List Con)(hm:bP s)(hcS:eF s.length q)(hq:Qle q):Fk 164 [bZ s,jG q] (vN (amZ s q)):=by
 refine fE [9,17] ntmps164 fun _ _=> ?_;have hml:=dK hm;have hare:=(iU.1 hcS).1;have hst:=UA hm hare;have hsk:=anI hcS;have hsp:fQ (lK s q):=isPart_iff.2 ⟨hst.2,by omega⟩;have hbp:=RY hm;have hbI:fQ (kZ s).1:=isPart_iff.2 ⟨hbp.2.1,by omega⟩;have hkp:keepP q (kZ s).1=mY q (kZ s).1:=by unfold keepP mY;rw[hbI,Bool.and_true]
 simp;apply gw<;>intro a
 ·have hpS:amZ s q=(xI s q).best:=if_neg (by omega);simp;refine fC (aiD s q hm hq) (by simp) ?_;rintro r ⟨kk,rfl⟩;refine⟨by simp,?_⟩;simp[hpS]
 ·simp at a;have hpS:amZ s q=qY s q 100 (lK s q):=if_pos (by omega);simp;refine ck (U1 s hm) ?_;simp;refine MX (fun(_:Unit)=>[(0,.val (bZ s)),(1,vT q),(8,vN (lK s q))]) (fun(_:Unit)=>True) ?_ ?_
  ·simp;refine ck (CW (kZ s).1 q (by omega) hq) ?_;simp;apply gw<;>intro d
   ·simp at d;have hs1:lK s q=eB s.length q:=if_neg (by rw[hkp,d];simp);simp;refine ck (xN s.length q (by omega) hq hare) ?_;simp;refine jnc (()) [8] trivial (h3:=by simp[hpS,hs1])
   ·simp at d;have hs1:lK s q=(kZ s).1:=if_pos (by rw[hkp];simpa using d);simp;refine jnc (()) [8] trivial (h3:=by simp[hpS,hs1])
  rintro⟨⟩ -
  simp;refine fC (IX s q (lK s q) hm hsp hst.1 hsk hq) (by simp) ?_;rintro r ⟨kk,rfl⟩;refine⟨by simp,?_⟩;simp;refine jV [] (cO 4) ?_;simp[hpS]
abbrev sS (m:L2)(cs:List Con)(s:S20):D:= .agg [bZ m,jG cs,dG s.best,dI s.cost,dI s.count]
abbrev nS (m:L2)(cs:List Con)(s:S20):D:= .bx false (.agg [bZ m,jG cs,nInts s.best,dI s.cost,dI s.count])
def ar7 (l:L1)(c:Con):Bool:=decide (c.b=(l.length:Int)-1)&&(decide (at1 l c.a.toNat=at1 l (l.length-1)) !=c.same)
def az8 (cs:List Con)(l:L1):aoC cs l=cs.any (ar7 l):=rfl
def adB (m:L2)(cs:List Con)(s:S20)(l:L1)(hcs:∀c∈cs,0<=c.a/\c.a<c.b)(hl:1<=l.length/\Qle l)(hs:Qle cs):Fk 334 [nS m cs s,nInts l] (vB (aoC cs l)):=by
 refine fE [] ntmps334 fun _ _=> ?_;have hbe:=az8 cs l;simp;refine ai ?_;refine wlt Nat (fun i=>([(0,.val (nS m cs s)),(1,vN l),(5,vI ((l.length:Int)-1)),(6,vI i)],cs.length-i,(i<=cs.length)/\((cs.take i).any (ar7 l)=false))) (0) ⟨by omega,rfl⟩ ?_;rintro i ⟨h1,h2⟩;simp;apply gw<;>intro a
 ·obtain⟨c,hc⟩:=aQ (l:=cs) (i:=i);simp;refine wdr ?_;simp[hc];apply gv<;>intro e
  ·have e':=e;have hcc:=hcs c (I7 hc);have hga:=aV (l:=l) (i:=c.a.toNat);have hgb:=aV (l:=l) (i:=l.length-1);have hln:((l.length:Int)-1).toNat=l.length-1:=by omega
   simp[hc,e,hga,hgb,hln];iterate 2 refine ai ?_
   apply gw<;>intro f
   ·simp at f;have hn:=aqI hc (P:=(ar7 l)) (by simp[ar7,e];simpa using f);simp[hbe,hn]
   ·simp at f;simp;refine nxa (i+1) ⟨by omega,(gV hc h2 (by simp[ar7,e];simpa using f))⟩
  ·have e':=e;simp[e];refine nxa (i+1) ⟨by omega,(gV hc h2 (by simp[ar7,e]))⟩
 ·simp at a;have hf:=mJ h2 a;simp[hbe,hf]
def aC2 (m:L2)(cs:List Con)(d:Nat):Prop:=∀(l:L1) (top cost:Int) (s:S20),l.length+d=m.length-> -1<=top/\top+1<=l.length->0<=cost/\cost<=8000*l.length->0<=s.count/\s.count+(9^d:Nat)<=4611686018427387904->
 MZ prog 279 [.one (.bool false),nInts l,dI top,dI cost] 0 (.bx true (sS m cs s)) (fun r' d'=>r'= .tup []/\d'= .bx true (sS m cs (walk20 m cs d l top cost s)))
def axS (m:L2)(cs:List Con)(d:Nat)(l:L1)(top cost:Int)(s:S20)(hm:bP m)(hcs:cB m.length cs)(hrec:∀e,d=e+1->aC2 m cs e)(hd:l.length+d=m.length)(ht: -1<=top/\top+1<=l.length)(hco:0<=cost/\cost<=8000*l.length)(hcn:0<=s.count/\s.count+(9^d:Nat)<=4611686018427387904):MZ prog 279 [.one (.bool false),nInts l,dI top,dI cost] 0 (.bx true (sS m cs s)) (fun r' d'=>r'= .tup []/\d'= .bx true (sS m cs (walk20 m cs d l top cost s))):=by
 refine fMs [42] ntmps279 fun w0 ow0 v0=> ?_;have hml:=dK hm;have hco2:=lQ hcs;have hcut:∀d l top cost s,R9 cost s->walk20 m cs d l top cost s=s:=fun d l top cost s h=>by cases d;(rw[walk20,if_pos h]);(rw[walk20_succ,if_pos h])
 refine MX (fun(_:Unit)=>[(0,.own (.bx true (sS m cs s))),(1,vN l),(2,vI top),(3,vI cost)]) (fun(_:Unit)=>(¬R9 cost s)) ?_ ?_
 ·simp;apply gv<;>intro a
  ·have a':=a;simp[a];apply gw<;>intro b
   ·have hw:=hcut d l top cost s ⟨a,b⟩;simp;simp[hw]
   ·simp at b;simp;refine jn (()) (by unfold R9;omega)
  ·have a':=a;simp at a';simp[a];refine jn (()) (by unfold R9;omega)
 rintro⟨⟩ h5;simp;apply gw<;>intro e
 ·obtain rfl:d=0:=by omega
  have hw:walk20 m cs 0 l top cost s=TG l cost s:=by rw[walk20,if_neg h5]
  simp;apply gv<;>intro f
  ·have f':=f;have hw2:TG l cost s=⟨l,cost,1⟩:=if_pos (.inl f);simp[f];iterate 2 refine ai ?_
   simp[hw,hw2]
  ·have f':=f;simp at f';simp[f];apply gw<;>intro g
   ·have hw2:TG l cost s=⟨l,cost,1⟩:=if_pos (.inr g);simp;iterate 2 refine ai ?_
    simp[hw,hw2]
   ·simp at g;have hw2:TG l cost s=⟨s.best,s.cost,s.count+1⟩:=if_neg (by omega);simp;refine ai ?_;simp[hw,hw2]
 ·obtain⟨d,rfl⟩:∃e,d=e+1:=⟨d-1,by omega⟩;have hwk:=hrec d rfl;have hw:walk20 m cs (d+1) l top cost s=loopN (top+2).toNat s (CJ m cs d l top cost):=by rw[walk20_succ,if_neg h5]
  have hp9:=aGH d;have hps:9^(d+1)=9*9^d:=by rw[Nat.pow_succ,qC]
  simp;refine wlt (Nat×S20) (fun(k,x)=>([(0,.own (.bx true (sS m cs x))),(1,vN l),(2,vI top),(3,vI cost),(8,vI l.length),(9,vI k)],(top+2).toNat-k,(k<=(top+2).toNat)/\(x=loopN k s (CJ m cs d l top cost))/\(0<=x.count/\x.count<=s.count+(k*9^d:Nat)))) ((0,s)) ⟨by omega,rfl,by simp;omega⟩ ?_;rintro⟨k,x⟩ ⟨h1,h2,h3⟩;simp;refine ai ?_;apply gw<;>intro b
  ·have hs:=aL k s (CJ m cs d l top cost);rw[←h2]at hs;have hbl:(l++[(k:Int)]).length=l.length+1:=by simp
   have hkm:k*9^d+9^d<=9*9^d:=by have:(k+1)*9^d<=9*9^d:=aU _ (by omega);rw[k_Nat_add_mul,Nat.one_mul]at this;exact this
   have hk1:(k+1)*9^d=k*9^d+9^d:=by rw[k_Nat_add_mul,Nat.one_mul]
   simp;iterate 2 refine ai ?_
   refine ckz (adB m cs x (l++[(k:Int)]) (fun c hc=>⟨(hco2.2.2.2 c hc).1,(hco2.2.2.2 c hc).2.1⟩) (by omega) (by omega)) ?_;simp;apply gw<;>intro f
   ·have hn:CJ m cs d l top cost k x=x:=if_pos f;simp;refine nxa (k+1,x) ⟨by omega,by rw[hs,hn],by rw[hk1];omega⟩
   ·have hn:CJ m cs d l top cost k x=walk20 m cs d (l++[(k:Int)]) (max top k) (abZ m l k l.length cost) x:=if_neg (by simp[f]);simp;refine wlt (Nat×Int) (fun(i,c)=>([(0,.own (.bx true (sS m cs x))),(1,vN l),(2,vI top),(3,vI cost),(8,vI l.length),(9,vI k),(10,wN (l++[(k:Int)])),(11,vI c),(12,vI i)],l.length-i,(i<=l.length)/\(c=loopN i cost (fun i s=>s+AV m l k l.length i))/\(cost<=c/\c<=cost+1000*i))) ((0,cost)) ⟨by omega,rfl,by omega⟩ ?_;rintro⟨i,c⟩ ⟨h1i,h2i,h3i⟩;simp;apply gw<;>intro u
    ·have hsi:=aL i cost (fun i s=>s+AV m l k l.length i);rw[←h2i]at hsi;obtain⟨r,hr,hrk⟩:=kU hm (i:=i) (k:=l.length);have hi:=aV u;have hmb:=iH hm i l.length;simp[hr,hrk];apply gv<;>intro p
     ·have p':=p;simp[hi,p];apply gw<;>intro q
      ·have hc:AV m l k l.length i=at2 m i l.length:=if_pos ⟨p,q⟩;simp[hr,hrk];refine ai ?_;apply gv<;>intro g
       ·have g':=g;exfalso;omega
       ·have g':=g;simp at g';simp[g];refine nxa (i+1,c+at2 m i l.length) ⟨by omega,by rw[hsi,hc],by omega⟩
      ·simp[hr,hrk];apply gv<;>intro g
       ·have g':=g;exfalso;omega
       ·have g':=g;simp at g';have hc:AV m l k l.length i=0:=by rw[AV,if_neg (by simp[q]),if_neg (by omega)]
        simp[g];refine nxa (i+1,c) ⟨by omega,by rw[hsi,hc];simp,by omega⟩
     ·have p':=p;simp at p';simp[hr,hrk,p];apply gv<;>intro g
      ·have g':=g;simp[hi,g];apply gw<;>intro q
       ·have hc:AV m l k l.length i= - at2 m i l.length:=by rw[AV,if_neg (by omega),if_pos ⟨g,q⟩]
        simp[hr,hrk];refine nxb (i+1,c-at2 m i l.length) ⟨by omega,by rw[hsi,hc];omega,by omega⟩
       ·have hc:AV m l k l.length i=0:=by rw[AV,if_neg (by omega),if_neg (by simp[q])]
        simp;refine nxa (i+1,c) ⟨by omega,by rw[hsi,hc];simp,by omega⟩
      ·have g':=g;simp at g';have hc:AV m l k l.length i=0:=by rw[AV,if_neg (by omega),if_neg (by omega)]
       simp[g];refine nxa (i+1,c) ⟨by omega,by rw[hsi,hc];simp,by omega⟩
    ·simp at u;obtain rfl:i=l.length:=by omega
     have ha:abZ m l k l.length cost=c:=h2i.symm;rw[ha]at hn;have hW:=anZ (m:=m) (cs:=cs) d (l++[(k:Int)]) (max top k) c x (by omega);simp;refine jV [] (cO 10) ?_;have hcl:=hwk (l++[(k:Int)]) (max top k) c x (by omega) (by omega) (by omega) (by omega);rw[show nInts (l++[(k:Int)])=D.sl none (l.map dI++[dI k]) by simp]at hcl;simp;refine mV rfl (hcl) ?_;rintro r d ⟨rfl,rfl⟩;simp;refine nxa (k+1,walk20 m cs d (l++[(k:Int)]) (max top k) c x) ⟨by omega,by rw[hs,hn],by have:=hW.lo h3.1;have:=hW.hi h3.1;rw[hk1];omega⟩
  ·simp at b;obtain rfl:k=(top+2).toNat:=by omega
   simp;simp[hw,h2]
def L9 (m:L2)(cs:List Con)(hm:bP m)(hcs:cB m.length cs):∀d,aC2 m cs d
 |0=>fun l top cost s h1 h2 h3 h4=>axS m cs 0 l top cost s hm hcs (fun e he=>by omega) h1 h2 h3 h4
 |d+1=>fun l top cost s h1 h2 h3 h4=>axS m cs (d+1) l top cost s hm hcs (fun e he=>by obtain rfl:d=e:=(by omega);exact L9 m cs hm hcs d) h1 h2 h3 h4
def adC (m:L2)(cs:List Con)(hm:bP m:=by first|omega|grind)(hcs:eF m.length cs:=by first|omega|grind):Fk 209 [bZ m,jG cs] (.tup [.own (sS m cs (ZX m cs)),vB true]):=by
 refine fE [] ntmps209 fun _ _=> ?_;have hml:=dK hm;have hc1:cB m.length cs:=by simp only[eF,k_Bool_and_eq_true]at hcs;exact hcs.1
 have hc2:vQ m.length cs<0:=by simp only[eF,k_Bool_and_eq_true,decide_eq_true_eq]at hcs;exact hcs.2
 have hco2:=lQ hc1;simp;refine ck (eG m) ?_;simp[hm];refine ck (DF m.length cs) ?_;have hp9:(9^m.length:Nat)<=9^8:=jN (by omega) hml.2;have hw:=L9 m cs hm hc1 m.length [] (-1) 0 ⟨[], -1,0⟩ (by simp) (by simp) (by simp) ⟨by simp,by show(0:Int)+((9^m.length:Nat):Int)<=_;omega⟩;simp[hc1,hc2];refine mV rfl (hw) ?_;rintro r d ⟨rfl,rfl⟩;have hr:walk20 m cs m.length [] (-1) 0 ⟨[], -1,0⟩=ZX m cs:=rfl;simp[hr]
def MO (m:L2)(cs:List Con)(hm:bP m)(hcs:eF m.length cs):Fk 140 [bZ m,jG cs] (.tup [.val (nInts (ZX m cs).best),.val (dI (ZX m cs).cost),vB true]):=by
 refine fE [] ntmps140 fun _ _=> ?_;simp;refine ck (adC m cs) ?_;simp;refine jV [] (cO 7) ?_;simp;refine wdr ?_;simp
variable {l:List Tri}
def au0 (h:∀t∈l,0<=t.w)(x y:Int):0<=zK l x y:=by
 have key:∀(l:List Tri) (s:Int),0<=s->(∀t∈l,0<=t.w)->0<=l.foldl (fun s t=>if GZ x y t=true then s+t.w else s) s:=by
  intro l
  induction l with
  |nil=>intro s hs _;exact hs
  |cons t l ih=>
   intro s hs h;have h1:=h t (by simp);rw[k_List_foldl_cons];exact ih _ (by split<;>omega) (fun t ht=>h t (bG _ ht))
 exact key l 0 (by omega) h
def ap9 (m:L2)(t:Tri):Bool:=vO m t.a t.b t.c&&inR t.w 1 1000
def auZ (m:L2)(l:List Tri)(x y:Nat):Bool:=decide (zK l x y<=zM (at2 m x y))
def ajG (m:L2)(l:List Tri)(x:Nat):Bool:=(List.range m.length).all fun y=>decide (y<=x)||auZ m l x y
def RI (m:L2)(l:List Tri):Bool:=l.all (ap9 m)&&(List.range m.length).all (ajG m l)&&decide (l.length<=100)
def aES {x:Nat}{P:Nat->Bool}(hx:x<y)(hy:y<n)(h:P y=false):(List.range n).all (fun y=>decide (y<=x)||P y)=false:=mR hy (by simp[h];omega)
def VW (m:L2)(l:List Tri)(hm:bP m)(hl:Qle l)(hw:∀t∈l, -1048576<=t.w/\t.w<=1048576):Fk 282 [bZ m,GJ l] (vB (RI m l)):=by
 refine fE [] ntmps282 fun _ _=> ?_;have hml:=dK hm;simp;refine wlt Nat (fun i=>([(0,.val (bZ m)),(1,.val (GJ l)),(5,vI i)],l.length-i,(i<=l.length)/\((l.take i).all (ap9 m)=true))) (0) ⟨by omega,rfl⟩ ?_;rintro i ⟨h1,h2⟩;simp;apply gw<;>intro a
 ·obtain⟨c,hc⟩:=aQ (l:=l) (i:=i);simp;refine wdr ?_;simp[hc];refine cd (A9 m c.a c.b c.c) ?_;simp;apply gv<;>intro e
  ·have e':=e;simp at e';have hn:=fK hc (P:=(ap9 m)) (by simp[ap9];simp at e;simp[e]);have hp:RI m l=false:=by simp only[RI];rw[hn];rfl
   simp[e,hp]
  ·have e':=e;simp at e';simp[hc,e];refine cd (bE c.w 1 1000) ?_;simp;apply gw<;>intro f
   ·simp at f;have hn:=fK hc (P:=(ap9 m)) (by simp only[ap9];rw[show inR c.w 1 1000=false by simp;omega];simp);have hp:RI m l=false:=by simp only[RI];rw[hn];rfl
    simp[hp]
   ·simp at f;simp;refine nxa (i+1) ⟨by omega,(bV hc h2 (by simp only[ap9];rw[show inR c.w 1 1000=true by simp;omega,e'];rfl))⟩
 ·simp at a;have hf:=iP h2 a;simp;refine wlt Nat (fun x=>([(0,.val (bZ m)),(1,.val (GJ l)),(6,vI x)],m.length-x,(x<=m.length)/\((List.range x).all (ajG m l)=true))) (0) ⟨by omega,rfl⟩ ?_;rintro x ⟨h1x,h2x⟩;simp;apply gw<;>intro ax
  ·simp;refine ai ?_;refine wlt Nat (fun y=>([(0,.val (bZ m)),(1,.val (GJ l)),(6,vI x),(7,vI y)],m.length-y,(x<y/\y<=m.length)/\(∀z<y,(decide (z<=x)||auZ m l x z)=true))) (x+1) ⟨by omega,(fun z hz=>by simp;omega)⟩ ?_;rintro y ⟨h3,h4⟩;simp;apply gw<;>intro d
   ·obtain⟨r,hr,hrk⟩:=kU hm (i:=x) (k:=y);have hb:=iH hm x y;simp;refine wdr ?_;simp;refine cd (eG m) ?_;simp[hm];refine cd (yM l x y) ?_;simp[hr,hrk];refine cd (nV (at2 m x y)) ?_;simp;apply gw<;>intro e
    ·have hu:auZ m l x y=false:=by simp[auZ];omega
     have hp:RI m l=false:=by simp only[RI];rw[mR ax (aES (by omega) d hu)];simp
     simp[hp]
    ·simp at e;have hu:auZ m l x y:=by simp[auZ];omega
     simp;refine nxa (y+1) ⟨by omega,(fun z hz=>by by_cases hzy:z=y;(subst hzy;rw[hu];simp);exact h4 z (by omega))⟩
   ·simp at d;have hrow:ajG m l x:=by rw[ajG,aI];intro z hz;exact h4 z (by have:=aZ.1 hz;omega)
    simp;refine nxa (x+1) ⟨by omega,(oC h2x hrow)⟩
  ·simp at ax;have hfx:=KA (n:=m.length) h2x;simp;refine ck (eG m) ?_;have hp:RI m l=decide (l.length<=100):=by simp only[RI];rw[hf,hfx];simp
   simp[hm,hp];omega
def WS (m:L2)(l:List Tri):Int:=if RI m l=true then l.foldl (fun s t=>s+t.w) 0 else -1
def akZ (h:∀t∈l, -1048576<=t.w/\t.w<=1048576)(i:Nat): -(1048576*(i:Int))<=(l.take i).foldl (fun(s:Int) t=>s+t.w) (0:Int)/\(l.take i).foldl (fun(s:Int) t=>s+t.w) (0:Int)<=1048576*(i:Int):=by
 induction i with
 |zero=>rw[List.take_zero,List.foldl_nil];omega
 |succ i ih=>
  by_cases hi:i<l.length
  ·obtain⟨t,ht⟩:=aQ hi;have h1:=h t (I7 ht);have h2:=fA (fun(s:Int) (t:Tri)=>s+t.w) 0 ht;rw[h2];omega
  ·have e:l.take (i+1)=l.take i:=by rw[bS,bS]
   rw[e];omega
def ayZ (h:∀t∈l, -1048576<=t.w/\t.w<=1048576)(hl:Qle l): -1099511627777<=WS m l/\WS m l<=1099511627777:=by
 have:=akZ h l.length;rw[dJ]at this;unfold WS;split<;>omega
def OB (m:L2)(l:List Tri)(hm:bP m)(hl:Qle l)(hw:∀t∈l, -1048576<=t.w/\t.w<=1048576):Fk 216 [bZ m,GJ l] (vI (WS m l)):=by
 refine fE [] ntmps216 fun _ _=> ?_;simp;refine ck (VW m l hm hl hw) ?_;simp;apply gw<;>intro a
 ·simp at a;have hp:WS m l= -1:=if_neg (by simp[a]);simp[hp]
 ·simp at a;have hp:WS m l=l.foldl (fun s t=>s+t.w) 0:=if_pos (by simpa using a);simp;refine wlt (Nat×Int) (fun(i,s)=>([(1,.val (GJ l)),(5,vI s),(6,vI i)],l.length-i,(i<=l.length)/\(s=(l.take i).foldl (fun s t=>s+t.w) 0))) ((0,0)) ⟨by omega,rfl⟩ ?_;rintro⟨i,s⟩ ⟨h1,h2⟩;have hfb:=akZ hw i;rw[←h2]at hfb;simp;apply gw<;>intro b
  ·obtain⟨t,ht⟩:=aQ b;have hwt:=hw t (I7 ht);have hm2:=fA (fun(s:Int) (t:Tri)=>s+t.w) 0 ht;rw[←h2]at hm2;simp[ht];refine nxb (i+1,s+t.w) ⟨by omega,hm2.symm⟩
  ·simp at b;rw[bS b]at h2;simp;simp[hp,h2]
def gw3 (m:L2)(o:List Tri)(t:Tri):Int:=min (zM (at2 m t.a.toNat t.b.toNat)-zK o t.a t.b) (min (zM (at2 m t.a.toNat t.c.toNat)-zK o t.a t.c) (zM (at2 m t.b.toNat t.c.toNat)-zK o t.b t.c))
def RD (m:L2)(o:List Tri)(t:Tri):List Tri:=if 0<gw3 m o t then o++[⟨t.a,t.b,t.c,gw3 m o t⟩]else o
def aiI (m:L2):List Tri:=(EO m).foldl (RD m) []
def ak5 (hm:bP m){o:List Tri}{t:Tri}(h:KJ m k o)(ht:XL m.length t):KJ m (k+1) (RD m o t):=by
 unfold RD;split
 ·rename_i hpos;have z1:=au0 (fun t ht=>(h.2 t ht).2.2.2.2.1) t.a t.b;have v1:=KL (iH hm t.a.toNat t.b.toNat);have hle:gw3 m o t<=1000:=by unfold gw3;omega
  refine⟨by have:=h.1;simp;omega,fun t' ht'=> ?_⟩;rcases k_List_mem_append.1 ht' with h2|h2
  ·exact h.2 t' h2
  ·rw[k_List_mem_singleton.1 h2];unfold XL at ht|-;simp only;omega
 ·exact⟨by have:=h.1;omega,h.2⟩
def atA (hm:bP m):KJ m 512 (aiI m):=by
 have hb:=ab8 hm m.length;have h8:=dK hm
 have key:∀(L o:List Tri) (k:Nat),(∀t∈L,XL m.length t)->KJ m k o->KJ m (k+L.length) (L.foldl (RD m) o):=by
  intro L
  induction L with
  |nil=>intro o k _ h;exact h
  |cons t L ih=>
   intro o k hL h;have:=ih (RD m o t) (k+1) (fun t ht=>hL t (bG _ ht)) (ak5 hm h (hL t (by simp)));rw[k_List_foldl_cons,aR,show k+(L.length+1)=k+1+L.length by omega];exact this
 have h1:=key (EO m) [] 0 hb.2 ⟨by simp,by simp⟩;have hbl:(EO m).length<=64*m.length:=hb.1;exact⟨k_Nat_le_trans h1.1 (by omega),h1.2⟩
def MQ (m:L2)(hm:bP m):Fk 148 [bZ m] (wC (aiI m)):=by
 refine fE [] ntmps148 fun _ _=> ?_;have hml:=dK hm;have hb:=ab8 hm m.length;have hgr:aiI m=(EO m).foldl (RD m) []:=rfl;have hL512:(EO m).length<=512:=k_Nat_le_trans hb.1 (by omega);have hLt:∀t∈EO m,XL m.length t:=hb.2;simp;refine ck (NY m hm) ?_;clear hb;generalize EO m=L at*
 simp;refine wlt (Nat×List Tri) (fun(i,o)=>([(0,.val (bZ m)),(3,wC o),(4,wC L),(5,vI i)],L.length-i,(i<=L.length)/\(o=(L.take i).foldl (RD m) [])/\(KJ m i o))) ((0,[])) ⟨by omega,rfl,(⟨by simp,by simp⟩)⟩ ?_;rintro⟨i,o⟩ ⟨h1,h2,h3⟩;simp;apply gw<;>intro a
 ·obtain⟨t,ht⟩:=aQ a;have hk0:=hLt t (I7 ht);have hok:=ak5 hm h3 hk0;have hk:=hk0;unfold XL at hk;have hm2:=fA (RD m) [] ht;rw[←h2]at hm2;obtain⟨r,hr,hrb⟩:=kU hm (i:=t.a.toNat) (k:=t.b.toNat);obtain⟨r',hr',hrc⟩:=kU hm (i:=t.a.toNat) (k:=t.c.toNat);obtain rfl:r=r':=by rw[hr]at hr';exact k_Option_some_inj hr'
  obtain⟨q,hq,hqc⟩:=kU hm (i:=t.b.toNat) (k:=t.c.toNat);have ha0:0<=t.a:=hk.1;have hb0:0<=t.b:=by omega
  have hc0:0<=t.c:=by omega
  have hol:=h3.1;have hwo:∀t∈o, -1000<=t.w/\t.w<=1000:=fun t ht=>by have:=h3.2 t ht;unfold XL at this;omega
  have hwo2:∀t∈o, -1048576<=t.w/\t.w<=1048576:=fun t ht=>by have:=hwo t ht;omega
  have u1:=ae0 (by omega) hwo t.a t.b;have u2:=ae0 (by omega) hwo t.a t.c;have u3:=ae0 (by omega) hwo t.b t.c;have v1:=KL (iH hm t.a.toNat t.b.toNat);have v2:=KL (iH hm t.a.toNat t.c.toNat);have v3:=KL (iH hm t.b.toNat t.c.toNat);have hgw:min (zM (at2 m t.a.toNat t.b.toNat)-zK o t.a t.b) (min (zM (at2 m t.a.toNat t.c.toNat)-zK o t.a t.c) (zM (at2 m t.b.toNat t.c.toNat)-zK o t.b t.c))=gw3 m o t:=rfl;simp[ht];refine wdt 52 ?_;simp[hr,hrb,ha0,hb0];refine cd (nV (at2 m t.a.toNat t.b.toNat) (by have:=iH hm t.a.toNat t.b.toNat;omega)) ?_;simp;refine cd (yM o t.a t.b (by omega) hwo2) ?_;simp[hr,hrc,ha0,hc0];refine ai ?_;refine cd (nV (at2 m t.a.toNat t.c.toNat) (by have:=iH hm t.a.toNat t.c.toNat;omega)) ?_;simp;refine cd (yM o t.a t.c (by omega) hwo2) ?_;simp[hq,hqc,hb0,hc0];refine ai ?_;refine cd (nV (at2 m t.b.toNat t.c.toNat) (by have:=iH hm t.b.toNat t.c.toNat;omega)) ?_;simp;refine cd (yM o t.b t.c (by omega) hwo2) ?_;simp[hgw];refine ai ?_;apply gw<;>intro f
  ·have hu:RD m o t=o++[⟨t.a,t.b,t.c,gw3 m o t⟩]:=if_pos f;rw[hu]at hok;simp;refine nxb (i+1,o++[⟨t.a,t.b,t.c,gw3 m o t⟩]) ⟨by omega,by rw[hm2,hu],hok⟩
  ·simp at f;have hu:RD m o t=o:=if_neg (by omega);rw[hu]at hok;simp;refine nxa (i+1,o) ⟨by omega,by rw[hm2,hu],hok⟩
 ·simp at a;rw[bS a]at h2;simp;simp[hgr,←h2]
def aA4 (m:L2)(x:L1)(l:List Tri):Int:=if vJ m x<0\/WS m l<0 then -1 else vJ m x-WS m l
def MS (m:L2)(x:L1)(l:List Tri)(hm:bP m)(hx:Qle x)(hl:Qle l)(hw:∀t∈l, -1048576<=t.w/\t.w<=1048576):Fk 147 [bZ m,nInts x,GJ l] (vI (aA4 m x l)):=by
 refine fE [] ntmps147 fun _ _=> ?_;have hml:=dK hm;have hp:=AO m x;have hq:=ayZ (m:=m) hw hl;have e1:(if bP m=true/\fQ x=true/\x.length=m.length then dL m x else -1)=vJ m x:=rfl;simp;refine ck ((e1▸mM m x (by omega) hx)) ?_;simp;refine ck (OB m l hm hl hw) ?_;simp;apply gv<;>intro a
 ·have a':=a;simp[a];grind[aA4]
 ·have a':=a;simp at a';simp[a];apply gw<;>intro d
  ·simp;grind[aA4]
  ·simp at d;have hg:aA4 m x l=vJ m x-WS m l:=if_neg (by omega);simp[hg];simp only[inI];omega
abbrev Q3 (l:L1)(c:Int)(e:Bool)(g:Int):D:= .agg [dG l,dI c,dB e,dI g]
def ZU (l:List Con)(items:L1):(iG l items).length<=l.length:=jK _ _
def N7 (m:L2)(cs:List Con)(hm:bP m)(hcs:Qle cs):fP prog 82 [bZ m,jG cs] (fun r'=>∃(c:Int) (e:Bool) (g:Int),r'= .tup [.own (Q3 (nE m cs) c e g),vB (eF m.length cs)]):=by
 refine fE [22,23,29] ntmps82 fun _ _=> ?_;have hml:=dK hm;have ecs:(cB (m.length:Int) cs&&decide (vQ m.length cs<0))=eF m.length cs:=rfl;simp;refine ck (eG m) ?_;simp[hm];refine ck (DF m.length cs (by omega) hcs) ?_;simp[ecs];apply gw<;>intro a
 ·simp at a;have hcA:nE m cs=[]:=if_neg (by simp[a]);simp[hcA];omega
 ·simp at a;have hcc:eF m.length cs:=by simpa using a
  have hcA:nE m cs=nN m cs:=if_pos hcc;have hac:=(iU.1 hcc).1;have hsp:=IM hm hac;simp;refine ck (QZ m cs (by omega) hcs) ?_;simp;refine ck (zF (dH m cs) (by omega) (.inr hsp.2.1)) ?_;have hbs:∀v,v<(blocksP (dH m cs)).length->M3 m.length (gat (blocksP (dH m cs)) v)/\1<=(gat (blocksP (dH m cs)) v).length/\(gat (blocksP (dH m cs)) v).length<=m.length:=fun v hv=>by have:=PO (isPart_iff.1 hsp.2.1).1 hv;rwa [hsp.2.2]at this
  have hcl:nN m cs=canon (afY m cs (blocksP (dH m cs))):=rfl;have hll:=XY m cs (blocksP (dH m cs));have hbl:(blocksP (dH m cs)).length<=m.length:=k_Nat_le_trans (blocksI (isPart_iff.1 hsp.2.1).1 (k_Nat_le_refl _)).len (Nat.le_of_eq hsp.2.2);generalize hbsg:blocksP (dH m cs)=bs at hbs hcl hll hbl|-
  simp;refine ai ?_;refine wlt (Nat×L1×Bool) (fun(i,L,e)=>([(0,.val (bZ m)),(1,vT cs),(4,.own (.bx true (Q3 [] 0 false 0))),(6,.own (mQ bs)),(7,wN L),(8,.own (.bx true (Q3 [] 0 e 0))),(9,vI i)],bs.length-i,(i<=bs.length)/\(L=loopN i (List.replicate m.length 0) (EX m cs bs)))) ((0,List.replicate m.length 0,true)) ⟨by omega,rfl⟩ ?_;rintro⟨i,L,e⟩ ⟨h1,h2⟩;simp;apply gw<;>intro b
  ·have hr:=aeM b;have hsel:=hbs i b;have hpt:=ai0 hm hcc hsel.1 hsel.2.1 hsel.2.2;have hok:=ag3 hpt;have hLl:L.length=m.length:=by rw[h2,zH (O5 m cs bs)];simp
   generalize hit:gat bs i=items at hr hsel hpt hok|-
   have hsl:=hpt.len;simp[hr];refine ck (V4 m items hm hsel.1 (by omega)) ?_;simp[hr];refine ck (ER cs items hcs (by omega)) ?_;have hmS:=hpt.mat;have hcS:eF (kF m items).length (iG cs items):=by rw[hsl];exact hpt.con
   have hrl:Qle (iG cs items):=by have:=ZU cs items;omega
   have hst:=UA hmS (r:=iG cs items) (by rw[hsl];exact hpt.are);have hsO:lK (kF m items) (iG cs items)=if keepP (iG cs items) (kZ (kF m items)).1=true then(kZ (kF m items)).1 else eB (kF m items).length (iG cs items):=rfl
   have hpO:partOf m cs items=if 6<items.length then qY (kF m items) (iG cs items) 100 (lK (kF m items) (iG cs items))else(ZX (kF m items) (iG cs items)).best:=rfl
   have hbp:=RY hmS;have hare:cB (kF m items).length (iG cs items):=by rw[hsl];exact hpt.are
   generalize kF m items=s at*
   generalize iG cs items=q at*
   simp;refine jV [] (sD.trans (cO 10) (cO 11)) ?_;simp;refine ck (MO s q hmS hcS) ?_;simp;refine MX (fun(e2:Bool)=>[(0,.val (bZ m)),(1,vT cs),(4,.own (.bx true (Q3 [] 0 false 0))),(6,.own (mQ bs)),(7,wN L),(8,.own (.bx true (Q3 [] 0 e2 0))),(9,vI i),(12,vN (partOf m cs items))]) (fun(e2:Bool)=>True) ?_ ?_
   ·simp[hr];apply gw<;>intro c
    ·simp;refine ck (VS s hmS) ?_;simp;refine MX (fun(_:Unit)=>[(0,.val (bZ m)),(1,vT cs),(4,.own (.bx true (Q3 [] 0 false 0))),(6,.own (mQ bs)),(7,wN L),(8,.own (.bx true (Q3 [] 0 false 0))),(9,vI i),(10,.val (bZ s)),(11,vT q),(15,vN (lK s q))]) (fun(_:Unit)=>True) ?_ ?_
     ·simp;refine ck (rJ (kZ s).1 q (by omega) hrl) ?_;have hkO:(q.all (xE (kZ s).1)&&fQ (kZ s).1)=keepP q (kZ s).1:=rfl;simp[hkO];apply gw<;>intro d
      ·simp at d;have hs1:lK s q=eB s.length q:=by rw[hsO];exact if_neg (by simpa using d)
       simp;refine ck (xP s.length q (by omega) hrl) ?_;have hs2:(if cB s.length q=true then eB s.length q else[])=eB s.length q:=if_pos hare;simp[hs2];refine jnc (()) [15] trivial (h3:=by simp[hm,ecs,hr,hkO,hs1,hs2])
      ·simp at d;have hs1:lK s q=(kZ s).1:=by rw[hsO];exact if_pos (by simpa using d)
       simp;refine jnc (()) [15] trivial (h3:=by simp[hm,ecs,hr,hkO,hs1])
     rintro⟨⟩ -
     simp;refine fC (IZ s q (lK s q) (by omega) hrl (by omega)) (by simp) ?_;rintro r ⟨kk,rfl⟩;refine⟨by simp,?_⟩;have hp1:partOf m cs items=qY s q 100 (lK s q):=by rw[hpO];exact if_pos (by omega)
     simp;refine jnc (false) [12] trivial (h3:=by simp[hm,ecs,hr,hp1])
    ·simp at c;have hp1:partOf m cs items=(ZX s q).best:=by rw[hpO];exact if_neg (by omega)
     simp;refine jnc (e) [12] trivial (h3:=by simp[hm,ecs,hr,hp1])
   rintro e2 -
   simp;refine wlt (Nat×L1) (fun(j,L')=>([(0,.val (bZ m)),(1,vT cs),(4,.own (.bx true (Q3 [] 0 false 0))),(6,.own (mQ bs)),(7,wN L'),(8,.own (.bx true (Q3 [] 0 e2 0))),(9,vI i),(12,vN (partOf m cs items)),(17,vI j)],items.length-j,(j<=items.length)/\(L'=loopN j L (aa7 items (partOf m cs items) i)))) ((0,L)) ⟨by omega,rfl⟩ ?_;rintro⟨j,L'⟩ ⟨h5,h6⟩;simp[hr];apply gw<;>intro f
   ·have hg:=aV f;have hgx:=hsel.1.1 _ (aA hg);have hpl:j<(partOf m cs items).length:=by omega
    have hg2:=aV hpl;have hb2:=avB hok.2 j hpl;have hLl2:L'.length=m.length:=by rw[h6,zH fun k l=>by simp[aa7]];exact hLl
    have hpu:aa7 items (partOf m cs items) i j L'=L'.set (at1 items j).toNat (i*8+at1 (partOf m cs items) j):=rfl;have hput:(L'.map dI).set (at1 items j).toNat (D.one (.int .i64 ((i:Int)*8+at1 (partOf m cs items) j)))=(aa7 items (partOf m cs items) i j L').map dI:=by rw[hpu,kD]
    have hb1:=(hok.2 j hpl).1;have ha0:0<=at1 items j:=hgx.1;obtain⟨u,hu⟩:=aQ (l:=L') (i:=(at1 items j).toNat);generalize partOf m cs items=pp at*
    simp;refine wdt 16 ?_;simp[hr,hg,hg2,hu,ha0,hput];refine nxd (j+1,aa7 items pp i j L') ⟨by omega,by rw[aL,←h6]⟩
   ·simp at f;obtain rfl:j=items.length:=by omega
    have hpA:EX m cs bs i L=L':=by rw[EX,hit,h6]
    simp;refine nxa (i+1,L',e2) ⟨by omega,by rw[aL,←h2,hpA]⟩
  ·simp at b;obtain rfl:i=bs.length:=by omega
   have hLc:canon L=nN m cs:=by rw[hcl,h2];rfl
   have hLl:L.length=m.length:=by rw[h2];exact hll
   have hcln:(nN m cs).length=m.length:=by rw[←hLc,oV,hLl]
   simp;refine ck (sM L (by omega)) ?_;have hpc:(if bP m=true/\fQ (nN m cs)=true/\(nN m cs).length=m.length then dL m (nN m cs)else -1)=vJ m (nN m cs):=rfl;simp[hLc];refine ck ((hpc▸mM m (nN m cs))) ?_;generalize nN m cs=X at*
   simp;apply gw<;>intro d
   ·simp at d;have hgr:=atA hm;obtain rfl:e=false:=d;simp;refine wdf [(4,[128,129]),(7,[131,130,8,126,127])] [(0,.val (bZ m)),(4,.own (.bx true (Q3 [] 0 false 0))),(8,.own (.bx true (Q3 X (vJ m X) false 0)))] [] (by simp) ?_;simp;refine cf (MQ m hm) ?_;simp;refine cd (MS m X (aiI m) hm (by omega) (by have:=hgr.1;omega) (fun t ht=>by have:=hgr.2 t ht;unfold XL at this;omega)) ?_;simp;first|exact hcA|exact hcA.symm|exact⟨hcA.symm,hcc.symm⟩|simp[hcA,hcc]
   ·simp at d;obtain rfl:e=true:=d;simp;first|exact hcA|exact hcA.symm|exact⟨hcA.symm,hcc.symm⟩|simp[hcA,hcc]
end Go.Proofs.YtigjbamofhdchaaGreatDoor
end
