/- Lemmas and walks that the law leans on, part V5. No condition. -/
import Derived.Lib.AtoiAllCases
import Derived.Lib.AtoiErrMem
import Derived.Lib.OwnBridge
import Derived.Lib.SortBridge
import Derived.Test.YtebopbncplpdgaaGreatDoorV4
set_option linter.unusedVariables false
set_option linter.defProp false
set_option linter.unusedSimpArgs false
set_option linter.unusedSectionVars false
set_option maxRecDepth 10000
set_option maxHeartbeats 1000000
section
namespace Go.Proofs.YtebopbncplpdgaaGreatDoor
open Go.Dv Go.Pl Go.Proofs.Tryz
variable {x:Int}
def aeH (h: -1000<=x/\x<=1000):0<=BX x/\BX x<=1000:=by unfold BX;split<;>omega
def Q4 (m:L2)(hm:bR m):fA prog 377 [cK m] (fun r=>∃l:List Tri,r=wE l/\l.length<=512/\∀t∈l,MF m.length t/\0<=t.w/\t.w<=1000):=by
 refine fE [] ntmps377 fun _ _=> ?_;have hn8:=dM hm;simp;refine ck (iB m (by omega) (xX hm)) ?_;simp[hm];refine wlt (Nat×List Tri) (fun(i,o)=>([(0,.val (cK m)),(3,wE o),(12,vI m.length),(13,vI i)],m.length-i,(i<=m.length)/\(o.length<=64*i)/\(∀t∈o,MF m.length t/\0<=t.w/\t.w<=1000))) ((0,[])) ⟨by omega,by simp,by simp⟩ ?_;rintro⟨i,o⟩ ⟨h1,h2,h3⟩;simp;apply gw<;>intro a
 ·simp;refine ai ?_;refine wlt (Nat×List Tri) (fun(j,p)=>([(0,.val (cK m)),(3,wE p),(4,vI i),(5,vI j),(12,vI m.length),(13,vI i)],m.length-j,(i+1<=j/\j<=m.length)/\(p.length<=64*i+8*j)/\(∀t∈p,MF m.length t/\0<=t.w/\t.w<=1000))) ((i+1,o)) ⟨by omega,by omega,h3⟩ ?_;rintro⟨j,p⟩ ⟨h4,h5,h6⟩;simp;apply gw<;>intro b
  ·simp;refine ai ?_;refine wlt (Nat×List Tri) (fun(k,q)=>([(0,.val (cK m)),(3,wE q),(4,vI i),(5,vI j),(6,vI k),(12,vI m.length),(13,vI i)],m.length-k,(j+1<=k/\k<=m.length)/\(q.length<=64*i+8*j+k)/\(∀t∈q,MF m.length t/\0<=t.w/\t.w<=1000))) ((j+1,p)) ⟨by omega,by omega,h6⟩ ?_;rintro⟨k,q⟩ ⟨h7,h8,h9⟩;simp;apply gw<;>intro c
   ·obtain⟨r1,e1,f1⟩:=lJ hm (i:=i) (k:=j);obtain⟨r2,e2,f2⟩:=lJ hm (i:=i) (k:=k);obtain⟨r3,e3,f3⟩:=lJ hm (i:=j) (k:=k);have b1:=iL hm i j;have b2:=iL hm i k;have b3:=iL hm j k;rw[e1]at e2;obtain rfl:=k_Option_some_inj e2;simp;refine wdf [(28,[32,33,34,59,60]),(29,[7]),(30,[7,60])] [(0,.val (cK m)),(3,wE q),(4,vI i),(5,vI j),(6,vI k),(12,vI m.length),(13,vI i)] [] (by simp) ?_;simp[e1,f1];refine cd (tQ (at2 m i j)) ?_;simp[e1,f2];refine cd (tQ (at2 m i k)) ?_;simp[e3,f3];refine cd (tQ (at2 m j k)) ?_;obtain⟨w,hw⟩:∃w,w=min (BX (at2 m i j)) (min (BX (at2 m i k)) (BX (at2 m j k))):=⟨_,rfl⟩;have a1:=aeH b1;have a2:=aeH b2;have a3:=aeH b3;have hw2:=hw.symm;have ht:MF m.length ⟨i,j,k,w⟩:=⟨by show(0:Int)<=i;omega,by show(i:Int)<j;omega,by show(j:Int)<k;omega,by show(k:Int)<m.length;omega⟩;simp[hw2];refine eB (agT ⟨i,j,k,w⟩ m hm ht) (by simp) ?_;rintro r ⟨bb,rfl⟩;refine⟨by simp,?_⟩;simp;apply gw<;>intro d
    ·simp;refine nxb (k+1,q++[⟨i,j,k,w⟩]) ⟨by omega,by simp;omega,(by intro t htm;rcases k_List_mem_append.1 htm with h|h;exact h9 t h;obtain rfl:=k_List_mem_singleton.1 h;exact⟨ht,by show 0<=w;omega,by show w<=1000;omega⟩)⟩
    ·simp;refine nxa (k+1,q) ⟨by omega,by omega,h9⟩
   ·simp at c;simp;refine nxa (j+1,q) ⟨by omega,by omega,h9⟩
  ·simp at b;simp;refine nxa (i+1,p) ⟨by omega,by omega,h6⟩
 ·simp at a;simp;exact⟨o,rfl,by omega,h3⟩
variable {m u:L2}{y:Nat}
def aa0 {x:Nat}(hu:sq2 m.length u)(hx:x<m.length)(hy:y<m.length):u[x]?=some (gat u x)/\(gat u x)[y]?=some (at2 u x y):=⟨(tJ hu hx).1,O6 hu hx hy⟩
def PE (m u:L2)(b:Int):Prop:=sq2 m.length u/\∀x y,x<m.length->y<m.length->0<=at2 u x y/\at2 u x y<=b
variable {b:Int}
def ar2 {w:Int}{x:Nat}(h:PE m u b)(hx:x<m.length)(hy:y<m.length)(hw:0<=w/\w<=1000):PE m (set2 u x y (at2 u x y+w)) (b+1000):=by
 refine⟨yS h.1 hx _,fun a c ha hc=> ?_⟩;rw[FL h.1 hx hy];have h1:=h.2 a c ha hc;have h2:=h.2 x y hx hy;split<;>omega
def E9 {c:Int}(h:PE m u b)(hb:b<=c:=by omega):PE m u c:=⟨h.1,fun x y hx hy=>by have:=h.2 x y hx hy;omega⟩
def wT (m:L2)(hm:bR m):fA prog 291 [cK m] (fun r=>∃l:List Tri,r=wE l/\l.length<=512/\∀t∈l,MF m.length t/\1<=t.w/\t.w<=1000):=by
 refine fE [] ntmps291 fun _ _=> ?_;have hn8:=dM hm;have hz:List.replicate m.length (bV (List.replicate m.length 0))=(zeros m.length).map bV:=by simp[zeros]
 simp;refine ck (tT m.length) ?_;simp[hz];refine eB (Q4 m hm) (by simp) ?_;rintro r ⟨L,rfl,hL,hT⟩;refine⟨by simp,?_⟩;simp;refine wlt (Nat×L2×List Tri) (fun(i,u,o)=>([(0,.val (cK m)),(3,wE o),(4,.own (nL u)),(15,wE L),(16,vI L.length),(17,vI i)],L.length-i,(i<=L.length)/\(PE m u (3000*i))/\o.length<=i/\(∀t∈o,MF m.length t/\1<=t.w/\t.w<=1000))) ((0,zeros m.length,[])) ⟨by omega,(⟨qL _,fun x y _ _=>by rw[MI];omega⟩),by simp,by simp⟩ ?_ (h0:=by simp[hz]);rintro⟨i,u,o⟩ ⟨h1,h2,h3,h4⟩;simp;apply gw<;>intro a
 ·obtain⟨t,ht⟩:=aO (l:=L) (i:=i);have hto:=hT t (aA ht);simp[ht];refine ck (H6 t) ?_;simp;refine wlt (Nat×Int) (fun(k,w)=>([(0,.val (cK m)),(3,wE o),(4,.own (nL u)),(6,.own (.bx true (aoI ⟨t.a,t.b,t.c,w⟩))),(15,wE L),(16,vI L.length),(17,vI i),(22,.val (aoH t)),(23,vI k)],3-k,(k<=3)/\(-2000000<=w/\w<=1000))) ((0,t.w)) ⟨by omega,by omega⟩ ?_;rintro⟨k,w⟩ ⟨h5,h6⟩;simp;apply gw<;>intro b
  ·obtain⟨x,y,hx,hy,hp⟩:=aeX hto.1 (show k<3 by omega);obtain⟨r,hr,hv⟩:=lJ hm hx hy;obtain⟨q1,q2⟩:=aa0 h2.1 hx hy;have q3:=h2.2 x y hx hy;have b1:=iL hm x y;have a1:=aeH b1;simp[hp];refine ai ?_;refine wdt 24 ?_;simp[hr,hv];refine cd (tQ (at2 m x y)) ?_;simp[q1,q2];refine nxb (k+1,min w (BX (at2 m x y)-at2 u x y)) ⟨by omega,by omega⟩
  ·simp at b;have hu1:PE m u (3000*((i+1:Nat):Int)):=E9 h2;simp;apply gw<;>intro c
   ·simp;refine nxa (i+1,u,o) ⟨by omega,hu1,by omega,h4⟩
   ·simp at c;have htw:MF m.length ⟨t.a,t.b,t.c,w⟩:=⟨hto.1.a,hto.1.b,hto.1.c,hto.1.n⟩;simp;refine ck (H6 ⟨t.a,t.b,t.c,w⟩) ?_;simp;refine wlt (Nat×L2) (fun(j,v)=>([(0,.val (cK m)),(3,wE o),(4,.own (nL v)),(6,.own (.bx true (aoI ⟨t.a,t.b,t.c,w⟩))),(15,wE L),(16,vI L.length),(17,vI i),(55,.val (aoH t)),(56,vI j)],3-j,(j<=3)/\(PE m v (3000*i+1000*j)))) ((0,u)) ⟨by omega,(E9 h2)⟩ ?_;rintro⟨j,v⟩ ⟨h7,h8⟩;simp;apply gw<;>intro b2
    ·obtain⟨x,y,hx,hy,hp⟩:=aeX hto.1 (show j<3 by omega);obtain⟨q1,q2⟩:=aa0 h8.1 hx hy;have q3:=h8.2 x y hx hy;have hset:=NH v x y (at2 v x y+w);simp[hp];refine ai ?_;refine wdt 13 ?_;simp[q1,q2,hset];refine nxb (j+1,set2 v x y (at2 v x y+w)) ⟨by omega,(E9 (ar2 h8 hx hy (by omega)))⟩
    ·simp at b2;obtain rfl:j=3:=by omega
     simp;refine nxb (i+1,v,o++[⟨t.a,t.b,t.c,w⟩]) ⟨by omega,(E9 h8),by simp;omega,(by intro z hz;rcases k_List_mem_append.1 hz with h|h;exact h4 z h;obtain rfl:=k_List_mem_singleton.1 h;exact⟨htw,by show 1<=w;omega,by show w<=1000;omega⟩)⟩
 ·simp at a;simp;exact⟨o,rfl,by omega,h4⟩
def YR (m:L2)(l:List Tri)(hm:bR m)(hl:l.length<=512)(hT:∀t∈l,MF m.length t/\1<=t.w/\t.w<=1000):fA prog 445 [cK m,J3 l] (fun r=>∃b:Bool,r=vB b):=by
 refine fE [] ntmps445 fun _ _=> ?_;have hn8:=dM hm;have hz:List.replicate m.length (bV (List.replicate m.length 0))=(zeros m.length).map bV:=by simp[zeros]
 simp;refine ck (iB m (by omega) (xX hm)) ?_;simp[hm];apply gw<;>intro a0
 ·simp
 ·simp at a0;simp;refine ck (tT m.length) ?_;simp[hz];refine wlt (Nat×L2) (fun(i,u)=>([(0,.val (cK m)),(5,.own (nL u)),(21,.val (J3 l)),(22,vI l.length),(23,vI i)],l.length-i,(i<=l.length)/\(PE m u (3000*i)))) ((0,zeros m.length)) ⟨by omega,(⟨qL _,fun x y _ _=>by rw[MI];omega⟩)⟩ ?_ (h0:=by simp[hm,hz]);rintro⟨i,u⟩ ⟨h1,h2⟩;simp;apply gw<;>intro a
  ·obtain⟨t,ht⟩:=aO (l:=l) (i:=i);have hto:=hT t (aA ht);simp[ht];refine eB (ax6 t m.length (by omega)) (by simp) ?_;rintro r ⟨b1,rfl⟩;refine⟨by simp,?_⟩;simp;apply gv<;>intro e
   ·have e':=e;simp at e';simp[e]
   ·have e':=e;simp at e';simp[e];refine eB (agT t m hm hto.1) (by simp) ?_;rintro r ⟨b2,rfl⟩;refine⟨by simp,?_⟩;simp;apply gv<;>intro f
    ·have f':=f;simp at f';simp[f]
    ·have f':=f;simp at f';simp[f];refine ck (bK t.w 1 1000) ?_;simp;apply gw<;>intro g
     ·simp at g;simp
     ·simp at g;simp;refine ck (H6 t) ?_;simp;refine wlt (Nat×L2) (fun(j,v)=>([(0,.val (cK m)),(5,.own (nL v)),(7,.own (.bx true (aoI t))),(21,.val (J3 l)),(22,vI l.length),(23,vI i),(45,.val (aoH t)),(46,vI j)],3-j,(j<=3)/\(PE m v (3000*i+1000*j)))) ((0,u)) ⟨by omega,(E9 h2)⟩ ?_;rintro⟨j,v⟩ ⟨h7,h8⟩;simp;apply gw<;>intro c
      ·obtain⟨x,y,hx,hy,hp⟩:=aeX hto.1 (show j<3 by omega);obtain⟨q1,q2⟩:=aa0 h8.1 hx hy;obtain⟨r,hr,hv⟩:=lJ hm hx hy;have q3:=h8.2 x y hx hy;have hset:=NH v x y (at2 v x y+t.w);have h9:=ar2 h8 hx hy (w:=t.w) (by omega);obtain⟨p1,p2⟩:=aa0 h9.1 hx hy;have b3:=iL hm x y;simp[hp];refine ai ?_;refine wdt 13 ?_;simp[q1,q2,hset];refine ai ?_;refine wdr ?_;simp[p1,p2,hr,hv];refine cd (tQ (at2 m x y)) ?_;simp;apply gw<;>intro d
       ·simp
       ·simp at d;simp;refine nxa (j+1,set2 v x y (at2 v x y+t.w)) ⟨by omega,(E9 h9)⟩
      ·simp at c;obtain rfl:j=3:=by omega
       simp;refine nxa (i+1,v) ⟨by omega,(E9 h8)⟩
  ·simp at a;simp
def RA (m:L2)(l:List Tri)(hm:bR m)(hl:l.length<=512)(hT:∀t∈l,MF m.length t/\1<=t.w/\t.w<=1000):fA prog 376 [cK m,J3 l] (fun r=>∃k:Int,r=vI k/\ -1<=k/\k<=512000):=by
 refine fE [] ntmps376 fun _ _=> ?_;simp;refine eB (YR m l hm hl hT) (by simp) ?_;rintro r ⟨b1,rfl⟩;refine⟨by simp,?_⟩;simp;apply gw<;>intro a0
 ·simp at a0;simp
 ·simp at a0;simp;refine wlt (Nat×Int) (fun(i,s)=>([(5,vI s),(12,.val (J3 l)),(13,vI l.length),(14,vI i)],l.length-i,(i<=l.length)/\(0<=s/\s<=1000*i))) ((0,0)) ⟨by omega,by omega⟩ ?_;rintro⟨i,s⟩ ⟨h1,h2⟩;simp;apply gw<;>intro a
  ·obtain⟨t,ht⟩:=aO (l:=l) (i:=i);have hto:=hT t (aA ht);simp[ht];refine nxb (i+1,s+t.w) ⟨by omega,by omega⟩
  ·simp at a;simp;refine ai ?_;omega
def wX (m:L2)(p:L1)(l:List Tri)(hm:bR m)(hp:Qle p)(hl:l.length<=512)(hT:∀t∈l,MF m.length t/\1<=t.w/\t.w<=1000):fA prog 290 [cK m,nInts p,J3 l] (fun r=>∃k:Int,r=vI k):=by
 refine fE [] ntmps290 fun _ _=> ?_;have hpc:=DD m p;simp;refine ck (DV m p hm hp) ?_;simp;refine eB (RA m l hm hl hT) (by simp) ?_;rintro r ⟨k,rfl,hk1,hk2⟩;refine⟨by simp,?_⟩;simp;apply gv<;>intro e
 ·have e':=e;simp[e]
 ·have e':=e;simp at e';simp[e];apply gw<;>intro f
  ·simp
  ·simp at f;simp;simp only[inI];omega
structure aJF (a b c d e:Nat):Prop where
 ab:¬a=b
 ac:¬a=c
 ad:¬a=d
 ae:¬a=e
 bc:¬b=c
 bd:¬b=d
 be:¬b=e
 cd:¬c=d
 ce:¬c=e
 de:¬d=e
def aBW (m:L2)(cs:List Con)(l:L1)(s:S20)(k:Int)(bc bm bl bf bn:Nat)(hA:aJF bc bm bl bf bn)(hm:bR m)(hl:l.length=m.length)(hc:Qle cs):FnW prog 438 [bV l] [(bc,some (jO cs)),(bm,some (cK m)),(bl,none),(bf,none),(bn,none)] [(bc,jO cs),(bm,cK m)] [(bl,dI s.cost),(bf,bV s.best),(bn,dI k)] (fun r ds'=>r= .tup []/\∃k',ds'=[dI (mX m cs l s).cost,bV (mX m cs l s).best,dI k']):=by
 refine fW [10] ntmps438 fun _ _=> ?_;obtain⟨a1,a2,a3,a4,a5,a6,a7,a8,a9,a10⟩:=hA;have c1:=k_Ne_symm a1;have c2:=k_Ne_symm a2;have c3:=k_Ne_symm a3;have c4:=k_Ne_symm a4;have c5:=k_Ne_symm a5;have c6:=k_Ne_symm a6;have c7:=k_Ne_symm a7;have c8:=k_Ne_symm a8;have c9:=k_Ne_symm a9;have c0:=k_Ne_symm a10;have hn8:=dM hm;simp;refine ck (FH l cs) ?_;simp;apply gw<;>intro e
 ·simp at e;have hb:mX m cs l s=s:=if_neg (by simpa using e);simp[c8,c9,c0,hb]
 ·simp at e;have hk:nQ cs l:=by simpa using e
  have hbs:mX m cs l s=if s.cost<0\/dP m l<s.cost then⟨l,dP m l,1⟩else if dP m l=s.cost then⟨s.best,s.cost,s.count+1⟩else s:=if_pos hk
  simp;refine ck (kL m l hm hl) ?_;simp;apply gv<;>intro f
  ·have f':=f;have hb:mX m cs l s=⟨l,dP m l,1⟩:=by rw[hbs,if_pos (.inl f)]
   simp[f];refine ck (oK l ⟨by omega,by omega⟩) ?_;simp[a8,a9,a10,c8,c9,c0,hb]
  ·have f':=f;simp at f';simp[f];apply gw<;>intro g
   ·have hb:mX m cs l s=⟨l,dP m l,1⟩:=by rw[hbs,if_pos (.inr g)]
    simp;refine ck (oK l ⟨by omega,by omega⟩) ?_;simp[a8,a9,a10,c8,c9,c0,hb]
   ·simp at g;simp;apply gw<;>intro h
    ·have hb:mX m cs l s=⟨s.best,s.cost,s.count+1⟩:=by rw[hbs,if_neg (by omega),if_pos h]
     simp;refine wrw [1] ?_;simp[a9,a10,c8,c9,c0,hb]
    ·have hb:mX m cs l s=s:=by rw[hbs,if_neg (by omega),if_neg h]
     simp[c8,c9,c0,hb]
abbrev aeG (bc bm bl bf bk:Nat):D:= .one (.func (.func 438) #[] #[abZ bc,abZ bm,abZ bl,abZ bf,abZ bk])
abbrev ao2 (bn bY bL bF:Nat):D:= .one (.func (.func 482) #[] #[abZ bn,abZ bY,abZ bL,abZ bF])
def IR {a:Nat}{l:List Nat}(h:∀b∈l,¬a=b)(hl:nW l):nW (a::l):=⟨fun b hb=>⟨h b hb,fun e=>h b hb e.symm⟩,hl⟩
def ao3 (m:L2)(cs:List Con)(bn bY bL bF bc bm bl bf bk d:Nat):Prop:=∀(i nt:Nat) (I N:Int) (l:L1) (s:S20) (k:Int),I=i->N=nt->i+d=m.length->nt<=i->l.length=m.length->
 FnW prog 482 [dI I,dI N] [(bn,some (dI m.length)),(bY,some (aeG bc bm bl bf bk)),(bL,none),(bF,some (ao2 bn bY bL bF))] [(bn,dI m.length),(bY,aeG bc bm bl bf bk),(bF,ao2 bn bY bL bF),(bc,jO cs),(bm,cK m)] [(bL,bV l),(bl,dI s.cost),(bf,bV s.best),(bk,dI k)]
  (fun r ds'=>r= .tup []/\∃l' k',(l'.length=m.length/\l'.take i=l.take i)/\ds'=[bV l',dI (qP (mX m cs) d (l.take i) nt s).cost,bV (qP (mX m cs) d (l.take i) nt s).best,dI k'])
def aBM (m:L2)(cs:List Con)(bn bY bL bF bc bm bl bf bk:Nat)(hA:nW [bF,bL,bY,bn,bc,bm,bl,bf,bk])(hm:bR m)(hc:Qle cs)(N:Int)(l:L1)(s:S20)(k:Int)(hl:l.length=m.length):FnW prog 482 [dI (m.length:Int),dI N] [(bn,some (dI m.length)),(bY,some (aeG bc bm bl bf bk)),(bL,none),(bF,some (ao2 bn bY bL bF))] [(bn,dI m.length),(bY,aeG bc bm bl bf bk),(bF,ao2 bn bY bL bF),(bc,jO cs),(bm,cK m)] [(bL,bV l),(bl,dI s.cost),(bf,bV s.best),(bk,dI k)] (fun r ds'=>r= .tup []/\∃k',ds'=[bV l,dI (mX m cs l s).cost,bV (mX m cs l s).best,dI k']):=by
 refine fW [] ntmps482 fun _ _=> ?_;have hA2:=hA;simp[nW]at hA2;simp;refine YC (aBW m cs l s k bc bm bl bf bk ⟨by omega,by omega,by omega,by omega,by omega,by omega,by omega,by omega,by omega,by omega⟩ hm hl hc) rfl ?_;simp[hA2];refine Z6 ?_;rintro _ _ ⟨rfl,k',rfl⟩;simp[hA2]
variable {l:L1}
def azT {l0:L1}{i:Nat}(h:l.take i=l0.take i)(hi:i<l.length):(l.set i x).take (i+1)=l0.take i++[x]:=by
 have h1:(l.set i x)[i]?=some x:=by simp[hi]
 rw[dE h1,List.take_set_of_le (k_Nat_le_refl _),h]
def YK (m:L2)(cs:List Con)(d:Nat)(l:L1)(nt:Nat)(x:Nat)(s:S20):S20:=qP (mX m cs) d (l++[(x:Int)]) (max nt (x+1)) s
def aBN (m:L2)(cs:List Con)(bn bY bL bF bc bm bl bf bk d:Nat)(hA:nW [bF,bL,bY,bn,bc,bm,bl,bf,bk])(hm:bR m)(IH:ao3 m cs bn bY bL bF bc bm bl bf bk d)(i nt:Nat)(l:L1)(s:S20)(k:Int)(hi:i+d+1=m.length)(hnt:nt<=i)(hl:l.length=m.length):FnW prog 482 [dI (i:Int),dI (nt:Int)] [(bn,some (dI m.length)),(bY,some (aeG bc bm bl bf bk)),(bL,none),(bF,some (ao2 bn bY bL bF))] [(bn,dI m.length),(bY,aeG bc bm bl bf bk),(bF,ao2 bn bY bL bF),(bc,jO cs),(bm,cK m)] [(bL,bV l),(bl,dI s.cost),(bf,bV s.best),(bk,dI k)] (fun r ds'=>r= .tup []/\∃l' k',(l'.length=m.length/\l'.take i=l.take i)/\ds'=[bV l',dI (qP (mX m cs) (d+1) (l.take i) nt s).cost,bV (qP (mX m cs) (d+1) (l.take i) nt s).best,dI k']):=by
 refine fW [] ntmps482 fun _ _=> ?_;have hA2:=hA;simp[nW]at hA2;have hn8:=dM hm;have hin:¬(i:Int)=(m.length:Int):=by omega
 simp[hin];refine wlt (Nat×L1×S20×Int) (fun(x,q,t,j)=>([(0,vI i),(1,vI nt),(2,.rp (dI m.length)),(3,.rp (aeG bc bm bl bf bk)),(4,.rf (1000000+2*bL) [0]),(5,.rp (ao2 bn bY bL bF)),(8,vI x),(1000000+2*bn,.rp (dI m.length)),(1000000+2*bY,.rp (aeG bc bm bl bf bk)),(1000000+2*bF,.rp (ao2 bn bY bL bF)),(1000000+2*bc,.rp (jO cs)),(1000000+2*bm,.rp (cK m)),(1000000+2*bL,.own (.bx true (bV q))),(1000000+2*bl,.own (.bx true (dI t.cost))),(1000000+2*bf,.own (.bx true (bV t.best))),(1000000+2*bk,.own (.bx true (dI j)))],nt+1-x,(x<=nt+1)/\(t=loopN x s (YK m cs d (l.take i) nt))/\q.length=m.length/\(q.take i=l.take i))) ((0,l,s,k)) ⟨by omega,rfl,hl,rfl⟩ ?_ (h0:=by simp[hA2,hin]);rintro⟨x,q,t,j⟩ ⟨h1,h2,h3,h4⟩;simp;apply gw<;>intro a
 ·have hs:=aM x s (YK m cs d (l.take i) nt);rw[←h2]at hs;have hgi:=aY (l:=q) (i:=i);have hts:=azT (x:=(x:Int)) h4 (by omega);have hst:qP (mX m cs) d (l.take i++[(x:Int)]) (max nt (x+1)) t=YK m cs d (l.take i) nt x t:=rfl;simp[hA2,hgi];iterate 2 refine ai ?_
  refine YC (IH (i+1) (max nt (x+1)) _ _ (q.set i (x:Int)) t j (by omega) (by omega) (by omega) (by omega) (by simp;omega)) rfl ?_;simp[hA2];refine Z6 ?_;rintro _ _ ⟨rfl,q2,j2,⟨e1,e2⟩,rfl⟩;rw[hts]at e2;have e3:q2.take i=l.take i:=by have:=congrArg (List.take i) e2;rw[List.take_left' (by simp;omega),List.take_take,fP (by omega)]at this;exact this
  simp[hts,hst];refine nxa (x+1,q2,YK m cs d (l.take i) nt x t,j2) ⟨by omega,hs.symm,e1,e3⟩ (h3:=by simp[hA2,hin,hgi,hts,hst])
 ·simp at a;obtain rfl:x=nt+1:=by omega
  have hfin:qP (mX m cs) (d+1) (l.take i) nt s=t:=h2.symm;simp[hA2,hfin];exact⟨q,⟨h3,h4⟩,rfl⟩
def avR {cs:List Con}{bn bY bL bF bc bm bl bf bk:Nat}(hA:nW [bF,bL,bY,bn,bc,bm,bl,bf,bk])(hm:bR m)(hc:Qle cs):∀d,ao3 m cs bn bY bL bF bc bm bl bf bk d
 |0=>fun i nt I N l s k hI hN hi hnt hl=>by
  obtain rfl:i=m.length:=by omega
  subst hI;refine(aBM m cs bn bY bL bF bc bm bl bf bk hA hm hc N l s k hl).mono ?_;rintro r ds' ⟨h1,k',h2⟩;have ht:l.take m.length=l:=by rw[←hl,bS]
  exact⟨h1,l,k',⟨hl,rfl⟩,by rw[h2,ht];rfl⟩
 |d+1=>fun i nt I N l s k hI hN hi hnt hl=>by
  subst hI;subst hN;exact aBN m cs bn bY bL bF bc bm bl bf bk d hA hm (avR hA hm hc d) i nt l s k (by omega) hnt hl
def aGF (m:L2)(cs:List Con)(s:S20)(k:Int)(bc bm bl bf bk:Nat)(hA:nW [bc,bm,bl,bf,bk])(hm:bR m)(hc:Qle cs):FnW prog 437 [dI (m.length:Int),aeG bc bm bl bf bk] [] [(bc,jO cs),(bm,cK m)] [(bl,dI s.cost),(bf,bV s.best),(bk,dI k)] (fun r ds'=>r= .tup []/\∃k',ds'=[dI (qP (mX m cs) m.length [] 0 s).cost,bV (qP (mX m cs) m.length [] 0 s).best,dI k']):=by
 refine fW [] ntmps437 fun _ _=> ?_;have hA2:=hA;simp[nW]at hA2;have hn8:=dM hm;simp;refine ai ?_;refine ahI (kY (dI m.length) (by simp) fun bn x1=> ?_);have n1:=oP.nr x1 (b':=bc) (d:=jO cs) (by simp[hA2]);have n2:=oP.nr x1 (b':=bm) (d:=cK m) (by simp[hA2]);have n3:=oP.ne x1 (b':=bl) (o:=true) (d:=dI s.cost) (by simp);have n4:=oP.ne x1 (b':=bf) (o:=true) (d:=bV s.best) (by simp[hA2]);have n5:=oP.ne x1 (b':=bk) (o:=true) (d:=dI k) (by simp[hA2]);have hB1:nW [bn,bc,bm,bl,bf,bk]:=IR (by simp[n1,n2,n3,n4,n5]) hA;have hB1':=hB1;simp[nW]at hB1';refine kY (aeG bc bm bl bf bk) (by simp) fun bY x2=> ?_;have m0:=oP.ne x2 (b':=bn) (o:=true) (d:=dI m.length) (by simp);have m1:=oP.nr x2 (b':=bc) (d:=jO cs) (by simp[hB1']);have m2:=oP.nr x2 (b':=bm) (d:=cK m) (by simp[hB1']);have m3:=oP.ne x2 (b':=bl) (o:=true) (d:=dI s.cost) (by simp[hB1']);have m4:=oP.ne x2 (b':=bf) (o:=true) (d:=bV s.best) (by simp[hB1']);have m5:=oP.ne x2 (b':=bk) (o:=true) (d:=dI k) (by simp[hB1']);have hB2:nW [bY,bn,bc,bm,bl,bf,bk]:=IR (by simp[m0,m1,m2,m3,m4,m5]) hB1;have hB2':=hB2;simp[nW]at hB2';refine kY (bV (List.replicate m.length 0)) (by simp) fun bL x3=> ?_;have p0:=oP.ne x3 (b':=bn) (o:=true) (d:=dI m.length) (by simp[hB2']);have p9:=oP.ne x3 (b':=bY) (o:=true) (d:=aeG bc bm bl bf bk) (by simp);have p1:=oP.nr x3 (b':=bc) (d:=jO cs) (by simp[hB2']);have p2:=oP.nr x3 (b':=bm) (d:=cK m) (by simp[hB2']);have p3:=oP.ne x3 (b':=bl) (o:=true) (d:=dI s.cost) (by simp[hB2']);have p4:=oP.ne x3 (b':=bf) (o:=true) (d:=bV s.best) (by simp[hB2']);have p5:=oP.ne x3 (b':=bk) (o:=true) (d:=dI k) (by simp[hB2']);have hB3:nW [bL,bY,bn,bc,bm,bl,bf,bk]:=IR (by simp[p0,p1,p2,p3,p4,p5,p9]) hB2;have hB3':=hB3;simp[nW]at hB3';refine kY (.one .nilFunc) (by simp) fun bF x4=> ?_;have q0:=oP.ne x4 (b':=bn) (o:=true) (d:=dI m.length) (by simp[hB3']);have q9:=oP.ne x4 (b':=bY) (o:=true) (d:=aeG bc bm bl bf bk) (by simp[hB3']);have q8:=oP.ne x4 (b':=bL) (o:=true) (d:=bV (List.replicate m.length 0)) (by simp);have q1:=oP.nr x4 (b':=bc) (d:=jO cs) (by simp[hB3']);have q2:=oP.nr x4 (b':=bm) (d:=cK m) (by simp[hB3']);have q3:=oP.ne x4 (b':=bl) (o:=true) (d:=dI s.cost) (by simp[hB3']);have q4:=oP.ne x4 (b':=bf) (o:=true) (d:=bV s.best) (by simp[hB3']);have q5:=oP.ne x4 (b':=bk) (o:=true) (d:=dI k) (by simp[hB3']);have hB4:nW [bF,bL,bY,bn,bc,bm,bl,bf,bk]:=IR (by simp[q0,q1,q2,q3,q4,q5,q8,q9]) hB3;have hB4':=hB4;simp[nW]at hB4';refine MK ?_;clear x1 x2 x3 x4 hA2 hB1' hB2' hB3';simp;refine YC (avR hB4 hm hc m.length 0 0 0 0 (List.replicate m.length 0) s k rfl rfl (by omega) (by omega) (by simp)) rfl ?_;simp[hB4'];refine Z6 ?_;rintro _ _ ⟨rfl,l2,k2,⟨e1,e2⟩,rfl⟩;simp[hB4']
def al7 (m:L2)(cs:List Con)(hm:bR m)(hc:Qle cs):fA prog 371 [cK m,jO cs] (fun r=>∃k:Int,r= .tup [.val (nInts (zB m cs).best),.val (dI (zB m cs).cost),vI k]):=by
 refine fE [] ntmps371 fun _ _=> ?_;have hn8:=dM hm;simp;refine ahI (kY (jO cs) (by simp) fun bc x1=> ?_);refine kY (cK m) (by simp) fun bm x2=> ?_;have m0:=oP.ne x2 (b':=bc) (o:=true) (d:=jO cs) (by simp);have hB2:nW [bm,bc]:=IR (by simp[m0]) ⟨by simp,trivial⟩;have hB2':=hB2;simp[nW]at hB2';refine kY (dI (-1)) (by simp) fun bl x3=> ?_;have p0:=oP.ne x3 (b':=bc) (o:=true) (d:=jO cs) (by simp[hB2']);have p1:=oP.ne x3 (b':=bm) (o:=true) (d:=cK m) (by simp);have hB3:nW [bl,bm,bc]:=IR (by simp[p0,p1]) hB2;have hB3':=hB3;simp[nW]at hB3';refine kY (bV []) (by simp) fun bf x4=> ?_;have q0:=oP.ne x4 (b':=bc) (o:=true) (d:=jO cs) (by simp[hB3']);have q1:=oP.ne x4 (b':=bm) (o:=true) (d:=cK m) (by simp[hB3']);have q2:=oP.ne x4 (b':=bl) (o:=true) (d:=dI (-1)) (by simp);have hB4:nW [bf,bl,bm,bc]:=IR (by simp[q0,q1,q2]) hB3;have hB4':=hB4;simp[nW]at hB4';refine kY (dI 0) (by simp) fun bk x5=> ?_;have r0:=oP.ne x5 (b':=bc) (o:=true) (d:=jO cs) (by simp[hB4']);have r1:=oP.ne x5 (b':=bm) (o:=true) (d:=cK m) (by simp[hB4']);have r2:=oP.ne x5 (b':=bl) (o:=true) (d:=dI (-1)) (by simp[hB4']);have r3:=oP.ne x5 (b':=bf) (o:=true) (d:=bV []) (by simp);have hB5:nW [bc,bm,bl,bf,bk]:=IR (by simp[hB4',r0.symm]) (IR (by simp[hB4',r1.symm]) (IR (by simp[hB4',r2.symm]) (IR (by simp[r3.symm]) ⟨by simp,trivial⟩)));have hB5':=hB5;simp[nW]at hB5';refine MK ?_;clear x1 x2 x3 x4 x5 hB2' hB3' hB4';simp;refine YC (aGF m cs ⟨[], -1,0⟩ 0 bc bm bl bf bk hB5 hm hc) rfl ?_;simp[hB5'];refine Z6 ?_;rintro _ _ ⟨rfl,k2,rfl⟩;have hbe:qP (mX m cs) m.length [] 0 ⟨[], -1,0⟩=zB m cs:=rfl;simp[hbe];refine jL [] (arW (d:=bV (zB m cs).best) 7 (1000000+2*bf) (by simp[hB5',hbe]) (by simp[hB5',hbe]) (by decide)) ?_;simp[hB5'];refine wdr ?_;simp[hB5']
def anL (n:Nat)(v:Int):D.nU (List.replicate n (dI v))=true:=by
 induction n with
 |zero=>rfl
 |succ n ih=>rw[fU];simp only[D.nU,k_Bool_and_eq_true];exact⟨rfl,ih⟩
variable {p:Nat}{v:Int}{q:L1}{k:Nat}
def awF {l:L1}(h:pvB m p k (at1 q k)=false):gstep (pvB m p) v k q=q:=if_neg (by simp[h])
def pv_set {l:L1}(h:pvB m p k (at1 q k)):gstep (pvB m p) v k q=q.set k v:=if_pos h
def OI (m:L2)(o:L1)(hm:bR m)(ho:JU m.length o):Fk 440 [cK m,nInts o] (vS (kX m o)):=by
 refine fE [] ntmps440 fun _ _=> ?_;have hml:=dM hm;have hoo:=Z0 ho;have hpe:=aEG hm ho;simp;refine ck (iB m (by omega) (xX hm)) ?_;simp[hm];refine ck (adF m.length o ⟨by omega,by omega⟩ ho (by omega)) ?_;have hao:D.nU (List.replicate m.length (dI (-1)))=true:=anL m.length (-1);simp;refine ck ((aJ4 (-1) m.length hml)) ?_;simp[hao];refine wlt (Nat×L1) (fun(i,l)=>([(0,.val (cK m)),(1,vN o),(5,vS l),(24,vN o),(25,vI o.length),(26,vI i)],o.length-i,(i<=o.length)/\(l=loopN i (List.replicate m.length (-1)) (ac0 m o))/\(l.length=m.length))) ((0,List.replicate m.length (-1))) ⟨by omega,rfl,by simp⟩ ?_;rintro⟨i,l⟩ ⟨h1,h2,h3⟩;simp;apply gw<;>intro a
 ·have hoi:=hoo.2.2.2.2 i a;have hg:=aY a;have hgl:=aY (l:=l) (i:=(at1 o i).toNat);have hs:=aM i (List.replicate m.length (-1)) (ac0 m o);rw[←h2]at hs;simp[hg,hgl];refine ai ?_;apply gw<;>intro b
  ·have hu:ac0 m o i l=l:=if_pos b;simp;refine nxa (i+1,l) ⟨by omega,by rw[hs,hu],h3⟩
  ·simp at b;have hu:ac0 m o i l=loopN m.length (l.set (at1 o i).toNat (at1 o i)) (gstep (pvB m (at1 o i).toNat) (at1 o i)):=if_neg (by omega);obtain⟨r,hr,hrl⟩:=ER hm (a:=(at1 o i).toNat) (by omega);have hrk:∀k<m.length,r[k]?=some (at2 m (at1 o i).toNat k):=fun k hk=>by obtain⟨r2,e1,e2⟩:=lJ hm (i:=(at1 o i).toNat) (k:=k) (by omega) hk;rw[hr]at e1;rw[k_Option_some_inj e1];exact e2
   simp[hgl,hr,hrl];refine ai ?_;refine wlt (Nat×L1) (fun(k,q)=>([(0,.val (cK m)),(1,vN o),(5,vS q),(7,vI (at1 o i)),(24,vN o),(25,vI o.length),(26,vI i),(42,vN r),(43,vI m.length),(44,vI k)],m.length-k,(k<=m.length)/\(q=loopN k (l.set (at1 o i).toNat (at1 o i)) (gstep (pvB m (at1 o i).toNat) (at1 o i)))/\(q.length=m.length))) ((0,l.set (at1 o i).toNat (at1 o i))) ⟨by omega,rfl,by simp[h3]⟩ ?_;rintro⟨k,q⟩ ⟨h1k,h2k,h3k⟩;simp;apply gw<;>intro d
   ·have hgk:=aY (l:=q) (i:=k);have hk:=hrk k d;have hsk:=aM k (l.set (at1 o i).toNat (at1 o i)) (gstep (pvB m (at1 o i).toNat) (at1 o i));rw[←h2k]at hsk;simp[hk];apply gv<;>intro e
    ·have e':=e;simp[hgk,e];apply gw<;>intro f
     ·simp[hgk];refine nxa (k+1,q.set k (at1 o i)) ⟨by omega,by rw[hsk];exact(pv_set (l:=l) (by simp[pvB,e,f])).symm,by simp[h3k]⟩
     ·simp at f;simp;refine nxa (k+1,q) ⟨by omega,by rw[hsk];exact(awF (l:=l) (by simp[pvB,f])).symm,h3k⟩
    ·have e':=e;simp at e';simp[e];refine nxa (k+1,q) ⟨by omega,by rw[hsk];exact(awF (l:=l) (by simp[pvB,e])).symm,h3k⟩
   ·simp at d;obtain rfl:k=m.length:=by omega
    simp;refine nxa (i+1,q) ⟨by omega,by rw[hs,hu];exact h2k,h3k⟩
 ·simp at a;obtain rfl:i=o.length:=by omega
  have hp:canon l=kX m o:=by rw[h2];exact hpe
  simp;refine ck (tO l (by omega)) ?_;simp[hp]
end Go.Proofs.YtebopbncplpdgaaGreatDoor
end
section
namespace Go
def sG:= @BitVec.toNat_ofNat
end Go
end
section
namespace Go.Proofs.YtebopbncplpdgaaGreatDoor
open Go.Dv Go.Pl Go.Proofs.Tryz
variable {n:Nat}
def wrap_small (h:n<9223372036854775808:=by omega):IntKind.i64.wrap (n:Int)=n:=by
 simp[IntKind.wrap,IntKind.bits,IntKind.signed];omega
def UF (n:Nat):BitVec.ofInt 64 (n:Int)=BitVec.ofNat 64 n:=by
 apply BitVec.eq_of_toNat_eq;simp
def aAR (s:Nat)(h:s<256):acA .and .i64 (s:Int) 1=((s % 2:Nat):Int):=by
 have e:(1:Int)=((1:Nat):Int):=rfl;show IntKind.i64.wrap ((((BitVec.ofInt 64 (s:Int))&&&(BitVec.ofInt 64 (1:Int))).toNat:Nat):Int)=_;rw[e,UF,UF,BitVec.toNat_and,sG,sG,jV (by omega),jV (by omega),Nat.and_one_is_mod,wrap_small]
def aFR (s t:Nat)(h:s<256)(h2:t<256):acA .or .i64 (s:Int) (t:Int)=((s|||t:Nat):Int):=by
 have h3:s|||t<2^8:=Nat.or_lt_two_pow (n:=8) h h2;show IntKind.i64.wrap ((((BitVec.ofInt 64 (s:Int))|||(BitVec.ofInt 64 (t:Int))).toNat:Nat):Int)=_;rw[UF,UF,BitVec.toNat_or,sG,sG,jV (by omega),jV (by omega),wrap_small]
variable {s:Nat}{x:Int}
def aEQ (hs:s<256)(hx:0<=x/\x<=7):(acA .and .i64 ((s:Int).fdiv (2^min x.toNat 64)) 1=1)=(s.testBit x.toNat=true):=by
 have e:(s:Int).fdiv (2^min x.toNat 64)=((s/2^x.toNat:Nat):Int):=by
  rw[fP (by omega)];have:((2:Int)^x.toNat)=((2^x.toNat:Nat):Int):=by simp
  rw[this];exact Int.ofNat_fdiv s (2^x.toNat)|>.symm
 have h1:s/2^x.toNat<=s:=Nat.div_le_self _ _;rw[e,aAR _ (by omega),Nat.testBit_eq_decide_div_mod_eq,decide_eq_true_eq];exact propext ⟨fun h=>by omega,fun h=>by omega⟩
def aIA (hs:s<256)(hx:0<=x/\x<=7):acA .or .i64 (s:Int) (IntKind.i64.wrap (2^min x.toNat 64))=((s|||2^x.toNat:Nat):Int):=by
 have hpow:2^x.toNat<2^8:=Nat.pow_lt_pow_right (by omega) (by omega);have this:((2:Int)^x.toNat)=((2^x.toNat:Nat):Int):=by simp
 rw[fP (by omega),this,wrap_small,aFR _ _ hs hpow]
def adY (n:Int)(l:L1)(hn: -1048576<=n/\n<=1048576:=by first|omega|grind)(hl:Qle l:=by first|omega|grind):Fk 416 [dI n,nInts l] (vB (JU n l)):=by
 refine fE [] ntmps416 fun _ _=> ?_;simp;refine wlt (Nat×Nat) (fun(i,s)=>([(0,vI n),(1,vN l),(5,vI s),(6,vI i)],l.length-i,(i<=l.length)/\(ay8 n l i s))) ((0,0)) ⟨by omega,(azA n l)⟩ ?_;rintro⟨i,s⟩ ⟨h1,h2⟩;simp;apply gw<;>intro a
 ·have hg:=aY a;simp[hg];refine ai ?_;refine ck (bH _ _ _) ?_;simp;apply gv<;>intro b
  ·have b':=b;simp at b';have ho:=ahS h2 a (.inl (by simp at b;omega));simp[b];simp[ho]
  ·have b':=b;simp at b';simp[b];apply gv<;>intro d
   ·have d':=d;have ho:=ahS h2 a (.inr (.inl (by omega)));simp[d];simp[ho]
   ·have d':=d;simp at d';have hx:0<=at1 l i/\at1 l i<=7:=by simp at b;omega
    have hsb:=aEQ h2.2.1 hx;have hso:=aIA h2.2.1 hx;simp[hg,d,hsb];refine ai ?_;apply gw<;>intro e
    ·have ho:=ahS h2 a (.inr (.inr e));simp;simp[ho]
    ·have hst:=ay9 h2 a ⟨by omega,by omega⟩ (by omega) (by simpa using e);simp[hg,hso];refine nxb (i+1,s|||2^(at1 l i).toNat) ⟨by omega,hst⟩
 ·simp at a;obtain rfl:i=l.length:=by omega
  have ho:=aEC h2;simp;refine ck (bH _ _ _) ?_;simp;apply gv<;>intro f
  ·have f':=f;simp at f';simp[f];simp[ho,f]
  ·have f':=f;simp at f';simp[f];simp[ho,f]
def OM (m:L2)(o:L1)(hm:bR m)(ho:JU m.length o):Fk 349 [cK m,nInts o] (vS (kX m o)):=by
 refine fE [] ntmps349 fun _ _=> ?_;have hml:=dM hm;have hoo:=Z0 ho;simp;refine ck (eT m) ?_;simp[hm];refine ck (adY m.length o) ?_;simp[ho];refine wl (fun(i:Nat)=>[(0,.val (cK m)),(1,vN o),(5,vS (List.replicate i (-1))),(6,vI i)]) (fun(i:Nat)=>m.length-i) (fun(i:Nat)=>(i<=m.length)) (0) (by omega) ?_;rintro i h1;simp;apply gw<;>intro a
 ·have hx:=mF (n:=i) (a:=(-1:Int));simp;refine nxb (i+1) (by first|omega|(simp;omega)|grind) (h3:=by simp[hx])
 ·simp at a;obtain rfl:i=m.length:=by omega
  simp;refine wlt (Nat×L1) (fun(i,l)=>([(0,.val (cK m)),(1,vN o),(5,vS l),(7,vI i)],o.length-i,(i<=o.length)/\(l=loopN i (List.replicate m.length (-1)) (pivOne m o))/\(l.length=m.length))) ((0,List.replicate m.length (-1))) ⟨by omega,rfl,by simp⟩ ?_;rintro⟨i,l⟩ ⟨h1,h2,h3⟩;simp;apply gw<;>intro a
  ·have hs:=aM i (List.replicate m.length (-1)) (pivOne m o);rw[←h2]at hs;have hoi:=hoo.2.2.2.2 i a;have hg:=aY a;have hgl:=aY (l:=l) (i:=(at1 o i).toNat);simp[hg,hgl];refine ai ?_;apply gw<;>intro b
   ·have hu:pivOne m o i l=l:=if_pos b;simp;refine nxa (i+1,l) ⟨by omega,by rw[hs,hu],h3⟩
   ·simp at b;have hu:pivOne m o i l=loopN m.length l (A7 m (at1 o i) i):=if_neg (by omega);simp;refine wlt (Nat×L1) (fun(k,q)=>([(0,.val (cK m)),(1,vN o),(5,vS q),(7,vI i),(8,vI (at1 o i)),(9,vI k)],m.length-k,(k<=m.length)/\(q=loopN k (l) (A7 m (at1 o i) i))/\(q.length=m.length))) ((0,l)) ⟨by omega,rfl,by omega⟩ ?_;rintro⟨k,q⟩ ⟨h1k,h2k,h3k⟩;simp;apply gw<;>intro ak
    ·have hsk:=aM k (l) (A7 m (at1 o i) i);rw[←h2k]at hsk;have hgk:=aY (l:=q) (i:=k);obtain⟨r,hr,hrk⟩:=lJ hm (i:=(at1 o i).toNat) (k:=k) (by omega) ak;simp[hgk];apply gv<;>intro e
     ·have e':=e;simp[e];apply gv<;>intro f
      ·have f':=f;have hv:A7 m (at1 o i) i k q=q.set k i:=if_pos ⟨e,.inl (by omega)⟩;have hk0:(at1 o i).toNat=k:=by omega
       have hgk2:q[(at1 o i).toNat]?=some (at1 q k):=by rw[hk0];exact hgk
       simp[f,hgk2];refine nxb (k+1,q.set (at1 o i).toNat i) ⟨by omega,by rw[hsk,hv,hk0],by simp[h3k]⟩ (h3:=by simp[hg,hgk,hr,hrk,h3k,e,f,hgk2])
      ·have f':=f;simp[hr,hrk,f];refine ai ?_;apply gw<;>intro g
       ·have hv:A7 m (at1 o i) i k q=q.set k i:=if_pos ⟨e,.inr g⟩;simp[hgk];refine nxa (k+1,q.set k i) ⟨by omega,by rw[hsk,hv],by simp[h3k]⟩
       ·simp at g;have hv:A7 m (at1 o i) i k q=q:=if_neg (by omega);simp;refine nxa (k+1,q) ⟨by omega,by rw[hsk,hv],h3k⟩
     ·have e':=e;simp at e';have hv:A7 m (at1 o i) i k q=q:=if_neg (by omega);simp[e];refine nxa (k+1,q) ⟨by omega,by rw[hsk,hv],h3k⟩
    ·simp at ak;have hik:m.length=k:=by omega
     subst hik;simp;refine nxa (i+1,q) ⟨by omega,by rw[hs,hu];exact h2k,h3k⟩
  ·simp at a;have hi:o.length=i:=by omega
   subst hi;have hp:kX m o=canon l:=by rw[kX,aeY,←h2]
   simp;refine ck (tY l (by omega)) ?_;simp;simp[hp]
def aEM (n s i:Nat):(List.range (i+1)).map (fun i=>(((s+i) % n:Nat):Int))=(List.range i).map (fun i=>(((s+i) % n:Nat):Int))++[(((s+i) % n:Nat):Int)]:=by simp[dN]
def arB (n s i:Nat):L1:=(List.range i).map fun i=>(((s+i) % n:Nat):Int)
def ak0 (n s:Nat):arB n s 0=[]:=rfl
def akZ (n s i:Nat):arB n s (i+1)=arB n s i++[(((s+i) % n:Nat):Int)]:=aEM n s i
def arC (n s:Nat):arB n s n=rot n s:=rfl
def arD (n s i:Nat):(arB n s i).length=i:=by simp[arB]
def arY (n a b:Nat):((a:Int)+(b:Int)).tmod n=(((a+b) % n:Nat):Int):=by
 rw[←Int.natCast_add];exact(Int.ofNat_tmod _ _).symm
def ZG (m:L2)(hm:bR m):Fk 262 [cK m] (.tup [.val (nInts (lS m).1),.val (dI (lS m).2)]):=by
 refine fE [] ntmps262 fun _ _=> ?_;have hml:=dM hm;simp;refine wld [4] (Nat×L1×Int) (fun(i,b,c)=>([(0,.val (cK m)),(4,vN b),(5,vI c),(6,vI i)],m.length-i,(i<=m.length)/\((b,c)=loopN i ([], -1) (zD m)))) ((0,[], -1)) ⟨by omega,rfl⟩ ?_;rintro⟨i,b,c⟩ ⟨h1,h2⟩;simp;apply gv<;>intro a
 ·have a':=a;simp[a];refine ck (eT m) ?_;have hs:=aM i ([], -1) (zD m);rw[←h2]at hs;have hz:=ak0 m.length i;simp[hm];refine wl (fun(k:Nat)=>[(0,.val (cK m)),(4,vN b),(5,vI c),(6,vI i),(7,vS (arB m.length i k)),(8,vI k)]) (fun(k:Nat)=>m.length-k) (fun(k:Nat)=>(k<=m.length)) (0) (by omega) ?_ (h0:=by simp[hm,hz]);rintro k h1k;simp;apply gw<;>intro d
  ·have hrl:=arD m.length i k;have hrs:=akZ m.length i k;have htm:=arY m.length i k;have hne:¬m=[]:=by intro e;rw[e]at hml;simp at hml
   simp[htm,hne];refine nxd (k+1) (by first|omega|(simp;omega)|grind) (h3:=by simp[hrs,htm,hne])
  ·simp at d;obtain rfl:k=m.length:=by omega
   rw[arC];have hpl:=XP m (rot m.length i);simp;refine ck (OM m (rot m.length i) hm (awI hml a)) ?_;simp;refine ck (PM m (kX m (rot m.length i)) hm hpl) ?_;simp;apply gv<;>intro e
   ·have e':=e;have hu:zD m i (b,c)=(kX m (rot m.length i),dP m (kX m (rot m.length i))):=if_pos (.inl e);simp[e];refine ai ?_;refine nxc (i+1,kX m (rot m.length i),dP m (kX m (rot m.length i))) [4] ⟨by omega,by rw[hs,hu]⟩
   ·have e':=e;simp at e';simp[e];apply gw<;>intro f
    ·have hu:zD m i (b,c)=(kX m (rot m.length i),dP m (kX m (rot m.length i))):=if_pos (.inr f);simp;refine ai ?_;refine nxc (i+1,kX m (rot m.length i),dP m (kX m (rot m.length i))) [4] ⟨by omega,by rw[hs,hu]⟩
    ·simp at f;have hu:zD m i (b,c)=(b,c):=if_neg (by simp only;omega);simp;refine ai ?_;refine nxc (i+1,b,c) [4] ⟨by omega,by rw[hs,hu]⟩
 ·have a':=a;simp at a';obtain rfl:i=m.length:=by omega
  have hb:lS m=(b,c):=h2.symm;simp[a];simp[hb]
def as3:Nat->L1->D
 |0,_=> .one (.slice none 0 0)
 |_+1,b=>nInts b
def axU (b:L1):as3 0 b= .one (.slice none 0 0):=rfl
def axT (i:Nat)(b:L1):as3 (i+1) b=nInts b:=rfl
variable {m:L2}{i:Nat}
def aBL {b:L1}{c:Int}(h2:(b,c)=loopN i ([], -1) (zD m))(hc:0<=c):as3 i b=nInts b:=by
 cases i with
 |zero=>have e:(b,c)=(([]:L1),(-1:Int)):=h2
        have:c= -1:=congrArg Prod.snd e;omega
 |succ j=>rfl
def YP (m:L2)(hm:bR m):Fk 372 [cK m] (.tup [.val (nInts (lS m).1),.val (dI (lS m).2)]):=by
 refine fE [] ntmps372 fun _ _=> ?_;have hml:=dM hm;simp;refine ck (iB m (by omega) (xX hm)) ?_;have hf0:=axU [];simp[hm];refine wld [4] (Nat×L1×Int) (fun(i,b,c)=>([(0,.val (cK m)),(4,.val (as3 i b)),(5,vI c),(15,vI m.length),(16,vI i)],m.length-i,(i<=m.length)/\((b,c)=loopN i ([], -1) (zD m)))) ((0,[], -1)) ⟨by omega,rfl⟩ ?_ (h0:=by simp[hm,hf0]);rintro⟨i,b,c⟩ ⟨h1,h2⟩;simp;apply gw<;>intro a
 ·have hs:=aM i ([], -1) (zD m);rw[←h2]at hs;have hf1:=axT i;have hi0:0<=c->as3 i b=nInts b:=aBL h2;have hz:=ak0 m.length i;simp;refine wl (fun(k:Nat)=>[(0,.val (cK m)),(4,.val (as3 i b)),(5,vI c),(6,vI i),(7,vS (arB m.length i k)),(15,vI m.length),(16,vI i),(20,vI m.length),(21,vI k)]) (fun(k:Nat)=>m.length-k) (fun(k:Nat)=>(k<=m.length)) (0) (by omega) ?_ (h0:=by simp[hm,hf0,hf1,hz]);rintro k h1k;simp;apply gw<;>intro d
  ·have hrl:=arD m.length i k;have hrs:=akZ m.length i k;have htm:=arY m.length i k;have hne:¬m=[]:=by intro e;rw[e]at hml;simp at hml
   simp[htm,hne];refine nxd (k+1) (by first|omega|(simp;omega)|grind) (h3:=by simp[hf0,hf1,hrs,htm,hne])
  ·simp at d;obtain rfl:k=m.length:=by omega
   rw[arC];have hpl:=XP m (rot m.length i);simp;refine ck (OI m (rot m.length i) hm (awI hml a)) ?_;simp;refine ck (kL m (kX m (rot m.length i)) hm hpl) ?_;simp;apply gv<;>intro e
   ·have e':=e;have hu:zD m i (b,c)=(kX m (rot m.length i),dP m (kX m (rot m.length i))):=if_pos (.inl e);simp[e];refine ai ?_;refine nxc (i+1,kX m (rot m.length i),dP m (kX m (rot m.length i))) [4] ⟨by omega,by rw[hs,hu]⟩ (h3:=by simp[hf0,hf1,e])
   ·have e':=e;simp at e';simp[e];apply gw<;>intro f
    ·have hu:zD m i (b,c)=(kX m (rot m.length i),dP m (kX m (rot m.length i))):=if_pos (.inr f);simp;refine ai ?_;refine nxc (i+1,kX m (rot m.length i),dP m (kX m (rot m.length i))) [4] ⟨by omega,by rw[hs,hu]⟩ (h3:=by simp[hf0,hf1,e])
    ·simp at f;have hu:zD m i (b,c)=(b,c):=if_neg (by simp only;omega);have hi1:=hi0 (by omega);simp[hi1];refine ai ?_;refine nxc (i+1,b,c) [4] ⟨by omega,by rw[hs,hu]⟩ (h3:=by simp[hf0,hf1,e,hi1])
 ·simp at a;obtain rfl:i=m.length:=by omega
  have hb:lS m=(b,c):=h2.symm;have hfm:as3 m.length b=nInts b:=by obtain⟨j,hj⟩:∃j,m.length=j+1:=⟨m.length-1,by omega⟩;rw[hj];rfl
  simp[hfm];simp[hb]
def aq6 (s:L2)(q:List Con):L1:=if 6<s.length then sD s q 100 (mK s q)else(zB s q).best
def aEF {cs:List Con}{items:L1}(h:Part m cs items):aq6 (kQ m items) (iK cs items)=partOf m cs items:=by
 unfold aq6 partOf;rw[h.len,aaP h.mat (by rw[h.len];exact h.are)]
def arO {s:L2}{q:List Con}(h:eQ s.length q):nQ q (mK s q)=true:=by
 unfold mK;split
 ·rename_i hk;unfold keepP at hk;simp only[k_Bool_and_eq_true]at hk;exact hk.1
 ·exact VI h
def UY (s:L2)(q:List Con)(hm:bR s)(hcS:eQ s.length q)(hq:Qle q):Fk 285 [cK s,jO q] (vN (aq6 s q)):=by
 refine fE [9,17] ntmps285 fun _ _=> ?_;have hml:=dM hm;have hare:=(jA.1 hcS).1;have hst:=XY hm hare;have hsk:=arO hcS;have hsp:gD (mK s q):=isPart_iff.2 ⟨hst.2,by omega⟩;have hbp:=V3 hm;have hbI:gD (lS s).1:=isPart_iff.2 ⟨hbp.2.1,by omega⟩;have hkp:keepP q (lS s).1=nQ q (lS s).1:=by unfold keepP nQ;rw[hbI,Bool.and_true]
 simp;apply gw<;>intro a
 ·have hpS:aq6 s q=(zB s q).best:=if_neg (by omega);simp;refine eB (al7 s q hm hq) (by simp) ?_;rintro r ⟨kk,rfl⟩;refine⟨by simp,?_⟩;simp[hpS]
 ·simp at a;have hpS:aq6 s q=sD s q 100 (mK s q):=if_pos (by omega);simp;refine ck (YP s hm) ?_;simp;refine QJ (fun(_:Unit)=>[(0,.val (cK s)),(1,vE q),(8,vN (mK s q))]) (fun(_:Unit)=>True) ?_ ?_
  ·simp;refine ck (FH (lS s).1 q (by omega) hq) ?_;simp;apply gw<;>intro d
   ·simp at d;have hs1:mK s q=eH s.length q:=if_neg (by rw[hkp,d];simp);simp;refine ck (zH s.length q (by omega) hq hare) ?_;simp;refine jnc (()) [8] trivial (h3:=by simp[hpS,hs1])
   ·simp at d;have hs1:mK s q=(lS s).1:=if_pos (by rw[hkp];simpa using d);simp;refine jnc (()) [8] trivial (h3:=by simp[hpS,hs1])
  rintro⟨⟩ -
  simp;refine eB (LP s q (mK s q) hm hsp hst.1 hsk hq) (by simp) ?_;rintro r ⟨kk,rfl⟩;refine⟨by simp,?_⟩;simp;refine jL [] (dQ 4) ?_;simp[hpS]
abbrev sS (m:L2)(cs:List Con)(s:S20):D:= .agg [cK m,jO cs,bV s.best,dI s.cost,dI s.count]
abbrev nS (m:L2)(cs:List Con)(s:S20):D:= .bx false (.agg [cK m,jO cs,nInts s.best,dI s.cost,dI s.count])
def aw8 (l:L1)(c:Con):Bool:=decide (c.b=(l.length:Int)-1)&&(decide (at1 l c.a.toNat=at1 l (l.length-1)) !=c.same)
def aFP (cs:List Con)(l:L1):asH cs l=cs.any (aw8 l):=rfl
def agN (m:L2)(cs:List Con)(s:S20)(l:L1)(hcs:∀c∈cs,0<=c.a/\c.a<c.b)(hl:1<=l.length/\Qle l)(hs:Qle cs):Fk 475 [nS m cs s,nInts l] (vB (asH cs l)):=by
 refine fE [] ntmps475 fun _ _=> ?_;have hbe:=aFP cs l;simp;refine ai ?_;refine wlt Nat (fun i=>([(0,.val (nS m cs s)),(1,vN l),(5,vI ((l.length:Int)-1)),(6,vI i)],cs.length-i,(i<=cs.length)/\((cs.take i).any (aw8 l)=false))) (0) ⟨by omega,rfl⟩ ?_;rintro i ⟨h1,h2⟩;simp;apply gw<;>intro a
 ·obtain⟨c,hc⟩:=aO (l:=cs) (i:=i);simp;refine wdr ?_;simp[hc];apply gv<;>intro e
  ·have e':=e;have hcc:=hcs c (LY hc);have hga:=aY (l:=l) (i:=c.a.toNat);have hgb:=aY (l:=l) (i:=l.length-1);have hln:((l.length:Int)-1).toNat=l.length-1:=by omega
   simp[hc,e,hga,hgb,hln];iterate 2 refine ai ?_
   apply gw<;>intro f
   ·simp at f;have hn:=avA hc (P:=(aw8 l)) (by simp[aw8,e];simpa using f);simp[hbe,hn]
   ·simp at f;simp;refine nxa (i+1) ⟨by omega,(kN hc h2 (by simp[aw8,e];simpa using f))⟩
  ·have e':=e;simp[e];refine nxa (i+1) ⟨by omega,(kN hc h2 (by simp[aw8,e]))⟩
 ·simp at a;have hf:=pK h2 a;simp[hbe,hf]
def aIR (m:L2)(cs:List Con)(d:Nat):Prop:=∀(l:L1) (top cost:Int) (s:S20),l.length+d=m.length-> -1<=top/\top+1<=l.length->0<=cost/\cost<=8000*l.length->0<=s.count/\s.count+(9^d:Nat)<=4611686018427387904->
 D8 prog 415 [.one (.bool false),nInts l,dI top,dI cost] 0 (.bx true (sS m cs s)) (fun r' d'=>r'= .tup []/\d'= .bx true (sS m cs (walk20 m cs d l top cost s)))
def aCQ (m:L2)(cs:List Con)(d:Nat)(l:L1)(top cost:Int)(s:S20)(hm:bR m)(hcs:cO m.length cs)(hrec:∀e,d=e+1->aIR m cs e)(hd:l.length+d=m.length)(ht: -1<=top/\top+1<=l.length)(hco:0<=cost/\cost<=8000*l.length)(hcn:0<=s.count/\s.count+(9^d:Nat)<=4611686018427387904):D8 prog 415 [.one (.bool false),nInts l,dI top,dI cost] 0 (.bx true (sS m cs s)) (fun r' d'=>r'= .tup []/\d'= .bx true (sS m cs (walk20 m cs d l top cost s))):=by
 refine fMs [42] ntmps415 fun w0 ow0 v0=> ?_;have hml:=dM hm;have hco2:=mQ hcs;have hcut:∀d l top cost s,WB cost s->walk20 m cs d l top cost s=s:=fun d l top cost s h=>by cases d;(rw[walk20,if_pos h]);(rw[walk20_succ,if_pos h])
 refine QJ (fun(_:Unit)=>[(0,.own (.bx true (sS m cs s))),(1,vN l),(2,vI top),(3,vI cost)]) (fun(_:Unit)=>(¬WB cost s)) ?_ ?_
 ·simp;apply gv<;>intro a
  ·have a':=a;simp[a];apply gw<;>intro b
   ·have hw:=hcut d l top cost s ⟨a,b⟩;simp;simp[hw]
   ·simp at b;simp;refine jn (()) (by unfold WB;omega)
  ·have a':=a;simp at a';simp[a];refine jn (()) (by unfold WB;omega)
 rintro⟨⟩ h5;simp;apply gw<;>intro e
 ·obtain rfl:d=0:=by omega
  have hw:walk20 m cs 0 l top cost s=XD l cost s:=by rw[walk20,if_neg h5]
  simp;apply gv<;>intro f
  ·have f':=f;have hw2:XD l cost s=⟨l,cost,1⟩:=if_pos (.inl f);simp[f];iterate 2 refine ai ?_
   simp[hw,hw2]
  ·have f':=f;simp at f';simp[f];apply gw<;>intro g
   ·have hw2:XD l cost s=⟨l,cost,1⟩:=if_pos (.inr g);simp;iterate 2 refine ai ?_
    simp[hw,hw2]
   ·simp at g;have hw2:XD l cost s=⟨s.best,s.cost,s.count+1⟩:=if_neg (by omega);simp;refine ai ?_;simp[hw,hw2]
 ·obtain⟨d,rfl⟩:∃e,d=e+1:=⟨d-1,by omega⟩;have hwk:=hrec d rfl;have hw:walk20 m cs (d+1) l top cost s=loopN (top+2).toNat s (EW m cs d l top cost):=by rw[walk20_succ,if_neg h5]
  have hp9:=aME d;have hps:9^(d+1)=9*9^d:=by rw[Nat.pow_succ,rE]
  simp;refine wlt (Nat×S20) (fun(k,x)=>([(0,.own (.bx true (sS m cs x))),(1,vN l),(2,vI top),(3,vI cost),(8,vI l.length),(9,vI k)],(top+2).toNat-k,(k<=(top+2).toNat)/\(x=loopN k s (EW m cs d l top cost))/\(0<=x.count/\x.count<=s.count+(k*9^d:Nat)))) ((0,s)) ⟨by omega,rfl,by simp;omega⟩ ?_;rintro⟨k,x⟩ ⟨h1,h2,h3⟩;simp;refine ai ?_;apply gw<;>intro b
  ·have hs:=aM k s (EW m cs d l top cost);rw[←h2]at hs;have hbl:(l++[(k:Int)]).length=l.length+1:=by simp
   have hkm:k*9^d+9^d<=9*9^d:=by have:(k+1)*9^d<=9*9^d:=aX _ (by omega);rw[k_Nat_add_mul,Nat.one_mul]at this;exact this
   have hk1:(k+1)*9^d=k*9^d+9^d:=by rw[k_Nat_add_mul,Nat.one_mul]
   simp;iterate 2 refine ai ?_
   refine ckz (agN m cs x (l++[(k:Int)]) (fun c hc=>⟨(hco2.2.2.2 c hc).1,(hco2.2.2.2 c hc).2.1⟩) (by omega) (by omega)) ?_;simp;apply gw<;>intro f
   ·have hn:EW m cs d l top cost k x=x:=if_pos f;simp;refine nxa (k+1,x) ⟨by omega,by rw[hs,hn],by rw[hk1];omega⟩
   ·have hn:EW m cs d l top cost k x=walk20 m cs d (l++[(k:Int)]) (max top k) (ae6 m l k l.length cost) x:=if_neg (by simp[f]);simp;refine wlt (Nat×Int) (fun(i,c)=>([(0,.own (.bx true (sS m cs x))),(1,vN l),(2,vI top),(3,vI cost),(8,vI l.length),(9,vI k),(10,vS (l++[(k:Int)])),(11,vI c),(12,vI i)],l.length-i,(i<=l.length)/\(c=loopN i cost (fun i s=>s+DR m l k l.length i))/\(cost<=c/\c<=cost+1000*i))) ((0,cost)) ⟨by omega,rfl,by omega⟩ ?_;rintro⟨i,c⟩ ⟨h1i,h2i,h3i⟩;simp;apply gw<;>intro u
    ·have hsi:=aM i cost (fun i s=>s+DR m l k l.length i);rw[←h2i]at hsi;obtain⟨r,hr,hrk⟩:=lJ hm (i:=i) (k:=l.length);have hi:=aY u;have hmb:=iL hm i l.length;simp[hr,hrk];apply gv<;>intro p
     ·have p':=p;simp[hi,p];apply gw<;>intro q
      ·have hc:DR m l k l.length i=at2 m i l.length:=if_pos ⟨p,q⟩;simp[hr,hrk];refine ai ?_;apply gv<;>intro g
       ·have g':=g;exfalso;omega
       ·have g':=g;simp at g';simp[g];refine nxa (i+1,c+at2 m i l.length) ⟨by omega,by rw[hsi,hc],by omega⟩
      ·simp[hr,hrk];apply gv<;>intro g
       ·have g':=g;exfalso;omega
       ·have g':=g;simp at g';have hc:DR m l k l.length i=0:=by rw[DR,if_neg (by simp[q]),if_neg (by omega)]
        simp[g];refine nxa (i+1,c) ⟨by omega,by rw[hsi,hc];simp,by omega⟩
     ·have p':=p;simp at p';simp[hr,hrk,p];apply gv<;>intro g
      ·have g':=g;simp[hi,g];apply gw<;>intro q
       ·have hc:DR m l k l.length i= - at2 m i l.length:=by rw[DR,if_neg (by omega),if_pos ⟨g,q⟩]
        simp[hr,hrk];refine nxb (i+1,c-at2 m i l.length) ⟨by omega,by rw[hsi,hc];omega,by omega⟩
       ·have hc:DR m l k l.length i=0:=by rw[DR,if_neg (by omega),if_neg (by simp[q])]
        simp;refine nxa (i+1,c) ⟨by omega,by rw[hsi,hc];simp,by omega⟩
      ·have g':=g;simp at g';have hc:DR m l k l.length i=0:=by rw[DR,if_neg (by omega),if_neg (by omega)]
       simp[g];refine nxa (i+1,c) ⟨by omega,by rw[hsi,hc];simp,by omega⟩
    ·simp at u;obtain rfl:i=l.length:=by omega
     have ha:ae6 m l k l.length cost=c:=h2i.symm;rw[ha]at hn;have hW:=ar5 (m:=m) (cs:=cs) d (l++[(k:Int)]) (max top k) c x (by omega);simp;refine jL [] (dQ 10) ?_;have hcl:=hwk (l++[(k:Int)]) (max top k) c x (by omega) (by omega) (by omega) (by omega);rw[show nInts (l++[(k:Int)])=D.sl none (l.map dI++[dI k]) by simp]at hcl;simp;refine eO rfl (hcl) ?_;rintro r d ⟨rfl,rfl⟩;simp;refine nxa (k+1,walk20 m cs d (l++[(k:Int)]) (max top k) c x) ⟨by omega,by rw[hs,hn],by have:=hW.lo h3.1;have:=hW.hi h3.1;rw[hk1];omega⟩
  ·simp at b;obtain rfl:k=(top+2).toNat:=by omega
   simp;simp[hw,h2]
def PN (m:L2)(cs:List Con)(hm:bR m)(hcs:cO m.length cs):∀d,aIR m cs d
 |0=>fun l top cost s h1 h2 h3 h4=>aCQ m cs 0 l top cost s hm hcs (fun e he=>by omega) h1 h2 h3 h4
 |d+1=>fun l top cost s h1 h2 h3 h4=>aCQ m cs (d+1) l top cost s hm hcs (fun e he=>by obtain rfl:d=e:=(by omega);exact PN m cs hm hcs d) h1 h2 h3 h4
def agO (m:L2)(cs:List Con)(hm:bR m:=by first|omega|grind)(hcs:eQ m.length cs:=by first|omega|grind):Fk 348 [cK m,jO cs] (.tup [.own (sS m cs (ac4 m cs)),vB true]):=by
 refine fE [] ntmps348 fun _ _=> ?_;have hml:=dM hm;have hc1:cO m.length cs:=by simp only[eQ,k_Bool_and_eq_true]at hcs;exact hcs.1
 have hc2:xS m.length cs<0:=by simp only[eQ,k_Bool_and_eq_true,decide_eq_true_eq]at hcs;exact hcs.2
 have hco2:=mQ hc1;simp;refine ck (eT m) ?_;simp[hm];refine ck (FU m.length cs) ?_;have hp9:(9^m.length:Nat)<=9^8:=jX (by omega) hml.2;have hw:=PN m cs hm hc1 m.length [] (-1) 0 ⟨[], -1,0⟩ (by simp) (by simp) (by simp) ⟨by simp,by show(0:Int)+((9^m.length:Nat):Int)<=_;omega⟩;simp[hc1,hc2];refine eO rfl (hw) ?_;rintro r d ⟨rfl,rfl⟩;have hr:walk20 m cs m.length [] (-1) 0 ⟨[], -1,0⟩=ac4 m cs:=rfl;simp[hr]
def QA (m:L2)(cs:List Con)(hm:bR m)(hcs:eQ m.length cs):Fk 261 [cK m,jO cs] (.tup [.val (nInts (ac4 m cs).best),.val (dI (ac4 m cs).cost),vB true]):=by
 refine fE [] ntmps261 fun _ _=> ?_;simp;refine ck (agO m cs) ?_;simp;refine jL [] (dQ 7) ?_;simp;refine wdr ?_;simp
variable {l:List Tri}
def azZ (h:∀t∈l,0<=t.w)(x y:Int):0<=BU l x y:=by
 have key:∀(l:List Tri) (s:Int),0<=s->(∀t∈l,0<=t.w)->0<=l.foldl (fun s t=>if KH x y t=true then s+t.w else s) s:=by
  intro l
  induction l with
  |nil=>intro s hs _;exact hs
  |cons t l ih=>
   intro s hs h;have h1:=h t (by simp);rw[k_List_foldl_cons];exact ih _ (by split<;>omega) (fun t ht=>h t (bC _ ht))
 exact key l 0 (by omega) h
def au1 (m:L2)(t:Tri):Bool:=xQ m t.a t.b t.c&&inR t.w 1 1000
def azY (m:L2)(l:List Tri)(x y:Nat):Bool:=decide (BU l x y<=BX (at2 m x y))
def anF (m:L2)(l:List Tri)(x:Nat):Bool:=(List.range m.length).all fun y=>decide (y<=x)||azY m l x y
def VR (m:L2)(l:List Tri):Bool:=l.all (au1 m)&&(List.range m.length).all (anF m l)&&decide (l.length<=100)
def aKT {x y:Nat}{P:Nat->Bool}(hx:x<y)(hy:y<n)(h:P y=false):(List.range n).all (fun y=>decide (y<=x)||P y)=false:=nM hy (by simp[h];omega)
def ZJ (m:L2)(l:List Tri)(hm:bR m)(hl:Qle l)(hw:∀t∈l, -1048576<=t.w/\t.w<=1048576):Fk 418 [cK m,J3 l] (vB (VR m l)):=by
 refine fE [] ntmps418 fun _ _=> ?_;have hml:=dM hm;simp;refine wlt Nat (fun i=>([(0,.val (cK m)),(1,.val (J3 l)),(5,vI i)],l.length-i,(i<=l.length)/\((l.take i).all (au1 m)=true))) (0) ⟨by omega,rfl⟩ ?_;rintro i ⟨h1,h2⟩;simp;apply gw<;>intro a
 ·obtain⟨c,hc⟩:=aO (l:=l) (i:=i);simp;refine wdr ?_;simp[hc];refine cd (DX m c.a c.b c.c) ?_;simp;apply gv<;>intro e
  ·have e':=e;simp at e';have hn:=fV hc (P:=(au1 m)) (by simp[au1];simp at e;simp[e]);have hp:VR m l=false:=by simp only[VR];rw[hn];rfl
   simp[e,hp]
  ·have e':=e;simp at e';simp[hc,e];refine cd (bH c.w 1 1000) ?_;simp;apply gw<;>intro f
   ·simp at f;have hn:=fV hc (P:=(au1 m)) (by simp only[au1];rw[show inR c.w 1 1000=false by simp;omega];simp);have hp:VR m l=false:=by simp only[VR];rw[hn];rfl
    simp[hp]
   ·simp at f;simp;refine nxa (i+1) ⟨by omega,(bW hc h2 (by simp only[au1];rw[show inR c.w 1 1000=true by simp;omega,e'];rfl))⟩
 ·simp at a;have hf:=iX h2 a;simp;refine wlt Nat (fun x=>([(0,.val (cK m)),(1,.val (J3 l)),(6,vI x)],m.length-x,(x<=m.length)/\((List.range x).all (anF m l)=true))) (0) ⟨by omega,rfl⟩ ?_;rintro x ⟨h1x,h2x⟩;simp;apply gw<;>intro ax
  ·simp;refine ai ?_;refine wlt Nat (fun y=>([(0,.val (cK m)),(1,.val (J3 l)),(6,vI x),(7,vI y)],m.length-y,(x<y/\y<=m.length)/\(∀z<y,(decide (z<=x)||azY m l x z)=true))) (x+1) ⟨by omega,(fun z hz=>by simp;omega)⟩ ?_;rintro y ⟨h3,h4⟩;simp;apply gw<;>intro d
   ·obtain⟨r,hr,hrk⟩:=lJ hm (i:=x) (k:=y);have hb:=iL hm x y;simp;refine wdr ?_;simp;refine cd (eT m) ?_;simp[hm];refine cd (AX l x y) ?_;simp[hr,hrk];refine cd (oQ (at2 m x y)) ?_;simp;apply gw<;>intro e
    ·have hu:azY m l x y=false:=by simp[azY];omega
     have hp:VR m l=false:=by simp only[VR];rw[nM ax (aKT (by omega) d hu)];simp
     simp[hp]
    ·simp at e;have hu:azY m l x y:=by simp[azY];omega
     simp;refine nxa (y+1) ⟨by omega,(fun z hz=>by by_cases hzy:z=y;(subst hzy;rw[hu];simp);exact h4 z (by omega))⟩
   ·simp at d;have hrow:anF m l x:=by rw[anF,aH];intro z hz;exact h4 z (by have:=bB.1 hz;omega)
    simp;refine nxa (x+1) ⟨by omega,(oZ h2x hrow)⟩
  ·simp at ax;have hfx:=NM (n:=m.length) h2x;simp;refine ck (eT m) ?_;have hp:VR m l=decide (l.length<=100):=by simp only[VR];rw[hf,hfx];simp
   simp[hm,hp];omega
def aaF (m:L2)(l:List Tri):Int:=if VR m l=true then l.foldl (fun s t=>s+t.w) 0 else -1
def ao0 (h:∀t∈l, -1048576<=t.w/\t.w<=1048576)(i:Nat): -(1048576*(i:Int))<=(l.take i).foldl (fun(s:Int) t=>s+t.w) (0:Int)/\(l.take i).foldl (fun(s:Int) t=>s+t.w) (0:Int)<=1048576*(i:Int):=by
 induction i with
 |zero=>rw[List.take_zero,List.foldl_nil];omega
 |succ i ih=>
  by_cases hi:i<l.length
  ·obtain⟨t,ht⟩:=aO hi;have h1:=h t (LY ht);have h2:=dK (fun(s:Int) (t:Tri)=>s+t.w) 0 ht;rw[h2];omega
  ·have e:l.take (i+1)=l.take i:=by rw[bJ,bJ]
   rw[e];omega
def aED (h:∀t∈l, -1048576<=t.w/\t.w<=1048576)(hl:Qle l): -1099511627777<=aaF m l/\aaF m l<=1099511627777:=by
 have:=ao0 h l.length;rw[bS]at this;unfold aaF;split<;>omega
def RX (m:L2)(l:List Tri)(hm:bR m)(hl:Qle l)(hw:∀t∈l, -1048576<=t.w/\t.w<=1048576):Fk 355 [cK m,J3 l] (vI (aaF m l)):=by
 refine fE [] ntmps355 fun _ _=> ?_;simp;refine ck (ZJ m l hm hl hw) ?_;simp;apply gw<;>intro a
 ·simp at a;have hp:aaF m l= -1:=if_neg (by simp[a]);simp[hp]
 ·simp at a;have hp:aaF m l=l.foldl (fun s t=>s+t.w) 0:=if_pos (by simpa using a);simp;refine wlt (Nat×Int) (fun(i,s)=>([(1,.val (J3 l)),(5,vI s),(6,vI i)],l.length-i,(i<=l.length)/\(s=(l.take i).foldl (fun s t=>s+t.w) 0))) ((0,0)) ⟨by omega,rfl⟩ ?_;rintro⟨i,s⟩ ⟨h1,h2⟩;have hfb:=ao0 hw i;rw[←h2]at hfb;simp;apply gw<;>intro b
  ·obtain⟨t,ht⟩:=aO b;have hwt:=hw t (LY ht);have hm2:=dK (fun(s:Int) (t:Tri)=>s+t.w) 0 ht;rw[←h2]at hm2;simp[ht];refine nxb (i+1,s+t.w) ⟨by omega,hm2.symm⟩
  ·simp at b;rw[bJ b]at h2;simp;simp[hp,h2]
def gw3 (m:L2)(o:List Tri)(t:Tri):Int:=min (BX (at2 m t.a.toNat t.b.toNat)-BU o t.a t.b) (min (BX (at2 m t.a.toNat t.c.toNat)-BU o t.a t.c) (BX (at2 m t.b.toNat t.c.toNat)-BU o t.b t.c))
def VN (m:L2)(o:List Tri)(t:Tri):List Tri:=if 0<gw3 m o t then o++[⟨t.a,t.b,t.c,gw3 m o t⟩]else o
def amE (m:L2):List Tri:=(HV m).foldl (VN m) []
variable {k:Nat}
def ao6 (hm:bR m){o:List Tri}{t:Tri}(h:NU m k o)(ht:aaZ m.length t):NU m (k+1) (VN m o t):=by
 unfold VN;split
 ·rename_i hpos;have z1:=azZ (fun t ht=>(h.2 t ht).2.2.2.2.1) t.a t.b;have v1:=NV (iL hm t.a.toNat t.b.toNat);have hle:gw3 m o t<=1000:=by unfold gw3;omega
  refine⟨by have:=h.1;simp;omega,fun t' ht'=> ?_⟩;rcases k_List_mem_append.1 ht' with h2|h2
  ·exact h.2 t' h2
  ·rw[k_List_mem_singleton.1 h2];unfold aaZ at ht|-;simp only;omega
 ·exact⟨by have:=h.1;omega,h.2⟩
def ayB (hm:bR m):NU m 512 (amE m):=by
 have hb:=afG hm m.length;have h8:=dM hm
 have key:∀(L o:List Tri) (k:Nat),(∀t∈L,aaZ m.length t)->NU m k o->NU m (k+L.length) (L.foldl (VN m) o):=by
  intro L
  induction L with
  |nil=>intro o k _ h;exact h
  |cons t L ih=>
   intro o k hL h;have:=ih (VN m o t) (k+1) (fun t ht=>hL t (bC _ ht)) (ao6 hm h (hL t (by simp)));rw[k_List_foldl_cons,k_List_length_cons,show k+(L.length+1)=k+1+L.length by omega];exact this
 have h1:=key (HV m) [] 0 hb.2 ⟨by simp,by simp⟩;have hbl:(HV m).length<=64*m.length:=hb.1;exact⟨k_Nat_le_trans h1.1 (by omega),h1.2⟩
def QC (m:L2)(hm:bR m):Fk 269 [cK m] (wE (amE m)):=by
 refine fE [] ntmps269 fun _ _=> ?_;have hml:=dM hm;have hb:=afG hm m.length;have hgr:amE m=(HV m).foldl (VN m) []:=rfl;have hL512:(HV m).length<=512:=k_Nat_le_trans hb.1 (by omega);have hLt:∀t∈HV m,aaZ m.length t:=hb.2;simp;refine ck (RO m hm) ?_;clear hb;generalize HV m=L at*
 simp;refine wlt (Nat×List Tri) (fun(i,o)=>([(0,.val (cK m)),(3,wE o),(4,wE L),(5,vI i)],L.length-i,(i<=L.length)/\(o=(L.take i).foldl (VN m) [])/\(NU m i o))) ((0,[])) ⟨by omega,rfl,(⟨by simp,by simp⟩)⟩ ?_;rintro⟨i,o⟩ ⟨h1,h2,h3⟩;simp;apply gw<;>intro a
 ·obtain⟨t,ht⟩:=aO a;have hk0:=hLt t (LY ht);have hok:=ao6 hm h3 hk0;have hk:=hk0;unfold aaZ at hk;have hm2:=dK (VN m) [] ht;rw[←h2]at hm2;obtain⟨r,hr,hrb⟩:=lJ hm (i:=t.a.toNat) (k:=t.b.toNat);obtain⟨r',hr',hrc⟩:=lJ hm (i:=t.a.toNat) (k:=t.c.toNat);obtain rfl:r=r':=by rw[hr]at hr';exact k_Option_some_inj hr'
  obtain⟨q,hq,hqc⟩:=lJ hm (i:=t.b.toNat) (k:=t.c.toNat);have ha0:0<=t.a:=hk.1;have hb0:0<=t.b:=by omega
  have hc0:0<=t.c:=by omega
  have hol:=h3.1;have hwo:∀t∈o, -1000<=t.w/\t.w<=1000:=fun t ht=>by have:=h3.2 t ht;unfold aaZ at this;omega
  have hwo2:∀t∈o, -1048576<=t.w/\t.w<=1048576:=fun t ht=>by have:=hwo t ht;omega
  have u1:=aiM (by omega) hwo t.a t.b;have u2:=aiM (by omega) hwo t.a t.c;have u3:=aiM (by omega) hwo t.b t.c;have v1:=NV (iL hm t.a.toNat t.b.toNat);have v2:=NV (iL hm t.a.toNat t.c.toNat);have v3:=NV (iL hm t.b.toNat t.c.toNat);have hgw:min (BX (at2 m t.a.toNat t.b.toNat)-BU o t.a t.b) (min (BX (at2 m t.a.toNat t.c.toNat)-BU o t.a t.c) (BX (at2 m t.b.toNat t.c.toNat)-BU o t.b t.c))=gw3 m o t:=rfl;simp[ht];refine wdt 52 ?_;simp[hr,hrb,ha0,hb0];refine cd (oQ (at2 m t.a.toNat t.b.toNat) (by have:=iL hm t.a.toNat t.b.toNat;omega)) ?_;simp;refine cd (AX o t.a t.b (by omega) hwo2) ?_;simp[hr,hrc,ha0,hc0];refine ai ?_;refine cd (oQ (at2 m t.a.toNat t.c.toNat) (by have:=iL hm t.a.toNat t.c.toNat;omega)) ?_;simp;refine cd (AX o t.a t.c (by omega) hwo2) ?_;simp[hq,hqc,hb0,hc0];refine ai ?_;refine cd (oQ (at2 m t.b.toNat t.c.toNat) (by have:=iL hm t.b.toNat t.c.toNat;omega)) ?_;simp;refine cd (AX o t.b t.c (by omega) hwo2) ?_;simp[hgw];refine ai ?_;apply gw<;>intro f
  ·have hu:VN m o t=o++[⟨t.a,t.b,t.c,gw3 m o t⟩]:=if_pos f;rw[hu]at hok;simp;refine nxb (i+1,o++[⟨t.a,t.b,t.c,gw3 m o t⟩]) ⟨by omega,by rw[hm2,hu],hok⟩
  ·simp at f;have hu:VN m o t=o:=if_neg (by omega);rw[hu]at hok;simp;refine nxa (i+1,o) ⟨by omega,by rw[hm2,hu],hok⟩
 ·simp at a;rw[bJ a]at h2;simp;simp[hgr,←h2]
def aGS (m:L2)(x:L1)(l:List Tri):Int:=if xL m x<0\/aaF m l<0 then -1 else xL m x-aaF m l
def QE (m:L2)(x:L1)(l:List Tri)(hm:bR m)(hx:Qle x)(hl:Qle l)(hw:∀t∈l, -1048576<=t.w/\t.w<=1048576):Fk 268 [cK m,nInts x,J3 l] (vI (aGS m x l)):=by
 refine fE [] ntmps268 fun _ _=> ?_;have hml:=dM hm;have hp:=DD m x;have hq:=aED (m:=m) hw hl;have e1:(if bR m=true/\gD x=true/\x.length=m.length then dP m x else -1)=xL m x:=rfl;simp;refine ck ((e1▸nI m x (by omega) hx)) ?_;simp;refine ck (RX m l hm hl hw) ?_;simp;apply gv<;>intro a
 ·have a':=a;simp[a];grind[aGS]
 ·have a':=a;simp at a';simp[a];apply gw<;>intro d
  ·simp;grind[aGS]
  ·simp at d;have hg:aGS m x l=xL m x-aaF m l:=if_neg (by omega);simp[hg];simp only[inI];omega
abbrev VC (l:L1)(c:Int)(e:Bool)(g:Int):D:= .agg [bV l,dI c,dB e,dI g]
def ac1 (l:List Con)(items:L1):(iK l items).length<=l.length:=iQ _ _
def RQ (m:L2)(cs:List Con)(hm:bR m)(hcs:Qle cs):fA prog 176 [cK m,jO cs] (fun r'=>∃(c:Int) (e:Bool) (g:Int),r'= .tup [.own (VC (nX m cs) c e g),vB (eQ m.length cs)]):=by
 refine fE [22,23,29] ntmps176 fun _ _=> ?_;have hml:=dM hm;have ecs:(cO (m.length:Int) cs&&decide (xS m.length cs<0))=eQ m.length cs:=rfl;simp;refine ck (eT m) ?_;simp[hm];refine ck (FU m.length cs (by omega) hcs) ?_;simp[ecs];apply gw<;>intro a
 ·simp at a;have hcA:nX m cs=[]:=if_neg (by simp[a]);simp[hcA];omega
 ·simp at a;have hcc:eQ m.length cs:=by simpa using a
  have hcA:nX m cs=oG m cs:=if_pos hcc;have hac:=(jA.1 hcc).1;have hsp:=LF hm hac;simp;refine ck (U8 m cs (by omega) hcs) ?_;simp;refine ck (BK (dJ m cs) (by omega) (.inr hsp.2.1)) ?_;have hbs:∀v,v<(blocksP (dJ m cs)).length->QN m.length (gat (blocksP (dJ m cs)) v)/\1<=(gat (blocksP (dJ m cs)) v).length/\(gat (blocksP (dJ m cs)) v).length<=m.length:=fun v hv=>by have:=TL (isPart_iff.1 hsp.2.1).1 hv;rwa [hsp.2.2]at this
  have hcl:oG m cs=canon (ajO m cs (blocksP (dJ m cs))):=rfl;have hll:=aa9 m cs (blocksP (dJ m cs));have hbl:(blocksP (dJ m cs)).length<=m.length:=k_Nat_le_trans (blocksI (isPart_iff.1 hsp.2.1).1 (k_Nat_le_refl _)).len (Nat.le_of_eq hsp.2.2);generalize hbsg:blocksP (dJ m cs)=bs at hbs hcl hll hbl|-
  simp;refine ai ?_;refine wlt (Nat×L1×Bool) (fun(i,L,e)=>([(0,.val (cK m)),(1,vE cs),(4,.own (.bx true (VC [] 0 false 0))),(6,.own (nL bs)),(7,vS L),(8,.own (.bx true (VC [] 0 e 0))),(9,vI i)],bs.length-i,(i<=bs.length)/\(L=loopN i (List.replicate m.length 0) (IC m cs bs)))) ((0,List.replicate m.length 0,true)) ⟨by omega,rfl⟩ ?_;rintro⟨i,L,e⟩ ⟨h1,h2⟩;simp;apply gw<;>intro b
  ·have hr:=ah5 b;have hsel:=hbs i b;have hpt:=amV hm hcc hsel.1 hsel.2.1 hsel.2.2;have hok:=akW hpt;have hLl:L.length=m.length:=by rw[h2,BO (SS m cs bs)];simp
   generalize hit:gat bs i=items at hr hsel hpt hok|-
   have hsl:=hpt.len;simp[hr];refine ck (ZM m items hm hsel.1 (by omega)) ?_;simp[hr];refine ck (H5 cs items hcs (by omega)) ?_;have hmS:=hpt.mat;have hcS:eQ (kQ m items).length (iK cs items):=by rw[hsl];exact hpt.con
   have hrl:Qle (iK cs items):=by have:=ac1 cs items;omega
   have hst:=XY hmS (r:=iK cs items) (by rw[hsl];exact hpt.are);have hsO:mK (kQ m items) (iK cs items)=if keepP (iK cs items) (lS (kQ m items)).1=true then(lS (kQ m items)).1 else eH (kQ m items).length (iK cs items):=rfl
   have hpO:partOf m cs items=if 6<items.length then sD (kQ m items) (iK cs items) 100 (mK (kQ m items) (iK cs items))else(ac4 (kQ m items) (iK cs items)).best:=rfl
   have hbp:=V3 hmS;have hare:cO (kQ m items).length (iK cs items):=by rw[hsl];exact hpt.are
   generalize kQ m items=s at*
   generalize iK cs items=q at*
   simp;refine jL [] (vQ.trans (dQ 10) (dQ 11)) ?_;simp;refine ck (QA s q hmS hcS) ?_;simp;refine QJ (fun(e2:Bool)=>[(0,.val (cK m)),(1,vE cs),(4,.own (.bx true (VC [] 0 false 0))),(6,.own (nL bs)),(7,vS L),(8,.own (.bx true (VC [] 0 e2 0))),(9,vI i),(12,vN (partOf m cs items))]) (fun(e2:Bool)=>True) ?_ ?_
   ·simp[hr];apply gw<;>intro c
    ·simp;refine ck (ZG s hmS) ?_;simp;refine QJ (fun(_:Unit)=>[(0,.val (cK m)),(1,vE cs),(4,.own (.bx true (VC [] 0 false 0))),(6,.own (nL bs)),(7,vS L),(8,.own (.bx true (VC [] 0 false 0))),(9,vI i),(10,.val (cK s)),(11,vE q),(15,vN (mK s q))]) (fun(_:Unit)=>True) ?_ ?_
     ·simp;refine ck (sN (lS s).1 q (by omega) hrl) ?_;have hkO:(q.all (yZ (lS s).1)&&gD (lS s).1)=keepP q (lS s).1:=rfl;simp[hkO];apply gw<;>intro d
      ·simp at d;have hs1:mK s q=eH s.length q:=by rw[hsO];exact if_neg (by simpa using d)
       simp;refine ck (zL s.length q (by omega) hrl) ?_;have hs2:(if cO s.length q=true then eH s.length q else[])=eH s.length q:=if_pos hare;simp[hs2];refine jnc (()) [15] trivial (h3:=by simp[hm,ecs,hr,hkO,hs1,hs2])
      ·simp at d;have hs1:mK s q=(lS s).1:=by rw[hsO];exact if_pos (by simpa using d)
       simp;refine jnc (()) [15] trivial (h3:=by simp[hm,ecs,hr,hkO,hs1])
     rintro⟨⟩ -
     simp;refine eB (LQ s q (mK s q) (by omega) hrl (by omega)) (by simp) ?_;rintro r ⟨kk,rfl⟩;refine⟨by simp,?_⟩;have hp1:partOf m cs items=sD s q 100 (mK s q):=by rw[hpO];exact if_pos (by omega)
     simp;refine jnc (false) [12] trivial (h3:=by simp[hm,ecs,hr,hp1])
    ·simp at c;have hp1:partOf m cs items=(ac4 s q).best:=by rw[hpO];exact if_neg (by omega)
     simp;refine jnc (e) [12] trivial (h3:=by simp[hm,ecs,hr,hp1])
   rintro e2 -
   simp;refine wlt (Nat×L1) (fun(j,L')=>([(0,.val (cK m)),(1,vE cs),(4,.own (.bx true (VC [] 0 false 0))),(6,.own (nL bs)),(7,vS L'),(8,.own (.bx true (VC [] 0 e2 0))),(9,vI i),(12,vN (partOf m cs items)),(17,vI j)],items.length-j,(j<=items.length)/\(L'=loopN j L (aeD items (partOf m cs items) i)))) ((0,L)) ⟨by omega,rfl⟩ ?_;rintro⟨j,L'⟩ ⟨h5,h6⟩;simp[hr];apply gw<;>intro f
   ·have hg:=aY f;have hgx:=hsel.1.1 _ (aA hg);have hpl:j<(partOf m cs items).length:=by omega
    have hg2:=aY hpl;have hb2:=az9 hok.2 j hpl;have hLl2:L'.length=m.length:=by rw[h6,BO fun k l=>by simp[aeD]];exact hLl
    have hpu:aeD items (partOf m cs items) i j L'=L'.set (at1 items j).toNat (i*8+at1 (partOf m cs items) j):=rfl;have hput:(L'.map dI).set (at1 items j).toNat (D.one (.int .i64 ((i:Int)*8+at1 (partOf m cs items) j)))=(aeD items (partOf m cs items) i j L').map dI:=by rw[hpu,jB]
    have hb1:=(hok.2 j hpl).1;have ha0:0<=at1 items j:=hgx.1;obtain⟨u,hu⟩:=aO (l:=L') (i:=(at1 items j).toNat);generalize partOf m cs items=pp at*
    simp;refine wdt 16 ?_;simp[hr,hg,hg2,hu,ha0,hput];refine nxd (j+1,aeD items pp i j L') ⟨by omega,by rw[aM,←h6]⟩
   ·simp at f;obtain rfl:j=items.length:=by omega
    have hpA:IC m cs bs i L=L':=by rw[IC,hit,h6]
    simp;refine nxa (i+1,L',e2) ⟨by omega,by rw[aM,←h2,hpA]⟩
  ·simp at b;obtain rfl:i=bs.length:=by omega
   have hLc:canon L=oG m cs:=by rw[hcl,h2];rfl
   have hLl:L.length=m.length:=by rw[h2];exact hll
   have hcln:(oG m cs).length=m.length:=by rw[←hLc,qF,hLl]
   simp;refine ck (tY L (by omega)) ?_;have hpc:(if bR m=true/\gD (oG m cs)=true/\(oG m cs).length=m.length then dP m (oG m cs)else -1)=xL m (oG m cs):=rfl;simp[hLc];refine ck ((hpc▸nI m (oG m cs))) ?_;generalize oG m cs=X at*
   simp;apply gw<;>intro d
   ·simp at d;have hgr:=ayB hm;obtain rfl:e=false:=d;simp;refine wdf [(4,[128,129]),(7,[131,130,8,126,127])] [(0,.val (cK m)),(4,.own (.bx true (VC [] 0 false 0))),(8,.own (.bx true (VC X (xL m X) false 0)))] [] (by simp) ?_;simp;refine cf (QC m hm) ?_;simp;refine cd (QE m X (amE m) hm (by omega) (by have:=hgr.1;omega) (fun t ht=>by have:=hgr.2 t ht;unfold aaZ at this;omega)) ?_;simp;first|exact hcA|exact hcA.symm|exact⟨hcA.symm,hcc.symm⟩|simp[hcA,hcc]
   ·simp at d;obtain rfl:e=true:=d;simp;first|exact hcA|exact hcA.symm|exact⟨hcA.symm,hcc.symm⟩|simp[hcA,hcc]
def Q6 (m:L2)(cs:List Con)(hm:bR m)(hcs:Qle cs):fA prog 187 [cK m,jO cs] (fun r'=>∃(c:Int) (e:Bool) (g:Int),r'= .tup [.own (VC (nX m cs) c e g),vB (eQ m.length cs)]):=by
 refine fE [14] ntmps187 fun _ _=> ?_;have hml:=dM hm;simp;refine ck (WL m cs (by omega) (xX hm) hcs) ?_;simp[hm];apply gw<;>intro a
 ·simp at a;have hcA:nX m cs=[]:=if_neg (by simp[a]);have hcn:eQ m.length cs=false:=by simpa using a
  simp[hcA,hcn]
 ·simp at a;have hcc:eQ m.length cs:=by simpa using a
  have hcA:nX m cs=oG m cs:=if_pos hcc;have hac:=(jA.1 hcc).1;have hsp:=LF hm hac;simp[hcc];refine ai ?_;refine ck (UW m cs hcs hm hac) ?_;simp;refine ck (RI (dJ m cs) (by omega) (.inr hsp.2.1)) ?_;have hbs:∀v,v<(blocksP (dJ m cs)).length->QN m.length (gat (blocksP (dJ m cs)) v)/\1<=(gat (blocksP (dJ m cs)) v).length/\(gat (blocksP (dJ m cs)) v).length<=m.length:=fun v hv=>by have:=TL (isPart_iff.1 hsp.2.1).1 hv;rwa [hsp.2.2]at this
  have hcl:oG m cs=canon (ajO m cs (blocksP (dJ m cs))):=rfl;have hll:=aa9 m cs (blocksP (dJ m cs));have hbl:(blocksP (dJ m cs)).length<=m.length:=k_Nat_le_trans (blocksI (isPart_iff.1 hsp.2.1).1 (k_Nat_le_refl _)).len (Nat.le_of_eq hsp.2.2);generalize hbsg:blocksP (dJ m cs)=bs at hbs hcl hll hbl|-
  simp;refine wld [23] (Nat×L1×Bool) (fun(i,L,e)=>([(0,.val (cK m)),(1,vE cs),(4,.own (.bx true (VC [] 0 false 0))),(6,.own (.bx true (VC L 0 e 0))),(23,.val (cK bs)),(24,vI bs.length),(25,vI i)],bs.length-i,(i<=bs.length)/\(L=loopN i (List.replicate m.length 0) (IC m cs bs)))) ((0,List.replicate m.length 0,true)) ⟨by omega,rfl⟩ ?_;rintro⟨i,L,e⟩ ⟨h1,h2⟩;simp;apply gw<;>intro b
  ·have hr:=ah5 b;have hsel:=hbs i b;have hpt:=amV hm hcc hsel.1 hsel.2.1 hsel.2.2;have hok:=akW hpt;have hLl:L.length=m.length:=by rw[h2,BO (SS m cs bs)];simp
   generalize hit:gat bs i=items at hr hsel hpt hok|-
   simp[hr];refine wtc 6 [32,35] ?_;simp;refine ck (YU m items hm hsel.1 (by omega)) ?_;simp;refine ck (HZ cs items hcs (by omega)) ?_;have hsl:=hpt.len;have hrl:Qle (iK cs items):=by have:=ac1 cs items;omega
   have hpS:=aEF hpt;simp;refine ck (UY (kQ m items) (iK cs items) hpt.mat (by rw[hsl];exact hpt.con) hrl) ?_;simp[hpS];refine wlt (Nat×L1) (fun(j,L')=>([(0,.val (cK m)),(1,vE cs),(4,.own (.bx true (VC [] 0 false 0))),(6,.own (.bx true (VC L' 0 e 0))),(7,vI i),(8,vN items),(23,.val (cK bs)),(24,vI bs.length),(25,vI i),(36,vN (partOf m cs items)),(37,.val (dI (partOf m cs items).length)),(38,vI j)],items.length-j,(j<=items.length)/\(L'=loopN j L (aeD items (partOf m cs items) i)))) ((0,L)) ⟨by omega,rfl⟩ ?_;rintro⟨j,L'⟩ ⟨h5,h6⟩;simp;apply gw<;>intro f
   ·have hg:=aY (l:=items) (i:=j);have hgx:=hsel.1.1 _ (aA hg);have hpl:j<(partOf m cs items).length:=by omega
    have hg2:=aY hpl;have hb2:=az9 hok.2 j hpl;have hLl2:L'.length=m.length:=by rw[h6,BO fun k l=>by simp[aeD]];exact hLl
    have hpu:aeD items (partOf m cs items) i j L'=L'.set (at1 items j).toNat (i*8+at1 (partOf m cs items) j):=rfl;have hput:(L'.map dI).set (at1 items j).toNat (D.one (.int .i64 ((i:Int)*8+at1 (partOf m cs items) j)))=(aeD items (partOf m cs items) i j L').map dI:=by rw[hpu,jB]
    have hb1:=(hok.2 j hpl).1;have ha0:0<=at1 items j:=hgx.1;obtain⟨u,hu⟩:=aO (l:=L') (i:=(at1 items j).toNat);generalize partOf m cs items=pp at*
    simp[hg2];refine wdt 11 ?_;simp[hg,hu,ha0,hput];refine nxd (j+1,aeD items pp i j L') ⟨by omega,by rw[aM,←h6]⟩
   ·simp at f;obtain rfl:j=items.length:=by omega
    have hpA:IC m cs bs i L=L':=by rw[IC,hit,h6]
    simp;apply gv<;>intro g2
    ·have g2':=g2;simp[g2];refine ai ?_;refine nxc (i+1,L',decide ((items.length:Int)<=6)) [23] ⟨by omega,by rw[aM,←h2,hpA]⟩
    ·have g2':=g2;simp[g2];refine ai ?_;refine nxc (i+1,L',false) [23] ⟨by omega,by rw[aM,←h2,hpA]⟩
  ·simp at b;obtain rfl:i=bs.length:=by omega
   have hLc:canon L=oG m cs:=by rw[hcl,h2];rfl
   have hLl:L.length=m.length:=by rw[h2];exact hll
   have hcln:(oG m cs).length=m.length:=by rw[←hLc,qF,hLl]
   simp;refine ck (tO L (by omega)) ?_;simp[hLc];refine ck (kL m (oG m cs) hm hcln) ?_;generalize oG m cs=X at*
   simp;apply gw<;>intro d
   ·simp at d;simp;refine wdx [0,3] (.st 1 (.st 2 (.st 4 (.st 5 (.st 6 (.st 7 OT.fin OT.no) OT.no) OT.no) OT.no) (.st 4 (.st 2 (.st 5 (.st 6 (.st 7 OT.fin OT.no) OT.no) OT.no) OT.no) OT.no)) (.st 4 (.st 1 (.st 2 (.st 5 (.st 6 (.st 7 OT.fin OT.no) OT.no) OT.no) OT.no) OT.no) OT.no)) ?_;simp;refine⟨⟨?_,?_⟩,?_⟩
    ·repeat with_reducible refine ai ?_
     refine eB (wT m hm) (by simp) ?_;rintro r ⟨lT,rfl,hT1,hT2⟩;refine⟨by simp,?_⟩;simp;refine eB (wX m X lT hm (by omega) hT1 hT2) (by simp) ?_;rintro r ⟨gg,rfl⟩;refine⟨by simp,?_⟩;simp[hcc];grind
    ·repeat with_reducible refine ai ?_
     refine eB (wT m hm) (by simp) ?_;rintro r ⟨lT,rfl,hT1,hT2⟩;refine⟨by simp,?_⟩;simp;refine eB (wX m X lT hm (by omega) hT1 hT2) (by simp) ?_;rintro r ⟨gg,rfl⟩;refine⟨by simp,?_⟩;simp[hcc];grind
    ·repeat with_reducible refine ai ?_
     refine eB (wT m hm) (by simp) ?_;rintro r ⟨lT,rfl,hT1,hT2⟩;refine⟨by simp,?_⟩;simp;refine eB (wX m X lT hm (by omega) hT1 hT2) (by simp) ?_;rintro r ⟨gg,rfl⟩;refine⟨by simp,?_⟩;simp[hcc];grind
   ·simp at d;simp[hcc];grind
def rZ (r:List (List Tst))(hs:Qle r:=by first|omega|grind)(hr:∀l∈r,Qle l:=by first|omega|grind):Fk 213 [nD r] (vB (jH r)):=by
 refine fE [] ntmps213 fun _ _=> ?_;simp;refine wlt Nat (fun i=>([(1,.own (.bx true (nD r))),(3,vI i)],r.length-i,(i<=r.length)/\((r.take i).all jE=true))) (0) ⟨by omega,rfl⟩ ?_;rintro i ⟨h1,h2⟩;simp;apply gw<;>intro a
 ·obtain⟨c,hc⟩:=aO (l:=r) (i:=i);have hcl:=hr c (aA hc);simp[hc];refine wlt Nat (fun k=>([(1,.own (.bx true (nD r))),(3,vI i),(4,.val (.sl none (c.map uP))),(5,vI k)],c.length-k,(k<=c.length)/\((c.take k).all KC=true)/\(adj (fun a b=>decide (a.feature<b.feature)) (c.take k)=true))) (0) ⟨by omega,rfl,rfl⟩ ?_;rintro k ⟨h1k,h2k,h3k⟩;simp;apply gw<;>intro ak
  ·obtain⟨ck,hck⟩:=aO (l:=c) (i:=k);simp;refine wdr ?_;simp[hck];refine cd (bH _ _ _) ?_;simp;apply gv<;>intro e
   ·have e':=e;simp at e';have hn:=fV hc (P:=jE) (by have:=fV hck (P:=KC) (by simp[KC];omega);simp[jE,this]);simp[e];grind[jH]
   ·have e':=e;simp at e';simp[hck,e];refine cd (bH _ _ _) ?_;simp;apply gv<;>intro f
    ·have f':=f;simp at f';have hn:=fV hc (P:=jE) (by have:=fV hck (P:=KC) (by simp[KC];omega);simp[jE,this]);simp[f];grind[jH]
    ·have f':=f;simp at f';simp[f];apply gv<;>intro g
     ·have g':=g;obtain⟨p,hp⟩:=aO (l:=c) (i:=k-1);have hi1:k-1+1=k:=by omega
      simp[hck,g,hp];iterate 2 refine ai ?_
      apply gw<;>intro b
      ·have hn:=fV hc (P:=jE) (by have:=LJ hp (by rw[hi1];exact hck) (R:=fun a b=>decide (a.feature<b.feature)) (by simp;omega);simp[jE,this]);simp;grind[jH]
      ·simp at b;simp;refine nxa (k+1) ⟨by omega,(bW hck h2k (by simp[KC];omega)),by have:=zX (i:=k-1) (by rw[hi1];exact h3k) hp (by rw[hi1];exact hck) (by simp;omega);rwa [hi1]at this⟩
     ·have g':=g;simp at g';simp[g];refine nxa (k+1) ⟨by omega,(bW hck h2k (by simp[KC];omega)),(by obtain rfl:k=0:=(by omega);exact wO)⟩
  ·simp at ak;have hfk:=iX h2k ak;rw[bJ ak]at h3k;simp;refine ck (bH _ _ _) ?_;simp;apply gw<;>intro b
   ·simp at b;have hn:=fV hc (P:=jE) (by simp[jE,hfk,h3k];omega);simp;grind[jH]
   ·simp at b;simp;refine nxa (i+1) ⟨by omega,(bW hc h2 (by simp[jE,hfk,h3k];omega))⟩
 ·simp at a;have hf:=iX h2 a;simp;refine ck (bH _ _ _) ?_;simp;grind[jH]
def QD (c:Cfg)(hs:Qle c.rules)(hr:∀l∈c.rules,Qle l)(hw:Qle c.sco.weights)(hv:Qle c.surv):Fk 170 [ai6 c] (vB (kR c)):=by
 refine fE [] ntmps170 fun _ _=> ?_;simp;refine ck (rZ _) ?_;simp;apply gv<;>intro g1
 ·have g1':=g1;simp[g1];refine ck (pR _) ?_;simp;apply gv<;>intro g2
  ·have g2':=g2;simp[g2];refine ck (AA _) ?_;simp;grind[kR]
  ·have g2':=g2;simp[g2];grind[kR]
 ·have g1':=g1;simp[g1];grind[kR]
def FV (s:Sto)(hs:Qle s.recs:=by first|omega|grind)(hr:∀r∈s.recs,zW r:=by first|omega|grind)(hv:Qle s.vers:=by first|omega|grind):Fk 171 [XM s] (vB (iW s)):=by
 refine fE [] ntmps171 fun _ _=> ?_;simp;refine wlt Nat (fun i=>([(1,.own (.bx true (XM s))),(3,vI i)],(s.recs).length-i,(i<=(s.recs).length)/\((s.recs.take i).all aV=true)/\(adj (fun a b=>decide (jQ a<jQ b)) (s.recs.take i)=true))) (0) ⟨by omega,rfl,rfl⟩ ?_;rintro i ⟨h1,h2,h3⟩;simp;apply gw<;>intro a
 ·obtain⟨c,hc⟩:=aO (l:=s.recs) (i:=i);simp;refine wdr ?_;simp[hc];refine cd (nH _ (hr c (aA hc))) ?_;simp;apply gv<;>intro e
  ·have e':=e;simp at e';have hn:=fV hc (P:=aV) (by simpa using e);simp[e];grind[iW]
  ·have e':=e;simp at e';simp[e];apply gv<;>intro f
   ·have f':=f;obtain⟨p,hp⟩:=aO (l:=s.recs) (i:=i-1);have hi1:i-1+1=i:=by omega
    have hvp:aV p:=aH.1 h2 p (by apply aA (i:=i-1);rw[bD,if_pos (by omega)];exact hp);have hk1:inR p.source 0 3=true/\inR p.key 1 99:=by simp only[aV,k_Bool_and_eq_true]at hvp;exact⟨hvp.1.1.1.2,hvp.1.1.2⟩
    have hk2:inR c.source 0 3=true/\inR c.key 1 99:=by simp only[aV,k_Bool_and_eq_true]at e';exact⟨e'.1.1.1.2,e'.1.1.2⟩
    simp[f,hp];iterate 2 refine ai ?_
    refine cd (yM p hk1.1 hk1.2) ?_;simp[hc];refine cd (yM c hk2.1 hk2.2) ?_;simp;apply gw<;>intro b
    ·have hn:=LJ hp (by rw[hi1];exact hc) (R:=fun a b=>decide (jQ a<jQ b)) (by simp;omega);simp;grind[iW]
    ·simp at b;simp;refine nxa (i+1) ⟨by omega,(bW hc h2 (by simpa using e)),by have:=zX (i:=i-1) (by rw[hi1];exact h3) hp (by rw[hi1];exact hc) (by simp;omega);rwa [hi1]at this⟩
   ·have f':=f;simp at f';simp[f];refine nxa (i+1) ⟨by omega,(bW hc h2 (by simpa using e)),(by obtain rfl:i=0:=(by omega);exact wO)⟩
 ·simp at a;have hf:=iX h2 a;rw[bJ a]at h3;simp;refine ck (bH _ _ _) ?_;simp;apply gv<;>intro g1
  ·have g1':=g1;simp at g1';simp[g1];apply gv<;>intro g2
   ·have g2':=g2;simp[g2];refine ck (zK _) ?_;simp;grind[iW]
   ·have g2':=g2;simp at g2';simp[g2];grind[iW]
  ·have g1':=g1;simp at g1';simp[g1];grind[iW]
def WX (s:Sto)(hs:Qle s.recs)(hr:∀r∈s.recs,zW r)(hv:Qle s.vers)(hvs:iW s):Fk 173 [XM s] (vS (s.recs.map jQ)):=by
 refine fE [] ntmps173 fun _ _=> ?_;simp;refine wl (fun(i:Nat)=>[(1,.own (.bx true (XM s))),(3,vS ((s.recs.take i).map jQ)),(4,vI i)]) (fun(i:Nat)=>s.recs.length-i) (fun(i:Nat)=>(i<=s.recs.length)) (0) (by omega) ?_;rintro i h1;simp;apply gv<;>intro a
 ·have a':=a;simp[a];refine ck (FV _) ?_;obtain⟨c,hc⟩:=aO (l:=s.recs) (i:=i);have hvr:s.recs.all aV:=by simp only[iW,k_Bool_and_eq_true]at hvs;exact hvs.1.1.1.1
  have hvc:=aH.1 hvr c (aA hc);have hk:inR c.source 0 3=true/\inR c.key 1 99:=by simp only[aV,k_Bool_and_eq_true]at hvc;exact⟨hvc.1.1.1.2,hvc.1.1.2⟩
  have hm:=uI jQ hc;simp[hvs,hc];refine ck (yM c hk.1 hk.2) ?_;simp;refine nxb (i+1) (by first|omega|(simp;omega)|grind) (h3:=by simp[hvs,hc,hm])
 ·have a':=a;simp at a';rw[bJ (by simp;omega)];simp[a]
variable {out:List Ver}{c:Ver}
def acJ (h:out=[]):rW out c=out++[c]:=by subst h;rfl
def afY {p:Ver}(h:out[out.length-1]?=some p):rW out c=if p.a≠c.a\/p.b≠c.b then out++[c]else if p.time<c.time then out.set (out.length-1) c else out:=by unfold rW;rw[h]
def M8 (l:List Ver)(hs:Qle l)(hv:lI l):Fk 247 [nVers l] (wV (gY l)):=by
 refine fE [] ntmps247 fun _ _=> ?_;simp;refine wlt (Nat×List Ver) (fun(i,out)=>([(0,vV l),(3,wV out),(4,vI i)],l.length-i,(i<=l.length)/\(out=(l.take i).foldl rW [])/\(out.length<=i))) ((0,[])) ⟨by omega,rfl,by simp⟩ ?_;rintro⟨i,out⟩ ⟨h1,h2,h3⟩;simp;apply gv<;>intro a
 ·have a':=a;simp[a];refine ck (zK _) ?_;obtain⟨c,hc⟩:=aO (l:=l) (i:=i);have hm:=dK rW [] hc;rw[←h2]at hm;simp[hv];refine wdt 30 ?_;simp;apply gv<;>intro e
  ·have e':=e;have hm2:=acJ (c:=c) e;simp[hc,e];refine nxa (i+1,out++[c]) ⟨by omega,by rw[hm,hm2],by simp;omega⟩ (h3:=by simp[hv,hc,e])
  ·have e':=e;have hpos:0<out.length:=kM.2 e;obtain⟨p,hp⟩:=aO (l:=out) (i:=out.length-1);have hm2:=afY (c:=c) hp;simp[hc,e,hp];iterate 2 refine ai ?_
   apply gv<;>intro f
   ·have f':=f;simp[hc,f];refine nxb (i+1,out++[c]) ⟨by omega,by rw[hm,hm2,if_pos (.inl f)],by simp;omega⟩
   ·have f':=f;simp[hc,hp,f];iterate 2 refine ai ?_
    apply gw<;>intro g
    ·simp[hc];refine nxb (i+1,out++[c]) ⟨by omega,by rw[hm,hm2,if_pos (.inr g)],by simp;omega⟩
    ·simp;refine wdt 12 ?_;simp[hc,hp,f];iterate 2 refine ai ?_
     apply gw<;>intro b
     ·simp[hc,hp,f];refine nxd (i+1,out.set (out.length-1) c) ⟨by omega,by rw[hm,hm2,if_neg (by simp_all),if_pos b],by simp;omega⟩
     ·simp at b;simp;refine nxa (i+1,out) ⟨by omega,by rw[hm,hm2,if_neg (by simp_all),if_neg (by omega)],by omega⟩
 ·have a':=a;simp at a';have hi:i=l.length:=by omega
  subst hi;rw[bS]at h2;simp[a];grind[gY]
def JM (l:List Ver)(items:L1)(hs:Qle l:=by first|omega|grind)(hi:Qle items:=by first|omega|grind):Fk 255 [nVers l,nInts items] (wG (IK l items)):=by
 refine fE [] ntmps255 fun _ _=> ?_;simp;refine wlt (Nat×List Con) (fun(i,out)=>([(0,vV l),(1,vN items),(5,wG out),(6,vI i)],l.length-i,(i<=l.length)/\(out=(l.take i).filterMap (KD items))/\(out.length<=i))) ((0,[])) ⟨by omega,rfl,by simp⟩ ?_;rintro⟨i,out⟩ ⟨h1,h2,h3⟩;simp;apply gw<;>intro a
 ·obtain⟨c,hc⟩:=aO (l:=l) (i:=i);have hm:=lV (KD items) hc;rw[←h2]at hm;simp[hc];refine ck (mZ _ _) ?_;simp[hc];refine ck (mZ _ _) ?_;simp;apply gv<;>intro e
  ·have e':=e;simp[e];apply gw<;>intro b
   ·have hv:KD items c=some ⟨place items c.a,place items c.b,c.same⟩:=if_pos ⟨by omega,by omega⟩;simp[hc];refine nxb (i+1,out++[⟨place items c.a,place items c.b,c.same⟩]) ⟨by omega,by rw[hm,hv];rfl,by simp;omega⟩
   ·simp at b;have hv:KD items c=none:=if_neg (by rintro⟨h1,h2⟩;unfold place at h1 h2;omega);simp;refine nxa (i+1,out) ⟨by omega,by rw[hm,hv];simp,by omega⟩
  ·have e':=e;simp at e';have hv:KD items c=none:=if_neg (by rintro⟨h1,h2⟩;unfold place at h1 h2;omega);simp[e];refine nxa (i+1,out) ⟨by omega,by rw[hm,hv];simp,by omega⟩
 ·simp at a;rw[bJ a]at h2;simp;grind[IK]
def MP (l:List Ver)(hs:Qle l)(hv:lI l):Fk 277 [nVers l] (wV (gY l)):=by
 refine fE [] ntmps277 fun _ _=> ?_;simp;refine ck (GV l) ?_;simp[hv];refine wlt (Nat×List Ver) (fun(i,out)=>([(3,wV out),(10,vV l),(11,vI l.length),(12,vI i)],l.length-i,(i<=l.length)/\(out=(l.take i).foldl rW [])/\(out.length<=i))) ((0,[])) ⟨by omega,rfl,by simp⟩ ?_;rintro⟨i,out⟩ ⟨h1,h2,h3⟩;simp;apply gw<;>intro a
 ·obtain⟨c,hc⟩:=aO (l:=l) (i:=i);have hm:=dK rW [] hc;rw[←h2]at hm;simp[hc];refine ai ?_;refine wdt 22 ?_;simp;apply gv<;>intro e
  ·have e':=e;have he:out=[]:=k_List_length_eq_zero_iff.1 (by omega);have hm2:=acJ (c:=c) he;simp[e];refine nxb (i+1,out++[c]) ⟨by omega,by rw[hm,hm2],by simp;omega⟩
  ·have e':=e;simp at e';have hpos:0<out.length:=by omega
   obtain⟨p,hp⟩:=aO (l:=out) (i:=out.length-1);have hm2:=afY (c:=c) hp;simp[e,hp];refine ai ?_;apply gv<;>intro f
   ·have f':=f;simp[f];refine nxb (i+1,out++[c]) ⟨by omega,by rw[hm,hm2,if_pos (.inl (by simpa using f))],by simp;omega⟩
   ·have f':=f;simp[hp,f];refine ai ?_;apply gw<;>intro g
    ·simp;refine nxb (i+1,out++[c]) ⟨by omega,by rw[hm,hm2,if_pos (.inr (by simpa using g))],by simp;omega⟩
    ·simp;refine wdt 8 ?_;simp[hp,f];refine ai ?_;apply gw<;>intro b
     ·simp[hp,f];refine nxb (i+1,out.set (out.length-1) c) ⟨by omega,by rw[hm,hm2,if_neg (by simp_all),if_pos b],by simp;omega⟩
     ·simp at b;simp;refine nxa (i+1,out) ⟨by omega,by rw[hm,hm2,if_neg (by simp_all),if_neg (by omega)],by omega⟩
 ·simp at a;rw[bJ a]at h2;have ho:gY l=out:=h2.symm;simp[ho]
variable {α:Type}
def cfB (cf:α->α->Int)(v c:α):Bool:=decide (cf v c<0)
def srt (cf:α->α->Int)(l:List α)(i:Nat):List α:=iD (cfB cf) (l.take i)
def XX (cf:α->α->Int)(l:List α)(i:Nat):List α:=srt cf l i++l.drop i
def GA (cf:α->α->Int)(l:List α)(i j:Nat)(v:α):List α:=EZ (cfB cf) l i j v
def am6 {cf:α->α->Int}{l:List α}{c:α}(h:(srt cf l i)[k]?=some c):c∈l:=by
 have h1:=(CV (cfB cf) (l.take i) []).mem_iff (a:=c);rw[iV]at h1;exact eU (h1.1 (aA h))
def aiG (cf:α->α->Int)(l:List α):XX cf l 1=l:=by
 cases l with
 |nil=>rfl
 |cons x l=>rfl
def aiF (cf:α->α->Int){l:List α}(h:l.length<=i:=by omega):XX cf l i=iD (cfB cf) l:=by unfold XX srt;rw[k_List_take_of_length_le h,bX h,dW]
def ab4 (f:α->D){cf:α->α->Int}{l:List α}{j:Nat}{v c:α}(hi:i<l.length)(hj:0<j/\j<=i)(hc:(srt cf l i)[j-1]?=some c):(((GA cf l i j v).map f).set j (f c)).set (j-1) (f v)=(GA cf l i (j-1) v).map f:=by
 rw[←List.map_set,←List.map_set];have:=azN (p:=cfB cf) (j:=j-1) (v:=v) hi (by omega) hc;rw[show j-1+1=j by omega]at this;exact congrArg _ this
def aBP (l:List Ver)(cf:Ver->Ver->Int)(g:FuncId)(E:Dv.Enters prog g)(U:T (1000000+g)=⟨.no,0,.any 0⟩)(G:∀a∈l,∀b∈l,fA prog g [kK a,kK b] (fun r=>r=vI (cf a b)))(hl:Qle l):D8 prog 421 [.one (.bool false),dI 0,dI l.length,.one (.func (.func g) #[] #[])] 0 (oVers l) (fun r d=>r= .tup []/\d=oVers (iD (cfB cf) l)):=by
 refine fM [] ntmps421 fun w0 ow0 v0=> ?_;have h00:=aiG cf l;simp;refine ai ?_;refine wl (fun(i:Nat)=>[(0,wV (XX cf l i)),(1,vI 0),(2,vI l.length),(3,.val (.one (.func (.func g) #[] #[]))),(8,vI i)]) (fun(i:Nat)=>l.length-i) (fun(i:Nat)=>(1<=i/\i<=l.length+1)) (1) (by omega) ?_ (h0:=by simp[E,U,h00]);rintro i h1;simp;apply gw<;>intro a
 ·obtain⟨v,hv⟩:=aO (l:=l) (i:=i);have hin:GA cf l i i v=XX cf l i:=am4 (p:=cfB cf) hv;have hsl:=xY (p:=cfB cf) (l:=l) (i:=i);simp;refine wlt Nat (fun j=>([(0,wV (GA cf l i j v)),(1,vI 0),(2,vI l.length),(3,.val (.one (.func (.func g) #[] #[]))),(8,vI i),(9,vI j)],j,(j<=i)/\(∀k c,j<=k->(srt cf l i)[k]?=some c->cfB cf v c=true))) (i) ⟨by omega,(fun k c hk hc=>absurd (dH hc) (by unfold srt;omega))⟩ ?_ (h0:=by simp[E,U,h00,hin]);rintro j ⟨h2,h3⟩;have hnow:(GA cf l i j v)[j]?=some v:=ah8 a h2;simp;refine wdt 14 ?_;simp;apply gv<;>intro e
  ·have e':=e;obtain⟨c,hc⟩:=aO (l:=srt cf l i) (i:=j-1) (by unfold srt;omega);have hprev:(GA cf l i j v)[j-1]?=some c:=by have:=ab3 (p:=cfB cf) (v:=v) a (show j-1<i by omega) hc;rwa [show j-1+1=j by omega]at this
   have hj1:((j:Int)-1).toNat=j-1:=by omega
   have hsw:=ab4 kK (v:=v) a ⟨by omega,h2⟩ hc;have hs2:∀x:D,(((GA cf l i j v).map kK).set j x)[j-1]?=some (kK c):=fun x=>by rw[bI (by omega),aS,hprev];rfl
   have hj2:(j:Int)-1=((j-1:Nat):Int):=by omega
   simp[E,U,e,hnow,hprev,hj2];refine ai ?_;refine ck ((G v (aA hv) c (am6 hc))) ?_;simp;apply gw<;>intro b
   ·simp;refine wdh [2,3] [(15,[51,46,0,37,39,42,45,47,49,50]),(17,[52,50,0,37,39,42,45,46,47,49,51])] [(0,wV (GA cf l i j v)),(1,vI 0),(2,vI l.length),(3,.val (.one (.func (.func g) #[] #[]))),(8,vI i),(9,vI j),(39,.al 0 []),(40,vI j)] [] ?_;simp[hnow,hprev,hsw,hs2,hj2];refine ai ?_;refine nx (j-1) ⟨by omega,(fun k c2 hk hc2=>by by_cases hkj:k=j-1;(subst hkj;rw[hc]at hc2;cases hc2;exact decide_eq_true b);exact h3 k c2 (by omega) hc2)⟩
   ·simp at b;have ho:GA cf l i j v=XX cf l (i+1):=NQ hv h2 h3 (.inr ⟨c,hc,by unfold cfB;exact decide_eq_false (by omega)⟩);simp[ho];refine nxa (i+1) (by omega)
  ·have e':=e;simp at e';have ho:GA cf l i j v=XX cf l (i+1):=NQ hv h2 h3 (.inl (by omega));simp[e,ho];refine nxa (i+1) (by omega)
 ·simp at a;have ho:=aiF cf (l:=l) (i:=i);simp[ho]
end Go.Proofs.YtebopbncplpdgaaGreatDoor
end
section
namespace Go.Proofs.YtebopbncplpdgaaGreatDoor
open Go.Dv Go.Pl Go.RowKit Go.Proofs.Tryz
def Q3 (n:Nat)(hn:n<=1048576:=by omega):fA prog 202 [.one (.int .u64 n)] (fun r=>r=vI (Lib.bitLen n)):=
 FR (u:= .int .i64 (Lib.bitLen n)) rfl fun w ow vs hL hs ha=>by
  obtain rfl:=aa4 hs ha;have:=Tryz.bits_Len n w (by omega) (by omega);exact this.mono fun e w' h=>⟨h.1,h.2▸Below.refl _ _⟩
def ax5 (l:List Ver)(cf:Ver->Ver->Int)(g:FuncId)(E:Dv.Enters prog g)(U:T (1000000+g)=⟨.no,0,.any 0⟩)(G:∀a∈l,∀b∈l,fA prog g [kK a,kK b] (fun r=>r=vI (cf a b)))(hl:l.length<=12):D8 prog 361 [.one (.bool false),dI l.length,.one (.func (.func g) #[] #[])] 0 (oVers l) (fun r d=>r= .tup []/\d=oVers (iD (cfB cf) l)):=by
 refine fM [] ntmps361 fun w0 ow0 v0=> ?_;have hlt:¬(20:Int)<=l.length:=by omega
 have hlt2:¬(20:Int)<l.length:=by omega
 simp;refine wl (fun(i:Nat)=>[(0,wV l),(1,vI l.length),(2,.val (.one (.func (.func g) #[] #[]))),(6,vI 20),(7,vI 0),(8,vI 20)]) (fun(i:Nat)=>0) (fun(i:Nat)=>(i=0)) (0) (rfl) ?_;rintro i h1;simp[hlt];refine eO rfl (aBP l cf g E U G (by omega)) ?_;rintro r d ⟨rfl,rfl⟩;simp;refine wl (fun(j:Nat)=>[(0,wV (iD (cfB cf) l)),(1,vI l.length),(2,.val (.one (.func (.func g) #[] #[]))),(6,vI 20)]) (fun(j:Nat)=>0) (fun(j:Nat)=>(j=0)) (0) (rfl) ?_;rintro j h2;simp[hlt2]
def atD (l:List Ver)(cf:Ver->Ver->Int)(g:FuncId)(E:Dv.Enters prog g)(U:T (1000000+g)=⟨.no,0,.any 0⟩)(G:∀a∈l,∀b∈l,fA prog g [kK a,kK b] (fun r=>r=vI (cf a b)))(hl:l.length<=12):D8 prog 278 [.one (.bool false),.one (.func (.func g) #[] #[])] 0 (oVers l) (fun r d=>r= .tup []/\d=oVers (iD (cfB cf) l)):=by
 refine fM [] ntmps278 fun w0 ow0 v0=> ?_;simp;refine eO rfl (ax5 l cf g E U G hl) ?_;rintro r d ⟨rfl,rfl⟩;simp
def aJ3 (l:List Ver)(k:Int)(cf:Ver->Ver->Int)(g:FuncId)(E:Dv.Enters prog g)(U:T (1000000+g)=⟨.no,0,.any 0⟩)(G:∀a∈l,∀b∈l,fA prog g [kK a,kK b] (fun r=>r=vI (cf a b)))(hl:l.length<=12):D8 prog 364 [.one (.bool false),dI 0,dI l.length,dI k,.one (.func (.func g) #[] #[])] 0 (oVers l) (fun r d=>r= .tup []/\d=oVers (iD (cfB cf) l)):=by
 refine fM [] ntmps364 fun w0 ow0 v0=> ?_;simp;refine wl (fun(i:Nat)=>[(0,wV l),(1,vI 0),(2,vI l.length),(3,vI k),(4,.val (.one (.func (.func g) #[] #[])))]) (fun(i:Nat)=>0) (fun(i:Nat)=>(i=0)) (0) (rfl) ?_;rintro i h1;have hlt:(l.length:Int)<=12:=by omega
 simp[hlt];refine ai ?_;refine eO rfl (aBP l cf g E U G (by omega)) ?_;rintro r d ⟨rfl,rfl⟩;simp
def aoZ (l:List Ver)(cf:Ver->Ver->Int)(g:FuncId)(E:Dv.Enters prog g)(U:T (1000000+g)=⟨.no,0,.any 0⟩)(G:∀a∈l,∀b∈l,fA prog g [kK a,kK b] (fun r=>r=vI (cf a b)))(hl:l.length<=12):D8 prog 282 [.one (.bool false),.one (.func (.func g) #[] #[])] 0 (oVers l) (fun r d=>r= .tup []/\d=oVers (iD (cfB cf) l)):=by
 refine fM [] ntmps282 fun w0 ow0 v0=> ?_;have hw:IntKind.u64.wrap (l.length:Int)=l.length:=by simp[IntKind.wrap,IntKind.bits,IntKind.signed];omega
 simp[hw];refine ck (Q3 l.length) ?_;simp;refine eO rfl (aJ3 l (Lib.bitLen l.length) cf g E U G hl) ?_;rintro r d ⟨rfl,rfl⟩;simp
def MW (a b:Ver):Fk 279 [kK a,kK b] (vI (cmpI b.time a.time)):=by
 refine fE [] ntmps279 fun _ _=> ?_;simp;refine ck (kW _ _) ?_;simp
def alT (l:List Ver):iD (cfB fun a b:Ver=>cmpI b.time a.time) l=uU l:=by
 have:(cfB fun a b:Ver=>cmpI b.time a.time)=EX:=by
  funext v u;unfold cfB EX cmpI;rw[bM,decide_eq_true_eq,decide_eq_true_eq];show(if u.time<v.time then(-1:Int)else if u.time>v.time then 1 else 0)<0↔_;split
  ·exact⟨fun _=>by assumption,fun _=>by omega⟩
  ·rename_i h1;constructor
   ·intro h;split at h<;>omega
   ·intro h;exact absurd h h1
 unfold iD uU;rw[this]
def VU (l:List Ver):iD (cfB gP) l=iH l:=by
 have:cfB gP=uG:=by
  funext v u;unfold cfB uG;rw[bM,decide_eq_true_eq,decide_eq_true_eq,QX];omega
 unfold iD iH;rw[this]
end Go.Proofs.YtebopbncplpdgaaGreatDoor
end
section
namespace Go
def yB:= @List.map_replicate
end Go
end
section
namespace Go.Proofs.YtebopbncplpdgaaGreatDoor
open Go.Dv Go.Pl Go.RowKit Go.Proofs.Tryz
def lk0 (i:Nat):L1:=(List.range i).map (fun(k:Nat)=>(k:Int))++List.replicate (400-i) 0
def aCU:lk0 0=List.replicate 400 0:=rfl
def aG7:lk0 400=C8:=by simp[lk0,C8]
variable {i:Nat}
def amN (h:i<=400:=by omega):(lk0 i).length=400:=by simp[lk0];omega
def aG9 (h:i<400):((lk0 i).map dI).set i (dI (i:Int))=(lk0 (i+1)).map dI:=by
 rw[←List.map_set];congr 1;unfold lk0;rw[gV _ _ (by simp),show(List.map (fun(k:Nat)=>(k:Int)) (List.range i)).length=i by simp,cB,show 400-i=(400-(i+1))+1 by omega,fU,eG,dN,fH,bP];rfl
def aG8 (h:i<400):(lk0 i)[i]?=some 0:=by
 unfold lk0;rw[aN (by simp),show(List.map (fun(k:Nat)=>(k:Int)) (List.range i)).length=i by simp,cB,show 400-i=(400-(i+1))+1 by omega,fU];rfl
def lkm (o:L1)(f:Int->Int)(k:Nat):L1:=(o.take k).map f++o.drop k
def av0 (o:L1)(f:Int->Int)(k:Nat):(lkm o f k).length=o.length:=by simp[lkm];omega
variable {o:L1}{f:Int->Int}{k:Nat}
def aCV (h:k<o.length):(lkm o f k)[k]?=some (at1 o k):=by
 unfold lkm;rw[aN (by simp;omega),aQ,dD,fP (by omega),cB,dX,kP];exact aY h
def av1 (h:k<o.length):(lkm o f k).set k (f (at1 o k))=lkm o f (k+1):=by
 have hg:=aY h;unfold lkm;have hd:o.drop k=at1 o k::o.drop (k+1):=by rw[aW h];rw[aB h]at hg;rw[k_Option_some_inj hg]
 rw[gV _ _ (by simp;omega),aQ,dD,fP (by omega),cB,hd,eG,dE hg,fH,bP];rfl
def aCW (h:k<o.length)(hf:f (at1 o k)=at1 o k):lkm o f k=lkm o f (k+1):=by
 rw[←av1 h,hf];apply kF;intro m;by_cases hm:k=m
 ·subst hm;rw[aCV h,bG (by rw[av0];exact h)]
 ·rw[bI hm]
def aCX (o:L1)(f:Int->Int):lkm o f 0=o:=rfl
def aHA (f:Int->Int):lkm o f o.length=o.map f:=by simp[lkm]
def wM (l:L1)(i:Nat):D.ws (List.take i (l.map dI))=min i l.length:=by
 have h:∀l:L1,D.ws (l.map dI)=l.length:=fun l=>by
  induction l with
  |nil=>rfl
  |cons x l ih=>simp only[fI,D.ws,D.w,ih,k_List_length_cons];omega
 rw[←List.map_take,h,dD]
def amM (o:L1)(v:Ver):(wJ o v).length=o.length:=by unfold wJ;split<;>simp
def RL (l:List Ver)(hl:Qle l)(hv:∀v∈l,inT v.a/\inT v.b):Fk 297 [nVers l] (.val (.agg ((kJ l).map dI))):=by
 refine fE [] ntmps297 fun _ _=> ?_;have hz:List.replicate 400 (dI 0)=(lk0 0).map dI:=by rw[aCU,yB]
 simp[hz];refine wl (fun(i:Nat)=>[(0,vV l),(2,.own (.bx true (.agg ((lk0 0).map dI)))),(3,.own (.bx true (.agg ((lk0 i).map dI)))),(10,vI i)]) (fun(i:Nat)=>400-i) (fun(i:Nat)=>(i<=400)) (0) (by omega) ?_;rintro i h1;simp;apply gw<;>intro a
 ·have hlen:=amN (i:=i);have hs:=aG9 (i:=i) (by omega);have hg:=aG8 (i:=i) (by omega);have hws:D.ws (List.take i ((lk0 i).map dI))=i:=by rw[wM,hlen];omega
  simp[hz,hs,hg,hws];refine nxb (i+1) (by omega)
 ·simp at a;obtain rfl:i=400:=by omega
  have hall:=aG7;simp[hall];refine wlt (Nat×L1) (fun(j,o)=>([(0,vV l),(2,.own (.bx true (.agg ((lk0 0).map dI)))),(3,.own (.bx true (.agg (o.map dI)))),(17,vV l),(18,vI l.length),(19,vI j)],l.length-j,(j<=l.length)/\(o=(l.take j).foldl wJ C8)/\(o.length=400))) ((0,C8)) ⟨by omega,rfl,aCT.len⟩ ?_;rintro⟨j,o⟩ ⟨h2,h3,h4⟩;simp;apply gw<;>intro b
  ·obtain⟨c,hc⟩:=aO (l:=l) (i:=j);have hcv:=hv c (aA hc);have hA:=aY (l:=o) (i:=c.a.toNat) (by have:=hcv.1.2;have:=hcv.1.1;omega);have hB:=aY (l:=o) (i:=c.b.toNat) (by have:=hcv.2.2;have:=hcv.2.1;omega);have hm:=dK wJ C8 hc;rw[←h3]at hm;simp[hc];apply gw<;>intro d
   ·simp at d;simp;refine nxa (j+1,o) ⟨by omega,by rw[hm];exact(if_neg (by simp[d])).symm,h4⟩
   ·simp at d;obtain⟨A,hAe⟩:∃A,at1 o c.a.toNat=A:=⟨_,rfl⟩;obtain⟨B,hBe⟩:∃B,at1 o c.b.toNat=B:=⟨_,rfl⟩;rw[hAe]at hA;rw[hBe]at hB;have hz2:=aCX o (rJ A B);have h90:=hcv.1.1;have h91:=hcv.1.2;have h92:=hcv.2.1;have h93:=hcv.2.2;have hwA:D.ws (List.take c.a.toNat (o.map dI))=c.a.toNat:=by rw[wM,h4];omega
    have hwB:D.ws (List.take c.b.toNat (o.map dI))=c.b.toNat:=by rw[wM,h4];omega
    have hA2:=(aD.1 hA).2;have hB2:=(aD.1 hB).2;simp;refine wdr ?_;simp[hz,hA2,hB2,h4,h90,h91,h92,h93,hwA,hwB];refine wl (fun(k:Nat)=>[(0,vV l),(2,.own (.bx true (.agg ((lk0 0).map dI)))),(3,.own (.bx true (.agg ((lkm o (rJ A B) k).map dI)))),(7,vI A),(8,vI B),(17,vV l),(18,vI l.length),(19,vI j),(34,vI k)]) (fun(k:Nat)=>400-k) (fun(k:Nat)=>(k<=400)) (0) (by omega) ?_ (h0:=by simp[hz,hall,hc,hA2,hB2,hz2,h4,h90,h91,h92,h93,hwA,hwB]);rintro k h5;simp;apply gw<;>intro e
    ·have hkl:k<o.length:=by omega
     have hg:=aCV (f:=rJ A B) hkl;have hlen:(lkm o (rJ A B) k).length=400:=by rw[av0];exact h4
     have hws:D.ws (List.take k ((lkm o (rJ A B) k).map dI))=k:=by rw[wM,hlen];omega
     obtain⟨z,hze⟩:∃z,at1 o k=z:=⟨_,rfl⟩;have hset:=av1 (f:=rJ A B) hkl;have hsame:=aCW (f:=rJ A B) hkl;rw[hze]at hg hset hsame;simp[hz,hg,hws];refine ai ?_;apply gw<;>intro g
     ·have hf:rJ A B z=min A B:=if_pos g;have hst:((lkm o (rJ A B) k).map dI).set k (dI (min A B))=(lkm o (rJ A B) (k+1)).map dI:=by rw[←List.map_set,←hf,hset]
      simp[hz,hg,hws,hst];refine nxb (k+1) (by omega)
     ·have hs2:=(hsame (if_neg g)).symm;simp;refine nxa (k+1) (by omega) (h3:=by simp[hz,hall,h4,hg,hlen,hws,hs2])
    ·simp at e;obtain rfl:k=400:=by omega
     have hall:lkm o (rJ A B) 400=o.map (rJ A B):=by rw[←h4];exact aHA _
     have hls:wJ o c=o.map (rJ A B):=by unfold wJ;rw[if_pos (by simpa using d),hAe,hBe]
     simp[hall];refine nxa (j+1,o.map (rJ A B)) ⟨by omega,by rw[hm,hls],by rw[aQ];exact h4⟩
  ·simp at b;have hr:kJ l=o:=by rw[h3,k_List_take_of_length_le (by omega)];rfl
   have hws4:D.ws (o.map dI)=400:=by have:=wM o 400;rw[k_List_take_of_length_le (by (try unfold Qle);rw[aQ];omega),h4]at this;simpa using this
   have hws5:D.ws ((lk0 0).map dI)=400:=by have:=wM (lk0 0) 400;rw[k_List_take_of_length_le (by (try unfold Qle);rw[aQ,amN];omega),amN]at this;simpa using this
   clear h3;simp[hz,hr,hws4,hws5];grind
def avC (h:o.length=400){x:Int}(hx:inT x):o[x.toNat]?=some (at1 o x.toNat):=aY (by have:=hx.2;have:=hx.1;omega)
def F4 (l:List Ver):(kJ l).length=400:=by
 have:∀(l:List Ver) (o:L1),o.length=400->(l.foldl wJ o).length=400:=fun l=>by
  induction l with
  |nil=>exact fun o h=>h
  |cons v l ih=>exact fun o h=>ih _ (by rw[amM];exact h)
 exact this l _ (by simp[C8])
def afQ (o:L1)(v:Ver):Bool:= !v.same&&decide (at1 o v.a.toNat=at1 o v.b.toNat)
def adJ (o:L1)(v:Ver)(ho:o.length=400)(hv:inT v.a/\inT v.b):Fk 363 [kK v,.bx false (.agg (o.map dI))] (vB (afQ o v)):=by
 refine fE [] ntmps363 fun _ _=> ?_;have hA:=avC ho hv.1;have hB:=avC ho hv.2;have h0:=hv.1.1;have h1:=hv.1.2;have h2:=hv.2.1;have h3:=hv.2.2;have hwA:D.ws (List.take v.a.toNat (o.map dI))=v.a.toNat:=by rw[wM,ho];omega
 have hwB:D.ws (List.take v.b.toNat (o.map dI))=v.b.toNat:=by rw[wM,ho];omega
 simp;refine wdt 14 ?_;simp;apply gv<;>intro e
 ·have e':=e;simp at e';simp[ho,h0,h1,h2,h3,hwA,hwB,e];grind[afQ]
 ·have e':=e;simp at e';simp[e];grind[afQ]
def atC (l:List Ver)(p:Ver->Bool)(g:FuncId)(b:Nat)(d:D)(F:d.fz=d)(E:Dv.Enters prog g)(U:T (1000000+g)=⟨.no,0,.any 0⟩)(G:∀c∈l,fA prog g [kK c,.bx false d] (fun r=>r=vB (p c)))(hl:Qle l):yX prog 380 [nVers l,.one (.func (.func g) #[] #[.pointer (some ⟨b,0,none⟩)])] [(b,d)] (fun res'=>res'=vI (ix p l)):=by
 refine fB [] ntmps380 fun _ _=> ?_;simp;refine wlt Nat (fun i=>([(0,vV l),(1,.val (.one (.func (.func g) #[] #[.pointer (some ⟨b,0,none⟩)]))),(7,vI l.length),(8,vI i),(1000000+2*b,.rp (d))],l.length-i,(i<=l.length)/\((l.take i).any p=false))) (0) ⟨by omega,rfl⟩ ?_;rintro i ⟨h1,h2⟩;simp;apply gw<;>intro a
 ·obtain⟨c,hc⟩:=aO (l:=l) (i:=i);simp[E,U,F,hc];refine ck ((G c (aA hc))) ?_;simp;apply gw<;>intro e
  ·have hn:=DZ hc h2 (by simp[e]);simp[hn]
  ·simp;refine nxa (i+1) ⟨by omega,(kN hc h2 (by simp[e]))⟩
 ·simp at a;have hf:=pK h2 a;have hx:=sF hf;simp[hx]
def ax0 (l:List Ver)(p:Ver->Bool)(g:FuncId)(b:Nat)(d:D)(F:d.fz=d)(E:Dv.Enters prog g)(U:T (1000000+g)=⟨.no,0,.any 0⟩)(G:∀c∈l,fA prog g [kK c,.bx false d] (fun r=>r=vB (p c)))(hl:Qle l):yX prog 362 [nVers l,.one (.func (.func g) #[] #[.pointer (some ⟨b,0,none⟩)])] [(b,d)] (fun res'=>res'=vB (l.any p)):=by
 refine fB [] ntmps362 fun _ _=> ?_;have hq:decide (0<=ix p l)=l.any p:=by rw[bM,decide_eq_true_eq];exact jC
 simp[F];refine ckB (atC l p g b d F E U G hl) ?_;simp[hq]
def aiU (l:List Ver)(hl:Qle l)(hv:∀v∈l,inT v.a/\inT v.b):Fk 280 [nVers l] (vB (afR l)):=by
 refine fE [] ntmps280 fun _ _=> ?_;simp;refine ck (RL l hl hv) ?_;have hF:(D.agg ((kJ l).map dI)).fz=D.agg ((kJ l).map dI):=by simp[D.fz,D.jS]
 have hcl:l.any (afQ (kJ l))=afR l:=rfl;have hws:D.ws ((kJ l).map dI)=400:=by have:=wM (kJ l) 400;rw[k_List_take_of_length_le (by (try unfold Qle);rw[aQ,F4];omega),F4]at this;simpa using this
 have hll:=F4 l;simp[hws,hll];intro b;refine ckB (ax0 l (afQ (kJ l)) 363 b (.agg ((kJ l).map dI)) hF aLR aL5 (fun c hc=>adJ (kJ l) c (F4 l) (hv c hc)) hl) ?_;simp[hcl]
end Go.Proofs.YtebopbncplpdgaaGreatDoor
end
section
namespace Go.Proofs.YtebopbncplpdgaaGreatDoor
open Go.Dv Go.Pl Go.Proofs.Tryz
abbrev aKC (l:L2):D:= .sl (some 25) (l.map nInts)
variable {g:L2}
def aB4 (hg:∀l∈g,Qle l)(i:Nat):Qle (gat g i):=by
 unfold gat;rw[aC];cases h:g[i]? with
 |none=>simp
 |some r=>exact hg r (aA h)
def apB (g:L2)(x:Int): -1<=eZ g x/\(eZ g x<g.length\/eZ g x= -1):=by
 have:=apJ (grp x) g;unfold eZ;omega
def PO (g:L2)(x y:Int)(hs:Qle g)(hg:∀l∈g,Qle l):Fk 249 [cK g,dI x,dI y] (.val (cK (qA g x y))):=by
 refine fE [33,35,100000] ntmps249 fun _ _=> ?_;simp;refine ck (qI _ _ hs hg) ?_;simp;refine ck (qI _ _ hs hg) ?_;have hA1:=apB g x;have hB1:=apB g y;generalize hA:eZ g x=A at hA1|-
 generalize hB:eZ g y=B at hB1|-
 simp;refine wlt (Nat×L2) (fun(i,o)=>([(0,.val (cK g)),(1,vI x),(2,vI y),(7,.own (bV [x])),(8,.own (bV [y])),(9,.own (aKC o)),(10,vI A),(11,vI B),(12,vI i)],g.length-i,(i<=g.length)/\(o=loopN i ([]) ((fun i o=>if(i:Int)≠A/\(i:Int)≠B then o++[gat g i]else o)))/\(o.length<=i))) ((0,[])) ⟨by omega,rfl,by simp⟩ ?_;rintro⟨i,o⟩ ⟨h1,h2,h3⟩;simp;apply gw<;>intro a
 ·have hs:=aM i ([]) ((fun i o=>if(i:Int)≠A/\(i:Int)≠B then o++[gat g i]else o));rw[←h2]at hs;obtain⟨c,hc⟩:=aO (l:=g) (i:=i);have hc2:=CU hc;simp;apply gv<;>intro e
  ·have e':=e;simp[e];apply gw<;>intro f
   ·simp[hc];refine nxb (i+1,o++[c]) ⟨by omega,by rw[hs,if_pos ⟨e,f⟩,hc2],by simp;omega⟩
   ·simp;refine nxa (i+1,o) ⟨by omega,by rw[hs,if_neg (by omega)],by omega⟩
  ·have e':=e;simp[e];refine nxa (i+1,o) ⟨by omega,by rw[hs,if_neg (by omega)],by omega⟩ (h3:=by simp[hc,e])
 ·simp at a;have hi:g.length=i:=by omega
  subst hi;have hr:o=AC g A B:=h2;simp;refine aw3 (fun(_:Unit)=>[(0,.val (cK g)),(2,vI y),(7,vN (if 0<=A then gat g A.toNat else[x])),(8,.own (bV [y])),(9,.own (aKC o)),(10,vI A),(11,vI B)]) (fun(_:Unit)=>True) ?_ ?_
  ·simp;apply gw<;>intro b
   ·obtain⟨c,hc⟩:=aO (l:=g) (i:=A.toNat);have hc2:=CU hc;simp[hc,b];refine jnc (()) [7] trivial (h3:=by simp[hc,hc2,b])
   ·simp at b;have b':¬0<=A:=by omega
    simp[b'];refine jnc (()) [7] trivial (h3:=by simp[b'])
  rintro⟨⟩ -
  refine QJ (fun(_:Unit)=>[(7,vN (if 0<=A then gat g A.toNat else[x])),(8,vN (if 0<=B then gat g B.toNat else[y])),(9,.own (aKC o)),(10,vI A),(11,vI B)]) (fun(_:Unit)=>True) ?_ ?_
  ·simp;apply gw<;>intro b
   ·obtain⟨c,hc⟩:=aO (l:=g) (i:=B.toNat);have hc2:=CU hc;simp[hc,b];refine jnc (()) [8] trivial (h3:=by simp[hc,hc2,b])
   ·simp at b;have b':¬0<=B:=by omega
    simp[b'];refine jnc (()) [8] trivial (h3:=by simp[b'])
  rintro⟨⟩ -
  have hLl:Qle (if 0<=A then gat g A.toNat else[x]):=by split;(exact aB4 hg _);simp
  have hRl:Qle (if 0<=B then gat g B.toNat else[y]):=by split;(exact aB4 hg _);simp
  generalize hL:(if 0<=A then gat g A.toNat else[x])=L at hLl|-
  generalize hR:(if 0<=B then gat g B.toNat else[y])=R at hRl|-
  simp;apply gv<;>intro e
  ·have e':=e;simp[e];apply gw<;>intro f
   ·simp;refine ai ?_;refine jL [] (dQ 6) ?_;have hj:qA g x y=o++[L]:=by rw[qA,hA,hB,if_pos ⟨e,f⟩,hr,←hL,if_pos e]
    simp;simp[hj]
   ·simp;iterate 3 refine ai ?_
    refine jL [] (dQ 6) ?_;have hj:qA g x y=o++[L++R]:=by rw[qA,hA,hB,if_neg (by simp[f]),hr,←hL,←hR]
    simp;simp[hj]
  ·have e':=e;simp at e';simp[e];iterate 3 refine ai ?_
   refine jL [] (dQ 6) ?_;have hj:qA g x y=o++[L++R]:=by rw[qA,hA,hB,if_neg (by simp[e]),hr,←hL,←hR]
   simp;simp[hj]
variable {m:Nat}
def ZR (hg:∀l∈g,l.length<=m)(i:Nat):(gat g i).length<=m:=by
 unfold gat;rw[aC];cases h:g[i]? with
 |none=>simp
 |some r=>exact hg r (aA h)
def ai1 (hg:∀l∈g,l.length<=m)(a b:Int):(AC g a b).length<=g.length/\∀l∈AC g a b,l.length<=m:=by
 refine loopN_inv (fun n (o:L2)=>o.length<=n/\∀l∈o,l.length<=m) (by simp) fun i o _ ho=> ?_;split
 ·refine⟨by simp;omega,fun l hl=> ?_⟩;rcases k_List_mem_append.1 hl with h|h
  ·exact ho.2 l h
  ·obtain rfl:l=gat g i:=by simpa using h
   exact ZR hg i
 ·exact⟨by omega,ho.2⟩
def ag9 (hm:1<=m)(hg:∀l∈g,l.length<=m)(x y:Int):(qA g x y).length<=g.length+1/\∀l∈qA g x y,l.length<=2*m:=by
 have hr:=ai1 hg (eZ g x) (eZ g y);unfold qA;split
 ·refine⟨by simp;omega,fun l hl=> ?_⟩;rcases k_List_mem_append.1 hl with h|h
  ·have:=hr.2 l h;omega
  ·obtain rfl:l=gat g (eZ g x).toNat:=by simpa using h
   have:=ZR hg (eZ g x).toNat;omega
 ·refine⟨by simp;omega,fun l hl=> ?_⟩;rcases k_List_mem_append.1 hl with h|h
  ·have:=hr.2 l h;omega
  ·have e:l=_:=k_List_mem_singleton.1 h;subst e;have h1:=ZR hg (eZ g x).toNat;have h2:=ZR hg (eZ g y).toNat;have h3:(if 0<=eZ g x then gat g (eZ g x).toNat else[x]).length<=m:=by split;(exact h1);(simpa using hm)
   have h4:(if 0<=eZ g y then gat g (eZ g y).toNat else[y]).length<=m:=by split;(exact h2);(simpa using hm)
   rw[aR];omega
variable {items:L1}{i k:Nat}
def aqT (hk:k<items.length)(hik:i<k)(he:eZ g (at1 items k)=eZ g (at1 items i))(hno:∀j,i<j->j<k->eZ g (at1 items j)≠eZ g (at1 items i)):SH g items i=some k:=by
 unfold SH;rw[rA];refine⟨by simp[hik,he],by simpa using hk,fun j hj=> ?_⟩;by_cases hij:i<j
 ·simp[hno j hij hj]
 ·simp[hij]
def aqS (hno:∀j,i<j->j<items.length->eZ g (at1 items j)≠eZ g (at1 items i)):SH g items i=none:=by
 unfold SH;rw[yA];intro j hj;have hj:=bB.1 hj;by_cases hij:i<j
 ·simp[hno j hij hj]
 ·simp[hij]
def L9 (g:L2)(items:L1)(k:Nat):List Con:=(List.range k).flatMap (tH g items)
def arH (g:L2)(items:L1):L9 g items 0=[]:=rfl
def ac6 (g:L2)(items:L1)(k:Nat):L9 g items (k+1)=L9 g items k++tH g items k:=by simp[L9,dN]
def auP (g:L2)(items:L1)(k:Nat):(L9 g items k).length<=k:=by
 induction k with
 |zero=>simp[L9]
 |succ k ih=>have:=ac5 g items k;rw[ac6,aR];omega
variable {l:List Ver}{c:Ver}
def XU (h:l[i]?=some c):wK (l.take (i+1))=wK (l.take i)++if c.same then[c]else[]:=BI _ h
def VZ (h:l[i]?=some c):apart (l.take (i+1))=apart (l.take i)++if !c.same then[c]else[]:=BI _ h
def ad4 (kept:List Ver)(items:L1)(hk:kept.length<=8)(hi:items.length<=8):Fk 175 [nVers kept,nInts items] (wG (oO kept items)):=by
 refine fE [] ntmps175 fun _ _=> ?_;have hs0:wK []=[]:=rfl;have ha0:apart []=[]:=rfl;simp;refine wlt Nat (fun i=>([(0,vV kept),(1,vN items),(5,wV (wK (kept.take i))),(6,wV (apart (kept.take i))),(7,vI i)],kept.length-i,(i<=kept.length)/\((wK (kept.take i)).length<=8/\(apart (kept.take i)).length<=8))) (0) ⟨by simp,by simp[hs0,ha0]⟩ ?_ (h0:=by simp[hs0,ha0]);rintro i ⟨h1,h2⟩;simp;apply gw<;>intro a
 ·obtain⟨c,hc⟩:=aO (l:=kept) (i:=i);have h1f:=XU hc;have h2f:=VZ hc;have hms:(wK (kept.take (i+1))).length<=8:=k_Nat_le_trans (aZ _ _) (by simp;omega);have hma:(apart (kept.take (i+1))).length<=8:=k_Nat_le_trans (aZ _ _) (by simp;omega);simp[hc];apply gw<;>intro b
  ·simp only[b,Bool.not_true,dV,if_true,if_false,dW]at h1f h2f;simp[hc];refine nxb (i+1) ⟨by omega,(⟨hms,hma⟩)⟩ (h3:=by simp[hs0,ha0,hc,h1f,h2f])
  ·simp only[b,qJ,dV,if_true,if_false,dW]at h1f h2f;simp[hc];refine nxb (i+1) ⟨by omega,(⟨hms,hma⟩)⟩ (h3:=by simp[hs0,ha0,hc,h1f,h2f])
 ·simp at a;obtain rfl:i=kept.length:=by omega
  have hms:(wK kept).length<=8:=k_Nat_le_trans (aZ _ _) hk;have hma:(apart kept).length<=8:=k_Nat_le_trans (aZ _ _) hk;rw[bS];generalize hM:wK kept=M at*
  generalize hA:apart kept=A at*
  simp;refine wld [8] (Nat×L2) (fun(i,g)=>([(0,vV kept),(1,vN items),(5,wV M),(6,wV A),(8,.val (cK g)),(9,vI i)],M.length-i,(i<=M.length)/\(g=(M.take i).foldl (fun g v=>qA g v.a v.b) [])/\(g.length<=i/\∀l∈g,l.length<=2^i))) ((0,[])) ⟨by omega,rfl,by simp⟩ ?_;rintro⟨i,g⟩ ⟨h1m,h2m,h3m⟩;simp;apply gw<;>intro am
  ·obtain⟨cm,hcm⟩:=aO (l:=M) (i:=i);have hm:=dK (fun g v=>qA g v.a v.b) [] hcm;rw[←h2m]at hm;have hp:2^i<=256:=k_Nat_le_trans (jX (by omega) (show i<=8 by omega)) (by decide);have hp2:2^(i+1)=2*2^i:=by omega
   have hp1:1<=2^i:=Nat.one_le_two_pow;have hj:=ag9 (m:=2^i) hp1 h3m.2 cm.a cm.b;simp;refine wdt 12 ?_;simp[hcm];refine cd (PO g cm.a cm.b (by omega) (fun l hl=>by have:=h3m.2 l hl;omega)) ?_;simp;refine ai ?_;refine nxc (i+1,qA g cm.a cm.b) [8] ⟨by omega,by rw[hm],by rw[hp2];exact⟨by omega,hj.2⟩⟩
  ·simp at am;rw[bJ am]at h2m;have hG:g.length<=8/\∀l∈g,l.length<=256:=⟨by omega,fun l hl=>k_Nat_le_trans (h3m.2 l hl) (k_Nat_le_trans (jX (by omega) (show i<=8 by omega)) (by decide))⟩;have hJ:joined kept=g:=by rw[joined,hM,h2m]
   clear h2m h3m h1m am;have hz0:=arH g items;simp;refine wl (fun(i:Nat)=>[(0,vV kept),(1,vN items),(6,wV A),(8,.val (cK g)),(10,wG (L9 g items i)),(11,vI i)]) (fun(i:Nat)=>items.length-i) (fun(i:Nat)=>(i<=items.length)) (0) (by omega) ?_ (h0:=by simp[hs0,ha0,hz0]);rintro i h1i;have hlen:=auP g items i;simp;apply gw<;>intro d
   ·have hd:=aY (l:=items) (i:=i) d;have hfl:=ac6 g items i;simp[hd];refine ck (qI g (at1 items i) (by omega) (fun l hl=>by have:=hG.2 l hl;omega)) ?_;obtain⟨ga,hga⟩:∃ga,eZ g (at1 items i)=ga:=⟨_,rfl⟩;simp[hga];refine ai ?_;refine wlt Nat (fun k=>([(0,vV kept),(1,vN items),(6,wV A),(8,.val (cK g)),(10,wG (L9 g items i)),(11,vI i),(12,vI ga),(13,vI k)],items.length-k,(i<k/\k<=items.length)/\(∀j,i<j->j<k->eZ g (at1 items j)≠ga))) (i+1) ⟨by omega,(fun j h1 h2=>absurd h2 (by omega))⟩ ?_;rintro k ⟨h1k,h2k⟩;simp;apply gv<;>intro e
    ·have e':=e;simp[e];apply gw<;>intro f
     ·have hdk:=aY (l:=items) (i:=k) e;have h10:((L9 g items i).length:Int)<10:=by omega
      simp[hdk];refine ck (qI g (at1 items k) (by omega) (fun l hl=>by have:=hG.2 l hl;omega)) ?_;simp;apply gv<;>intro m
      ·have m':=m;have hn:=aqT e h1k.1 (m'.trans hga.symm) (fun j h1 h2=>by rw[hga];exact h2k j h1 h2);have hsc:tH g items i=[⟨i,k,true⟩]:=by rw[tH,if_pos (by omega),hn]
       rw[hsc]at hfl;simp[h10,m];refine nxb (i+1) (by first|omega|(simp;omega)|grind) (h3:=by simp[hs0,ha0,hz0,hga,hdk,h10,m,hfl])
      ·have m':=m;simp[m];refine nxa (k+1) ⟨by omega,(fun j h1 h2=>by by_cases hj:j=k;(subst hj;exact m);exact h2k j h1 (by omega))⟩
     ·simp at f;have hsc:tH g items i=[]:=by rw[tH,if_neg (by omega)]
      rw[hsc,dW]at hfl;simp;refine nxa (i+1) (by first|omega|(simp;omega)|grind) (h3:=by simp[hs0,ha0,hz0,hga,e,hfl])
    ·have e':=e;simp at e';have hn:=aqS (g:=g) (items:=items) (i:=i) (fun j h1 h2=>by rw[hga];exact h2k j h1 (by omega));have hsc:tH g items i=[]:=by rw[tH,hn];simp
     rw[hsc,dW]at hfl;simp[e];refine nxa (i+1) (by first|omega|(simp;omega)|grind) (h3:=by simp[hs0,ha0,hz0,hga,e,hfl])
   ·simp at d;obtain rfl:i=items.length:=by omega
    have hvl:(IK A items).length<=A.length:=iQ _ _;have hsg:NP g items=L9 g items items.length:=rfl;simp;refine ck (JM _ _) ?_;simp;refine ai ?_;simp[oO,hJ,hA,hsg]
def GQ (l:List Ver)(hl:Qle l:=by omega):Fk 252 [nVers l] (vV (iH l)):=by
 refine fE [11] ntmps252 fun _ _=> ?_;simp;refine wld [3] (Nat×List Ver) (fun(i,out)=>([(0,vV l),(3,vV out),(4,vI i)],l.length-i,(i<=l.length)/\(out=(l.take i).foldl (fun o v=>gN (uG v) o v) [])/\(out.length=i))) ((0,[])) ⟨by omega,rfl,rfl⟩ ?_;rintro⟨i,out⟩ ⟨h1,h2,h3⟩;simp;apply gw<;>intro a
 ·obtain⟨c,hc⟩:=aO (l:=l) (i:=i);have hm:=dK (fun o v=>gN (uG v) o v) [] hc;rw[←h2]at hm;have hil:=BN (uG c) out c;simp;refine QJ (fun(k:Nat)=>[(0,vV l),(3,vV out),(4,vI i),(5,vI k)]) (fun(k:Nat)=>(gN (uG c) out c=out.take k++[c]++out.drop k)/\k<=out.length) ?_ ?_
  ·simp;refine wlt Nat (fun k=>([(0,vV l),(3,vV out),(4,vI i),(5,vI k)],k,(k<=out.length)/\(∀j,k<=j->(h:j<out.length)->uG c out[j]=true))) (out.length) ⟨by omega,(fun j h1 h2=>absurd h2 (by omega))⟩ ?_;rintro k ⟨h1k,h2k⟩;simp;refine wdr ?_;simp;apply gv<;>intro e
   ·have e':=e;obtain⟨d,hd⟩:=aO (l:=out) (i:=k-1);have hk1:((k:Int)-1).toNat=k-1:=by omega
    have hk2:(k:Int)-1=((k-1:Nat):Int):=by omega
    simp[hc,e,hd,hk2];refine ai ?_;refine cd (tZ d c) ?_;simp;apply gw<;>intro f
    ·simp[hk2];refine nxa (k-1) ⟨by omega,(fun j h1 h2=>by by_cases hj:j=k-1;(subst hj;have hdd:out[k-1]=d:=(by simpa[aB h2]using hd);rw[hdd];simp[uG];omega);exact h2k j (by omega) h2)⟩
    ·simp at f;have hb:=FM (p:=uG c) h1k h2k (.inr ⟨d,hd,by simp[uG];omega⟩);simp;refine jn (k) ⟨by rw[gN,hb],h1k⟩
   ·have e':=e;simp at e';have hb:=FM (p:=uG c) h1k h2k (.inl (by omega));simp[e];refine jn (k) ⟨by rw[gN,hb],h1k⟩
  rintro k ⟨h5,h6⟩;simp;refine wdf [(0,[32]),(4,[32,35,36]),(9,[40,41]),(10,[36,41,42]),(14,[42,45,46]),(15,[46,3])] [(0,vV l),(3,vV out),(4,vI i),(5,vI k)] [] (by simp) ?_;simp[hc];iterate 6 refine ai ?_
  refine nxc (i+1,out.take k++[c]++out.drop k) [3] ⟨by omega,by rw[hm,h5],by rw[←h5];omega⟩
 ·simp at a;rw[bJ a]at h2;simp;grind[iH]
def anK {v:Ver}(hk:k<=l.length)(h1:(l.take k).all (fun u=>decide (gP u v<0))=true)(h2:k=l.length\/∃c,l[k]?=some c/\¬gP c v<0):ae7 l v=k:=by
 refine anD hk h1 ?_;rcases h2 with h|⟨c,h3,h4⟩
 ·exact .inl h
 ·exact .inr ⟨c,h3,by simpa using h4⟩
def WT (l:List Ver)(v:Ver)(hl:Qle l):Fk 251 [nVers l,kK v] (.tup [vV (BA l v),vB (IQ l v)]):=by
 refine fE [5,7,13] ntmps251 fun _ _=> ?_;have hix:0<=ix (fun y=>decide (y=v)) l↔l.any (fun y=>decide (y=v))=true:=jC;simp;refine ck (zK _) ?_;simp;apply gv<;>intro a
 ·have a':=a;simp at a';have ho:IQ l v=false:=by simp[IQ,a']
  simp[a];refine ck (vY _) ?_;simp;refine jL [] (dQ 4) ?_;simp;simp[BA,ho]
 ·have a':=a;simp at a';simp[a];refine ck (CR _) ?_;simp;apply gv<;>intro b
  ·have b':=b;simp at b';have ho:IQ l v=false:=by simp only[IQ];rw[b'];simp
   simp[b];refine ck (vY _) ?_;simp;refine jL [] (dQ 4) ?_;simp;simp[BA,ho]
  ·have b':=b;simp at b';simp[b];refine ck (aiY _ _) ?_;simp;apply gv<;>intro d
   ·have d':=d;have ho:IQ l v=false:=by simp only[IQ];rw[hix.1 d];simp
    simp[d];refine ck (vY _) ?_;simp;refine jL [] (dQ 4) ?_;simp;simp[BA,ho]
   ·have d':=d;simp at d';simp[d];apply gw<;>intro e
    ·have ho:IQ l v=false:=by simp only[IQ];rw[show decide (l.length≠8)=false by simp;omega];simp
     simp;refine ck (vY _) ?_;simp;refine jL [] (dQ 4) ?_;simp;simp[BA,ho]
    ·have hna:l.any (fun y=>decide (y=v))=false:=by rw[kE];intro h;exact d (hix.2 h)
     have ho:IQ l v:=by simp only[IQ];rw[hna,a',b'];simp;omega
     simp;refine QJ (fun(k:Nat)=>[(0,vV l),(3,.own (.bx true (kK v))),(6,vI k)]) (fun(k:Nat)=>(ae7 l v=k)/\k<=l.length) ?_ ?_
     ·simp;refine wlt Nat (fun k=>([(0,vV l),(3,.own (.bx true (kK v))),(6,vI k)],l.length-k,(k<=l.length)/\((l.take k).all (fun u=>decide (gP u v<0))=true))) (0) ⟨by omega,rfl⟩ ?_;rintro k ⟨h1k,h2k⟩;simp;refine wdr ?_;simp;apply gv<;>intro f
      ·have f':=f;obtain⟨c,hc⟩:=aO (l:=l) (i:=k);have hcc:l[k]=c:=by simpa[aB f]using hc
       simp[f,hcc];refine cd (tZ c v) ?_;simp;apply gw<;>intro g
       ·simp;refine nxa (k+1) ⟨by omega,(bW hc h2k (by simpa using g))⟩
       ·simp at g;simp;refine jn (k) ⟨(anK h1k h2k (.inr ⟨c,hc,by omega⟩)),h1k⟩
      ·have f':=f;simp at f';simp[f];refine jn (k) ⟨(anK h1k h2k (.inl (by omega))),h1k⟩
     rintro k ⟨h5,h6⟩;simp;refine wdf [(0,[43]),(4,[43,46,47]),(6,[48,49]),(7,[47,49,50]),(11,[50,53,54]),(12,[54,4]),(13,[5])] [(0,vV l),(3,.own (.bx true (kK v))),(6,vI k)] [] (by simp) ?_;simp;iterate 5 refine ai ?_
     refine jL [] (dQ 4) ?_;simp;simp[BA,ho,h5]
def aoE (o:List Ver)(c:Ver):(rW o c).length<=o.length+1:=by
 unfold rW;split
 ·simp
 ·split
  ·simp
  ·split<;>simp
def acK (l:List Ver):(gY l).length<=l.length:=by
 have:=IM rW aoE l [];simpa[gY]using this
def afI (l:List Ver):(uU l).length=l.length:=by
 have:=FI EX l [];simpa[uU]using this
def LG (l:List Ver):(iH l).length=l.length:=by
 have:=FI uG l [];simpa[iH]using this
def asA (l:List Ver)(v:Ver):(BA l v).length<=l.length+1:=by
 unfold BA;split
 ·simp;omega
 ·omega
def an4 (l:List Ver)(c:Ver):uU (l++[c])=gN (EX c) (uU l) c:=by simp[uU,kG]
def QG (l:List Ver)(hl:l.length<=8)(hv:lI l):Fk 172 [nVers l] (.tup [vV (sQ l),vV (jY l)]):=by
 refine fE [19,48] ntmps172 fun _ _=> ?_;have hcl:=acK l;have hap:apart (gY l)=apart (gY l):=rfl;have hks:sQ l=iH (LH l).2.1:=rfl;have hrs:jY l=iH (LH l).2.2:=rfl;have hst:LH l=(uU (wK (gY l))).foldl (wL (apart (gY l))) ([],apart (gY l),[]):=rfl;simp;refine ck (M8 l (by omega) hv) ?_;generalize gY l=cur at hcl hap hst|-
 simp;refine wld [6] (Nat×List Ver×List Ver) (fun(i,A,M)=>([(4,wV cur),(5,wV A),(6,vV M),(7,vI i)],cur.length-i,(i<=cur.length)/\(A=apart (cur.take i)/\M=uU (wK (cur.take i)))/\(A.length<=i/\M.length<=i))) ((0,[],[])) ⟨by simp,(⟨rfl,rfl⟩),by simp⟩ ?_;rintro⟨i,A,M⟩ ⟨h1,h2,h3⟩;simp;apply gw<;>intro a
 ·obtain⟨c,hc⟩:=aO (l:=cur) (i:=i);have h1f:=XU hc;have h2f:=VZ hc;simp[hc];apply gw<;>intro b
  ·simp at b;simp only[b,qJ,dV,if_true,if_false,dW]at h1f h2f;simp[hc];iterate 2 refine ai ?_
   refine nxc (i+1,A++[c],M) [6] ⟨by omega,(⟨by rw[h2f,h2.1],by rw[h1f,h2.2]⟩),by simp;omega⟩
  ·simp at b;simp only[b,Bool.not_true,dV,if_true,if_false,dW]at h1f h2f;have hil:=BN (EX c) M c;simp;refine QJ (fun(k:Nat)=>[(4,wV cur),(5,wV A),(6,vV M),(7,vI i),(8,vI k)]) (fun(k:Nat)=>(gN (EX c) M c=M.take k++[c]++M.drop k)/\k<=M.length) ?_ ?_
   ·simp;refine wlt Nat (fun k=>([(4,wV cur),(5,wV A),(6,vV M),(7,vI i),(8,vI k)],k,(k<=M.length)/\(∀j,k<=j->(h:j<M.length)->EX c M[j]=true))) (M.length) ⟨by omega,(fun j h1 h2=>absurd h2 (by omega))⟩ ?_;rintro k ⟨h1k,h2k⟩;simp;refine wdr ?_;simp;apply gv<;>intro e
    ·have e':=e;obtain⟨d,hd⟩:=aO (l:=M) (i:=k-1);have hk1:((k:Int)-1).toNat=k-1:=by omega
     have hk2:(k:Int)-1=((k-1:Nat):Int):=by omega
     simp[hc,e,hd,hk2];refine ai ?_;apply gw<;>intro f
     ·simp[hk2];refine nxa (k-1) ⟨by omega,(fun j h1 h2=>by by_cases hj:j=k-1;(subst hj;have hdd:M[k-1]=d:=(by simpa[aB h2]using hd);rw[hdd];simp[EX];omega);exact h2k j (by omega) h2)⟩
     ·simp at f;have hb:=FM (p:=EX c) h1k h2k (.inr ⟨d,hd,by simp[EX];omega⟩);simp;refine jn (k) ⟨by rw[gN,hb],h1k⟩
    ·have e':=e;simp at e';have hb:=FM (p:=EX c) h1k h2k (.inl (by omega));simp[e];refine jn (k) ⟨by rw[gN,hb],h1k⟩
   rintro k ⟨h5,h6⟩;simp;refine wdf [(0,[57]),(4,[57,60,61]),(9,[65,66]),(10,[61,66,67]),(14,[67,70,71]),(15,[71,6])] [(4,wV cur),(5,wV A),(6,vV M),(7,vI i),(8,vI k)] [] (by simp) ?_;simp[hc];iterate 6 refine ai ?_
   refine nxc (i+1,A,M.take k++[c]++M.drop k) [6] ⟨by omega,(⟨by rw[h2f,h2.1],by rw[h1f,an4,←h2.2,h5]⟩),by rw[←h5];omega⟩
 ·simp at a;rw[bJ a]at h2;obtain⟨rfl,rfl⟩:=h2;clear hap;generalize apart cur=A at*
  generalize uU (wK cur)=M at*
  simp;refine ck (vY _) ?_;simp;refine wld [11,9] (Nat×L2×List Ver×List Ver) (fun(i,g,kp,rf)=>([(5,wV A),(6,vV M),(9,vV kp),(10,wV rf),(11,.val (cK g)),(12,vI i)],M.length-i,(i<=M.length)/\((g,kp,rf)=(M.take i).foldl (wL A) ([],A,[]))/\(g.length<=i/\∀l∈g,l.length<=2^i)/\(kp.length<=A.length+i/\rf.length<=i))) ((0,[],A,[])) ⟨by simp,rfl,by simp,by simp⟩ ?_;rintro⟨i,g,kp,rf⟩ ⟨h1m,h2m,h3m,h4m⟩;simp;apply gw<;>intro am
  ·obtain⟨cm,hcm⟩:=aO (l:=M) (i:=i);have hm:=dK (wL A) ([],A,[]) hcm;rw[←h2m]at hm;have hp:2^i<=256:=k_Nat_le_trans (jX (by omega) (show i<=8 by omega)) (by decide);have hp2:2^(i+1)=2*2^i:=by omega
   have hp1:1<=2^i:=Nat.one_le_two_pow;have hj:=ag9 (m:=2^i) hp1 h3m.2 cm.a cm.b;have hsl:=LG kp;have hal:=asA (iH kp) cm;simp;refine wdt 12 ?_;simp[hcm];refine cd (PO g cm.a cm.b (by omega) (fun l hl=>by have:=h3m.2 l hl;omega)) ?_;simp;refine ck (abQ (qA g cm.a cm.b) A (by omega) (fun l hl=>by have:=hj.2 l hl;omega) (by omega)) ?_;simp;apply gw<;>intro b
   ·simp at b;have hu:wL A (g,kp,rf) cm=(qA g cm.a cm.b,BA (iH kp) cm,rf):=if_pos (by simpa using b);simp;refine wdf [(7,[105,98]),(10,[106,9])] [(5,wV A),(6,vV M),(9,vV kp),(10,wV rf),(11,.val (cK (qA g cm.a cm.b))),(12,vI i)] [] (by simp) ?_;simp;refine cd (GQ kp) ?_;simp[hcm];refine cd (WT (iH kp) cm (by omega)) ?_;simp;refine ai ?_;refine nxc (i+1,qA g cm.a cm.b,BA (iH kp) cm,rf) [11,9] ⟨by omega,by rw[hm,hu],by rw[hp2];exact⟨by omega,hj.2⟩,by omega⟩
   ·simp at b;have hu:wL A (g,kp,rf) cm=(g,kp,rf++[cm]):=if_neg (by simpa using b);simp[hcm];iterate 2 refine ai ?_
    refine nxc (i+1,g,kp,rf++[cm]) [11,9] ⟨by omega,by rw[hm,hu],by rw[hp2];exact⟨by omega,fun l hl=>by have:=h3m.2 l hl;omega⟩,by simp;omega⟩
  ·simp at am;rw[bJ am,←hst]at h2m;have e1:(LH l).2.1=kp:=by rw[←h2m]
   have e2:(LH l).2.2=rf:=by rw[←h2m]
   rw[hks,hrs,e1,e2];simp;refine jL [] (dQ 10) ?_;simp;refine ck (GQ kp) ?_;simp;refine ck (GQ rf) ?_;simp
def mY (l:List Ver)(hl:Qle l):Fk 281 [nVers l] (wV l):=by
 refine fE [2,5] ntmps281 fun _ _=> ?_;have hle:l.length<=1073741824:=by omega
 simp;refine aML 1 ?_;simp[hle];intro hnil;subst hnil;try simp[hle]
 refine jL [] (wP (L:=[(2,.own (oVers []))]) (by simp)) ?_;simp
variable {α:Type}
def ax7 {β:Type}(f:β->α->β)(z:β){l:List α}{c:α}(h:l[i]?=some c):(l.take (i+1)).foldl f z=f ((l.take i).foldl f z) c:=dK f z h
def amP (l:List Ver):(apart l).length+(wK l).length=l.length:=by
 induction l with
 |nil=>rfl
 |cons v l ih=>unfold apart wK at ih|-;cases hv:v.same<;>simp[hv]<;>omega
def byT (a b:Ver):Int:=cmpI b.time a.time
def gT (l:List Ver):∀a∈l,∀b∈l,fA prog 279 [kK a,kK b] (fun r=>r=vI (byT a b)):=fun a _ b _=>MW a b
def gC (l:List Ver):∀a∈l,∀b∈l,fA prog 275 [kK a,kK b] (fun r=>r=vI (gP a b)):=fun a _ b _=>BJ a b
def aGU (h:∀v∈l,fQ v)(hc:fQ c):∀v∈l++[c],inT v.a/\inT v.b:=fun v hv=>by
 have hv2:fQ v:=by
  rcases k_List_mem_append.1 hv with h2|h2
  ·exact h v h2
  ·rw[k_List_mem_singleton.1 h2];exact hc
 exact⟨(sM hv2).1,(sM hv2).2.1⟩
def axD (l:List Ver):iD (cfB byT) l=uU l:=alT l
def P6 (l:List Ver)(hl:Qle l)(hv:lI l):Fk 185 [nVers l] (.tup [wV (sQ l),wV (jY l)]):=by
 refine fE [20] ntmps185 fun _ _=> ?_;have h8:=(NY hv).2.2;have hse:=aiD hv;obtain⟨hcv,_⟩:=asQ hv;have hcl:=afZ l;simp;refine ck (MP l hl hv) ?_;unfold aiC at hse;generalize gY l=cur at*
 simp;refine wlt (Nat×List Ver×List Ver) (fun(i,ke,op)=>([(4,wV ke),(5,.val (.one (.slice none 0 0))),(6,wV op),(12,wV cur),(13,vI cur.length),(14,vI i)],cur.length-i,(i<=cur.length)/\(ke=apart (cur.take i))/\(op=wK (cur.take i)))) ((0,[],[])) ⟨by omega,rfl,rfl⟩ ?_;rintro⟨i,ke,op⟩ ⟨h1,h2,h3⟩;simp;apply gw<;>intro a
 ·obtain⟨c,hc⟩:=aO (l:=cur) (i:=i);have hs1:=XU hc;have hs2:=VZ hc;have hm:=amP (cur.take i);rw[←h2,←h3]at hm;have htl:(cur.take i).length<=8:=by simp;omega
  simp[hc];apply gw<;>intro b
  ·simp;refine nxb (i+1,ke,op++[c]) ⟨by omega,by rw[hs2,h2];simp[b],by rw[hs1,h3];simp[b]⟩
  ·simp;refine nxb (i+1,ke++[c],op) ⟨by omega,by rw[hs2,h2];simp[b],by rw[hs1,h3];simp[b]⟩
 ·simp at a;have hcur:cur.take i=cur:=k_List_take_of_length_le (by omega);rw[hcur]at h2 h3;have hm:=amP cur;rw[←h2,←h3]at hm;have hbt:=axD op;have hbl:=afI op;simp;refine eO rfl (atD op byT 279 aLN aL2 (gT op) (by omega)) ?_;rintro r d ⟨rfl,rfl⟩;have hLv:∀v∈uU op,fQ v:=fun v hv=>hcv v (by have:=(KL op).mem_iff.1 hv;rw[h3]at this;exact(bQ.1 this).1);have hkv:∀v∈ke,fQ v:=fun v hv=>hcv v (by rw[h2]at hv;exact(bQ.1 hv).1);rw[←h2,←h3]at hse;generalize uU op=L at*
  simp[hbt];refine jL [] (dQ 6) ?_;simp;refine wlt (Nat×List Ver×List Ver) (fun(j,k2,re)=>([(4,wV k2),(5,wV re),(6,vV L),(31,vV L),(32,vI L.length),(33,vI j)],L.length-j,(j<=L.length)/\((L.take j).foldl KA (ke,[])=(k2,re))/\(k2.length+re.length=ke.length+j)/\(∀v∈k2,fQ v=true))) ((0,ke,[])) ⟨by omega,rfl,by simp,hkv⟩ ?_;rintro⟨j,k2,re⟩ ⟨h4,h5,h6,h7⟩;simp;apply gw<;>intro d
  ·obtain⟨c,hc⟩:=aO (l:=L) (i:=j);have hfs:=ax7 KA (ke,[]) hc;rw[h5]at hfs;have hcv2:=hLv c (aA hc);have hin:=aGU h7 hcv2;simp[hc];refine wdf [(1,[37,38,4]),(3,[39,40]),(4,[38,40,41])] [(4,wV k2),(5,wV re),(6,vV L),(10,.own (.bx true (kK c))),(31,vV L),(32,vI L.length),(33,vI j)] [] (by simp) ?_;simp;refine cf (mY k2 (by omega)) ?_;simp;refine ai ?_;refine cdz (aiU (k2++[c]) (by simp;omega) hin) ?_;simp;apply gw<;>intro e
   ·simp;refine nxb (j+1,k2,re++[c]) ⟨by omega,by rw[hfs,KA,if_pos e],by simp;omega,h7⟩
   ·simp;refine nxb (j+1,k2++[c],re) ⟨by omega,by rw[hfs,KA,if_neg (by simp[e])],by simp;omega,(fun v hv=>by rcases k_List_mem_append.1 hv with h|h;(exact h7 v h);(rw[k_List_mem_singleton.1 h];exact hcv2))⟩
  ·simp at d;rw[k_List_take_of_length_le (by omega)]at h5;rw[h5]at hse;have hk:=VU k2;have hr:=VU re;have hk2:=hse.1;have hr2:=hse.2;simp;refine eO rfl (aoZ k2 gP 275 aIY aI7 (gC k2) (by omega)) ?_;rintro r d ⟨rfl,rfl⟩;simp[hk,hk2];refine eO rfl (aoZ re gP 275 aIY aI7 (gC re) (by omega)) ?_;rintro r d ⟨rfl,rfl⟩;simp[hr,hr2]
def MX (v:Ver):Fk 295 [kK v] (vB v.same):=by
 refine fE [] ntmps295 fun _ _=> ?_;simp
def aoY (l:List Ver)(p:Ver->Bool)(g:FuncId)(E:Dv.Enters prog g)(U:T (1000000+g)=⟨.no,0,.any 0⟩)(G:∀c∈l,fA prog g [kK c] (fun r=>r=vB (p c)))(hl:Qle l):Fk 380 [nVers l,.one (.func (.func g) #[] #[])] (vI (ix p l)):=by
 refine fE [] ntmps380 fun _ _=> ?_;simp;refine wlt Nat (fun i=>([(0,vV l),(1,.val (.one (.func (.func g) #[] #[]))),(7,vI l.length),(8,vI i)],l.length-i,(i<=l.length)/\((l.take i).any p=false))) (0) ⟨by omega,rfl⟩ ?_;rintro i ⟨h1,h2⟩;simp;apply gw<;>intro a
 ·obtain⟨c,hc⟩:=aO (l:=l) (i:=i);simp[E,U,hc];refine ck ((G c (aA hc))) ?_;simp;apply gw<;>intro e
  ·have hn:=DZ hc h2 (by simp[e]);simp[hn]
  ·simp;refine nxa (i+1) ⟨by omega,(kN hc h2 (by simp[e]))⟩
 ·simp at a;have hf:=pK h2 a;have hx:=sF hf;simp[hx]
variable {p:α->Bool}
def aCJ {l:List α}(h:ix p l≠ -1):∃i:Nat,ix p l=i/\i<l.length/\(∀k c,k<i->l[k]?=some c->p c=false)/\∀c,l[i]?=some c->p c=true:=by
 unfold ix at h|-
 cases hf:l.findIdx? p with
 |none=>rw[hf]at h;exact absurd rfl h
 |some i=>
  rw[fF]at hf;obtain⟨h1,h2,h3⟩:=hf;refine⟨i,rfl,h1,fun k c hk hc=> ?_,fun c hc=> ?_⟩
  ·have hkl:k<l.length:=by omega
   rw[aB hkl]at hc;have:=h3 k hk;rw[k_Option_some_inj hc]at this;simpa using this
  ·rw[aB h1]at hc;rw[k_Option_some_inj hc]at h2;exact h2
def aBK {l:List α}(h:∀k c,k<i->l[k]?=some c->p c):(l.take i).filter p=l.take i:=by
 refine nJ.2 fun c hc=> ?_;obtain⟨k,hk,hkc⟩:=List.mem_iff_getElem.1 hc;have hk3:k<min i l.length:=by simpa using hk
 have hk4:k<l.length:=by omega
 exact h k c (by omega) (by rw[←hkc,List.getElem_take,aB hk4])
def ajA {m:List α}{c:α}(h:i<m.length):(m.set i c).take (i+1)=m.take i++[c]:=by
 rw[dE (c:=c) (by rw[bG h])];congr 1;rw[List.take_set_of_le (k_Nat_le_refl _)]
def aJT (l:List Ver)(p:Ver->Bool)(g:FuncId)(E:Dv.Enters prog g)(U:T (1000000+g)=⟨.no,0,.any 0⟩)(G:∀c∈l,fA prog g [kK c] (fun r=>r=vB (p c)))(hl:Qle l):adE prog 294 [.one (.bool false),.one (.func (.func g) #[] #[])] 0 (oVers l) (fun res'=>res'=vV (l.filter fun v=> !p v)):=by
 refine fT [7,22,24] ntmps294 fun _ _=> ?_;simp;refine ck (aoY l p g E U G hl) ?_;simp;apply gw<;>intro a
 ·have hfl:(l.filter fun v=> !p v)=l:=nJ.2 fun v hv=>by cases hpv:p v;rfl;exact absurd (jC.2 (cZ.2 ⟨v,hv,hpv⟩)) (by omega)
  simp;refine jL [] (dQ 4) ?_;simp[hfl]
 ·obtain⟨i0,hi0,hil,hpre,hat⟩:=aCJ (p:=p) (l:=l) a;obtain⟨c0,hc0⟩:=aO (l:=l) (i:=i0) hil;have hpc0:=hat c0 hc0;have h40:l.take i0=(l.take (i0+1)).filter fun v=> !p v:=by rw[dE hc0,eD,aBK (fun k c hk hc=>by rw[hpre k c hk hc];rfl)];simp[hpc0]
  simp[hi0];refine ai ?_;refine wlt (Nat×Nat×List Ver) (fun(j,i,m)=>([(0,wV m),(1,.val (.one (.func (.func g) #[] #[]))),(5,vI i),(6,vI j)],l.length-j,(j<=l.length)/\i<j/\m.length=l.length/\(m.take i=(l.take j).filter fun v=> !p v)/\(∀k,j<=k->m[k]?=l[k]?))) ((i0+1,i0,l)) ⟨by omega,by omega,rfl,h40,(fun _ _=>rfl)⟩ ?_;rintro⟨j,i,m⟩ ⟨h1,h2,h3,h4,h5⟩;simp[h3];apply gw<;>intro b
  ·obtain⟨c,hc⟩:=aO (l:=l) (i:=j);have hm:=(h5 j (k_Nat_le_refl _)).trans hc;have hil2:i<m.length:=by omega
   simp[E,U,hm];refine ck ((G c (aA hc))) ?_;simp;apply gw<;>intro d
   ·simp at d;obtain⟨m2,hm2⟩:∃m2,m.set i c=m2:=⟨_,rfl⟩;have hst:(m.map kK).set i (kK c)=m2.map kK:=by rw[←List.map_set,hm2]
    obtain⟨ci,hmi⟩:=aO (l:=m) (i:=i) hil2;simp[hst,hmi];refine nxb (j+1,i+1,m2) ⟨by omega,by omega,by rw[←hm2,oM];exact h3,by rw[←hm2,ajA hil2,h4,dE hc,eD];simp[d],(fun k hk=>by rw[←hm2,bI (by omega)];exact h5 k (by omega))⟩
   ·simp at d;simp;refine nxa (j+1,i,m) ⟨by omega,by omega,h3,by rw[h4,dE hc,eD];simp[d],(fun k hk=>h5 k (by omega))⟩
  ·simp at b;have hjl:j=l.length:=by omega
   rw[hjl,bS]at h4;have hil3:i<=m.length:=by omega
   simp;refine aK7 2 ?_;have hz:D.fzs (List.replicate (l.length-i) (D.any 4))=List.replicate (l.length-i) (D.any 4):=by rw[D.jS,yB];rfl
   have hil4:i<=l.length:=by omega
   have hlm:min i l.length=i:=by omega
   have hr:(l.filter fun v=> !p v).map kK=(m.map kK).take i:=by rw[←h4,wF]
   simp[h3];refine ai ?_;refine jL [] (dQ 0) ?_;simp[h3,hz,hlm,hr]
   skip
def I6 (l:List Ver)(items:L1)(hs:Qle l)(hi:Qle items):Fk 296 [nVers l,nInts items] (wG (IK l items)):=by
 refine fE [] ntmps296 fun _ _=> ?_;simp;refine wlt (Nat×List Con) (fun(i,out)=>([(1,vN items),(5,wG out),(10,vV l),(11,vI l.length),(12,vI i)],l.length-i,(i<=l.length)/\(out=(l.take i).filterMap (KD items))/\(out.length<=i))) ((0,[])) ⟨by omega,rfl,by simp⟩ ?_;rintro⟨i,out⟩ ⟨h1,h2,h3⟩;simp;apply gw<;>intro a
 ·obtain⟨c,hc⟩:=aO (l:=l) (i:=i);have hm:=lV (KD items) hc;rw[←h2]at hm;have hpa:=Z4 items c.a;have hpb:=Z4 items c.b;simp[hc];refine wdr ?_;simp;refine cd (jN items c.a hi) ?_;simp[hpa];refine cd (jN items c.b hi) ?_;simp[hpb];apply gv<;>intro e
  ·have e':=e;simp[e];apply gw<;>intro b
   ·have hv:KD items c=some ⟨place items c.a,place items c.b,c.same⟩:=if_pos ⟨by omega,by omega⟩;simp;refine nxb (i+1,out++[⟨place items c.a,place items c.b,c.same⟩]) ⟨by omega,by rw[hm,hv];rfl,by simp;omega⟩
   ·simp at b;have hv:KD items c=none:=if_neg (by rintro⟨h1,h2⟩;omega);simp;refine nxa (i+1,out) ⟨by omega,by rw[hm,hv];simp,by omega⟩
  ·have e':=e;simp at e';have hv:KD items c=none:=if_neg (by rintro⟨h1,h2⟩;omega);simp[e];refine nxa (i+1,out) ⟨by omega,by rw[hm,hv];simp,by omega⟩
 ·simp at a;rw[bJ a]at h2;simp;grind[IK]
def gS (l:List Ver):∀c∈l,fA prog 295 [kK c] (fun r=>r=vB c.same):=fun c _=>MX c
def P8 (kept:List Ver)(items:L1)(hk:kept.length<=8)(hkv:∀v∈kept,inT v.a/\inT v.b)(hi:items.length<=8)(hiv:∀x∈items,inT x):Fk 189 [nVers kept,nInts items] (wG (aoD kept items)):=by
 refine fE [] ntmps189 fun _ _=> ?_;simp;refine ck (mY kept (by omega)) ?_;have hap:(kept.filter fun v=> !v.same)=apart kept:=rfl;have hapl:(apart kept).length<=8:=k_Nat_le_trans (aZ _ _) hk;simp;refine rT rfl (aJT kept (fun v=>v.same) 295 aLO aL3 (gS kept) (by omega)) ?_;simp[hap];refine ck (I6 (apart kept) items (by omega) (by omega)) ?_;simp;refine ck (RL kept (by omega) hkv) ?_;obtain⟨o,ho⟩:∃o,kJ kept=o:=⟨_,rfl⟩;have hol:o.length=400:=by rw[←ho];exact F4 kept
 obtain⟨V,hV⟩:∃V,IK (apart kept) items=V:=⟨_,rfl⟩;have hVl:V.length<=8:=by rw[←hV];exact k_Nat_le_trans (iQ _ _) hapl
 have hws:D.ws (o.map dI)=400:=by have:=wM o 400;rw[k_List_take_of_length_le (by (try unfold Qle);rw[aQ];omega),hol]at this;simpa using this
 simp[ho,hV,hws,hol];refine wlt (Nat×List Con) (fun(b,out)=>([(1,vN items),(6,wG out),(7,.own (.bx true (.agg (o.map dI)))),(18,vN items),(19,vI items.length),(20,vI b)],items.length-b,(b<=items.length)/\(out=V++CZ o items b)/\(out.length<=8+b))) ((0,V)) ⟨by omega,by simp[CZ],by omega⟩ ?_;rintro⟨b,out⟩ ⟨h1,h2,h3⟩;simp;apply gw<;>intro a
 ·have hb:=aY a;have hbi:=hiv _ (aA hb);have hls:=ai3 o items b;obtain⟨y,hy⟩:∃y,at1 items b=y:=⟨_,rfl⟩;rw[hy]at hb hbi;have hoy:=avC hol hbi;have hwy:D.ws (List.take y.toNat (o.map dI))=y.toNat:=by rw[wM,hol];have:=hbi.1;have:=hbi.2;omega
  have hy0:=hbi.1;have hy1:=hbi.2;simp;refine ai ?_;refine wlt Nat (fun k=>([(1,vN items),(6,wG out),(7,.own (.bx true (.agg (o.map dI)))),(8,vI b),(9,vI ((k:Int)-1)),(18,vN items),(19,vI items.length),(20,vI b)],k,(k<=b)/\(OW o items b=match J7 (acV o items b) k with|some a=>[⟨a,b,true⟩]|none=>[]))) (b) ⟨(k_Nat_le_refl _),rfl⟩ ?_;rintro k ⟨h4,h5⟩;simp;apply gw<;>intro d
  ·obtain⟨q,rfl⟩:∃q,k=q+1:=⟨k-1,by omega⟩;have hq:=aY (l:=items) (i:=q);have hqi:=hiv _ (aA hq);obtain⟨x,hx⟩:∃x,at1 items q=x:=⟨_,rfl⟩;rw[hx]at hq hqi;have hox:=avC hol hqi;have hwx:D.ws (List.take x.toNat (o.map dI))=x.toNat:=by rw[wM,hol];have:=hqi.1;have:=hqi.2;omega
   have hx0:=hqi.1;have hx1:=hqi.2;have hq2:((q+1:Nat):Int)-1=q:=by omega
   have hox2:=(aD.1 hox).2;have hoy2:=(aD.1 hoy).2;have hpg:J7 (acV o items b) (q+1)=if at1 o x.toNat=at1 o y.toNat then some q else J7 (acV o items b) q:=by rw[J7,acV,hx,hy];simp
   simp;refine wdr ?_;simp[hol,hq,hb,hox2,hoy2,hwx,hwy,hx0,hx1,hy0,hy1];apply gw<;>intro e
   ·simp;refine nxb (b+1,out++[⟨q,b,true⟩]) ⟨by omega,by rw[hls,h5,hpg,if_pos e,h2,bP],by simp;omega⟩
   ·simp;refine nxa (q) ⟨by omega,by rw[h5,hpg,if_neg e]⟩
  ·simp at d;obtain rfl:k=0:=by omega
   rw[J7]at h5;simp;refine nxa (b+1,out) ⟨by omega,by rw[hls,h5,h2];simp,by omega⟩
 ·simp at a;rw[show b=items.length by omega]at h2;have hr:aoD kept items=out:=by rw[h2,←hV,←ho];rfl
  simp[hr]
def CE (x:Int):Bool:= !inR x 0 1000
def KF (x:Int):Fk 228 [dI x] (vB (CE x)):=by
 refine fE [] ntmps228 fun _ _=> ?_;simp;refine ck (bK x 0 1000) ?_;simp;grind[CE]
def aoW (l:L1)(hl:Qle l):Fk 331 [nInts l,.one (.func (.func 228) #[] #[])] (vI (ix CE l)):=by
 refine fE [] ntmps331 fun _ _=> ?_;simp;refine wlt Nat (fun i=>([(0,vN l),(1,.val (.one (.func (.func 228) #[] #[]))),(7,vI l.length),(8,vI i)],l.length-i,(i<=l.length)/\((l.take i).any CE=false))) (0) ⟨by omega,rfl⟩ ?_;rintro i ⟨h1,h2⟩;simp;apply gw<;>intro a
 ·obtain⟨c,hc⟩:=aO (l:=l) (i:=i);simp[hc];refine ck (KF c) ?_;simp;apply gw<;>intro b
  ·have hn:=DZ hc h2 (by simp[b]);simp[hn]
  ·simp;refine nxa (i+1) ⟨by omega,(kN hc h2 (by simp[b]))⟩
 ·simp at a;have hf:=pK h2 a;have hx:=sF hf;simp[hx]
def as5 (l:L1)(hl:Qle l):Fk 227 [nInts l,.one (.func (.func 228) #[] #[])] (vB (l.any CE)):=by
 refine fE [] ntmps227 fun _ _=> ?_;have hq:decide (0<=ix CE l)=l.any CE:=by rw[bM,decide_eq_true_eq];exact jC
 simp;refine ck (aoW l hl) ?_;simp[hq]
def azJ (l:L1):l.any CE= !(l.all J8):=by
 induction l with
 |nil=>rfl
 |cons x l ih=>rw[List.any_cons,wB,ih,CE,J8];simp
def oJ (l:L1)(hl:Qle l:=by first|omega|grind):Fk 153 [nInts l] (vB (vZ l)):=by
 refine fE [] ntmps153 fun _ _=> ?_;simp;apply gv<;>intro e
 ·have e':=e;simp[e];refine ck (as5 l hl) ?_;simp;rw[azJ,vZ,decide_eq_true (show l.length=6 by omega)];simp
 ·have e':=e;simp[e];rw[vZ,decide_eq_false (show¬l.length=6 by omega)];simp
def PX (l w:L1)(hl:Qle l:=by first|omega|grind)(hw:Qle w:=by first|omega|grind):Fk 154 [nInts l,nInts w] (vI (pO l w)):=by
 refine fE [] ntmps154 fun _ _=> ?_;simp;apply gw<;>intro e
 ·simp;simp[pO];omega
 ·simp;refine wlt (Nat×Int×Int) (fun(i,s,t)=>([(0,vN l),(1,vN w),(5,vI s),(6,vI t),(14,vN l),(15,vI l.length),(16,vI i)],l.length-i,(i<=l.length)/\((List.range i).all (tK l w)=true)/\(s=yJ l w i)/\(t=uV w i))) ((0,0,0)) ⟨by omega,rfl,rfl,rfl⟩ ?_;rintro⟨i,s,t⟩ ⟨h1,h2,h3,h4⟩;simp;apply gw<;>intro a
  ·have hl1:=aY (l:=l) (i:=i);have hw1:=aY (l:=w) (i:=i);have hb:∀j<i,tK l w j:=fun j hj=>aH.1 h2 j (bB.2 hj);have hN:=EC i hb;have hD:=EB i hb;simp[hl1];refine ck (bK (at1 l i) 0 1000) ?_;simp;apply gv<;>intro e
   ·have e':=e;simp at e';have hn:=nM a (P:=tK l w) (by simp[tK]at*;omega);simp[e];all_goals simp[pO,hn]
   ·have e':=e;simp at e';simp[hw1,e];refine ck (bK (at1 w i) 0 1000) ?_;simp;apply gw<;>intro f
    ·simp at f;have hn:=nM a (P:=tK l w) (by simp[tK]at*;omega);simp;all_goals simp[pO,hn]
    ·simp at f;have hc:tK l w i:=by simp[tK]at*;omega
     have hp1:0<=at1 l i*at1 w i:=Int.mul_nonneg (by simp at*;omega) (by simp at*;omega);have hp2:at1 l i*at1 w i<=1000*1000:=Int.mul_le_mul (by simp at*;omega) (by simp at*;omega) (by simp at*;omega) (by omega);simp[hw1];iterate 4 refine ai ?_
     refine nx (i+1,s+at1 l i*at1 w i,t+at1 w i) ⟨by omega,(oZ h2 hc),by rw[h3,yJ,yJ,aM],by rw[h4,uV,uV,aM]⟩
  ·simp at a;have hi:l.length=i:=by omega
   subst hi;have hb:∀j<l.length,tK l w j:=fun j hj=>aH.1 h2 j (bB.2 hj);have hN:=EC l.length hb;have hD:=EB l.length hb;simp;apply gw<;>intro b
   ·simp;all_goals simp[pO,←h4,b]
   ·simp;iterate 2 refine ai ?_
    all_goals(rw[pO,if_pos ⟨by omega,h2⟩,←h4,if_neg b,←h3])
def KS (s:Sco)(f:L1)(hs:Qle s.weights:=by first|omega|grind)(hf:Qle f:=by first|omega|grind):Fk 73 [J2 s,nInts f] (vI (jP s f)):=by
 refine fE [] ntmps73 fun _ _=> ?_;simp;refine ck (pQ s hs) ?_;simp;apply gv<;>intro e
 ·have e':=e;simp at e';simp[e];grind[jP]
 ·have e':=e;simp at e';simp[e];refine ck (oJ f hf) ?_;simp;apply gw<;>intro b
  ·simp at b;simp;grind[jP]
  ·simp at b;simp;refine ck (PX _ _) ?_;simp;grind[jP]
def YT (t:Tst)(f:L1)(hf:Qle f:=by first|omega|grind):Fk 330 [uP t,nInts f] (vB (qM f t)):=by
 refine fE [] ntmps330 fun _ _=> ?_;simp;refine wdt 20 ?_;simp;refine cd (oJ _) ?_;simp;apply gv<;>intro e
 ·have e':=e;simp[e];refine cd (KX _) ?_;simp;apply gv<;>intro g
  ·have g':=g;simp at g';have h6:f.length=6:=by simp only[vZ,k_Bool_and_eq_true,decide_eq_true_eq]at e;exact e.2
   have hx:=aY (l:=f) (i:=t.feature.toNat);simp[g,hx];refine ai ?_;all_goals(simp only[qM];rw[e',show inR t.feature 0 5=true by simp;omega];simp;by_cases hq:at1 f t.feature.toNat<t.threshold<;>simp[hq,Int.not_lt.symm]<;>omega)
  ·have g':=g;simp at g';simp[g];all_goals(simp only[qM];rw[e',show inR t.feature 0 5=false by simp;omega];simp)
 ·have e':=e;simp[e];all_goals simp[qM,e']
def UV (t:Tst)(f:L1)(hf:Qle f):Fk 329 [uP t,.bx false (nInts f)] (vB (!qM f t)):=by
 refine fE [] ntmps329 fun _ _=> ?_;simp;refine ck (YT _ _) ?_;simp
def atA (l:List Tst)(p:Tst->Bool)(g:FuncId)(b:Nat)(d:D)(F:d.fz=d)(E:Dv.Enters prog g)(U:T (1000000+g)=⟨.no,0,.any 0⟩)(G:∀c∈l,fA prog g [uP c,.bx false d] (fun r=>r=vB (p c)))(hl:Qle l):yX prog 406 [D.sl none (l.map uP),.one (.func (.func g) #[] #[.pointer (some ⟨b,0,none⟩)])] [(b,d)] (fun res'=>res'=vI (ix p l)):=by
 refine fB [] ntmps406 fun _ _=> ?_;simp;refine wlt Nat (fun i=>([(0,.val (D.sl none (l.map uP))),(1,.val (.one (.func (.func g) #[] #[.pointer (some ⟨b,0,none⟩)]))),(7,vI l.length),(8,vI i),(1000000+2*b,.rp (d))],l.length-i,(i<=l.length)/\((l.take i).any p=false))) (0) ⟨by omega,rfl⟩ ?_;rintro i ⟨h1,h2⟩;simp;apply gw<;>intro a
 ·obtain⟨c,hc⟩:=aO (l:=l) (i:=i);simp[E,U,F,hc];refine ck ((G c (aA hc))) ?_;simp;apply gw<;>intro e
  ·have hn:=DZ hc h2 (by simp[e]);simp[hn]
  ·simp;refine nxa (i+1) ⟨by omega,(kN hc h2 (by simp[e]))⟩
 ·simp at a;have hf:=pK h2 a;have hx:=sF hf;simp[hx]
def axZ (l:List Tst)(p:Tst->Bool)(g:FuncId)(b:Nat)(d:D)(F:d.fz=d)(E:Dv.Enters prog g)(U:T (1000000+g)=⟨.no,0,.any 0⟩)(G:∀c∈l,fA prog g [uP c,.bx false d] (fun r=>r=vB (p c)))(hl:Qle l):yX prog 328 [D.sl none (l.map uP),.one (.func (.func g) #[] #[.pointer (some ⟨b,0,none⟩)])] [(b,d)] (fun res'=>res'=vB (l.any p)):=by
 refine fB [] ntmps328 fun _ _=> ?_;have hq:decide (0<=ix p l)=l.any p:=by rw[bM,decide_eq_true_eq];exact jC
 simp[F];refine ckB (atA l p g b d F E U G hl) ?_;simp[hq]
def as8 (l:List (List Tst))(p:List Tst->Bool)(g:FuncId)(b:Nat)(d:D)(F:d.fz=d)(E:Dv.Enters prog g)(U:T (1000000+g)=⟨.no,0,.any 0⟩)(G:∀c∈l,fA prog g [xJ c,.bx false d] (fun r=>r=vB (p c)))(hl:Qle l):yX prog 224 [.sl none (l.map xJ),.one (.func (.func g) #[] #[.pointer (some ⟨b,0,none⟩)])] [(b,d)] (fun res'=>res'=vI (ix p l)):=by
 refine fB [] ntmps224 fun _ _=> ?_;simp;refine wlt Nat (fun i=>([(0,.val (.sl none (l.map xJ))),(1,.val (.one (.func (.func g) #[] #[.pointer (some ⟨b,0,none⟩)]))),(7,vI l.length),(8,vI i),(1000000+2*b,.rp (d))],l.length-i,(i<=l.length)/\((l.take i).any p=false))) (0) ⟨by omega,rfl⟩ ?_;rintro i ⟨h1,h2⟩;simp;apply gw<;>intro a
 ·obtain⟨c,hc⟩:=aO (l:=l) (i:=i);simp[E,U,F,hc];refine ck ((G c (aA hc))) ?_;simp;apply gw<;>intro e
  ·have hn:=DZ hc h2 (by simp[e]);simp[hn]
  ·simp;refine nxa (i+1) ⟨by omega,(kN hc h2 (by simp[e]))⟩
 ·simp at a;have hf:=pK h2 a;have hx:=sF hf;simp[hx]
def YS (r:List Tst)(f:L1)(hr:Qle r:=by first|omega|grind)(hf:Qle f:=by first|omega|grind):Fk 226 [xJ r,nInts f] (vB (uL f r)):=by
 refine fE [] ntmps226 fun _ _=> ?_;simp;refine ck (oJ f hf) ?_;simp;apply gv<;>intro e
 ·have e':=e;simp[e];intro b;refine ckB (axZ r (fun t=> !qM f t) 329 b (nInts f) (ZQ _) aLQ aL4 (fun t _=>UV t f hf) hr) ?_;simp;all_goals simp[uL,e',alJ]
 ·have e':=e;simp[e];all_goals simp[uL,e']
def UR (r:List Tst)(f:L1)(hr:Qle r)(hf:Qle f):Fk 225 [xJ r,.bx false (nInts f)] (vB (uL f r)):=by
 refine fE [] ntmps225 fun _ _=> ?_;simp;refine ck (YS _ _) ?_;simp
def YQ (rs:List (List Tst))(f:L1)(hs:Qle rs:=by first|omega|grind)(hr:∀l∈rs,Qle l:=by first|omega|grind)(hf:Qle f:=by first|omega|grind):Fk 151 [nD rs,nInts f] (vI (tN rs f)):=by
 refine fE [] ntmps151 fun _ _=> ?_;simp;refine ck (rY rs hs hr) ?_;simp;apply gw<;>intro a
 ·simp at a;simp;grind[tN]
 ·simp at a;simp;intro b;refine ckB (as8 rs (uL f) 225 b (nInts f) (ZQ _) aLK aLZ (fun r hm=>UR r f (hr r hm) hf) hs) ?_;simp;grind[tN]
def KU (rs:List (List Tst))(f:L1)(hs:Qle rs:=by first|omega|grind)(hr:∀l∈rs,Qle l:=by first|omega|grind)(hf:Qle f:=by first|omega|grind):Fk 72 [nD rs,nInts f] (vB (decide (0<=tN rs f))):=by
 refine fE [] ntmps72 fun _ _=> ?_;simp;refine ck (YQ _ _) ?_;simp
def WI (rs:List (List Tst))(s:Sco)(f:L1)(hs:Qle rs)(hr:∀l∈rs,Qle l)(hw:Qle s.weights)(hf:Qle f):Fk 293 [nD rs,J2 s,nInts f] (vI (iZ rs s f)):=by
 refine fE [] ntmps293 fun _ _=> ?_;simp;refine ck (rY rs hs hr) ?_;simp;apply gv<;>intro e
 ·have e':=e;simp at e';simp[e];grind[iZ]
 ·have e':=e;simp at e';simp[e];refine ck (pQ s hw) ?_;simp;apply gv<;>intro g
  ·have g':=g;simp at g';simp[g];grind[iZ]
  ·have g':=g;simp at g';simp[g];refine ck (oJ f hf) ?_;simp;apply gw<;>intro b
   ·simp at b;simp;grind[iZ]
   ·simp at b;have hp:=aaG s f hf;have hb:0<=s.bias/\s.bias<=1000:=by simp only[mO,k_Bool_and_eq_true,decide_eq_true_eq]at g';exact g'.2
    simp;refine wdt 6 ?_;simp;refine cd (KS _ _) ?_;simp;refine ai ?_;refine ck (KU _ _) ?_;simp;apply gw<;>intro d
    ·simp;grind[iZ]
    ·simp at d;simp;grind[iZ]
end Go.Proofs.YtebopbncplpdgaaGreatDoor
end
section
namespace Go.Proofs.YtebopbncplpdgaaGreatDoor
open Go.Dv Go.Pl Go.RowKit Go.Lib Go.Sort Go.Proofs.Tryz
def aeP (x:Str):encStr x= .string ⟨x.toArray⟩:=by simp[encStr]
variable {os:Array Obj}{v:Value}
def azB {w:World}{base:Nat}{e:TypeId}{n:Nat}{xs:List Value}(h:w.ownsRow base e 1 v n xs):(grow w os).ownsRow base e 1 v n xs:=by
 refine⟨h.1,h.2.imp_right ?_⟩;rintro⟨g,cap,cur,h1,h2,h3,h4⟩;exact⟨g,cap,cur,h1,h2,by show(w.heap++os)[g]?=_;rw[fC (Go.Dv.lt_of_heap h3)];exact h3,h4⟩
variable {w':World}
def anS {B:Nat}{w:World}(h:Below B w w')(hB:B<=w'.heap.size):Below B w (Go.Sort.grow w' os):=h.trans ⟨rfl,rfl,rfl,by simp[Go.Sort.grow],fun b hb=>by
 show(w'.heap++os)[b]?=_;rw[fC (by omega)]⟩
def afS (l:List Str)(a:Addr)(cap:Nat)(w:World)(hl:l.length<=262144)(hc:l=[]\/(a.spot=none/\∀(j:Nat) x,l[j]?=some x->w.cell? ⟨a.block,a.off+j,none⟩=some (.string ⟨x.toArray⟩))):
  Calls prog 198 #[.slice (some a) l.length cap] w fun e w1=>∃v1,e= .returned v1/\w1.ownsRow w.heap.size 9 1 v1 l.length (l.map encStr)/\v1≠ .slice none 0 0/\Below w.heap.size w w1:=by
 rcases hc with rfl|⟨ha,hcell⟩
 ·exact Tryz.slices_Clone_string_zero a cap w
 ·have:=Tryz.slices_Clone_string a.block a.off l.length cap (l.map fun x=>(⟨x.toArray⟩:ByteArray)) w (by simp) (by omega) (fun j hj=>by
   have hj':j<l.length:=by simpa using hj
   rw[hcell j _ (aB hj')];simp[List.getD,hj'])
  have hae:(⟨a.block,a.off,none⟩:Addr)=a:=by cases a;cases ha;rfl
  rw[hae]at this;refine this.mono fun e w1 ⟨v1,h1,h2,h4,h3⟩=>⟨v1,h1,?_,h4,h3⟩
  have he:(((l.map fun x=>(⟨x.toArray⟩:ByteArray)).take l.length).map Value.string)=l.map encStr:=by
   rw[k_List_take_of_length_le (by simp),uD];exact xB fun x _=>(aeP x).symm
  rwa [he]at h2
def azM (l:List Str)(g c base:Nat)(w1:World)(hl:l.length<=262144)(h:w1.ownsRow base 9 1 (.slice (some ⟨g,0,none⟩) l.length c) l.length (l.map encStr))(hb:base<=w1.heap.size):
  Calls prog 322 #[.slice (some ⟨g,0,none⟩) l.length c] w1 fun e w2=>e= .returned (.tuple #[])/\w2.ownsRow base 9 1 (.slice (some ⟨g,0,none⟩) l.length c) l.length ((sZ l).map encStr)/\Below base w1 w2:=by
 obtain⟨g',c',he,hbg,hlt,hn,hm,_,hH⟩:=holds_of_ownsRow h (by simp);obtain⟨rfl,rfl⟩:g=g'/\c=c':=by simpa using he
 refine(Tryz.slices_Sort_string g 0 c l w1 hH hlt (by omega)).mono ?_;rintro e w2 ⟨h1,n,os,rfl⟩;have hy:=ownsRow_putRow (q:=n) (ys:=sZ l) (k:=l.length) h (uN l) (k_Nat_le_refl _);rw[k_List_take_of_length_le (by (try unfold Qle);rw[uN];omega)]at hy;refine⟨h1,azB hy,?_⟩;exact anS (below_putRow (Below.refl _ _) hbg) (k_Nat_le_trans hb (below_putRow (Below.refl base w1) hbg).size)
def axJ (l:List Str)(g c base:Nat)(w1:World)(hl:l.length<=262144)(hk:(Lib.compact l).length<=l.length)(h:w1.ownsRow base 9 1 (.slice (some ⟨g,0,none⟩) l.length c) l.length (l.map encStr)):
  Calls prog 323 #[.slice (some ⟨g,0,none⟩) l.length c] w1 fun e w2=>e= .returned (.slice (some ⟨g,0,none⟩) (Lib.compact l).length c)/\w2.ownsRow base 9 1 (.slice (some ⟨g,0,none⟩) (Lib.compact l).length c) (Lib.compact l).length ((Lib.compact l).map encStr)/\Below base w1 w2:=by
 obtain⟨g',c',he,hbg,hlt,hn,hm,_,hH⟩:=holds_of_ownsRow h (by simp);obtain⟨rfl,rfl⟩:g=g'/\c=c':=by simpa using he
 refine(Tryz.slices_Compact_string g 0 c l w1 hH (by omega) hn).mono ?_;rintro e w2 ⟨h1,n,rfl⟩;have hy:=ownsRow_putRow (q:=n) (ys:=Lib.compact l++List.replicate (l.length-(Lib.compact l).length) []) (k:=(Lib.compact l).length) h (by simp;omega) hk;rw[List.take_left' rfl]at hy;exact⟨h1,hy,below_putRow (Below.refl _ _) hbg⟩
def al5:fA prog 202 [.one (.int .u64 0)] (fun r=>r=vI 0):=
 FR (u:= .int .i64 0) rfl fun w ow vs hL hs ha=>by
  obtain rfl:=aa4 hs ha;have:=Tryz.bits_Len 0 w (by decide) (by decide);exact this.mono fun e w' h=>⟨h.1,h.2▸Below.refl _ _⟩
def aGG:Fk 457 [.one (.slice none 0 0),dI 0,dI 0] (.tup []):=by
 refine fE [] ntmps457 fun _ _=> ?_;simp;refine ai ?_;refine wl (fun(i:Nat)=>[(0,.val (.one (.slice none 0 0))),(1,vI 0),(2,vI 0),(6,vI 1)]) (fun(i:Nat)=>0) (fun(i:Nat)=>(i=1)) (1) (rfl) ?_;rintro i h1;simp
def aGJ (k:Int):Fk 403 [.one (.slice none 0 0),dI 0,dI 0,dI k] (.tup []):=by
 refine fE [] ntmps403 fun _ _=> ?_;simp;refine wl (fun(i:Nat)=>[(0,.val (.one (.slice none 0 0))),(1,vI 0),(2,vI 0),(3,vI k)]) (fun(i:Nat)=>0) (fun(i:Nat)=>(i=0)) (0) (rfl) ?_;rintro i h1;simp;refine ai ?_;refine ck (aGG) ?_;simp
def aBS:Fk 322 [.one (.slice none 0 0)] (.tup []):=by
 refine fE [] ntmps322 fun _ _=> ?_;simp;refine ck (al5) ?_;simp;refine ck (aGJ 0) ?_;simp
def auR (cap:Nat)(w:World)(hs:Calls prog 322 #[.slice none 0 0] w fun e w'=>e= .returned (.tuple #[])/\Below w.heap.size w w'):Calls prog 219 #[.slice none 0 cap] w fun e w'=>e= .returned (.slice none 0 0)/\Below w.heap.size w w':=by
 have h1:=Tryz.slices_Clone_string_nil 0 cap w;have h3:=fun w2=>Tryz.slices_Compact_string_empty none 0 w2;go_enter func219,ntmps219
 go_wp2_with (first|(go_at_call 198;refine h1.mono ?_;rintro e w1 ⟨rfl,hw1⟩;obtain rfl:=hw1.symm)|(go_at_call 322;refine hs.mono ?_;rintro e w2 ⟨rfl,q2⟩)|(go_at_call 323;refine(h3 w2).mono ?_;rintro e w3 ⟨rfl,hw3⟩;obtain rfl:=hw3.symm))
 exact bodyPost_ret (v:= .slice none 0 0) (by simp[results,Tryz.f219,loadVar]) rfl ⟨rfl,q2⟩
def auS (l:List Str)(a:Addr)(cap:Nat)(w:World)(hl:l.length<=262144)(hc:l=[]\/(a.spot=none/\∀(j:Nat) x,l[j]?=some x->w.cell? ⟨a.block,a.off+j,none⟩=some (.string ⟨x.toArray⟩))):
  Calls prog 219 #[.slice (some a) l.length cap] w fun e w'=>∃v,e= .returned v/\w'.ownsRow w.heap.size 9 1 v (DF l).length ((DF l).map encStr)/\Below w.heap.size w w':=by
 have h1:=afS l a cap w hl hc;have h2:=fun g c w1=>azM l g c w.heap.size w1 hl;have h3:=fun g c w1=>axJ (sZ l) g c w.heap.size w1 (by rw[uN];exact hl) (by rw[uN];exact TA l);simp only[uN]at h3;go_enter func219,ntmps219
 go_wp2_with (first|(go_at_call 198;refine h1.mono ?_;rintro e w1 ⟨v1,rfl,k1,k2,k3⟩;obtain⟨g,c,rfl,k4,k5,_⟩:=holds_of_ownsRow k1 k2)|(go_at_call 322;refine(h2 g c w1 k1 k3.size).mono ?_;rintro e w2 ⟨rfl,q1,q2⟩)|(go_at_call 323;refine(h3 g c w2 q1).mono ?_;rintro e w3 ⟨rfl,r1,r2⟩))
 exact bodyPost_ret (v:= .slice (some ⟨g,0,none⟩) (Lib.compact (sZ l)).length c) (by simp[results,Tryz.f219,loadVar]) rfl ⟨_,rfl,r1,(k3.trans q2).trans r2⟩
variable {ow:Own}{l:List Str}
def ahU {w:World}{t:Nat}(hB:Below w.heap.size w w')(h:w'.ownsRow w.heap.size 9 1 v l.length (l.map encStr)):∃ow',After w ow w' ow'/\∀(s:St) (a:Act),SV prog w' ow' s a t (wC l) v:=by
 rcases h.2 with⟨rfl,h0⟩|⟨g,cap,cur,rfl,hg,hrow,hn,hm,hs,ht⟩
 ·obtain rfl:l=[]:=bE h0;refine⟨fun b=>if b<w.heap.size then ow b else none,⟨hB.os,hB.tape,hB.output,hB.size,fun b hb=>⟨hB.block b hb,if_pos hb⟩,fun b hb=>if_neg (by have:=hB.size;omega)⟩,fun s a=> ?_⟩;exact amR
 ·have hlt:g<w'.heap.size:=Go.Dv.lt_of_heap hrow;refine⟨fun b=>if b=g then some [t]else if b<w.heap.size then ow b else none,⟨hB.os,hB.tape,hB.output,hB.size,fun b hb=>⟨hB.block b hb,?_⟩,fun b hb=> ?_⟩,fun s' a=> ?_⟩
  ·rw[if_neg (by omega),if_pos hb]
  ·have:=hB.size;rw[if_neg (by omega),if_neg (by omega)]
  ·simp only[SV,V,R];refine⟨some ⟨g,0,none⟩,cap,by simp,by simpa using hn,hm,.inr (.inr ⟨g,0,1,_,9,(0,0),rfl,hrow,(by intro h;cases h),fun t' ht'=> ?_,?_⟩)⟩
   ·obtain rfl:=k_Option_some_inj ht';obtain⟨_,i,zv,hi,hsz,_⟩:=(good 9).of (fun x h e=>by rw[e]at h;cases h);exact⟨by simp,rfl,unfz0 _,rfl,by simpa using hs,i,hi,hsz⟩
   ·rw[Rs.iff hrow];intro j x hx;rw[aS,aL]at hx;obtain⟨y,hy,rfl⟩:=hx
    have hc:cur[j]?=some (.string ⟨y.toArray⟩):=by
     have hj:=dH hy;have h1:(cur.toList.take (l.length*1))[j]?=some (encStr y):=by rw[ht,aS,hy];rfl
     rw[bD,if_pos (by omega)]at h1;rw[←Array.getElem?_toList,h1,aeP]
    refine⟨rfl,_,_,_,[.string ⟨y.toArray⟩],hrow,fun k hk=> ?_,?_⟩
    ·obtain rfl:k=0:=by simpa[D.w]using hk
     simpa using hc
    ·simp[R,Value.oneCell']
def awL {w:World}(h:V prog w ow (D.fz (mH l)) [] v):∃a cap,v= .slice a l.length cap/\l.length<=cap/\(l=[]\/∃b off,a=some ⟨b,off,none⟩/\b<w.heap.size/\∀(j:Nat) x,l[j]?=some x->w.cell? ⟨b,off+j,none⟩=some (.string ⟨x.toArray⟩)):=by
 have hfz:D.fz (mH l)=mH l:=by simp[D.fz,D.JQ]
 rw[hfz]at h;simp only[V,R]at h;obtain⟨a,cap,h1,h2,h3,h4⟩:=h;have h1:v= .slice a (l.map dS).length cap:=by simpa using h1
 rw[aQ]at h1 h2;refine⟨a,cap,h1,h2,?_⟩;rcases h4 with h4|h4|⟨b,off,s,C,e,fz,ha,hh,hn,hs,hr⟩
 ·exact .inl (by simpa using h4.2.1)
 ·exact .inl (by simpa using h4.2)
 ·refine .inr ⟨b,off,ha,Go.Dv.lt_of_heap hh,fun j x hx=> ?_⟩;have:=(Rs.iff hh).1 hr j (dS x) (by rw[aS,hx];rfl);obtain⟨hw,C',e',fz',cs,g1,g2,g3⟩:=this;have hs1:s=1:=hw.symm;subst hs1;rw[hh]at g1;obtain⟨rfl,rfl,rfl⟩:C=C'/\e=e'/\fz=fz':=by simpa using g1
  simp only[R]at g3;obtain⟨rfl,_⟩:=g3;rw[cell_of_row w b (off+j) C e fz hh];have:=g2 0 (by simp[D.w]);simpa using this
def KZ (l:List Str)(hl:l.length<=262144):fA prog 219 [mH l] (fun r=>r=wC (DF l)):=by
 intro w ow vs t ht hL hnew hsz ha;obtain⟨a,cap,hv,hcap,hc⟩:=awL (ha 0 _ rfl)
 obtain rfl:vs= #[.slice a l.length cap]:=by
  apply Array.ext
  ·simpa using hsz
  ·intro i hi h2;obtain rfl:i=0:=by simpa using h2
   simpa[aF,hi]using hv
 cases a with
 |none=>
  obtain rfl:l=[]:=by
   rcases hc with h|⟨b,off,h,_⟩
   ·exact h
   ·cases h
  have he:DF []=[]:=bE (by have:=TA [];simpa using this)
  have hsort:Calls prog 322 #[.slice none 0 0] w fun e w'=>e= .returned (.tuple #[])/\Below w.heap.size w w':=by
   refine(aBS w ow _ t ht hL hnew rfl fun i d hd=> ?_).mono ?_
   ·match i,hd with
    |0,hd=>obtain rfl:=k_Option_some_inj hd;simp[D.fz,V,R,Value.oneCell']
    |i+1,hd=>simp at hd
   ·rintro e w' ⟨v,ow',r,rfl,rfl,h3,_,h5⟩;have hv:=h5 (fun _=> .un) ⟨#[],[]⟩;obtain⟨us,rfl,hu,_⟩:=hv;have:us= #[]:=by apply Array.eq_empty_of_size_eq_zero;simpa using hu
    subst this;exact⟨rfl,⟨h3.os,h3.tape,h3.output,h3.size,fun b hb=>(h3.old b hb).1⟩⟩
  refine(auR cap w hsort).mono ?_;rintro e w' ⟨rfl,hB⟩;refine⟨_,fun b=>if b<w.heap.size then ow b else none,_,rfl,rfl,⟨hB.os,hB.tape,hB.output,hB.size,fun b hb=>⟨hB.block b hb,if_pos hb⟩,fun b hb=>if_neg (by have:=hB.size;omega)⟩,rfl,fun s a=> ?_⟩;rw[he];exact amR
 |some a=>
  have hc':l=[]\/(a.spot=none/\∀(j:Nat) x,l[j]?=some x->w.cell? ⟨a.block,a.off+j,none⟩=some (.string ⟨x.toArray⟩)):=by
   rcases hc with h|⟨b,off,h,_,h2⟩
   ·exact .inl h
   ·cases h;exact .inr ⟨rfl,h2⟩
  refine(auS l a cap w hl hc').mono ?_;rintro e w' ⟨v,rfl,h1,h2⟩;obtain⟨ow',h3,h4⟩:=ahU (ow:=ow) (t:=t) h2 h1;exact⟨_,ow',_,rfl,rfl,h3,rfl,h4⟩
end Go.Proofs.YtebopbncplpdgaaGreatDoor
end
section
namespace Go.Proofs.YtebopbncplpdgaaGreatDoor
open Go.Dv Go.Pl Go.RowKit Go.Proofs.Tryz
def PL (c:UInt8):Fk 334 [dC c] (vB (decide (97<=c.toNat)&&decide (c.toNat<=122))):=by
 refine fE [] ntmps334 fun _ _=> ?_;simp;apply gv<;>intro e
 ·have e':=e;simp[e];grind
 ·have e':=e;simp at e';simp[e];omega
def AV (c:UInt8):Fk 204 [dC c] (vB (decide (48<=c.toNat)&&decide (c.toNat<=57))):=by
 refine fE [] ntmps204 fun _ _=> ?_;simp;apply gv<;>intro e
 ·have e':=e;simp[e];grind
 ·have e':=e;simp at e';simp[e];omega
def WM (c:UInt8):Fk 236 [dC c] (vB (yH c)):=by
 refine fE [] ntmps236 fun _ _=> ?_;simp;refine ck (PL _) ?_;simp;apply gv<;>intro e
 ·have e':=e;simp at e';simp[e];grind[yH]
 ·have e':=e;simp at e';simp[e];apply gv<;>intro f
  ·have f':=f;simp[f];apply gv<;>intro g1
   ·have g1':=g1;simp[g1];grind[yH]
   ·have g1':=g1;simp at g1';simp[g1];refine ck (AV _) ?_;simp;grind[yH]
  ·have f':=f;simp at f';simp[f];refine ck (AV _) ?_;simp;grind[yH]
def WH (c:UInt8):Fk 237 [dC c] (.val (dC (iT c))):=by
 refine fE [] ntmps237 fun _ _=> ?_;simp;apply gv<;>intro e
 ·have e':=e;simp[e];apply gw<;>intro f
  ·have hu:=aeT (c:=c) (by omega) (by omega);simp[hu];simp only[inI];omega
  ·simp at f;have hu:=UC (c:=c);simp[hu]
 ·have e':=e;simp at e';have hu:=UC (c:=c);simp[e,hu]
def RD (c:UInt8):Fk 235 [dC c] (.val (dC (TJ c))):=by
 refine fE [] ntmps235 fun _ _=> ?_;simp;refine ck (WM _) ?_;simp;apply gw<;>intro b
 ·have hu:TJ c=c:=if_pos b;simp[hu]
 ·have hu:TJ c=32:=if_neg (by simpa using b);simp[hu]
def aLX {s:Str}{i:Nat}{c:UInt8}{f:UInt8->UInt8}(h:s[i]?=some c):((s.take i).map f++s.drop i)[i]?=some c/\((s.take i).map f++s.drop i).set i (f c)=(s.take (i+1)).map f++s.drop (i+1):=by
 have hi:=dH h;have hl:((s.take i).map f).length=i:=by simp;omega
 have hd:s.drop i=c::s.drop (i+1):=by rw[aW hi];rw[aB hi]at h;rw[k_Option_some_inj h]
 constructor
 ·rw[aN (by omega),hl,hd];simp
 ·rw[gV _ _ (by omega),hl,hd,List.take_succ_eq_append_getElem hi];rw[aB hi]at h;rw[k_Option_some_inj h];simp
def aC1 (f:UInt8->UInt8)(s:Str):Str:=s.map f
def atO (f:UInt8->UInt8)(s:Str)(i:Nat):Str:=(s.take i).map f++s.drop i
def aj5 (s:Str)(f:UInt8->UInt8)(g:FuncId)(E:Dv.Enters prog g)(U:T (1000000+g)=⟨.no,0,.any 0⟩)(G:∀c∈s,fA prog g [dC c] (fun r=>r= .val (dC (f c))))(hs:Qle s):Fk 233 [dS s,.one (.func (.func g) #[] #[])] (wN (aC1 f s)):=by
 refine fE [] ntmps233 fun _ _=> ?_;have hm0:atO f s 0=s:=rfl;simp;refine ai ?_;refine wl (fun(i:Nat)=>[(0,wN s),(1,.val (.one (.func (.func g) #[] #[]))),(5,.own (oBs (atO f s i))),(10,.al 5 []),(11,vI s.length),(12,vI i)]) (fun(i:Nat)=>s.length-i) (fun(i:Nat)=>(i<=s.length)) (0) (by omega) ?_ (h0:=by simp[E,U,hm0]);rintro i h1;simp;apply gw<;>intro a
 ·obtain⟨c,hc⟩:=aO (l:=s) (i:=i);have hm:=aLX (f:=f) hc;have hc1:(atO f s i)[i]?=some c:=hm.1;have hc2:((atO f s i).map dU).set i (dC (f c))=(atO f s (i+1)).map dU:=by rw[←List.map_set (f:=dU)];exact congrArg _ hm.2
  simp[E,U,hc1];refine ck ((G c (aA hc))) ?_;simp[hc1,hc2];refine nxa (i+1) (by omega)
 ·simp at a;have hm:atO f s i=aC1 f s:=by have:i=List.length s:=(by omega);subst this;simp[atO,aC1]
  simp[hm]
def aJH {w:World}{ow:Own}{vs:Array Value}{u u' u2:Value}(hs:vs.size=3)(h:∀(i:Nat) (d:D),[D.one u,D.one u',D.one u2][i]?=some d->V prog w ow d.fz [] (vs.getD i undef)):vs= #[u,u',u2]:=by
 have h0:=NZ (h 0 _ rfl);have h1:=NZ (h 1 _ rfl);have h3:=NZ (h 2 _ rfl);apply Array.ext
 ·simpa using hs
 ·intro i hi h2;have:i=0\/i=1\/i=2:=by simp at h2;omega
  rcases this with rfl|rfl|rfl
  ·simpa[aF,hi]using h0
  ·simpa[aF,hi]using h1
  ·simpa[aF,hi]using h3
def aqV (s:Str):Str:=s.filter fun c=> !decide (c=39)
def QH (s:Str)(hs:Qle s):fA prog 234 [dS s,dS [39],dS []] (fun r=>r=wN (aqV s)):=
 FR (u:= .string ⟨(aqV s).toArray⟩) rfl fun w ow vs hL hsz ha=>by
  obtain rfl:=aJH hsz ha;obtain⟨m,hm⟩:=(OV hL).2.2.2.1;have hc:Lib.countB ⟨s.toArray⟩ ⟨[39].toArray⟩=s.count 39:=Lib.count_one 39 s;refine(Tryz.strings_ReplaceAll ⟨s.toArray⟩ ⟨[39].toArray⟩ ⟨[].toArray⟩ m w (by simp[ByteArray.size];omega) hm (by simp[ByteArray.size]) (by rw[hc];simp[ByteArray.size];omega)).mono fun e w' ⟨h1,h2⟩=>⟨?_,h2⟩;rw[h1];show Ending.returned (.string ⟨(Lib.replaceAll s [39] []).toArray⟩)=_;rw[ah3];rfl
def QI (s:Str)(hs:Qle s:=by first|omega|grind):fA prog 232 [dS s,dS [32]] (fun r=>r=wN (alA s)):=
 FR (u:= .string ⟨(alA s).toArray⟩) rfl fun w ow vs hL hsz ha=>by
  obtain rfl:=alK hsz ha;rw[aFD,←aFF];exact(Tryz.strings_TrimSuffix ⟨s.toArray⟩ ⟨[32].toArray⟩ w (by simp[ByteArray.size];omega)).mono fun e w' ⟨h1,h2⟩=>⟨h1,h2▸Below.refl _ _⟩
def au4 (x:Nat)(hx:x<=1114111)(w:World):Calls prog 325 #[.int .i32 x] w fun e w'=>e= .returned (.bool (isSp x))/\Below w.heap.size w w':=by
 go_enter func325,ntmps325
 go_wp2
 refine bodyPost_ret (v:= .bool (decide ((x:Int)=32))) (by simp[results,Tryz.f325,loadVar]) rfl ⟨?_,Below.refl _ _⟩;have:decide ((x:Int)=32)=isSp x:=by unfold isSp;rw[bM,decide_eq_true_eq,decide_eq_true_eq];omega
 rw[this]
def MR (s:Str)(hs:Qle s:=by first|omega|grind):Fk 161 [dS s] (wN (uQ s)):=by
 refine fE [] ntmps161 fun _ _=> ?_;have hm:aC1 iT s=uQ s:=rfl;simp;refine ck (aj5 s iT 237 aLM aL1 (fun c _=>WH c) hs) ?_;simp[hm]
def WJ (s:Str)(hs:Qle s):Fk 160 [dS s] (wN (yF s)):=by
 refine fE [] ntmps160 fun _ _=> ?_;have hm:aC1 TJ (aqV s)=yF s:=aEY s;have hl:(aqV s).length<=s.length:=aZ _ _;simp;refine ck (QH s hs) ?_;simp;refine ck (aj5 (aqV s) TJ 235 aLL aL0 (fun c _=>RD c) (by omega)) ?_;simp[hm]
def OD (s:Str)(hs:Qle s):Fk 159 [dS s] (wN (CJ s)):=by
 refine fE [] ntmps159 fun _ _=> ?_;simp;refine wlt (Nat×Str) (fun(i,o)=>([(0,wN s),(3,.own (oBs o)),(5,wN s),(6,vI s.length),(7,vI i)],s.length-i,(i<=s.length)/\(o=(s.take i).foldl YD [])/\(o.length<=i))) ((0,[])) ⟨by omega,rfl,by simp⟩ ?_;rintro⟨i,o⟩ ⟨h1,h2,h3⟩;simp;apply gw<;>intro a
 ·obtain⟨c,hc⟩:=aO (l:=s) (i:=i);have hm:=dK YD [] hc;rw[←h2]at hm;simp[hc];apply gv<;>intro e
  ·have e':=e;have hu:YD o c=o++[c]:=if_pos (.inl (by rintro rfl;simp at e));simp[hc,e];refine nxb (i+1,o++[c]) ⟨by omega,by rw[hm,hu],by simp;omega⟩
  ·have e':=e;have hc32:c=32:=k_UInt8_toNat_inj.1 (show c.toNat=32 by omega);simp[e];apply gv<;>intro f
   ·have f':=f;obtain⟨x,hx⟩:=aO (l:=o) (i:=o.length-1);have hj:((o.length:Int)-1).toNat=o.length-1:=by omega
    have hg:o.getLast?=some x:=by rw[List.getLast?_eq_getElem?];exact hx
    simp[f,hx,hj];iterate 2 refine ai ?_
    apply gw<;>intro b
    ·have hu:YD o c=o++[c]:=if_pos (.inr ⟨by rintro rfl;simp at f,by rw[hg];rintro h;cases h;simp at b⟩);simp[hc,e];refine nxb (i+1,o++[c]) ⟨by omega,by rw[hm,hu],by simp;omega⟩ (h3:=by simp[hc,e,f,hx,hj])
    ·have hx32:x=32:=k_UInt8_toNat_inj.1 (show x.toNat=32 by omega);have hu:YD o c=o:=if_neg (by rw[hg,hc32,hx32];simp);simp;refine nxa (i+1,o) ⟨by omega,by rw[hm,hu],by omega⟩
   ·have f':=f;simp at f';have ho:o=[]:=bE (by omega);have hu:YD o c=o:=if_neg (by rw[ho,hc32];simp);simp[f];refine nxa (i+1,o) ⟨by omega,by rw[hm,hu],by omega⟩
 ·simp at a;rw[bJ a]at h2;have hce:=acG s;rw[←h2]at hce;simp;refine ck (QI _) ?_;simp[hce]
def iC (s:Str)(hs:Qle s:=by omega):Fk 77 [dS s] (wN (normal s)):=by
 refine fE [] ntmps77 fun _ _=> ?_;have h1:=BL s;have h2:=E5 (uQ s);have hn:CJ (yF (uQ s))=normal s:=rfl;simp;refine ck (MR s (by omega)) ?_;simp;refine ck (WJ (uQ s) (by omega)) ?_;simp;refine ck (OD (yF (uQ s)) (by omega)) ?_;simp[hn]
end Go.Proofs.YtebopbncplpdgaaGreatDoor
end
section
namespace Go.Proofs.YtebopbncplpdgaaGreatDoor
open Go.Dv Go.Pl Go.RowKit Go.Lib Go.Proofs.Tryz
def aoA:∀(s o:Str) (c:UInt8),c∈s.foldl YD o->c∈o\/c∈s
 |[],o,c,h=> .inl h
 |d::s,o,c,h=>by
  rcases aoA s (YD o d) c h with h|h
  ·unfold YD at h;split at h
   ·rcases k_List_mem_append.1 h with h|h
    ·exact .inl h
    ·exact .inr (by rw[k_List_mem_singleton.1 h];exact lF)
   ·exact .inl h
  ·exact .inr (bC _ h)
variable {s:Str}{c:UInt8}
def azR (h:c∈yF s):c.toNat<128:=by
 unfold yF at h;obtain⟨d,_,hd⟩:=List.mem_flatMap.1 h;unfold DI at hd;split at hd
 ·rename_i hw;rw[k_List_mem_singleton.1 hd];rcases hw with hw|hw
  ·unfold yH at hw;simp only[bN,k_Bool_and_eq_true,decide_eq_true_eq]at hw;omega
  ·omega
 ·split at hd
  ·rw[k_List_mem_singleton.1 hd];decide
  ·cases hd
def at7 (h:c∈normal s):c.toNat<128:=by
 unfold normal at h;rw[acG]at h
 have h2:c∈(yF (uQ s)).foldl YD []:=by
  unfold alA at h;split at h
  ·exact(List.dropLast_sublist _).subset h
  ·exact h
 rcases aoA _ _ _ h2 with h3|h3
 ·cases h3
 ·exact azR h3
def NJ (s:Str):(normal s).length<=2*s.length:=by
 have h1:=BL s;have h2:=E5 (uQ s);have h3:=YE (yF (uQ s));unfold normal;omega
def alD (s:Str):(PG s).length<=s.length+1:=k_Nat_le_trans (aZ _ _) (QZ 32 s []).1
def ax1 (s:Str)(hs:Qle s)(hA:∀c∈s,c.toNat<128):fA prog 324 [dS s,.one (.func (.func 325) #[] #[])] (fun r=>r=wC (PG s)):=by
 intro w ow vs t ht hL hnew hsz ha;obtain rfl:=alK hsz ha;refine(Tryz.strings_FieldsFunc_grows 325 #[] aLP isSp ⟨s.toArray⟩ w (by simp[ByteArray.size];omega) (fun W x hx hb=>au4 x hx W)).mono ?_;rintro e w' ⟨A,rfl,_,h1,h2⟩;have hm:=map_encStr (Lib.goFieldsP isSp ⟨s.toArray⟩);rw[ajY hA]at hm;have hl:(Lib.goFieldsP isSp ⟨s.toArray⟩).length=(PG s).length:=by rw[←ajY hA,aQ]
 rw[←hm,hl]at h1;obtain⟨ow',h3,h4⟩:=ahU (ow:=ow) (t:=t) h2 h1;exact⟨_,ow',_,by rw[hl],rfl,h3,rfl,h4⟩
def aiV (s:Str)(hs:Qle s)(hA:∀c∈s,c.toNat<128):Fk 220 [dS s] (wC (PG s)):=by
 refine fE [] ntmps220 fun _ _=> ?_;simp;refine ck (ax1 s hs hA) ?_;simp
def I5 (s:Str)(hs:s.length<=65536:=by omega):Fk 148 [dS s] (wC (tokens s)):=by
 refine fE [] ntmps148 fun _ _=> ?_;have hn:=NJ s;have hw:=alD (normal s);have ht:=VW s;simp;first|refine ck (iC s) ?_|refine ckz (iC s) ?_
 simp;refine ck (aiV (normal s) (by omega) (fun c hc=>at7 hc)) ?_;simp;refine ck (KZ (PG (normal s)) (by omega)) ?_;simp[ht]
end Go.Proofs.YtebopbncplpdgaaGreatDoor
end
section
namespace Go.Proofs.YtebopbncplpdgaaGreatDoor
open Go.Dv Go.Pl Go.Proofs.Tryz
def OJ (s:Str)(hs:Qle s):Fk 456 [dS s] (vB (s.all LK)):=by
 refine fE [] ntmps456 fun _ _=> ?_;simp;refine wlt Nat (fun i=>([(0,wN s),(5,vI s.length),(6,vI i)],s.length-i,(i<=s.length)/\((s.take i).all LK=true))) (0) ⟨by omega,rfl⟩ ?_;rintro i ⟨h1,h2⟩;simp;apply gw<;>intro a
 ·obtain⟨c,hc⟩:=aO (l:=s) (i:=i);simp[hc];refine ck (PL c) ?_;simp;apply gv<;>intro e
  ·have e':=e;simp at e';simp[hc,e];refine ck (AV c) ?_;simp;apply gw<;>intro b
   ·simp at b;have hn:=fV hc (P:=LK) (by simp[LK]at*;omega);simp[hn]
   ·simp at b;simp;refine nxa (i+1) ⟨by omega,(bW hc h2 (by simp[LK]at*;omega))⟩
  ·have e':=e;simp at e';simp[e];refine nxa (i+1) ⟨by omega,(bW hc h2 (by simp[LK]at*;omega))⟩
 ·simp at a;have hf:=iX h2 a;simp[hf]
def aIE {c:Str}(h:c≠[]):VE c=c.all LK:=by rw[aIF];simp[h]
def IZ (l:List Str)(hl:Qle l)(hs:∀x∈l,Qle x):Fk 401 [mH l] (vB (qV l)):=by
 refine fE [] ntmps401 fun _ _=> ?_;simp;refine wlt Nat (fun i=>([(0,vT l),(5,vT l),(6,vI l.length),(7,vI i)],l.length-i,(i<=l.length)/\((l.take i).all VE=true)/\(adj ltL (l.take i)=true))) (0) ⟨by omega,rfl,rfl⟩ ?_;rintro i ⟨h1,h2,h3⟩;simp;apply gw<;>intro a
 ·obtain⟨c,hc⟩:=aO (l:=l) (i:=i);simp[hc];apply gv<;>intro e
  ·have e':=e;have hn:=fV hc (P:=VE) (by simp[VE,e]);simp[e];grind[qV]
  ·have e':=e;have hne:c≠[]:=by simpa using e
   have hta:=aIE hne;simp[e];refine ck (OJ c (hs c (LY hc))) ?_;simp;apply gv<;>intro g
   ·have g':=g;simp at g';have hn:=fV hc (P:=VE) (by rw[hta];simpa using g);simp[g];grind[qV]
   ·have g':=g;simp at g';simp[g];apply gv<;>intro f
    ·have f':=f;obtain⟨p,hp⟩:=aO (l:=l) (i:=i-1);have hi1:i-1+1=i:=by omega
     have hj1:((i:Int)-1).toNat=i-1:=by omega
     simp[f,hp,hj1];iterate 2 refine ai ?_
     apply gw<;>intro b
     ·simp at b;have hn:=LJ hp (by rw[hi1];exact hc) (R:=ltL) (by simpa using b);simp;grind[qV]
     ·simp at b;simp;refine nxa (i+1) ⟨by omega,(bW hc h2 (by rw[hta];simpa using g)),by have:=zX (i:=i-1) (by rw[hi1];exact h3) hp (by rw[hi1];exact hc) (R:=ltL) (by simpa using b);rwa [hi1]at this⟩
    ·have f':=f;simp at f';simp[f];refine nxa (i+1) ⟨by omega,(bW hc h2 (by rw[hta];simpa using g)),(by obtain rfl:i=0:=(by omega);exact wO)⟩
 ·simp at a;have hf:=iX h2 a;rw[bJ a]at h3;simp;grind[qV]
def RH (a b:List Str)(ha:Qle a)(hsa:∀x∈a,Qle x)(hb:Qle b)(hsb:∀x∈b,Qle x):Fk 319 [mH a,mH b] (vB (xO a b)):=by
 refine fE [] ntmps319 fun _ _=> ?_;simp;refine ck (IZ a ha hsa) ?_;simp;apply gv<;>intro e
 ·have e':=e;simp[e];refine ck (IZ b hb hsb) ?_;simp;grind[xO]
 ·have e':=e;simp[e];grind[xO]
def abF (n d:Int)(hn:0<=n/\n<=1000000000000)(hd:0<=d/\d<=1000000000):Fk 321 [dI n,dI d] (vI (if d=0 then 1000 else n.tdiv d)):=by
 refine fE [] ntmps321 fun _ _=> ?_;simp;apply gw<;>intro b
 ·simp;omega
 ·simp;iterate 2 refine ai ?_
  omega
end Go.Proofs.YtebopbncplpdgaaGreatDoor
end
section
namespace Go.Proofs.YtebopbncplpdgaaGreatDoor
open Go.Dv Go.Pl Go.RowKit Go.Proofs.Tryz
def azP:∀k<26,TB.getD k 0=codeOf (97+k):=by decide
def aiA {w:World}(h:D9 w){k:Nat}(hk:k<26):w.cell? ⟨0,k,none⟩=some (.int .i64 (codeOf (97+k))):=by
 have hv:=h.2.2.2.2;have hg:prog.globalNamed "loop.example/g01923/impl.soundCodes" =some 0:=by kernel_rfl
 rw[←azP k hk];simp only[World.var?,hg,nP]at hv;have hl:k<TB.length:=hk;cases hh:w.heap[0]? with
 |none=>rw[hh]at hv;simp at hv
 |some o=>
  rw[hh]at hv;cases o with
  |cells cs e fz=>
   simp only[nP]at hv;obtain rfl:=k_Option_some_inj hv;simp only[World.cell?,hh];simp[List.getD,hl]
  |_=>simp at hv
def aKU (c:UInt8)(w:World)(h:D9 w):Calls prog 326 #[.int .u8 c.toNat] w fun e w'=>e= .returned (.int .i64 (aP c))/\Below w.heap.size w w':=by
 have hc:c.toNat<256:=c.toNat_lt;have hs:=aeF c;by_cases h1:65<=c.toNat/\c.toNat<=90
 ·have hu:=aeT h1.1 h1.2;have hcell:=aiA h (k:=c.toNat-65) (by omega);rw[if_pos (by omega),hu]at hs;rw[show 97+(c.toNat-65)=c.toNat+32 by omega]at hcell;go_enter func326,ntmps326
  go_wp2
  all_goals first
   |(refine bodyPost_ret (v:= .int .i64 (aP c)) ?_ rfl ⟨rfl,Below.refl _ _⟩;simp[results,Tryz.f326,loadVar,hs];done)
   |(refine bodyPost_ret (v:= .int .i64 (-2)) ?_ rfl ⟨rfl,Below.refl _ _⟩;simp[results,Tryz.f326,loadVar];done)
   |(exfalso;rename_i h9;simp at h9;omega)
   |(exfalso;omega)
   |(exfalso;rename_i h8 h9;simp at h8 h9;omega)
 ·have hu:=UC h1;rw[hu]at hs;by_cases h2:97<=c.toNat/\c.toNat<=122
  ·have hcell:=aiA h (k:=c.toNat-97) (by omega);rw[if_pos h2]at hs;rw[show 97+(c.toNat-97)=c.toNat by omega]at hcell;go_enter func326,ntmps326
   go_wp2
   all_goals first
    |(refine bodyPost_ret (v:= .int .i64 (aP c)) ?_ rfl ⟨rfl,Below.refl _ _⟩;simp[results,Tryz.f326,loadVar,hs];done)
    |(refine bodyPost_ret (v:= .int .i64 (-2)) ?_ rfl ⟨rfl,Below.refl _ _⟩;simp[results,Tryz.f326,loadVar];done)
    |(exfalso;rename_i h9;simp at h9;omega)
    |(exfalso;omega)
    |(exfalso;rename_i h8 h9;simp at h8 h9;omega)
  ·rw[if_neg h2]at hs;go_enter func326,ntmps326
   go_wp2
   all_goals first
    |(refine bodyPost_ret (v:= .int .i64 (aP c)) ?_ rfl ⟨rfl,Below.refl _ _⟩;simp[results,Tryz.f326,loadVar,hs];done)
    |(refine bodyPost_ret (v:= .int .i64 (-2)) ?_ rfl ⟨rfl,Below.refl _ _⟩;simp[results,Tryz.f326,loadVar];done)
    |(exfalso;rename_i h9;simp at h9;omega)
    |(exfalso;omega)
    |(exfalso;rename_i h8 h9;simp at h8 h9;omega)
    |(exfalso;simp only[Bool.not_eq_eq_eq_not,qJ,decide_eq_true_eq]at*;omega)
def KV (c:UInt8):fA prog 326 [dC c] (fun r=>r=vI (aP c)):=
 FR (u:= .int .i64 (aP c)) rfl fun w ow vs hL hs ha=>by
  obtain rfl:=aa4 hs ha;exact aKU c w (OV hL)
end Go.Proofs.YtebopbncplpdgaaGreatDoor
end
section
namespace Go.Proofs.YtebopbncplpdgaaGreatDoor
open Go.Dv Go.Pl Go.Proofs.Tryz
def okC (c:UInt8):Bool:=decide (aP c≠ -2)
def aIB (c0:UInt8)(r:Str)(i:Nat):Str×Int:=(r.take (i-1)).foldl sV ([iT c0],aP c0)
variable {i:Nat}
def azL (c0:UInt8)(r:Str){c:UInt8}(hi:0<i)(h:(c0::r)[i]?=some c):aIB c0 r (i+1)=sV (aIB c0 r i) c:=by
 obtain⟨j,rfl⟩:∃j,i=j+1:=⟨i-1,by omega⟩;rw[nG]at h;exact dK sV _ h
def adH (s:Str)(hs:s.length<=65536):Fk 221 [dS s] (wN (jK s)):=by
 refine fE [] ntmps221 fun _ _=> ?_;simp;apply gw<;>intro a
 ·have hx:jK s=[]:=if_pos (.inl (by simpa using a));simp[hx]
 ·obtain⟨c0,r,rfl⟩:∃c r,s=c::r:=by cases s with|nil=>simp at a|cons c r=>exact⟨c,r,rfl⟩
  have hf:uQ [c0]=[iT c0]:=rfl;have hrl:r.length<=65536:=by simp at hs;omega
  simp;refine ck (MR [c0]) ?_;simp[hf];refine ck (KV c0) ?_;simp;refine wlt (Nat×Str×Int) (fun(i,o,p)=>([(0,wN (c0::r)),(3,.own (oBs o)),(4,vI p),(16,wN (c0::r)),(17,vI (r.length+1)),(18,vI i)],(r.length+1)-i,(i<=r.length+1)/\(((c0::r).take i).all okC=true)/\((o,p)=aIB c0 r i)/\(1<=o.length/\o.length<=i+1))) ((0,[iT c0],aP c0)) ⟨by omega,rfl,rfl,by simp⟩ ?_;rintro⟨i,o,p⟩ ⟨h1,h2,h3,h4⟩;simp;apply gw<;>intro b
  ·obtain⟨c,hc⟩:=aO (l:=c0::r) (i:=i) (by simp;omega);have hle:=aaT c;simp[hc];refine ck (KV c) ?_;simp;apply gw<;>intro d
   ·have hn:=fV hc (P:=okC) (by simp[okC,d]);have hx:=auU hn;simp[hx]
   ·have hok:okC c:=by simp[okC,d]
    simp;apply gv<;>intro e
    ·have e':=e;obtain rfl:i=0:=by omega
     simp;refine nxa (1,o,p) ⟨by omega,(bW hc h2 hok),h3,by omega⟩
    ·have e':=e;have hst:=azL c0 r (by omega) hc;rw[←h3]at hst;simp[e];apply gw<;>intro f
     ·have hs1:sV (o,p) c=(o,p):=by simp only[sV];rw[if_neg (by omega),if_neg (by omega)]
      simp;refine nxa (i+1,o,p) ⟨by omega,(bW hc h2 hok),by rw[hst,hs1],by omega⟩
     ·simp at f;simp;apply gv<;>intro g
      ·have g':=g;simp[g];apply gw<;>intro k
       ·have hs1:sV (o,p) c=(o++[UInt8.ofNat (48+aP c).toNat],aP c):=by simp only[sV];rw[if_pos ⟨by omega,k⟩,if_pos (by omega)]
        have hu:((UInt8.ofNat (48+aP c).toNat).toNat:Int)=48+aP c:=by simp;omega
        have hw:IntKind.u8.wrap (48+aP c)=max (48+aP c) 0 % 256:=by simp[IntKind.wrap,IntKind.bits,IntKind.signed];omega
        simp[hw];refine nxd (i+1,o++[UInt8.ofNat (48+aP c).toNat],aP c) ⟨by omega,(bW hc h2 hok),by rw[hst,hs1],by simp;omega⟩
       ·have hs1:sV (o,p) c=(o,aP c):=by simp only[sV];rw[if_neg (by rintro⟨_,h⟩;exact h (by omega)),if_pos (by omega)]
        simp;refine nxa (i+1,o,aP c) ⟨by omega,(bW hc h2 hok),by rw[hst,hs1],by omega⟩
      ·have g':=g;simp at g';have hs1:sV (o,p) c=(o,aP c):=by simp only[sV];rw[if_neg (by omega),if_pos (by omega)]
       simp[g];refine nxa (i+1,o,aP c) ⟨by omega,(bW hc h2 hok),by rw[hst,hs1],by omega⟩
  ·simp at b;obtain rfl:i=r.length+1:=by omega
   rw[k_List_take_of_length_le (by simp)]at h2;have hse:=auT c0 r h2;have ho:(r.foldl sV ([iT c0],aP c0)).1=o:=by have:=congrArg Prod.fst h3;simpa[aIB]using this.symm
   rw[ho]at hse;simp[hse];refine ai ?_;omega
def azU (s:Str):(tokens s).length<=2*s.length+1:=by
 rw[←VW];have h1:=TA (PG (normal s));have h2:=alD (normal s);have h3:=NJ s;omega
def ahB (l:List Str)(i:Nat):List Str:=apN (l.take i)
def atM {l:List Str}{c:Str}(h:l[i]?=some c):ahB l (i+1)=ahB l i++if jK c=[]then[]else[jK c]:=by
 unfold ahB apN;rw[dE h,fH,eD];congr 1;by_cases hc:jK c=[]<;>simp[hc]
def KW (s:Str)(hs:s.length<=4096):Fk 149 [dS s] (wC (mW s)):=by
 refine fE [] ntmps149 fun _ _=> ?_;have hk:=apO s;have ht:=azU s;have hel:∀x∈tokens s,x.length<=65536:=fun x hx=>by have h1:=((X0 s).2 x).1 hx;have h2:=(QZ 32 (normal s) []).2 x h1.1;have h3:=NJ s;simp at h2;omega
 simp;refine ck (I5 s) ?_;generalize tokens s=l at*
 simp;refine wlt (Nat×List Str) (fun(i,o)=>([(3,wC o),(8,wC l),(9,vI l.length),(10,vI i)],l.length-i,(i<=l.length)/\(o=ahB l i)/\(o.length<=i))) ((0,[])) ⟨by omega,rfl,by simp⟩ ?_;rintro⟨i,o⟩ ⟨h1,h2,h3⟩;simp;apply gw<;>intro a
 ·obtain⟨c,hc⟩:=aO (l:=l) (i:=i);have hst:=atM hc;simp[hc];refine ck (adH c (hel c (aA hc))) ?_;simp;apply gw<;>intro b
  ·have hu:ahB l (i+1)=o++[jK c]:=by rw[hst,if_neg b,h2]
   simp;refine nxb (i+1,o++[jK c]) ⟨by omega,hu.symm,by simp;omega⟩
  ·have hu:ahB l (i+1)=o:=by rw[hst,if_pos b,dW,h2]
   simp;refine nxa (i+1,o) ⟨by omega,hu.symm,by omega⟩
 ·simp at a;have ho:o=apN l:=by rw[h2,ahB,k_List_take_of_length_le (by omega)]
  rw[←ho]at hk;simp;refine ck (KZ o (by omega)) ?_;simp[hk]
end Go.Proofs.YtebopbncplpdgaaGreatDoor
end
section
namespace Go.Proofs.YtebopbncplpdgaaGreatDoor
open Go.Dv Go.Pl Go.RowKit Go.Proofs.Tryz
def ad8 (n:Int)(hn: -9223372036854775808<=n/\n<=9223372036854775807):fA prog 468 [dI n] (fun r=>r=wN (zF n)):=
 FR (u:= .string ⟨(zF n).toArray⟩) rfl fun w ow vs hL hs ha=>by
  obtain rfl:=aa4 hs ha;rw[←aGX];exact(Tryz.strconv_Itoa n hn.1 hn.2 w (OV hL).1).mono fun e w' ⟨h1,k,os,h2⟩=>⟨h1,h2▸below_grow⟩
def JO (s:Str)(v:Int)(hs:Qle s)(h:Lib.atoiAll s= .ok v):fA prog 404 [dS s] (fun r=>r= .tup [vI v,.val (.one .nilIface)]):=by
 refine aBT (us:=[.int .i64 v,.nilIface]) (by simp[Value.oneCell']) fun w ow vs hL hsz ha=> ?_;obtain rfl:=aa4 hsz ha;refine(Tryz.strconv_Atoi_ok ⟨s.toArray⟩ (by simp[ByteArray.size];omega) v h w).mono fun e w' ⟨h1,h2⟩=>⟨h1,?_⟩;rcases h2 with rfl|⟨t,rfl⟩
 ·exact Below.refl _ _
 ·exact Lib.bytesWorld_below w _ t
def WY (s:Str)(hs:Qle s)(h:∀v,Lib.atoiAll s≠ .ok v):fA prog 404 [dS s] (fun r=>∃k tp p,r= .tup [vI k,.val (.one (.iface tp p))]):=by
 have hsz:(⟨s.toArray⟩:ByteArray).size<=281474976710656:=by simp[ByteArray.size];omega
 have key:∀(w:World) (ow:Own) (vs:Array Value) (t:Nat),Laid w ow->vs.size=1->(∀(i:Nat) (d:D),[dS s][i]?=some d->V prog w ow d.fz [] (vs.getD i undef))->Calls prog 404 vs w fun e w'=>∃k tp p,e= .returned (.tuple #[.int .i64 k,.iface tp p])/\Below w.heap.size w w':=by
  intro w ow vs t hL h1 h2;obtain rfl:=aa4 h1 h2;obtain⟨_,⟨t1,p1,hv1⟩,⟨t2,p2,hv2⟩,_⟩:=OV hL;by_cases hr:Lib.atoiAll s= .range
  ·exact(Tryz.strconv_Atoi_range_var ⟨s.toArray⟩ hsz hr t2 p2 w hv2).mono fun e w' ⟨N,g1,_,_,g4⟩=>⟨_,_,_,g1,g4⟩
  ·exact(Tryz.strconv_Atoi_syntax_var ⟨s.toArray⟩ hsz h hr t1 p1 w hv1).mono fun e w' ⟨N,g1,_,_,g4⟩=>⟨_,_,_,g1,g4⟩
 intro w ow vs t ht hL hnew hvs hargs;refine(key w ow vs t hL hvs hargs).mono ?_;rintro e w' ⟨k,tp,p,rfl,hB⟩;refine⟨_,fun b=>if b<w.heap.size then ow b else none,_,rfl,⟨k,tp,p,rfl⟩,⟨hB.os,hB.tape,hB.output,hB.size,fun b hb=>⟨hB.block b hb,if_pos hb⟩,fun b hb=>if_neg (by have:=hB.size;omega)⟩,rfl,fun s a=> ?_⟩;refine⟨_,rfl,by simp,fun k x hx=> ?_⟩
 match k,hx with
 |0,hx=>obtain rfl:=k_Option_some_inj hx;simp[D.fz,V,R,aF,Value.oneCell']
 |1,hx=>obtain rfl:=k_Option_some_inj hx;simp[D.fz,V,R,aF,Value.oneCell']
def amD (s:Str):Int:=if nT s=true then mJ s else 0
def aeQ (s:Str):amD s=if nT s=true then mJ s else 0:=rfl
def KR (n:Int)(hn: -9223372036854775808<=n/\n<=9223372036854775807):Fk 405 [dI n] (wN (zF n)):=by
 refine fE [] ntmps405 fun _ _=> ?_;simp;refine ck (ad8 n hn) ?_;simp
def ax4 (s:Str)(hs:Qle s)(hp:nT s):Fk 327 [dS s] (.tup [vI (amD s),vB (nT s)]):=by
 refine fE [] ntmps327 fun _ _=> ?_;have hv:=azD hp;have hf:zF (mJ s)=s:=by simp only[nT,k_Bool_and_eq_true,decide_eq_true_eq]at hp;exact hp.2
 have ha:Lib.atoiAll s= .ok (mJ s):=(congrArg Lib.atoiAll hf.symm).trans (aAM hv);have hg:amD s=mJ s:=by rw[aeQ,if_pos hp]
 simp;refine ck (JO s (mJ s) hs ha) ?_;simp;refine ck (KR (mJ s) (by omega)) ?_;simp[hf];refine ck (bK (mJ s) (-999999999) 999999999) ?_;simp;apply gw<;>intro g
 ·simp at g;simp;refine ai ?_;exfalso;omega
 ·simp at g;simp;refine ai ?_;simp[hp]
def ax2 (s:Str)(v:Int)(hs:Qle s)(hp:nT s=false)(ha:Lib.atoiAll s= .ok v)(hv: -9223372036854775808<=v/\v<=9223372036854775807):Fk 327 [dS s] (.tup [vI (amD s),vB (nT s)]):=by
 refine fE [] ntmps327 fun _ _=> ?_;have hg:amD s=0:=by rw[aeQ,if_neg (by simp[hp])]
 simp;refine ck (JO s v hs ha) ?_;simp;refine ck (KR v hv) ?_;simp;apply gv<;>intro e
 ·have e':=e;simp[e];refine ai ?_;simp[hp]
 ·have e':=e;simp[e];refine ck (bK v (-999999999) 999999999) ?_;simp;apply gw<;>intro g
  ·simp at g;simp;refine ai ?_;simp[hp]
  ·simp at g;simp;have h2:=(azE (n:=v) (by omega)).1;all_goals(rw[e']at h2;rw[hp]at h2;cases h2)
def ax3 (s:Str)(hs:Qle s)(hp:nT s=false)(ha:∀v,Lib.atoiAll s≠ .ok v):Fk 327 [dS s] (.tup [vI (amD s),vB (nT s)]):=by
 refine fE [] ntmps327 fun _ _=> ?_;have hg:amD s=0:=by rw[aeQ,if_neg (by simp[hp])]
 simp;refine eB (WY s hs ha) (by simp) ?_;rintro r ⟨k,tp,p,rfl⟩;refine⟨by simp,?_⟩;simp;refine ai ?_;simp[hp]
def abE (s:Str)(hs:Qle s):Fk 327 [dS s] (.tup [vI (amD s),vB (nT s)]):=by
 cases hp:nT s with
 |true=>rw[←hp];exact ax4 s hs hp
 |false=>
  rw[←hp];by_cases ha:∃v,Lib.atoiAll s= .ok v
  ·obtain⟨v,ha⟩:=ha;exact ax2 s v hs hp ha (Lib.atoiAll_bounds ha)
  ·exact ax3 s hs hp fun v h=>ha ⟨v,h⟩
def KT (s:Str)(hs:Qle s):Fk 222 [dS s] (vI (jD s)):=by
 refine fE [] ntmps222 fun _ _=> ?_;have hg:=aeQ s;simp;refine ck (abE s hs) ?_;simp;apply gv<;>intro a
 ·have a':=a;have hgv:amD s=mJ s:=by rw[hg,if_pos a]
  simp[a,hgv];refine ck (bK (mJ s) 1000 9999) ?_;simp;apply gw<;>intro b
  ·simp at b;simp;grind[jD]
  ·simp at b;simp;grind[jD]
 ·have a':=a;simp[a];grind[jD]
def aaH (s:Str):0<=jD s/\jD s<=9999:=by
 unfold jD;split
 ·rename_i h;simp only[inR,decide_eq_true_eq]at h;omega
 ·omega
def aDQ (x y z:Int):max (x-y) (y-x)=max x y-min x y:=by omega
def UU (x y z:Int):Fk 223 [dI x,dI y,dI z] (vI (nK x y z)):=by
 refine fE [] ntmps223 fun _ _=> ?_;simp;refine ck (bK x 0 9999) ?_;simp;apply gv<;>intro e
 ·have e':=e;simp at e';simp[e];all_goals(simp only[nK];rw[if_neg (by intro h;simp_all;omega)])
 ·have e':=e;simp at e';simp[e];refine ck (bK y 0 9999) ?_;simp;apply gv<;>intro f
  ·have f':=f;simp at f';simp[f];all_goals(simp only[nK];rw[if_neg (by intro h;simp_all;omega)])
  ·have f':=f;simp at f';simp[f];refine ck (bK z 1 9999) ?_;simp;apply gw<;>intro g
   ·simp at g;simp;all_goals(simp only[nK];rw[if_neg (by intro h;simp_all;omega)])
   ·simp at g;have hxy:inR x 0 9999=true/\inR y 0 9999=true/\inR z 1 9999:=by simp_all
    have hnc:=aDQ x y z;obtain⟨D,hD⟩:∃D,max x y-min x y=D:=⟨_,rfl⟩;have hns:nK x y z=if D>=z then 0 else(1000*(z-D)).tdiv z:=by rw[nK,if_pos hxy,hD]
    rw[hD]at hnc;have hb:0<=D/\D<=9999/\ -9999<=x-y/\x-y<=9999/\1<=z/\z<=9999:=by simp at hxy;omega
    clear hxy;have hm:(1000*max (z-D) 0).tdiv z=nK x y z:=by rw[hns];split;(rw[show max (z-D) 0=0 by omega];simp);(rw[show max (z-D) 0=z-D by omega])
    have hz0:¬z=0:=by omega
    have hq:=NE (a:=1000*max (z-D) 0) (b:=z);simp[hnc,hm,hz0];iterate 4 refine ai ?_
    grind
def YV (x y:Str)(hx:Qle x)(hy:Qle y):Fk 150 [dS x,dS y] (vI (uO x y)):=by
 refine fE [] ntmps150 fun _ _=> ?_;have hxp:=aaH x;have hyp:=aaH y;simp;refine ck (KT x hx) ?_;simp;refine ck (KT y hy) ?_;simp;apply gv<;>intro e
 ·have e':=e;have hs:uO x y=0:=if_neg (by omega);simp[e,hs]
 ·have e':=e;simp[e];apply gw<;>intro f
  ·have hs:uO x y=0:=if_neg (by omega);simp[hs]
  ·have hs:uO x y=nK (jD x) (jD y) 10:=if_pos (by omega);simp;refine ck (UU _ _ _) ?_;simp[hs]
def MQ (s:Str)(hs:Qle s):Fk 130 [dS s] (wN (digits s)):=by
 refine fE [] ntmps130 fun _ _=> ?_;simp;refine wlt (Nat×Str) (fun(i,o)=>([(0,wN s),(3,.own (oBs o)),(5,wN s),(6,vI s.length),(7,vI i)],s.length-i,(i<=s.length)/\(o=(s.take i).filter (fun c=>decide (48<=c.toNat/\c.toNat<=57)))/\(o.length<=i))) ((0,[])) ⟨by omega,rfl,by simp⟩ ?_;rintro⟨i,o⟩ ⟨h1,h2,h3⟩;simp;apply gw<;>intro a
 ·obtain⟨c,hc⟩:=aO (l:=s) (i:=i);have hm:=BI (fun c:UInt8=>decide (48<=c.toNat/\c.toNat<=57)) hc;rw[←h2]at hm;simp[hc];refine ck (AV c) ?_;simp;apply gw<;>intro f
  ·simp at f;have hd:(decide (48<=c.toNat/\c.toNat<=57))=true:=by simp at f|-;omega
   simp[hc];refine nxb (i+1,o++[c]) ⟨by omega,by rw[hm,hd];rfl,by simp;omega⟩
  ·simp at f;have hd:(decide (48<=c.toNat/\c.toNat<=57))=false:=by simp at f|-;omega
   simp;refine nxa (i+1,o) ⟨by omega,by rw[hm,hd];simp,by omega⟩
 ·simp at a;rw[bJ a]at h2;simp;grind[digits]
def FX (s p:Str)(hs:Qle s:=by first|omega|grind):fA prog 131 [dS s,dS p] (fun r=>r=vB (p.isSuffixOf s)):=
 FR (u:= .bool (p.isSuffixOf s)) rfl fun w ow vs hL hsz ha=>by
  obtain rfl:=alK hsz ha;exact(Tryz.strings_HasSuffix ⟨s.toArray⟩ ⟨p.toArray⟩ w (by simp[ByteArray.size];omega)).mono fun e w' ⟨h1,h2⟩=>⟨h1,h2▸Below.refl _ _⟩
def I1 (x y:Str)(hx:Qle x)(hy:Qle y):Fk 61 [dS x,dS y] (vI (iR x y)):=by
 refine fE [5] ntmps61 fun _ _=> ?_;have hdx:(digits x).length<=x.length:=aZ _ _;have hdy:(digits y).length<=y.length:=aZ _ _;have hps:iR x y=IB (digits x) (digits y):=rfl;simp;refine ck (MQ x hx) ?_;simp;refine ck (MQ y hy) ?_;generalize digits x=p at*
 generalize digits y=q at*
 simp;refine aw3 (fun(n:Nat)=>[(5,wN p),(6,wN q),(7,vI n)]) (fun(n:Nat)=>(shared p.reverse q.reverse=n)/\(n<=p.length/\n<=q.length)) ?_ ?_
 ·simp;refine wlt Nat (fun n=>([(5,wN p),(6,wN q),(7,vI n)],p.length-n,(n<=p.length/\n<=q.length)/\(shared p.reverse q.reverse=n+shared (p.reverse.drop n) (q.reverse.drop n)))) (0) ⟨by omega,by simp⟩ ?_;rintro n ⟨h1,h2⟩;simp;refine wdr ?_;simp;apply gv<;>intro a
  ·have a':=a;simp[a];apply gv<;>intro b
   ·have b':=b;have hk:((p.length:Int)-1-n).toNat=p.length-1-n:=by omega
    have hk2:((q.length:Int)-1-n).toNat=q.length-1-n:=by omega
    have hcx:=aeZ (s:=p) (i:=n);have hcy:=aeZ (s:=q) (i:=n);have hss:=ac7 (p:=p.reverse) (q:=q.reverse) (i:=n) (by simp;omega) (by simp;omega);simp[b,hk,hk2,hcx,hcy];iterate 6 refine ai ?_
    apply gw<;>intro f
    ·simp;refine nxa (n+1) ⟨by omega,by rw[h2,hss,if_pos (by simpa using f)];omega⟩
    ·simp;refine jn (n) ⟨by rw[h2,hss,if_neg (by simpa using f)];rfl,h1⟩
   ·have b':=b;simp at b';simp[b];refine jn (n) ⟨by rw[h2,O5 (.inr (by simp;omega))];rfl,h1⟩
  ·have a':=a;simp at a';simp[a];refine jn (n) ⟨by rw[h2,O5 (.inl (by simp;omega))];rfl,h1⟩
 rintro n ⟨h5,h6⟩;have hpe:=auE p q;rw[h5,←hps]at hpe;refine QJ (fun(_:Unit)=>[(5,wN p)]) (fun(_:Unit)=>(iR x y=400)) ?_ ?_
 ·simp;apply gv<;>intro a
  ·have a':=a;rw[if_pos (by omega)]at hpe;simp[a,hpe]
  ·have a':=a;simp at a';simp[a];apply gv<;>intro b
   ·have b':=b;rw[if_pos (by omega)]at hpe;simp[b,hpe]
   ·have b':=b;simp at b';simp[b];apply gw<;>intro d
    ·rw[if_pos (by omega)]at hpe;simp[hpe]
    ·simp at d;rw[if_neg (by omega)]at hpe;simp;apply gw<;>intro e
     ·rw[if_pos (by simpa using e)]at hpe;simp[hpe]
     ·rw[if_neg (by simpa using e)]at hpe;simp;apply gv<;>intro f
      ·have f':=f;rw[if_pos (.inl (by omega))]at hpe;simp[f,hpe]
      ·have f':=f;simp at f';simp[f];refine ck (FX p q) ?_;simp;apply gv<;>intro g
       ·have g':=g;simp at g';rw[if_pos (.inr (.inl (by simpa using g)))]at hpe;simp[g,hpe]
       ·have g':=g;simp[g];refine ck (FX q p) ?_;simp;apply gw<;>intro l
        ·simp at l;rw[if_pos (.inr (.inr (oV.2 l)))]at hpe;simp[hpe]
        ·rw[if_neg (by rintro(h|h|h);(omega);(exact absurd (h.symm.trans g) (by simp));(exact absurd (h.symm.trans l) (by simp)))]at hpe;simp;refine jn (()) (hpe)
 rintro⟨⟩ h7;simp;omega
end Go.Proofs.YtebopbncplpdgaaGreatDoor
end
section
namespace Go.Proofs.YtebopbncplpdgaaGreatDoor
open Go.Dv Go.Pl Go.Proofs.Tryz
def edB (x y:Str)(i:Nat):L2:=edT x y false i++List.replicate (x.length+1-i) []
def aBA (x y:Str):List.replicate (x.length+1) (D.sl (some 3) [])=(edB x y 0).map bV:=by
 show _=(List.replicate (x.length+1) ([]:L1)).map bV;rw[yB];rfl
variable {i:Nat}
def aFV (x y:Str)(h:i<=x.length+1):(edB x y i).length=x.length+1:=by simp[edB,FC];omega
def aJO (x y:Str)(h:i<=x.length):(edB x y i)[i]?=some []:=by
 unfold edB;rw[aN (by (try unfold Qle);rw[FC];omega),FC,fG,if_pos (by omega)]
def aFX (x y:Str)(h:i<=x.length)(r:L1):(edB x y i).set i r=edT x y false i++r::List.replicate (x.length-i) []:=by
 unfold edB;rw[gV _ _ (by (try unfold Qle);rw[FC];omega),FC,cB,show x.length+1-i=(x.length-i)+1 by omega,fU];rfl
def aFW (x y:Str)(h:i<=x.length):((edB x y i).map bV).set i (D.sl (some 3) (List.replicate (y.length+1) (dI 0)))=(edU x y false i 0).map bV:=by
 have e:(D.sl (some 3) (List.replicate (y.length+1) (dI 0)))=bV (List.replicate (y.length+1) 0):=by rw[←List.map_replicate]
 rw[e,←List.map_set,aFX x y h];rfl
def aF2 (x y:Str)(h:i<=x.length):edU x y false i (y.length+1)=edB x y (i+1):=by
 unfold edU edB;rw[aFY,aBC,show x.length+1-(i+1)=x.length-i by omega,bP];rfl
def aF4 (x y:Str){k:Nat}(hk:k<=y.length):((edU x y false i k).map bV).set i (D.sl (some 3) (((edP x y false i k).map dI).set k (dI (ed x y false i k))))=(edU x y false i (k+1)).map bV:=by
 have h1:((edP x y false i k).map dI).set k (dI (ed x y false i k))=(edP x y false i (k+1)).map dI:=by rw[←List.map_set,aF1 hk]
 rw[h1];have h2:(edU x y false i k).set i (edP x y false i (k+1))=edU x y false i (k+1):=by rw[aF5];rfl
 rw[←h2,jB]
def aF7 (x y:Str)(i k:Nat):min (min (ed x y false i (k+1)+1) (ed x y false (i+1) k+1)) (ed x y false i k+if chr x i=chr y k then 0 else 1)=ed x y false (i+1) (k+1):=by
 rw[aJR];unfold edV;rw[ed];simp[xN]
def al6 (x y:Str)(hx:x.length<=40)(hy:y.length<=40):Fk 335 [dS x,dS y,dB false] (.own (nL (edB x y (x.length+1)))):=by
 refine fE [] ntmps335 fun _ _=> ?_;have hz:=aBA x y;have hz2:=aFV x y (i:=0) (by omega);simp[hz,hz2];iterate 3 refine ai ?_
 refine wl (fun(i:Nat)=>[(0,wN x),(1,wN y),(2,vB false),(7,.own (nL (edB x y i))),(16,vI (x.length+1)),(17,vI i)]) (fun(i:Nat)=>x.length+1-i) (fun(i:Nat)=>(i<=x.length+1)) (0) (by omega) ?_;rintro i h1;simp;apply gw<;>intro a
 ·have hb1:=aJO x y (i:=i) (by omega);have hb2:=aFW x y (i:=i) (by omega);have hb3:=avM (x:=x) (y:=y) (tr:=false) i 0;have hb4:=aF0 (x:=x) (y:=y) (tr:=false) (i:=i) (k:=0) (by omega);simp[hb1,hb2,hb3,hb4];iterate 3 refine ai ?_
  refine wl (fun(k:Nat)=>[(0,wN x),(1,wN y),(2,vB false),(7,.own (nL (edU x y false i k))),(8,vI i),(16,vI (x.length+1)),(17,vI i),(31,vI (y.length+1)),(32,vI k)]) (fun(k:Nat)=>y.length+1-k) (fun(k:Nat)=>(k<=y.length+1)) (0) (by omega) ?_;rintro k h2;simp;apply gw<;>intro b
  ·have hn:=avM (x:=x) (y:=y) (tr:=false) i k;have hp:=aJP (x:=x) (y:=y) (tr:=false) (i:=i) (k:=k) (by omega);have hput:=aF4 x y (i:=i) (k:=k) (by omega);simp;apply gw<;>intro c
   ·have he:ed x y false i k=k:=by rw[show i=0 by omega,ed]
    rw[he]at hput;simp[hn,hp,hput];refine nxa (k+1) (by omega)
   ·simp;apply gw<;>intro d
    ·have he:ed x y false i k=i:=by obtain⟨j,rfl⟩:∃j,i=j+1:=⟨i-1,by omega⟩;rw[show k=0 by omega,ed]
     rw[he]at hput;simp[hn,hp,hput];refine nxa (k+1) (by omega)
    ·obtain⟨i,rfl⟩:∃j,i=j+1:=⟨i-1,by omega⟩;obtain⟨k,rfl⟩:∃j,k=j+1:=⟨k-1,by omega⟩;have e1:((i+1:Nat):Int)-1=i:=by omega
     have e2:((k+1:Nat):Int)-1=k:=by omega
     have hcx:=CF (s:=x) (i:=i);have hcy:=CF (s:=y) (i:=k);have ho:=aF3 (x:=x) (y:=y) (tr:=false) (i:=i+1) (k:=k+1) (j:=i) (by omega);have r1:=aeO (x:=x) (y:=y) (tr:=false) (i:=i) (k:=y.length+1) (j:=k+1);have r2:=aeO (x:=x) (y:=y) (tr:=false) (i:=i) (k:=y.length+1) (j:=k);have r3:=aFZ (x:=x) (y:=y) (tr:=false) (i:=i+1) (k:=k+1) (j:=k) (by omega);have l1:=asZ (x:=x) (y:=y) (tr:=false) i (k+1);have l2:=asZ (x:=x) (y:=y) (tr:=false) i k;have l3:=asZ (x:=x) (y:=y) (tr:=false) (i+1) k;have hst:=aF7 x y i k;simp;refine wdr ?_;simp[hcx,hcy];iterate 2 refine ai ?_
     apply gw<;>intro f
     ·rw[if_pos f,Int.add_zero]at hst;have hs2:min (min (ed x y false i (k+1)) (ed x y false (i+1) k)+1) (ed x y false i k)=ed x y false (i+1) (k+1):=by omega
      simp;refine wdt 36 ?_;simp[hn,hp,ho,r1,r2,r3,hs2,hput];iterate 11 refine ai ?_
      refine wdr ?_;simp;refine nxa (k+1+1) (by omega)
     ·rw[if_neg f]at hst;have hs2:min (ed x y false i (k+1)) (min (ed x y false (i+1) k) (ed x y false i k))+1=ed x y false (i+1) (k+1):=by omega
      simp;refine wdt 36 ?_;simp[hn,hp,ho,r1,r2,r3,hs2,hput];iterate 11 refine ai ?_
      refine wdr ?_;simp;refine nxa (k+1+1) (by omega)
  ·simp at b;have hk:edU x y false i k=edB x y (i+1):=by rw[show k=y.length+1 by omega];exact aF2 x y (by omega)
   simp[hk];refine nxa (i+1) (by omega)
 ·simp at a;have hi:edB x y i=edB x y (x.length+1):=by rw[show i=x.length+1 by omega]
  simp[hi]
variable {x y:Str}
def aLH (hx:x.length<=40)(hy:y.length<=40):lU x y=ed x y false x.length y.length:=by rw[abC,if_pos (by simp[ED];omega)]
def aA9 (x y:Str):(edB x y (x.length+1))[x.length]?=some (edR x y false x.length (y.length+1)):=by
 unfold edB;rw[cB,List.replicate_zero,dW];exact avL (by omega)
def aLI (h:40<x.length\/40<y.length):lU x y= -1:=by
 unfold lU;rw[if_neg];simp only[ED,k_Bool_and_eq_true,decide_eq_true_eq];omega
def aGE (x y:Str)(hx:Qle x)(hy:Qle y):Fk 238 [dS x,dS y,dB false] (vI (lU x y)):=by
 refine fE [] ntmps238 fun _ _=> ?_;simp;apply gv<;>intro a
 ·have a':=a;have hn:=aLI (x:=x) (y:=y) (.inl (by omega));simp[a,hn]
 ·have a':=a;simp at a';simp[a];apply gw<;>intro b
  ·have hn:=aLI (x:=x) (y:=y) (.inr (by omega));simp[hn]
  ·simp at b;have hf:=aLH (x:=x) (y:=y) (by omega) (by omega);have h1:=aA9 x y;have h2:=aeO (x:=x) (y:=y) (tr:=false) (i:=x.length) (k:=y.length+1) (j:=y.length);simp;refine ck (al6 x y (by omega) (by omega)) ?_;simp[h1,h2,hf]
def FO (x y:Str)(hx:Qle x)(hy:Qle y):Fk 162 [dS x,dS y] (vI (lU x y)):=by
 refine fE [] ntmps162 fun _ _=> ?_;simp;refine ck (aGE x y hx hy) ?_;simp
def KQ (x y:Str)(hx:Qle x)(hy:Qle y):Fk 80 [dS x,dS y] (vI (oI x y)):=by
 refine fE [] ntmps80 fun _ _=> ?_;have hb:=TT x y;have hed:oI x y=if lU x y<0 then 0 else if max (x.length:Int) y.length=0 then 1000 else(1000*(max (x.length:Int) y.length-lU x y)).tdiv (max (x.length:Int) y.length):=rfl
 obtain⟨M,hM⟩:∃M,max (x.length:Int) y.length=M:=⟨_,rfl⟩;have hMb:0<=M/\M<=1048576:=by omega
 rw[hM]at hed;simp;refine ck (FO x y hx hy) ?_;simp[hM];apply gw<;>intro a
 ·rw[if_pos (by omega)]at hed;simp[hed]
 ·simp at a;rw[if_neg (by omega)]at hed;simp;apply gw<;>intro b
  ·rw[if_pos (by omega)]at hed;simp[hed]
  ·rw[if_neg (by omega)]at hed;have hq:=NE (a:=1000*(M-lU x y)) (b:=M);simp[hed,hq];iterate 2 refine ai ?_
   omega
def K3 (x y:Str)(hx:x.length<=65536:=by omega)(hy:y.length<=65536:=by omega):Fk 146 [dS x,dS y] (vI (qN x y)):=by
 refine fE [] ntmps146 fun _ _=> ?_;have h1:=NJ x;have h2:=NJ y;simp;first|refine ck (iC x) ?_|refine ckz (iC x) ?_
 simp;first|refine ck (iC y) ?_|refine ckz (iC y) ?_
 simp;apply gv<;>intro a
 ·have a':=a;have ht:qN x y=0:=if_pos (.inl (by simpa using a));simp[a,ht]
 ·have a':=a;simp[a];apply gw<;>intro b
  ·have ht:qN x y=0:=if_pos (.inr (by simpa using b));simp[ht]
  ·have ht:qN x y=oI (normal x) (normal y):=if_neg (by rintro(h|h);(exact a (by simpa using h));(exact b (by simpa using h)));simp;refine ck (KQ (normal x) (normal y) (by omega) (by omega)) ?_;simp[ht]
end Go.Proofs.YtebopbncplpdgaaGreatDoor
end
section
namespace Go.Proofs.YtebopbncplpdgaaGreatDoor
open Go.Dv Go.Pl Go.RowKit Go.Lib Go.Sort Go.Proofs.Tryz
def CO (l:List Str)(hl:1<=l.length/\l.length<=262144):fA prog 198 [mH l] (fun r=>r=wC l):=by
 intro w ow vs t ht hL hnew hsz ha;obtain⟨a,cap,hv,hcap,hc⟩:=awL (ha 0 _ rfl)
 obtain rfl:vs= #[.slice a l.length cap]:=by
  apply Array.ext
  ·simpa using hsz
  ·intro i hi h2;obtain rfl:i=0:=by simpa using h2
   simpa[aF,hi]using hv
 rcases hc with rfl|⟨b,off,rfl,_,h2⟩
 ·simp at hl
 ·refine(afS l ⟨b,off,none⟩ cap w hl.2 (.inr ⟨rfl,h2⟩)).mono ?_;rintro e w' ⟨v,rfl,h1,_,h3⟩;obtain⟨ow',h4,h5⟩:=ahU (ow:=ow) (t:=t) h3 h1;exact⟨_,ow',_,rfl,rfl,h4,rfl,h5⟩
def JG (l:List Str)(hl:1<=l.length/\l.length<=262144:=by first|assumption|omega):D8 prog 322 [.one (.bool false)] 0 (J5 l) (fun r d=>r= .tup []/\d=J5 (sZ l)):=by
 intro w ow vs t lab ht hL hnew hsz hm hargs hV;simp only[V,R]at hV;obtain⟨a,cap,hv,hc1,hc2,h4⟩:=hV;rw[aQ]at hv hc1;have hv:vs.getD 0 undef= .slice a l.length cap:=by simpa using hv
 obtain rfl:vs= #[.slice a l.length cap]:=by
  apply Array.ext
  ·simpa using hsz
  ·intro i hi h2;obtain rfl:i=0:=by simpa using h2
   simpa[aF,hi]using hv
 rcases h4 with⟨_,h4,_⟩|⟨h4,_⟩|⟨b,off,s,C,e',fz,rfl,hb,_,h5,hrow⟩
 ·have:l=[]:=by simpa using h4
  rw[this]at hl;simp at hl
 ·cases h4
 obtain⟨hob,rfl,hU,rfl,hC,i,hi,his⟩:=h5 _ rfl;have hr:=(Rs.iff hb).1 hrow
 have hget:∀(j:Nat) (x:Str),l[j]?=some x->s=1/\C[j]?=some (Value.string ⟨x.toArray⟩):=fun j x hx=>by
  obtain⟨hw,C',e2,fz',cs,g1,g2,g3⟩:=hr j (dS x) (by rw[aS,hx];rfl);have hs1:s=1:=hw.symm;subst hs1;rw[hb]at g1;obtain⟨rfl,rfl,rfl⟩:C=C'/\_=e2/\fz=fz':=by simpa using g1
  simp only[R]at g3;obtain⟨rfl,_⟩:=g3;have:=g2 0 (by simp[D.w]);exact⟨rfl,by simpa using this⟩
 have hs1:s=1:=(hget 0 _ (aB (by omega))).1;subst hs1;have hCl:l.length<=C.size:=by omega
 have hlt:=Go.Dv.lt_of_heap hb
 have hH:Holds encStr w b 0 l.toArray:=fun j hj=>by
  have hj':j<l.length:=by simpa using hj
  have h1:=(hget j _ (aB hj')).2;refine⟨?_,?_⟩
  ·rw[cell_of_row w b (0+j) C _ fz hb,bT,h1,aeP];rw[getElem!_pos l.toArray j hj];simp
  ·have:=hU j (by omega);simp only[World.frozen?,hb,bT];simp only[lC,decide_eq_false_iff_not];omega
 refine(Tryz.slices_Sort_string b 0 cap l w hH hlt (by omega)).mono ?_;rintro e w2 ⟨h1,n,os,rfl⟩
 have hold:∀b2,b2<w.heap.size->(grow (putRow encStr (Go.Sort.ahead w n) b 0 (l.mergeSort fun x y=>decide (x<=y)).toArray) os).heap[b2]?=(w.heap.modify b (onCells (putCells encStr 0 (sZ l).toArray)))[b2]?:=fun b2 hb2=>by
  show((w.heap.modify b (onCells (putCells encStr 0 (sZ l).toArray)))++os)[b2]?=_;rw[fC (by simpa using hb2)]
 have hnb:=hold b hlt;rw[uA,if_pos rfl,hb]at hnb;refine⟨_,ow,.tup [],_,h1,⟨rfl,rfl⟩,rfl,rfl,rfl,by simp[grow,putRow,mapBlock,Go.Sort.ahead],fun b2 hb2 hno=>⟨?_,rfl⟩,fun b2 hb2=>hnew b2 (by simp[grow,putRow,mapBlock,Go.Sort.ahead]at hb2;omega),?_,rfl,fun s a=>⟨#[],rfl,rfl,fun k x hx=>by simp at hx⟩⟩
 ·rw[hold b2 hb2,uA,if_neg (fun e=>hno [] (by rw[←e,hob];rfl))]
 ·simp only[V,R];rw[aQ,uN];refine⟨_,_,rfl,by omega,hc2,.inr (.inr ⟨b,0,1,_,_,fz,rfl,hnb,(by intro h;cases h),fun t' ht'=> ?_,?_⟩)⟩
  ·obtain rfl:=k_Option_some_inj ht';exact⟨hob,rfl,by simpa[putCells]using hU,rfl,by simpa[putCells]using hC,i,hi,his⟩
  ·rw[Rs.iff hnb];intro j x hx;rw[aS,aL]at hx;obtain⟨y,hy,rfl⟩:=hx;have hj:j<l.length:=by have:=dH hy;rw[uN]at this;exact this
   refine⟨rfl,_,_,_,[.string ⟨y.toArray⟩],hnb,fun k hk=> ?_,by simp[R,Value.oneCell']⟩;obtain rfl:k=0:=by simpa[D.w]using hk
   have hjC:C[j]?=some C[j]:=iG (by omega);simp only[putCells,bT,Nat.mul_one,kP,Array.getElem?_mapIdx,hjC,dA];have hjs:j<(sZ l).toArray.size:=by simpa[uN]using hj
   rw[if_pos ⟨Nat.zero_le _,hjs⟩,Nat.sub_zero,getElem!_pos (sZ l).toArray j hjs];rw[aB (by simpa using hjs)]at hy;simp[aeP,k_Option_some_inj hy]
end Go.Proofs.YtebopbncplpdgaaGreatDoor
end
section
namespace Go.Proofs.YtebopbncplpdgaaGreatDoor
open Go.Dv Go.Pl Go.Proofs.Tryz
def ad6 (n d:Int)(hn:0<=n/\n<=1000000000)(hd:0<=d/\d<=1000000000):Fk 312 [dI n,dI d] (vI (ratio n d)):=by
 refine fE [] ntmps312 fun _ _=> ?_;simp;apply gw<;>intro h1
 ·simp;grind[ratio]
 ·simp;iterate 3 refine ai ?_
  grind[ratio]
def QB (l w:L1)(hl:Qle l:=by first|omega|grind)(hw:Qle w:=by first|omega|grind):Fk 142 [nInts l,nInts w] (vI (pO l w)):=by
 refine fE [] ntmps142 fun _ _=> ?_;simp;apply gw<;>intro e
 ·simp;simp[pO];omega
 ·simp;refine wlt (Nat×Int×Int) (fun(i,s,t)=>([(0,vN l),(1,vN w),(5,vI s),(6,vI t),(7,vI i)],l.length-i,(i<=l.length)/\((List.range i).all (tK l w)=true)/\(s=yJ l w i)/\(t=uV w i))) ((0,0,0)) ⟨by omega,rfl,rfl,rfl⟩ ?_;rintro⟨i,s,t⟩ ⟨h1,h2,h3,h4⟩;simp;apply gw<;>intro a
  ·have hl1:=aY (l:=l) (i:=i);have hw1:=aY (l:=w) (i:=i);have hb:∀j<i,tK l w j:=fun j hj=>aH.1 h2 j (bB.2 hj);have hN:=EC i hb;have hD:=EB i hb;simp[hl1];refine ck (bH _ _ _) ?_;simp;apply gv<;>intro e
   ·have e':=e;simp at e';have hn:=nM a (P:=tK l w) (by simp[tK];omega);simp[e];all_goals simp[pO,hn]
   ·have e':=e;simp at e';simp[hw1,e];refine ck (bH _ _ _) ?_;simp;apply gw<;>intro f
    ·simp at f;have hn:=nM a (P:=tK l w) (by simp[tK];omega);simp;all_goals simp[pO,hn]
    ·simp at f;have hc:tK l w i:=by simp[tK];omega
     have hp1:0<=at1 l i*at1 w i:=Int.mul_nonneg (by omega) (by omega);have hp2:at1 l i*at1 w i<=1000*1000:=Int.mul_le_mul (by omega) (by omega) (by omega) (by omega);simp;refine wdt 11 ?_;simp[hl1,hw1];iterate 4 refine ai ?_
     refine nx (i+1,s+at1 l i*at1 w i,t+at1 w i) ⟨by omega,(oZ h2 hc),by rw[h3,yJ,yJ,aM],by rw[h4,uV,uV,aM]⟩
  ·simp at a;have hi:l.length=i:=by omega
   subst hi;have hb:∀j<l.length,tK l w j:=fun j hj=>aH.1 h2 j (bB.2 hj);have hN:=EC l.length hb;have hD:=EB l.length hb;simp;apply gw<;>intro b
   ·simp;all_goals simp[pO,←h4,b]
   ·simp;iterate 2 refine ai ?_
    all_goals(rw[pO,if_pos ⟨by omega,h2⟩,←h4,if_neg b,←h3])
def K5 (s:Sco)(f:L1)(hs:Qle s.weights:=by first|omega|grind)(hf:Qle f:=by first|omega|grind):Fk 67 [J2 s,nInts f] (vI (jP s f)):=by
 refine fE [] ntmps67 fun _ _=> ?_;simp;refine ck (pR _) ?_;simp;apply gv<;>intro e
 ·have e':=e;simp at e';simp[e];grind[jP]
 ·have e':=e;simp at e';simp[e];refine ck (oL _) ?_;simp;apply gw<;>intro b
  ·simp at b;simp;grind[jP]
  ·simp at b;simp;refine ck (QB _ _) ?_;simp;grind[jP]
def ZN (t:Tst)(f:L1)(hf:Qle f:=by first|omega|grind):Fk 317 [uP t,nInts f] (vB (qM f t)):=by
 refine fE [] ntmps317 fun _ _=> ?_;simp;refine wdt 20 ?_;simp;refine cd (oL _) ?_;simp;apply gv<;>intro e
 ·have e':=e;simp[e];refine cd (bH _ _ _) ?_;simp;apply gv<;>intro g
  ·have g':=g;simp at g';have h6:f.length=6:=by simp only[vZ,k_Bool_and_eq_true,decide_eq_true_eq]at e;exact e.2
   have hx:=aY (l:=f) (i:=t.feature.toNat);simp[g,hx];refine ai ?_;all_goals(simp only[qM];rw[e',show inR t.feature 0 5=true by simp;omega];simp)
  ·have g':=g;simp at g';simp[g];all_goals(simp only[qM];rw[e',show inR t.feature 0 5=false by simp;omega];simp)
 ·have e':=e;simp[e];all_goals simp[qM,e']
def ZK (r:List Tst)(f:L1)(hr:Qle r)(hf:Qle f:=by first|omega|grind):Fk 214 [xJ r,nInts f] (vB (uL f r)):=by
 refine fE [] ntmps214 fun _ _=> ?_;simp;refine wlt Nat (fun i=>([(1,vN f),(2,.own (.bx true (xJ r))),(5,vI i)],r.length-i,(i<=r.length)/\((r.take i).all (qM f)=true))) (0) ⟨by omega,rfl⟩ ?_;rintro i ⟨h1,h2⟩;simp;apply gw<;>intro a
 ·obtain⟨c,hc⟩:=aO (l:=r) (i:=i);simp[hc];refine ck (ZN _ _) ?_;simp;apply gw<;>intro b
  ·simp at b;have hn:=fV hc (P:=(qM f)) (by first|assumption|(simp[*];done)|grind|(simp;omega));simp;grind[uL]
  ·simp at b;simp;refine nxa (i+1) ⟨by omega,(bW hc h2 (by first|assumption|(simp[*];done)|grind|(simp;omega)))⟩
 ·simp at a;have hf:=iX h2 a;simp;refine ck (oL _) ?_;simp;grind[uL]
def ZH (rs:List (List Tst))(f:L1)(hs:Qle rs:=by first|omega|grind)(hr:∀l∈rs,Qle l:=by first|omega|grind)(hf:Qle f:=by first|omega|grind):Fk 139 [nD rs,nInts f] (vI (tN rs f)):=by
 refine fE [] ntmps139 fun _ _=> ?_;simp;refine wlt Nat (fun i=>([(1,vN f),(2,.own (.bx true (nD rs))),(5,vI i)],rs.length-i,(i<=rs.length)/\((rs.take i).any (uL f)=false))) (0) ⟨by omega,rfl⟩ ?_;rintro i ⟨h1,h2⟩;simp;apply gv<;>intro a
 ·have a':=a;simp[a];refine ck (rZ _) ?_;simp;apply gw<;>intro b
  ·obtain⟨c,hc⟩:=aO (l:=rs) (i:=i);simp[hc];refine ck (ZK c f (hr c (aA hc))) ?_;simp;apply gw<;>intro e
   ·have hx:ix (uL f) rs=i:=DZ hc h2 e;simp;grind[tN]
   ·simp;refine nxa (i+1) ⟨by omega,(kN hc h2 e)⟩
  ·simp;grind[tN]
 ·have a':=a;simp at a';have hx:=sF (pK h2 (by omega));simp[a];grind[tN]
def K7 (rs:List (List Tst))(f:L1)(hs:Qle rs:=by first|omega|grind)(hr:∀l∈rs,Qle l:=by first|omega|grind)(hf:Qle f:=by first|omega|grind):Fk 66 [nD rs,nInts f] (vB (decide (0<=tN rs f))):=by
 refine fE [] ntmps66 fun _ _=> ?_;simp;refine ck (ZH _ _) ?_;simp
def WV (rs:List (List Tst))(s:Sco)(f:L1)(hs:Qle rs)(hr:∀l∈rs,Qle l)(hw:Qle s.weights)(hf:Qle f):Fk 253 [nD rs,J2 s,nInts f] (vI (iZ rs s f)):=by
 refine fE [] ntmps253 fun _ _=> ?_;simp;refine ck (rZ _) ?_;simp;apply gv<;>intro e
 ·have e':=e;simp at e';simp[e];grind[iZ]
 ·have e':=e;simp at e';simp[e];refine ck (pR _) ?_;simp;apply gv<;>intro g
  ·have g':=g;simp at g';simp[g];grind[iZ]
  ·have g':=g;simp at g';simp[g];refine ck (oL _) ?_;simp;apply gw<;>intro b
   ·simp at b;simp;grind[iZ]
   ·simp at b;have hp:=aaG s f hf;have hb:0<=s.bias/\s.bias<=1000:=by simp only[mO,k_Bool_and_eq_true,decide_eq_true_eq]at g';exact g'.2
    simp;refine wdt 6 ?_;simp;refine cd (K5 _ _) ?_;simp;refine ai ?_;refine ck (K7 _ _) ?_;simp;apply gw<;>intro d
    ·simp;grind[iZ]
    ·simp at d;simp;grind[iZ]
def agP (x y:Str)(hx:Qle x)(hy:Qle y):Fk 230 [dS x,dS y] (vB (decide (x.length<=40)&&decide (y.length<=40))):=by
 refine fE [] ntmps230 fun _ _=> ?_;simp;apply gv<;>intro e
 ·have e':=e;simp[e];grind
 ·have e':=e;simp at e';simp[e];omega
def ad1 (s:Str)(hs:s.length<=65536):Fk 210 [dS s] (wN (jK s)):=by
 refine fE [] ntmps210 fun _ _=> ?_;simp;refine wlt (Nat×Str×Int) (fun(i,o,l)=>([(0,wN s),(3,.own (oBs o)),(4,vI l),(5,vI i)],s.length-i,(i<=s.length)/\((o,l)=(s.take i).foldl xC ([],0))/\(o.length<=4/\(o=[]↔i=0))/\((s.take i).all (fun c=>decide (aP c≠ -2))=true))) ((0,[],0)) ⟨by omega,rfl,by simp,rfl⟩ ?_;rintro⟨i,o,l⟩ ⟨h1,h2,h3,h4⟩;simp;apply gw<;>intro a
 ·obtain⟨c,hc⟩:=aO (l:=s) (i:=i);have hm:=dK xC ([],0) hc;rw[←h2]at hm;have hcl:=aaT c;simp[hc];refine ck (ZL _) ?_;simp;apply gw<;>intro b
  ·have hn:=fV hc (P:=fun c=>decide (aP c≠ -2)) (by simp[b]);have hr:jK s=[]:=if_pos (.inr hn);simp[hr]
  ·simp;apply gw<;>intro d
   ·have ht:s.take 1=[c]:=by subst d;simpa using dE hc
    have hf:uQ [c]=[iT c]:=rfl;have ho:o=[]:=h3.2.2 d;have hb0:({data:= #[iT c]}:ByteArray)[0]'(by show 0<1;omega)=iT c:=rfl;simp[ht];refine ai ?_;refine ck (yL [c]) ?_;have hu:xC (o,l) c=([iT c],aP c):=if_pos ho;simp[hf,hb0,ho];refine nxa (i+1,[iT c],aP c) ⟨by omega,by rw[hm,hu],by simp,(bW hc h4 (by simp[b]))⟩
   ·have ho:o≠[]:=fun h=>d (h3.2.1 h);have hsx:xC (o,l) c=(if aP c>0/\aP c≠l/\o.length<4 then o++[UInt8.ofNat (48+aP c).toNat]else o,if 0<=aP c then aP c else l):=if_neg ho;simp;apply gv<;>intro e
    ·have e':=e;have hu8:IntKind.u8.wrap (48+aP c)=max (48+aP c) 0 % 256:=by simp[IntKind.wrap,IntKind.bits,IntKind.signed];omega
     simp[e];apply gv<;>intro f
     ·have f':=f;simp[f];apply gw<;>intro g
      ·have hp:xC (o,l) c=(o++[UInt8.ofNat (48+aP c).toNat],aP c):=by rw[hsx,if_pos ⟨by omega,by simpa using f,by omega⟩,if_pos (by omega)]
       simp[hu8];iterate 2 refine ai ?_
       apply gw<;>intro k
       ·simp;refine nxa (i+1,o++[UInt8.ofNat (48+aP c).toNat],aP c) ⟨by omega,by rw[hm,hp],by simp;omega,(bW hc h4 (by simp[b]))⟩
       ·simp at k;exfalso;omega
      ·simp at g;have hp:xC (o,l) c=(o,aP c):=by rw[hsx,if_neg (by rintro⟨_,_,h⟩;omega),if_pos (by omega)]
       simp;apply gw<;>intro k
       ·simp;refine nxa (i+1,o,aP c) ⟨by omega,by rw[hm,hp],by simp[ho];omega,(bW hc h4 (by simp[b]))⟩
       ·simp at k;exfalso;omega
     ·have f':=f;have hp:xC (o,l) c=(o,aP c):=by rw[hsx,if_neg (by rintro⟨_,h,_⟩;exact h (by simpa using f')),if_pos (by omega)]
      simp[f];apply gw<;>intro k
      ·simp;refine nxa (i+1,o,aP c) ⟨by omega,by rw[hm,hp],by simp[ho];omega,(bW hc h4 (by simp[b]))⟩ (h3:=by simp[hc,e,f])
      ·simp at k;exfalso;omega
    ·have e':=e;simp at e';have hp:xC (o,l) c=(o,if 0<=aP c then aP c else l):=by rw[hsx,if_neg (by rintro⟨h,_⟩;exact e (by simpa using h))]
     simp[e];apply gw<;>intro k
     ·simp;refine nxa (i+1,o,aP c) ⟨by omega,by rw[hm,hp,if_pos (by omega)],by simp[ho];omega,(bW hc h4 (by simp[b]))⟩
     ·simp at k;simp;refine nxa (i+1,o,l) ⟨by omega,by rw[hm,hp,if_neg (by omega)],by simp[ho];omega,(bW hc h4 (by simp[b]))⟩
 ·simp at a;have hi:s.length=i:=by omega
  have hf:=iX h4 a;rw[bJ a]at h2;simp;apply gw<;>intro b
  ·have hr:jK s=[]:=if_pos (.inl (by have:=h3.2.1 (by simpa using b);exact bE (by omega)));simp[hr]
  ·have hs0:s≠[]:=fun h=>b (by have:=h3.2.2 (by subst h;simpa using hi.symm);simpa using this);have hr:jK s=aeB o:=by rw[jK,if_neg (by rw[hf];simp[hs0]),←h2]
   simp;refine wlt Str (fun q=>([(3,.own (oBs q))],4-q.length,(q.length<=4)/\(aeB q=aeB o))) (o) ⟨h3.1,rfl⟩ ?_;rintro q ⟨h5,h6⟩;simp;apply gw<;>intro g
   ·have hp:aeB (q++[48])=aeB q:=by simp only[aeB,aR,eF];rw[bP];congr 1;rw[show 4-q.length=(4-(q.length+1))+1 by omega,fU];rfl
    simp;refine nxa (q++[48]) ⟨by simp;omega,by rw[hp,h6]⟩
   ·simp at g;have hq:aeB q=q:=by simp[aeB,show 4-q.length=0 by omega]
    simp;all_goals(rw[hr,←h6,hq])
def aiJ {l:List Str}{x y:Str}{b:Bool}(h:y∈jZ l x b):y∈l\/y=x:=by
 unfold jZ at h;split at h
 ·exact .inl h
 ·rcases k_List_mem_append.1 h with h|h
  ·rcases k_List_mem_append.1 h with h|h
   ·exact .inl (eU h)
   ·exact .inr (by simpa using h)
  ·exact .inl (iY h)
def O9 (s:Str):(tokens s).length<=2*s.length+1/\∀x∈tokens s,x.length<=2*s.length:=by
 have hc:=aoF 32 (normal s);have hn:=J4 s
 have key:∀(L:List Str) (t:List Str),(∀x∈L,x.length<=2*s.length)->(∀x∈t,x.length<=2*s.length)->(L.foldl yT t).length<=t.length+L.length/\∀x∈L.foldl yT t,x.length<=2*s.length:=by
  intro L
  induction L with
  |nil=>intro t _ ht;exact⟨by simp,ht⟩
  |cons y L ih=>
   intro t hL ht;have h1:=arZ t y
   have h2:∀x∈yT t y,x.length<=2*s.length:=fun x hx=>by
    unfold yT at hx;split at hx
    ·rcases aiJ hx with h|rfl
     ·exact ht x h
     ·exact hL _ (by simp)
    ·exact ht x hx
   have:=ih (yT t y) (fun x hx=>hL x (bC _ hx)) h2;refine⟨?_,this.2⟩;have:=this.1;simp only[k_List_foldl_cons,k_List_length_cons];omega
 have:=key (af0 32 (normal s)) [] (fun x hx=>by have:=hc.2 x hx;omega) (by simp);unfold tokens;refine⟨?_,this.2⟩;have:=this.1;simp at this;omega
def K8 (s:Str)(hs:s.length<=4096):Fk 136 [dS s] (vT (mW s)):=by
 refine fE [] ntmps136 fun _ _=> ?_;have ht:=O9 s;simp;refine ck (JL _) ?_;generalize hcs:tokens s=L at ht|-
 simp;refine wld [3] (Nat×List Str) (fun(i,o)=>([(3,vT o),(4,vT L),(5,vI i)],L.length-i,(i<=L.length)/\(o=(L.take i).foldl yO [])/\(o.length<=i))) ((0,[])) ⟨by omega,rfl,by simp⟩ ?_;rintro⟨i,o⟩ ⟨h1,h2,h3⟩;simp;apply gw<;>intro a
 ·obtain⟨c,hc⟩:=aO (l:=L) (i:=i);have hm:=dK yO [] hc;rw[←h2]at hm;have hl:=ht.2 c (LY hc);simp[hc];refine ck (ad1 c (by omega)) ?_;simp;apply gw<;>intro b
  ·have hu:yO o c=jZ o (jK c) false:=if_pos b;have hp:=sW o (jK c) false;simp;refine ck (AB o (jK c) false) ?_;simp;refine ai ?_;refine nxc (i+1,jZ o (jK c) false) [3] ⟨by omega,by rw[hm,hu],by omega⟩
  ·have hu:yO o c=o:=if_neg (by simp[b]);simp;refine ai ?_;refine nxc (i+1,o) [3] ⟨by omega,by rw[hm,hu],by omega⟩
 ·simp at a;rw[bJ a]at h2;simp;simp[mW,hcs,←h2]
def JH (l:List Str)(hl:Qle l)(hs:∀x∈l,Qle x):Fk 395 [mH l] (vB (qV l)):=by
 refine fE [200001] ntmps395 fun _ _=> ?_;simp;refine wlt Nat (fun i=>([(0,vT l),(3,vI i)],l.length-i,(i<=l.length)/\((l.take i).all VE=true)/\(adj ltL (l.take i)=true))) (0) ⟨by omega,rfl,rfl⟩ ?_;rintro i ⟨h1,h2,h3⟩;simp;apply gw<;>intro a
 ·obtain⟨c,hc⟩:=aO (l:=l) (i:=i);simp;refine QJ (fun(_:Unit)=>[(0,vT l),(3,vI i)]) (fun(_:Unit)=>(c≠[])/\(adj ltL (l.take (i+1))=true)) ?_ ?_
  ·simp;refine wdr ?_;simp[hc];apply gv<;>intro e
   ·have e':=e;have hn:=fV hc (P:=VE) (by simp[VE,e]);simp[e];grind[qV]
   ·have e':=e;simp[e];apply gv<;>intro f
    ·have f':=f;obtain⟨p,hp⟩:=aO (l:=l) (i:=i-1);have hi1:i-1+1=i:=by omega
     simp[hc,f,hp];iterate 2 refine ai ?_
     apply gw<;>intro b
     ·simp at b;have hn:=LJ hp (by rw[hi1];exact hc) (R:=ltL) (by simpa using b);simp;grind[qV]
     ·simp at b;simp;refine jn (()) ⟨by simpa using e,by have:=zX (i:=i-1) (by rw[hi1];exact h3) hp (by rw[hi1];exact hc) (R:=ltL) (by simpa using b);rwa [hi1]at this⟩
    ·have f':=f;simp at f';simp[f];refine jn (()) ⟨by simpa using e,(by obtain rfl:i=0:=(by omega);exact wO)⟩
  rintro⟨⟩ ⟨h5,h4⟩;have hcl:=hs c (LY hc);simp;refine wlt Nat (fun j=>([(0,vT l),(3,vI i),(4,vI j)],c.length-j,(j<=c.length)/\((c.take j).all yH=true)/\(0<j->uQ c=c))) (0) ⟨by omega,rfl,by omega⟩ ?_;rintro j ⟨h1j,h2j,h3j⟩;simp[hc];apply gw<;>intro aj
  ·obtain⟨cj,hcj⟩:=aO (l:=c) (i:=j);simp;refine wdr ?_;simp[hc,hcj];refine cd (RZ _) ?_;simp;apply gv<;>intro e
   ·have e':=e;simp at e';have hn:=fV hc (P:=VE) (by have:=fV hcj (P:=yH) (by simpa using e);simp[VE,this]);simp[e];grind[qV]
   ·have e':=e;simp at e';simp[hc,e];refine cd (yL _) ?_;simp[hc];apply gw<;>intro b
    ·have hn:=fV hc (P:=VE) (by simp[VE,b]);simp;grind[qV]
    ·simp;refine nxa (j+1) ⟨by omega,(bW hcj h2j (by simpa using e)),(fun _=>by simpa using b)⟩
  ·simp at aj;have hw:=iX h2j aj;have hpos:0<c.length:=kM.2 h5;simp;refine nxa (i+1) ⟨by omega,(bW hc h2 (by simp[VE,hw,h5,h3j (by omega)])),h4⟩
 ·simp at a;have hf:=iX h2 a;rw[bJ a]at h3;simp;grind[qV]
def agQ (l m:List Str)(hl:l.length<=262144)(hs:∀x∈l,Qle x)(hm:m.length<=262144)(ht:∀x∈m,Qle x):Fk 311 [mH l,mH m] (vB (xO l m)):=by
 refine fE [] ntmps311 fun _ _=> ?_;simp;refine ck (JH l (by omega) hs) ?_;simp;apply gv<;>intro e
 ·have e':=e;simp[e];refine ck (JH m (by omega) ht) ?_;simp;grind[xO]
 ·have e':=e;simp[e];grind[xO]
def asP (l m:List Str):(common l m).length<=l.length:=by
 have:=IM (KM m) (fun t x=>by unfold KM;split;(exact sW _ _ _);omega) l [];simpa[common]using this
def azW (l m:List Str):(aa1 l m).length<=l.length+m.length:=by
 have h1:=IM yU (fun t x=>sW _ _ _) l [];have h2:=IM yU (fun t x=>sW _ _ _) m (l.foldl yU []);unfold aa1;simp at h1;omega
def adZ (l m:List Str)(hl:l.length<=262144)(hs:∀x∈l,Qle x)(hm:m.length<=262144)(ht:∀x∈m,Qle x):Fk 207 [mH l,mH m] (vI (CX l m)):=by
 refine fE [] ntmps207 fun _ _=> ?_;simp;refine ck (agQ l m hl hs hm ht) ?_;simp;apply gw<;>intro e
 ·simp at e;simp;grind[CX]
 ·simp at e;have h1:=asP l m;have h2:=azW l m;simp;refine ck (RS l m hl hm) ?_;simp;refine ck (VA l m hl hm) ?_;simp;refine ck (ad6 ((common l m).length:Int) ((aa1 l m).length:Int) (by omega) (by omega)) ?_;simp;grind[CX]
def R4 (l m:List Str)(hl:l.length<=262144)(hs:∀x∈l,Qle x)(hm:m.length<=262144)(ht:∀x∈m,Qle x):Fk 134 [mH l,mH m] (vI (uM l m)):=by
 refine fE [] ntmps134 fun _ _=> ?_;simp;apply gv<;>intro e
 ·have e':=e;simp[e];grind[uM]
 ·have e':=e;simp[e];apply gw<;>intro f
  ·simp;grind[uM]
  ·simp;refine ck (adZ l m hl hs hm ht) ?_;simp;grind[uM]
def ad5 (x y:Str)(tr:Bool)(hx:x.length<=4096)(hy:y.length<=4096):Fk 231 [dS x,dS y,dB tr] (.own (nL (TV x y tr))):=by
 refine fE [200003] ntmps231 fun _ _=> ?_;simp;refine wlt (Nat×L2) (fun(i,T)=>([(0,wN x),(1,wN y),(2,vB tr),(7,.own (nL T)),(8,vI i)],(x.length+1)-i,(i<=(x.length+1))/\(T=loopN i ([]) ((fun i T=>T++[af6 x y tr i T])))/\T.length=i/\(adA (y.length+1) T))) ((0,[])) ⟨by simp,rfl,rfl,((fun i hi=>by simp at hi))⟩ ?_;rintro⟨i,T⟩ ⟨h1,h2,h3,h4⟩;simp;apply gw<;>intro a
 ·have hs:=aM i ([]) ((fun i T=>T++[af6 x y tr i T]));rw[←h2]at hs;simp;iterate 3 refine ai ?_
  refine wlt (Nat×L1) (fun(j,r)=>([(0,wN x),(1,wN y),(2,vB tr),(7,.own (nL T)),(8,vI i),(9,vS r),(10,vI j)],(y.length+1)-j,(j<=(y.length+1))/\(r=loopN j ((List.replicate (y.length+1) 0)) ((IW x y tr T i)))/\(al1 (y.length+1) j i r))) ((0,(List.replicate (y.length+1) 0))) ⟨by simp,rfl,(⟨by simp,by omega⟩)⟩ ?_;rintro⟨j,r⟩ ⟨h1j,h2j,h3j⟩;simp;apply gw<;>intro aj
  ·have hsj:=aM j ((List.replicate (y.length+1) 0)) ((IW x y tr T i));rw[←h2j]at hsj;have hrl:=h3j.1;have hrj:=aY (l:=r) (i:=j);simp;refine QJ (fun(_:Unit)=>[(0,wN x),(1,wN y),(2,vB tr),(7,.own (nL T)),(8,vI i),(9,vS (r.set j (edOne x y T i r j))),(10,vI j)]) (fun(_:Unit)=>True) ?_ ?_
   ·simp;apply gw<;>intro b
    ·have hv:edOne x y T i r j=j:=if_pos (by simpa using b);simp[hrj];refine jn (()) trivial (h3:=by simp[hrj,hrl,hv])
    ·simp;apply gw<;>intro d
     ·have hv:edOne x y T i r j=i:=by rw[edOne,if_neg (by simpa using b),if_pos (by simpa using d)]
      simp[hrj];refine jn (()) trivial (h3:=by simp[hrj,hrl,hv])
     ·have hcx:=CF (s:=x) (i:=i-1);have hcy:=CF (s:=y) (i:=j-1);obtain⟨q,hq,hqj,hb1,hb2⟩:=GG h4 (i:=i-1) (j:=j-1) (by omega) (by omega);obtain⟨q',hq',hqk,hb3,hb4⟩:=GG h4 (i:=i-1) (j:=j) (by omega) (by omega);obtain rfl:q=q':=by rw[hq]at hq';exact k_Option_some_inj hq'
      simp;refine wdt 9 ?_;simp[hcx,hcy];iterate 4 refine ai ?_
      apply gw<;>intro f
      ·have hv:edOne x y T i r j=at2 T (i-1) (j-1):=by rw[edOne,if_neg (by simpa using b),if_neg (by simpa using d),if_pos f]
       simp[hrj,hq,hqj];iterate 4 refine ai ?_
       refine jn (()) trivial (h3:=by simp[hrj,hrl,hcx,hcy,hv,hq,hqj])
      ·have hr1:=aY (l:=r) (i:=j-1);have hb5:=h3j.2 (j-1) (by omega);have hv:edOne x y T i r j=1+min (min (at2 T (i-1) j) (at1 r (j-1))) (at2 T (i-1) (j-1)):=by rw[edOne,if_neg (by simpa using b),if_neg (by simpa using d),if_neg f]
       simp;refine wdt 27 ?_;simp[hrj,hq,hqj,hqk,hr1];iterate 9 refine ai ?_
       refine jn (()) trivial (h3:=by simp[hrj,hrl,hcx,hcy,hv,hq,hqj,hqk,hr1])
   rintro⟨⟩ -
   have hve:0<=edOne x y T i r j/\edOne x y T i r j<=i+j:=aIU h3 h4 h3j (by omega) (by omega);have hok:=YL h3j (by omega) hve.1 hve.2;have hat:at1 (r.set j (edOne x y T i r j)) j=edOne x y T i r j:=by rw[AR _ (by omega),if_pos rfl]
   have hsw:∀h:xN x y tr i j=false,IW x y tr T i j r=r.set j (edOne x y T i r j):=fun h=>by rw[IW,ajV,if_neg (by simp[h])]
   generalize hr':r.set j (edOne x y T i r j)=r' at hok hat hsw|-
   have hes:IW x y tr T i j r=ajV x y tr T i j r':=by rw[IW,hr']
   have hok1:=hok.1;simp;refine wdr ?_;simp;apply gv<;>intro e
   ·have e':=e;simp[e];apply gv<;>intro f
    ·have f':=f;simp[f];apply gv<;>intro g
     ·have g':=g;have hx1:=CF (s:=x) (i:=i-1);have hy2:=CF (s:=y) (i:=j-2);have hx2:=CF (s:=x) (i:=i-2);have hy1:=CF (s:=y) (i:=j-1);have hj2:((j:Int)-2).toNat=j-2:=by omega
      have hi2:((i:Int)-2).toNat=i-2:=by omega
      simp[g,hx1,hy2,hj2];iterate 4 refine ai ?_
      apply gv<;>intro k
      ·have k':=k;simp[hx2,hy1,hi2,k];iterate 4 refine ai ?_
       apply gw<;>intro m
       ·have hw:xN x y tr i j:=by simp[xN,e,k,m];omega
        obtain⟨q,hq,hqj,hb1,hb2⟩:=GG h4 (i:=i-2) (j:=j-2) (by omega) (by omega);have hrj2:=aY (l:=r') (i:=j);have hst:IW x y tr T i j r=r'.set j (min (at1 r' j) (at2 T (i-2) (j-2)+1)):=by rw[hes,ajV,if_pos hw]
        have hok2:=YL (k:=j) (v:=min (at1 r' j) (at2 T (i-2) (j-2)+1)) ⟨hok.1,fun j' hj'=>hok.2 j' (by omega)⟩ (by omega) (by omega) (by omega);simp;refine wdt 18 ?_;simp[hj2,hi2,hq,hqj,hrj2];iterate 6 refine ai ?_
        refine nx (j+1,r'.set j (min (at1 r' j) (at2 T (i-2) (j-2)+1))) ⟨by omega,by rw[hsj,hst],hok2⟩ (h3:=by simp[hrj,hrl,e,f,g,hx1,hy2,hx2,hy1,hj2,hi2,k,hq,hqj,hrj2,hok1])
       ·have hw:xN x y tr i j=false:=by simp[xN,m]
        simp;refine nxa (j+1,r') ⟨by omega,by rw[hsj,hsw hw],hok⟩ (h3:=by simp[hrj,hrl,e,f,g,hx1,hy2,hx2,hy1,hj2,hi2,k])
      ·have k':=k;have hw:xN x y tr i j=false:=by simp[xN,k]
       simp[k];refine nxa (j+1,r') ⟨by omega,by rw[hsj,hsw hw],hok⟩ (h3:=by simp[hrj,hrl,e,f,g,hx1,hy2,hx2,hy1,hj2,hi2,k])
     ·have g':=g;simp at g';have hw:xN x y tr i j=false:=by simp[xN];omega
      simp[g];refine nxa (j+1,r') ⟨by omega,by rw[hsj,hsw hw],hok⟩ (h3:=by simp[hrj,hrl,e,f,g])
    ·have f':=f;simp at f';have hw:xN x y tr i j=false:=by simp[xN];omega
     simp[f];refine nxa (j+1,r') ⟨by omega,by rw[hsj,hsw hw],hok⟩ (h3:=by simp[hrj,hrl,e,f])
   ·have e':=e;have hw:xN x y tr i j=false:=by simp[xN,e']
    simp[e];refine nxa (j+1,r') ⟨by omega,by rw[hsj,hsw hw],hok⟩ (h3:=by simp[hrj,hrl,e])
  ·simp at aj;have hij:(y.length+1)=j:=by omega
   subst hij;simp;refine nxb (i+1,T++[r]) ⟨by omega,by rw[hs,af6,h2j],by simp[h3],(aiI h4 (by rw[h3];exact h3j))⟩
 ·simp at a;have hi:(x.length+1)=i:=by omega
  subst hi;simp;exact congrArg _ h2
def FT (x y:Str)(hx:Qle x)(hy:Qle y):Fk 158 [dS x,dS y] (vI (lU x y)):=by
 refine fE [] ntmps158 fun _ _=> ?_;simp;refine ck (agP x y hx hy) ?_;simp;apply gw<;>intro e
 ·simp at e;have hr:lU x y= -1:=if_neg (by simp only[ED];simp;omega);simp[hr]
 ·simp at e;have hf:ED x y:=by simp only[ED];simp;omega
  have hr:lU x y=at2 (TV x y false) x.length y.length:=if_pos hf;have h1:=af7 x y false;obtain⟨q,hq,hqj,hb1,hb2⟩:=GG h1.2 (i:=x.length) (j:=y.length) (by omega) (by omega);simp;refine ck (ad5 x y false (by omega) (by omega)) ?_;simp[hq,hqj,hr]
def K4 (x y:Str)(hx:Qle x:=by omega)(hy:Qle y:=by omega):Fk 76 [dS x,dS y] (vI (oI x y)):=by
 refine fE [] ntmps76 fun _ _=> ?_;have hd:=TT x y;simp;refine ck (FT x y hx hy) ?_;simp;apply gw<;>intro b
 ·have hr:oI x y=0:=if_pos b;simp[hr]
 ·simp at b;simp;apply gw<;>intro d
  ·have hr:oI x y=1000:=by rw[oI,if_neg (by omega),if_pos d]
   simp[hr]
  ·have hr:oI x y=(1000*(max (x.length:Int) y.length-lU x y)).tdiv (max (x.length:Int) y.length):=by rw[oI,if_neg (by omega),if_neg d]
   have hq:=NE (a:=1000*(max (x.length:Int) y.length-lU x y)) (b:=max (x.length:Int) y.length);simp[hq];iterate 3 refine ai ?_
   all_goals(first|exact hr.symm|simp[hr])
def R3 (x y:Str)(hx:x.length<=65536:=by omega)(hy:y.length<=65536:=by omega):Fk 133 [dS x,dS y] (vI (qN x y)):=by
 refine fE [] ntmps133 fun _ _=> ?_;have h1:=J4 x;have h2:=J4 y;simp;first|refine ck (iU x (by omega)) ?_|refine ckz (iU x (by omega)) ?_
 simp;first|refine ck (iU y (by omega)) ?_|refine ckz (iU y (by omega)) ?_
 simp;apply gv<;>intro e
 ·have e':=e;simp[e];grind[qN]
 ·have e':=e;simp[e];apply gw<;>intro f
  ·simp;grind[qN]
  ·simp;refine ck (K4 (normal x) (normal y)) ?_;simp;grind[qN]
def ZI (n:Int)(hn: -9000000000000000000<=n/\n<=9000000000000000000):Fk 316 [dI n] (wN (zF n)):=by
 refine fE [13] ntmps316 fun _ _=> ?_;simp;apply gw<;>intro e
 ·have hr:zF n=[48]:=if_pos e;simp[hr]
 ·simp;refine wlt (Int×Str) (fun(k,s)=>([(0,vI k),(3,wN s),(4,vB (decide (n<0)))],k.natAbs,(mI k.natAbs++s=mI n.natAbs)/\(k.natAbs<=n.natAbs))) ((n,[])) ⟨by simp,by simp⟩ ?_;rintro⟨k,s⟩ ⟨h1,h2⟩;have hlen:s.length<=19:=by have h3:=congrArg List.length h1;have h4:=OY n.natAbs 19 (by (try unfold Qle);rw[show(10:Nat)^19=10000000000000000000 by rfl];omega);simp only[aR]at h3;omega
  simp;apply gw<;>intro a
  ·have ht:(k.tmod 10).natAbs=k.natAbs % 10:=Int.natAbs_tmod k 10;have hq:(k.tdiv 10).natAbs=k.natAbs/10:=Int.natAbs_tdiv k 10;have hqi:=NE (a:=k) (b:=10);have hdec:=vL (m:=k.natAbs);generalize hT:k.tmod 10=t at ht|-
   generalize hQ:k.tdiv 10=q at hq hqi|-
   simp[hT];refine QJ (fun(_:Unit)=>[(0,vI k),(3,wN s),(4,vB (decide (n<0))),(5,vI (k.natAbs % 10:Nat))]) (fun(_:Unit)=>True) ?_ ?_
   ·simp;apply gw<;>intro b
    ·have hj: -t=(k.natAbs:Int) % 10:=by omega
     simp[hj];refine ai ?_;refine jn (()) trivial
    ·simp at b;have hj:t=(k.natAbs:Int) % 10:=by omega
     simp[hj];refine jn (()) trivial
   rintro⟨⟩ -
   obtain⟨c,hc⟩:∃c:UInt8,c=UInt8.ofNat (48+k.natAbs % 10):=⟨_,rfl⟩;have hu8:(48+(k.natAbs:Int) % 10) % 256=(c.toNat:Int):=by rw[hc,sI];omega
   have hu9:IntKind.u8.wrap (48+(k.natAbs:Int) % 10)=(c.toNat:Int):=by rw[←hu8];simp[IntKind.wrap,IntKind.bits,IntKind.signed]
   simp[hQ,hqi,hu9];refine nxb (q,c::s) ⟨by rw[hq,←h1,hdec,hc];simp,by omega⟩
  ·have hk:k=0:=by omega
   rw[hk]at h1;have hs:s=mI n.natAbs:=by simpa[uS]using h1
   simp;apply gw<;>intro b
   ·have hr:zF n=45::s:=by rw[zF,if_neg e,if_pos (by omega),hs];rfl
    simp[hr];omega
   ·simp at b;have hr:zF n=s:=by rw[zF,if_neg e,if_neg (by omega),hs];rfl
    simp[hr]
def aKQ {i:Nat}(h:i<=11):(10:Int)^i<=100000000000:=by
 have h1:(10:Nat)^i<=10^11:=jX (by omega) h;have h2:((10^i:Nat):Int)<=((10^11:Nat):Int):=by exact_mod_cast h1
 simpa using h2
def abP (s:Str)(hs:Qle s):Fk 211 [dS s] (.tup [vI (if nT s=true then mJ s else 0),vB (nT s)]):=by
 refine fE [5] ntmps211 fun _ _=> ?_;simp;refine aw3 (fun((v,d):(Int)×(Int))=>[(0,wN s),(4,vI v),(5,vI d)]) (fun(v,d)=>((v,d)=uJ s)/\(0<=v/\v<=100000000000)/\(0<=d/\d<=11)) ?_ ?_
 ·simp;refine wlt (Nat×Int×Int) (fun(i,v,d)=>([(0,wN s),(4,vI v),(5,vI d),(6,vI i)],s.length-i,(i<=s.length/\i<=11)/\((v,d)=(s.take i).foldl LD (0,0))/\(0<=v/\v<10^i)/\(0<=d/\d<=i))) ((0,0,0)) ⟨by simp,rfl,by simp,by simp⟩ ?_;rintro⟨i,v,d⟩ ⟨h1,h2,h3,h4⟩;have hp11:(10:Int)^i<=100000000000:=aKQ (by omega);simp;apply gv<;>intro a
  ·have a':=a;simp[a];apply gw<;>intro b
   ·obtain⟨c,hc⟩:=aO (l:=s) (i:=i);have hm:=dK LD (0,0) hc;rw[←h2]at hm;simp[hc];apply gv<;>intro e
    ·have e':=e;simp[hc,e];apply gw<;>intro f
     ·have hu:LD (v,d) c=(v*10+(c.toNat-48),d+1):=if_pos ⟨by omega,by omega⟩;have hw:IntKind.i64.wrap ((c.toNat:Int)-48)=c.toNat-48:=by simp[IntKind.wrap,IntKind.bits,IntKind.signed];omega
      have hps:(10:Int)^(i+1)=10^i*10:=Int.pow_succ 10 i;simp[hc,hw];iterate 5 refine ai ?_
      refine nx (i+1,v*10+(c.toNat-48),d+1) ⟨by omega,by rw[hm,hu],by rw[hps];omega,by omega⟩
     ·simp at f;have hu:LD (v,d) c=(v,d):=if_neg (by omega);have hps:(10:Int)^(i+1)=10^i*10:=Int.pow_succ 10 i;simp;refine nxa (i+1,v,d) ⟨by omega,by rw[hm,hu],by rw[hps];omega,by omega⟩
    ·have e':=e;simp at e';have hu:LD (v,d) c=(v,d):=if_neg (by omega);have hps:(10:Int)^(i+1)=10^i*10:=Int.pow_succ 10 i;simp[e];refine nxa (i+1,v,d) ⟨by omega,by rw[hm,hu],by rw[hps];omega,by omega⟩
   ·simp at b;simp;refine jn (v,d) ⟨by rw[h2,uJ,show i=11 by omega],by omega,by omega⟩
  ·have a':=a;simp at a';simp[a];refine jn (v,d) ⟨by rw[h2,uJ,k_List_take_of_length_le (show s.length<=i by omega),k_List_take_of_length_le (show s.length<=11 by omega)],by omega,by omega⟩
 rintro⟨v,d⟩ ⟨h5,h6,h7⟩;have hv:(uJ s).1=v:=by rw[←h5]
 have hd:(uJ s).2=d:=by rw[←h5]
 refine QJ (fun(z:Int)=>[(0,wN s),(4,vI z),(5,vI d)]) (fun(z:Int)=>(z=mJ s)/\(-100000000000<=z/\z<=100000000000)) ?_ ?_
 ·simp;apply gv<;>intro e
  ·have e':=e;obtain⟨c,hc⟩:=aO (l:=s) (i:=0) (by simpa using e);have hcz:∀h,(⟨s.toArray⟩:ByteArray)[0]'h=c:=fun h=>by have:=ba_get s 0;rw[hc]at this;exact k_Option_some_inj ((getElem?_pos (⟨s.toArray⟩:ByteArray) 0 h).symm.trans this)
   simp[e,hcz];apply gw<;>intro f
   ·have hpv:mJ s= -v:=by rw[mJ,if_pos (by rw[hc];congr 1;exact k_UInt8_toNat_inj.1 (by show c.toNat=45;omega)),hv]
    simp;refine ai ?_;refine jn (-v) ⟨hpv.symm,by omega⟩
   ·have hpv:mJ s=v:=by rw[mJ,if_neg (by rw[hc];intro h;have:=k_Option_some_inj h;subst this;exact f rfl),hv]
    simp;refine jn (v) ⟨hpv.symm,by omega⟩
  ·have e':=e;simp at e';have hpv:mJ s=v:=by rw[mJ,if_neg (by rw[show s=[]from bE (by simpa using e)];simp),hv]
   simp[e];refine jn (v) ⟨hpv.symm,by omega⟩
 rintro z ⟨h8,h9⟩;simp;apply gv<;>intro e
 ·have e':=e;have hb:nT s=false:=by simp only[nT,hd];rw[decide_eq_false (by omega)];rfl
  simp[e];all_goals simp[hb]
 ·have e':=e;simp at e';simp[e];apply gv<;>intro g
  ·have g':=g;have hb:nT s=false:=by simp only[nT,hd];rw[decide_eq_false (p:=s.length<=10) (by omega)];simp
   simp[g];all_goals simp[hb]
  ·have g':=g;simp at g';simp[g];refine ck (ZI z (by omega)) ?_;simp;apply gw<;>intro b
   ·have hb:nT s=false:=by simp only[nT,hd,←h8];rw[decide_eq_false (p:=zF z=s) b];simp
    simp;all_goals simp[hb]
   ·have hb:nT s:=by simp only[nT,hd,←h8];simp[b];omega
    simp;all_goals simp[hb,h8]
def JI (x y:Str)(hx:Qle x)(hy:Qle y):Fk 57 [dS x,dS y] (vI (iR x y)):=by
 refine fE [7] ntmps57 fun _ _=> ?_;have hdx:(digits x).length<=x.length:=aZ _ _;have hdy:(digits y).length<=y.length:=aZ _ _;have hps:iR x y=IB (digits x) (digits y):=rfl;simp;refine ck (M9 x hx) ?_;simp;refine ck (M9 y hy) ?_;generalize digits x=p at*
 generalize digits y=q at*
 simp;refine aw3 (fun(n:Nat)=>[(5,wN p),(6,wN q),(7,vI n)]) (fun(n:Nat)=>(shared p.reverse q.reverse=n)/\(n<=p.length/\n<=q.length)) ?_ ?_
 ·simp;refine wlt Nat (fun n=>([(5,wN p),(6,wN q),(7,vI n)],p.length-n,(n<=p.length/\n<=q.length)/\(shared p.reverse q.reverse=n+shared (p.reverse.drop n) (q.reverse.drop n)))) (0) ⟨by omega,by simp⟩ ?_;rintro n ⟨h1,h2⟩;simp;refine wdr ?_;simp;apply gv<;>intro a
  ·have a':=a;simp[a];apply gv<;>intro b
   ·have b':=b;have hk:((p.length:Int)-1-n).toNat=p.length-1-n:=by omega
    have hk2:((q.length:Int)-1-n).toNat=q.length-1-n:=by omega
    have hcx:=aeZ (s:=p) (i:=n);have hcy:=aeZ (s:=q) (i:=n);have hss:=ac7 (p:=p.reverse) (q:=q.reverse) (i:=n) (by simp;omega) (by simp;omega);simp[b,hk,hk2,hcx,hcy];iterate 6 refine ai ?_
    apply gw<;>intro f
    ·simp;refine nxa (n+1) ⟨by omega,by rw[h2,hss,if_pos (by simpa using f)];omega⟩
    ·simp;refine jn (n) ⟨by rw[h2,hss,if_neg (by simpa using f)];rfl,(by first|omega|(simp;omega)|grind)⟩
   ·have b':=b;simp at b';simp[b];refine jn (n) ⟨by rw[h2,O5 (.inr (by simp;omega))];rfl,(by first|omega|(simp;omega)|grind)⟩
  ·have a':=a;simp at a';simp[a];refine jn (n) ⟨by rw[h2,O5 (.inl (by simp;omega))];rfl,(by first|omega|(simp;omega)|grind)⟩
 rintro n ⟨h5,h6⟩;have hlt:IB p q=if p.length<4\/q.length<4\/n<4 then 0 else if n=p.length/\n=q.length then 1000 else if n>=7\/n=p.length\/n=q.length then 800 else 400:=by rw[IB,h5]
 rw[←hps]at hlt;refine QJ (fun(_:Unit)=>[(5,wN p)]) (fun(_:Unit)=>(iR x y=400)) ?_ ?_
 ·simp;apply gv<;>intro a
  ·have a':=a;rw[if_pos (by omega)]at hlt;simp[a,hlt]
  ·have a':=a;simp at a';simp[a];apply gv<;>intro b
   ·have b':=b;rw[if_pos (by omega)]at hlt;simp[b,hlt]
   ·have b':=b;simp at b';simp[b];apply gw<;>intro d
    ·rw[if_pos (by omega)]at hlt;simp[hlt]
    ·simp at d;rw[if_neg (by omega)]at hlt;simp;apply gv<;>intro e
     ·have e':=e;simp[a,e];apply gw<;>intro f
      ·rw[if_pos (by omega)]at hlt;simp[hlt]
      ·rw[if_neg (by omega)]at hlt;simp;apply gv<;>intro g
       ·have g':=g;rw[if_pos (by omega)]at hlt;simp[g,hlt]
       ·have g':=g;simp at g';rw[if_pos (by omega)]at hlt;simp[g,hlt]
     ·have e':=e;rw[if_neg (by omega)]at hlt;simp[e];apply gv<;>intro g
      ·have g':=g;rw[if_pos (by omega)]at hlt;simp[g,hlt]
      ·have g':=g;simp at g';simp[e,g];apply gw<;>intro l
       ·rw[if_pos (by omega)]at hlt;simp[hlt]
       ·rw[if_neg (by omega)]at hlt;simp;refine jn (()) (by first|omega|(simp;omega)|grind)
 rintro⟨⟩ h7;simp[h7]
def K6 (s:Str)(hs:Qle s):Fk 137 [dS s] (vI (jD s)):=by
 refine fE [] ntmps137 fun _ _=> ?_;simp;refine ck (abP s hs) ?_;simp;apply gv<;>intro a
 ·have a':=a;simp at a';simp[a];grind[jD]
 ·have a':=a;simp at a';simp[a];refine ck (bH (if nT s=true then mJ s else 0) 1000 9999) ?_;simp;apply gw<;>intro b
  ·simp at b;simp;grind[jD]
  ·simp at b;simp;grind[jD]
def U7 (x y z:Int):Fk 138 [dI x,dI y,dI z] (vI (nK x y z)):=by
 refine fE [] ntmps138 fun _ _=> ?_;simp;refine ck (VM x) ?_;simp;apply gv<;>intro e
 ·have e':=e;simp at e';simp[e];all_goals(simp only[nK];rw[if_neg (by intro h;simp_all;omega)])
 ·have e':=e;simp at e';simp[e];refine ck (VM y) ?_;simp;apply gv<;>intro f
  ·have f':=f;simp at f';simp[f];all_goals(simp only[nK];rw[if_neg (by intro h;simp_all;omega)])
  ·have f':=f;simp at f';simp[f];refine ck (bH z 1 9999) ?_;simp;apply gw<;>intro g
   ·simp at g;simp;all_goals(simp only[nK];rw[if_neg (by intro h;simp_all;omega)])
   ·simp at g;have hxy:inR x 0 9999=true/\inR y 0 9999=true/\inR z 1 9999:=by simp_all
    obtain⟨M,hM⟩:∃M,max x y=M:=⟨_,rfl⟩;obtain⟨m,hm⟩:∃m,min x y=m:=⟨_,rfl⟩;have hns:nK x y z=if M-m>=z then 0 else(1000*(z-(M-m))).tdiv z:=by rw[nK,if_pos hxy,hM,hm]
    have hMb:0<=M-m/\M-m<=9999:=by simp at hxy;omega
    clear hxy;simp[hM,hm];refine ai ?_;apply gw<;>intro d
    ·rw[if_pos (by omega)]at hns;simp;all_goals simp[hns]
    ·simp at d;rw[if_neg (by omega)]at hns;have hq:=NE (a:=1000*(z-(M-m))) (b:=z);simp[hq];iterate 3 refine ai ?_
     all_goals simp[hns]
def auZ (st:Str×Int)(c:UInt8):(xC st c).1.length<=st.1.length+1:=by
 unfold xC;split
 ·simp
 ·simp only;split
  ·simp
  ·omega
def aE2:∀(s:Str) (st:Str×Int),(s.foldl xC st).1.length<=st.1.length+s.length
 |[],st=>by simp
 |c::s,st=>by have:=aE2 s (xC st c);have:=auZ st c;simp only[k_List_foldl_cons,k_List_length_cons];omega
def arL (s:Str):(jK s).length<=s.length+4:=by
 have:=aE2 s ([],0);unfold jK;split
 ·simp
 ·simp[aeB];simp at this;omega
def OQ (s:Str)(hs:s.length<=40):(mW s).length<=262144/\∀x∈mW s,Qle x:=by
 have ht:=O9 s
 have key:∀(L t:List Str),(∀x∈L,x.length<=80)->(∀x∈t,x.length<=84)->(L.foldl yO t).length<=t.length+L.length/\∀x∈L.foldl yO t,x.length<=84:=by
  intro L
  induction L with
  |nil=>intro t _ ht;exact⟨by simp,ht⟩
  |cons y L ih=>
   intro t hL ht
   have h1:(yO t y).length<=t.length+1:=by
    unfold yO;split
    ·exact sW _ _ _
    ·omega
   have h2:∀x∈yO t y,x.length<=84:=fun x hx=>by
    unfold yO at hx;split at hx
    ·rcases aiJ hx with h|rfl
     ·exact ht x h
     ·have:=arL y;have:=hL y (by simp);omega
    ·exact ht x hx
   have:=ih (yO t y) (fun x hx=>hL x (bC _ hx)) h2;refine⟨?_,this.2⟩;have:=this.1;simp only[k_List_foldl_cons,k_List_length_cons];omega
 have:=key (tokens s) [] (fun x hx=>by have:=ht.2 x hx;omega) (by simp);unfold mW;refine⟨by have:=this.1;simp at this;omega,fun x hx=>by have:=this.2 x hx;omega⟩
def PD (s:Str)(hs:s.length<=40):(tokens s).length<=262144/\∀x∈tokens s,Qle x:=by
 have ht:=O9 s;exact⟨by omega,fun x hx=>by have:=ht.2 x hx;omega⟩
variable {r:Rec}
def BR (h:aV r):zW r:=by
 have h1:=iE h;refine⟨by omega,fun f hf=> ?_⟩;obtain⟨i,hi⟩:=dF hf;have hlt:=(aD.1 hi).1;have h2:=h1.2 i (by omega);rw[h2.1]at hi;obtain rfl:=k_Option_some_inj hi;have:=h2.2;unfold ab2;omega
def FW (a b:Rec)(ha:aV a)(hb:aV b):Fk 65 [nV a,nV b] (vS (pF a b)):=by
 refine fE [] ntmps65 fun _ _=> ?_;have hsa:=BR ha;have hsb:=BR hb;obtain⟨a0,hal0⟩:=(iE ha).2 0 (by omega);obtain⟨a1,hal1⟩:=(iE ha).2 1 (by omega);obtain⟨a2,hal2⟩:=(iE ha).2 2 (by omega);obtain⟨a3,hal3⟩:=(iE ha).2 3 (by omega);obtain⟨b0,hbl0⟩:=(iE hb).2 0 (by omega);obtain⟨b1,hbl1⟩:=(iE hb).2 1 (by omega);obtain⟨b2,hbl2⟩:=(iE hb).2 2 (by omega);obtain⟨b3,hbl3⟩:=(iE hb).2 3 (by omega);simp;refine ck (nH a hsa) ?_;simp[ha];refine ck (nH b hsb) ?_;have ta:=PD _ hal0;have tb:=PD _ hbl0;have ka:=OQ _ hal0;have kb:=OQ _ hbl0;simp[hb];refine wdt 45 ?_;simp[a0,b0];refine cd (R3 (fld a 0) (fld b 0)) ?_;simp[a0];refine cd (JL (fld a 0) (by omega)) ?_;simp[b0];refine cd (JL (fld b 0) (by omega)) ?_;simp;refine cd (R4 (tokens (fld a 0)) (tokens (fld b 0)) ta.1 ta.2 tb.1 tb.2) ?_;simp[a0];refine cd (K8 (fld a 0) (by omega)) ?_;simp[b0];refine cd (K8 (fld b 0) (by omega)) ?_;simp;refine cd (R4 (mW (fld a 0)) (mW (fld b 0)) ka.1 ka.2 kb.1 kb.2) ?_;simp[a1,b1];refine cd (R3 (fld a 1) (fld b 1)) ?_;simp[a3,b3];refine cd (JI (fld a 3) (fld b 3) (by omega) (by omega)) ?_;simp[a2];refine ck (K6 (fld a 2) (by omega)) ?_;simp[b2];refine ck (K6 (fld b 2) (by omega)) ?_;simp;apply gv<;>intro e
 ·have e':=e;simp[e];apply gw<;>intro f
  ·simp;refine ck (U7 (jD (fld a 2)) (jD (fld b 2)) 10) ?_;simp;simp[pF,uO,e,f]
  ·simp at f;simp;simp[pF];rw[uO,if_neg (by omega)]
 ·have e':=e;simp at e';simp[e];simp[pF];rw[uO,if_neg (by omega)]
def RP (l:List Rec)(rs:List (List Tst))(s:Sco)(hl:1<=l.length/\l.length<=8)(hv:∀r∈l,aV r)(hr:jH rs)(hs:mO s)(hrl:∀t∈rs,Qle t)(hrn:Qle rs)(hw:Qle s.weights):Fk 174 [uR l,nD rs,J2 s] (.own (nL (weights l rs s))):=by
 refine fE [23] ntmps174 fun _ _=> ?_;have hall:l.all aV:=aH.2 hv;have hlen:decide (l.length<=12)=true:=by simp;omega
 have hl1:inR l.length 1 8:=by simp;omega
 simp;refine ck (vX l (by omega) (fun r hr=>BR (hv r hr))) ?_;simp[hall,hlen];refine ck (bH l.length 1 8) ?_;simp[hl1];refine ck (rZ rs hrn hrl) ?_;simp[hr];refine ck (pR s hw) ?_;simp[hs];refine wl (fun(i:Nat)=>[(0,vR l),(4,.own (.bx true (nD rs))),(5,.own (.bx true (J2 s))),(7,.own (nL ((List.range i).map (yV l rs s)))),(8,vI i)]) (fun(i:Nat)=>l.length-i) (fun(i:Nat)=>(i<=l.length)) (0) (by omega) ?_;rintro i h1;simp;apply gw<;>intro a
 ·simp;refine wl (fun(k:Nat)=>[(0,vR l),(4,.own (.bx true (nD rs))),(5,.own (.bx true (J2 s))),(7,.own (nL ((List.range i).map (yV l rs s)))),(8,vI i),(9,vS ((List.range k).map (mP l rs s i))),(10,vI k)]) (fun(k:Nat)=>l.length-k) (fun(k:Nat)=>(k<=l.length)) (0) (by omega) ?_;rintro k h2;simp;apply gw<;>intro b
  ·have hrm:=ab1 (mP l rs s i) k;simp;refine QJ (fun(_:Unit)=>[(0,vR l),(4,.own (.bx true (nD rs))),(5,.own (.bx true (J2 s))),(7,.own (nL ((List.range i).map (yV l rs s)))),(8,vI i),(9,vS ((List.range k).map (mP l rs s i))),(10,vI k),(11,vI (mP l rs s i k))]) (fun(_:Unit)=>True) ?_ ?_
   ·simp;apply gw<;>intro f
    ·have hw1:mP l rs s i k=iZ rs s (pF (recAt l (min i k)) (recAt l (max i k))):=if_neg (by omega);have hm1:(min (i:Int) k).toNat=min i k:=by omega
     have hm2:(max (i:Int) k).toNat=max i k:=by omega
     have hx:=UH (l:=l) (i:=min i k);have hy:=UH (l:=l) (i:=max i k);have hvx:=hv _ (LY hx);have hvy:=hv _ (LY hy);simp;refine wdt 16 ?_;simp[hm1,hm2,hx,hy];iterate 2 refine ai ?_
     refine cd (FW (recAt l (min i k)) (recAt l (max i k)) hvx hvy) ?_;simp;refine cd (WV rs s (pF (recAt l (min i k)) (recAt l (max i k))) hrn hrl hw (by simp[pF])) ?_;simp;refine jn (()) trivial (h3:=by simp[hrm,hm1,hm2,hx,hy,hw1])
    ·have hw1:mP l rs s i k=0:=if_pos (by omega);simp;refine jn (()) trivial (h3:=by simp[hrm,hw1])
   rintro⟨⟩ -
   simp;refine nxb (k+1) (by first|omega|(simp;omega)|grind)
  ·simp at b;have hk:k=l.length:=by omega
   subst hk;have hrm:=ab1 (yV l rs s) i;have hwr:(List.range l.length).map (mP l rs s i)=yV l rs s i:=rfl;simp[hwr];refine nxb (i+1) (by first|omega|(simp;omega)|grind)
 ·simp at a;have hk:i=l.length:=by omega
  subst hk;simp;rw[weights,uD]
def ab5 {α β:Type}(f:α->β)(l:List α):List.take l.length (l.map f)=l.map f:=k_List_take_of_length_le (by simp)
def ahG (x:List Str):mcount x []=0:=by cases x<;>rw[mcount]
def acW (u v:Str)(x y:List Str):mcount (u::x) (v::y)=if ltL u v=true then mcount x (v::y)else if ltL v u=true then mcount (u::x) y else mcount x y+1:=by rw[mcount]
def UQ (a b:List Str)(ha:1<=a.length/\a.length<=262144)(hb:1<=b.length/\b.length<=262144):Fk 402 [mH a,mH b] (vI (mcount (sZ a) (sZ b))):=by
 refine fE [8] ntmps402 fun _ _=> ?_;simp;refine ck (CO a ha) ?_;simp;refine ck (CO b hb) ?_;simp;refine eO rfl (JG a ha) ?_;rintro r d ⟨rfl,rfl⟩;simp;refine eO rfl (JG b hb) ?_;rintro r d ⟨rfl,rfl⟩;have hsa:=uN a;have hsb:=uN b;simp;refine jL [] (vQ.trans (dQ 5) (dQ 6)) ?_;generalize sZ a=A at*
 generalize sZ b=B at*
 simp;refine wlt (List Str×List Str×Nat) (fun(x,y,k)=>([(5,vT x),(6,vT y),(7,vI k)],x.length+y.length,(mcount A B=k+mcount x y)/\(x.length<=262144/\y.length<=262144)/\(k+x.length<=262144))) ((A,B,0)) ⟨by omega,by omega,by omega⟩ ?_;rintro⟨x,y,k⟩ ⟨h1,h2,h3⟩;simp;apply gv<;>intro g
 ·have g':=g;simp[g];apply gw<;>intro e
  ·obtain⟨u,x2,rfl⟩:=List.exists_cons_of_length_pos (l:=x) (by omega);obtain⟨v,y2,rfl⟩:=List.exists_cons_of_length_pos (l:=y) (by omega);have hmc:=acW u v x2 y2;simp only[k_List_length_cons]at h2 h3;simp;refine wdr ?_;simp;apply gw<;>intro f
   ·simp[ab5];refine nx (x2,v::y2,k) ⟨by rw[h1,hmc,if_pos f],by simp;omega,by omega⟩
   ·simp;refine wdr ?_;simp;apply gw<;>intro q
    ·simp[ab5];refine nx (u::x2,y2,k) ⟨by rw[h1,hmc,if_neg (by simp[f]),if_pos q],by simp;omega,by simp;omega⟩
    ·simp;refine wdr ?_;simp[ab5];refine nxa (x2,y2,k+1) ⟨by rw[h1,hmc,if_neg (by simp[f]),if_neg (by simp[q])];omega,by omega,by omega⟩
  ·simp at e;have hy:y=[]:=by first|exact e|exact bE (by omega)
   rw[hy,ahG]at h1;have hr:(mcount A B:Int)=k:=by omega
   simp[hr]
 ·have g':=g;simp at g';have hx:x=[]:=by first|exact g|exact bE (by omega)
  rw[hx,mcount]at h1;have hr:(mcount A B:Int)=k:=by omega
  simp[g,hr]
def adM (a b:List Str)(ha:1<=a.length/\a.length<=262144)(hb:1<=b.length/\b.length<=262144):Fk 320 [mH a,mH b] (vI (mcount (sZ a) (sZ b))):=by
 refine fE [] ntmps320 fun _ _=> ?_;simp;refine ck (UQ a b ha hb) ?_;simp
def NI:∀(a b:List Str),mcount a b<=a.length
 |[],b=>by rw[mcount];simp
 |u::x,[]=>by rw[ahG];simp
 |u::x,v::y=>by
  rw[acW];have h1:=NI x (v::y);have h2:=NI (u::x) y;have h3:=NI x y;simp only[k_List_length_cons]at h2|-
  split
  ·omega
  ·split<;>omega
termination_by a b=>a.length+b.length
def aET {a b:List Str}(h:xO a b):Asc a/\Asc b:=by
 simp only[xO,qV,k_Bool_and_eq_true]at h;exact⟨X7.1 h.1.2,X7.1 h.2.2⟩
def adG (a b:List Str)(ha:1<=a.length/\a.length<=262144)(hb:1<=b.length/\b.length<=262144)(hsa:∀x∈a,Qle x)(hsb:∀x∈b,Qle x):Fk 218 [mH a,mH b] (vI (CX a b)):=by
 refine fE [] ntmps218 fun _ _=> ?_;have hj:=XC a b;simp;refine ck (RH a b (by omega) hsa (by omega) hsb) ?_;simp;apply gw<;>intro e
 ·simp at e;have hr:CX a b=0:=by rw[hj,if_neg (by simp[e])]
  simp[hr]
 ·simp at e;rw[if_pos e]at hj;have hA:=aET e;have h1:=ak4 hA.1;have h2:=ak4 hA.2;have hl1:=NI a b;have hl2:=NI b a;rw[F6 b a]at hl2;simp;refine ck (adM a b ha hb) ?_;obtain⟨m,hm⟩:∃m:Nat,mcount a b=m:=⟨_,rfl⟩;rw[hm]at hl1 hl2 hj;simp[h1,h2,hm];iterate 3 refine ai ?_
  refine ck (abF (1000*(m:Int)) ((a.length:Int)+b.length-m) (by omega) (by omega)) ?_;simp[hj]
def M0 (a b:List Str)(ha:a.length<=262144)(hb:b.length<=262144)(hsa:∀x∈a,Qle x)(hsb:∀x∈b,Qle x):Fk 147 [mH a,mH b] (vI (uM a b)):=by
 refine fE [] ntmps147 fun _ _=> ?_;simp;apply gv<;>intro e
 ·have e':=e;have hr:uM a b=0:=if_pos (.inl e);simp[e];grind
 ·have e':=e;simp[e];apply gw<;>intro f
  ·have hr:uM a b=0:=if_pos (.inr f);simp[hr]
  ·have hr:uM a b=CX a b:=if_neg (by rintro(h|h);exact e h;exact f h);have he:1<=a.length:=kM.2 e;have hf:1<=b.length:=kM.2 f;simp;refine ck (adG a b ⟨he,ha⟩ ⟨hf,hb⟩ hsa hsb) ?_;simp[hr]
def MZ (a b:Rec)(ha:aV a)(hb:aV b):Fk 71 [nV a,nV b] (vS (pF a b)):=by
 refine fE [] ntmps71 fun _ _=> ?_;obtain⟨a0,hal0⟩:=(iE ha).2 0 (by omega);obtain⟨a1,hal1⟩:=(iE ha).2 1 (by omega);obtain⟨a2,hal2⟩:=(iE ha).2 2 (by omega);obtain⟨a3,hal3⟩:=(iE ha).2 3 (by omega);obtain⟨b0,hbl0⟩:=(iE hb).2 0 (by omega);obtain⟨b1,hbl1⟩:=(iE hb).2 1 (by omega);obtain⟨b2,hbl2⟩:=(iE hb).2 2 (by omega);obtain⟨b3,hbl3⟩:=(iE hb).2 3 (by omega);have ta:=PD _ hal0;have tb:=PD _ hbl0;have ka:=OQ _ hal0;have kb:=OQ _ hbl0;simp;refine wdf [(13,[17,18]),(18,[22,23]),(24,[28,29]),(29,[33,34]),(58,[13,24,35,44,53,62,63]),(59,[63,4])] [(2,.own (.bx true (nV a))),(3,.own (.bx true (nV b)))] [] (by simp) ?_;simp[a0,b0];refine cd (K3 (fld a 0) (fld b 0)) ?_;simp[a0];refine cf (I5 (fld a 0)) ?_;simp[b0];refine cf (I5 (fld b 0)) ?_;simp;refine cd (M0 (tokens (fld a 0)) (tokens (fld b 0)) ta.1 tb.1 ta.2 tb.2) ?_;simp[a0];refine cf (KW (fld a 0) (by omega)) ?_;simp[b0];refine cf (KW (fld b 0) (by omega)) ?_;simp;refine cd (M0 (mW (fld a 0)) (mW (fld b 0)) ka.1 kb.1 ka.2 kb.2) ?_;simp[a1,b1];refine cd (K3 (fld a 1) (fld b 1)) ?_;simp[a2,b2];refine cd (YV (fld a 2) (fld b 2) (by omega) (by omega)) ?_;simp[a3,b3];refine cd (I1 (fld a 3) (fld b 3) (by omega) (by omega)) ?_;simp;simp_all[pF];done
def L8 (l:List Rec)(i:Nat):List Rec:=l.take i
def Q5 (l:List Rec)(rs:List (List Tst))(s:Sco)(hl:1<=l.length/\l.length<=8)(hv:∀r∈l,aV r)(hr:jH rs)(hs:mO s)(hrl:∀t∈rs,Qle t)(hrn:Qle rs)(hw:Qle s.weights):Fk 188 [uR l,nD rs,J2 s] (.own (nL (weights l rs s))):=by
 refine fE [] ntmps188 fun _ _=> ?_;have hin:inR (l.length:Int) 1 8:=by simp[inR];omega
 have hal:l.all aV:=aH.2 hv;have hbw:=aJK l rs s;obtain⟨n,hn⟩:∃n,l.length=n:=⟨_,rfl⟩;simp;refine ck (bK l.length 1 8) ?_;simp[hin];refine ck (I7 l (by omega) (fun r hr=>BR (hv r hr))) ?_;simp[hal];refine ck (rY rs hrn hrl) ?_;simp[hr];refine ck (pQ s hw) ?_;have hz:List.replicate l.length (bV (List.replicate l.length 0))=(zeros l.length).map bV:=by simp[zeros]
 simp[hs];refine ck (tT l.length) ?_;simp[hz];refine wlt (Nat×L2) (fun(i,m)=>([(0,vR l),(4,.own (.bx true (nD rs))),(5,.own (.bx true (J2 s))),(7,.own (nL m)),(35,vR l),(36,vI l.length),(37,vI i)],l.length-i,(i<=l.length)/\(m=loopN i (zeros l.length) (an2 l rs s))/\(sq2 l.length m))) ((0,zeros l.length)) ⟨by omega,rfl,(qL l.length)⟩ ?_ (h0:=by simp[hin,hal,hr,hs,hz]);rintro⟨i,m⟩ ⟨h1,h2,h3⟩;simp;apply gw<;>intro a
 ·have hci:=UH a;obtain⟨ci,hcie⟩:∃ci,recAt l i=ci:=⟨_,rfl⟩;rw[hcie]at hci;have hvi:=hv ci (aA hci);have hii:i<=l.length:=by omega
  have hto1:List.take i (l.map nV)=(L8 l i).map nV:=by rw[L8,wF]
  have hto2:(l.take i).map nV=(L8 l i).map nV:=rfl;have htl:(L8 l i).length=i:=by rw[L8,dD];omega
  simp[hci,hii,hto1,htl];refine wlt (Nat×L2) (fun(k,q)=>([(0,vR l),(4,.own (.bx true (nD rs))),(5,.own (.bx true (J2 s))),(7,.own (nL q)),(8,vI i),(9,.own (.bx true (nV ci))),(35,vR l),(36,vI l.length),(37,vI i),(44,vR (L8 l i)),(45,vI i),(46,vI k)],i-k,(k<=i)/\(q=loopN k m (alQ l rs s i))/\(sq2 l.length q))) ((0,m)) ⟨by omega,rfl,h3⟩ ?_;rintro⟨k,q⟩ ⟨h4,h5,h6⟩;simp;apply gw<;>intro d
  ·have hck:=UH (l:=l) (i:=k);obtain⟨ck,hcke⟩:∃ck,recAt l k=ck:=⟨_,rfl⟩;rw[hcke]at hck;have hvk:=hv ck (aA hck);have hckt:(L8 l i)[k]?=some ck:=by rw[L8,bD,if_pos d];exact hck
   simp[hckt];refine wdf [(4,[53,54,55]),(6,[56,12])] [(0,vR l),(4,.own (.bx true (nD rs))),(5,.own (.bx true (J2 s))),(7,.own (nL q)),(8,vI i),(9,.own (.bx true (nV ci))),(10,vI k),(11,.own (.bx true (nV ck))),(35,vR l),(36,vI l.length),(37,vI i),(44,vR (L8 l i)),(45,vI i),(46,vI k)] [] (by simp) ?_;simp;refine cf (MZ ci ck hvi hvk) ?_;simp;refine cd (WI rs s (pF ci ck) hrn hrl hw (by simp[pF])) ?_;obtain⟨w,hwe⟩:∃w,iZ rs s (pF ci ck)=w:=⟨_,rfl⟩;have hwa:wAt l rs s i k=w:=by rw[wAt,hcie,hcke,hwe]
   obtain⟨hA,hA2⟩:=tJ h6 (i:=i);obtain⟨hB,hB2⟩:=tJ h6 (i:=k);have hgA:=O6 h6 (i:=i) (k:=k);have hgB:=O6 h6 (i:=k) (k:=i);have hml:i<q.length:=by rw[h6.1];omega
   have hml2:k<q.length:=by rw[h6.1];omega
   have hne:¬i=k:=by omega
   have hset:=awV (m:=q) (v:=w) (w:=w) hne;have hmm:alQ l rs s i k q=set2 (set2 q i k w) k i w:=by rw[alQ,hwa]
   rw[←hmm]at hset;simp[hwe];refine wdf [(13,[69,67,7,57,59,60,62,64,65]),(15,[70,68,7,57,59,60,62,64,65,69])] [(0,vR l),(4,.own (.bx true (nD rs))),(5,.own (.bx true (J2 s))),(7,.own (nL q)),(8,vI i),(9,.own (.bx true (nV ci))),(10,vI k),(12,vI w),(35,vR l),(36,vI l.length),(37,vI i),(44,vR (L8 l i)),(45,vI i),(46,vI k)] [] (by simp) ?_;simp[hA,hB,hgA,hgB,hne,hset];refine nxa (k+1,alQ l rs s i k q) ⟨by omega,by rw[aM,←h5],(alR h6 (by omega) d)⟩
  ·simp at d;obtain rfl:k=i:=by omega
   simp;refine nxa (k+1,q) ⟨by omega,by rw[aM,←h2,h5];rfl,h6⟩
 ·simp at a;have hfin:weights l rs s=m:=by rw[←hbw,h2,show i=l.length by omega];rfl
  simp[hfin]
def aCN (l:List Ver)(hl:l.length<=8):(sQ l).length<=8:=by
 unfold sQ;rw[LG];have h0:(apart (gY l)).length<=8:=k_Nat_le_trans (aZ _ _) (k_Nat_le_trans (acK l) hl)
 have key:∀(L:List Ver) (st:L2×List Ver×List Ver) (C:List Ver),st.2.1.length<=8->(L.foldl (wL C) st).2.1.length<=8:=by
  intro L C0 C
  induction L generalizing C0 with
  |nil=>exact fun h=>h
  |cons v L ih=>
   intro h;rw[k_List_foldl_cons];refine ih _ ?_;unfold wL;split
   ·exact aAE v (by rw[LG];exact h)
   ·exact h
 exact key _ _ _ h0
def aaV (kept:List Ver)(items:L1)(hk:kept.length<=8)(hi:items.length<=8):(oO kept items).length<=16:=by
 have h1:(IK (apart kept) items).length<=kept.length:=k_Nat_le_trans (iQ _ _) (aZ _ _)
 have h2:∀n,((List.range n).flatMap (tH (joined kept) items)).length<=n:=by
  intro n
  induction n with
  |zero=>simp
  |succ n ih=>
   rw[dN,List.flatMap_append,aR];have:=ac5 (joined kept) items n;simp only[zN,List.flatMap_nil,dW];omega
 have h3:=h2 items.length;unfold oO NP;rw[aR];omega
def uK (items:L1)(b:L1):L1:=b.map (at1 items ·.toNat)
def CY (c:Cfg)(s:Sto):L1:=nX (weights s.recs c.rules c.sco) (oO (sQ s.vers) (s.recs.map jQ))
def FJ (c:Cfg)(s:Sto):L2:=(blocksP (CY c s)).map (uK (s.recs.map jQ))
def zV (c:Cfg)(s:Sto):L2:=if(kR c&&iW s)=true then(if s.recs.length=0 then[]else FJ c s)else[]
def GU (c:Cfg)(s:Sto):List Ver:=if(kR c&&iW s)=true then jY s.vers else[]
structure ar9 (c:Cfg):Prop where
 rules:Qle c.rules
 rule:∀l∈c.rules,Qle l
 weights:Qle c.sco.weights
 surv:Qle c.surv
structure aAB (s:Sto):Prop where
 recs:Qle s.recs
 rec1:∀r∈s.recs,zW r
 vers:Qle s.vers
def amJ {m:L2}(cs:List Con)(hm:bR m):(nX m cs).length=0\/(gD (nX m cs)=true/\(nX m cs).length=m.length):=by
 have hml:=dM hm;unfold nX;split
 ·right;have h1:(oG m cs).length=m.length:=by rw[oG,qF,aa9]
  exact⟨isPart_iff.2 ⟨MJ _,by omega,by omega⟩,h1⟩
 ·left;rfl
def ahD {l:L1}{n:Nat}(h:l.length=0\/(gD l=true/\l.length=n))(v:Nat)(hv:v<(blocksP l).length):QN n (gat (blocksP l) v)/\(gat (blocksP l) v).length<=n:=by
 rcases h with h|⟨h1,h2⟩
 ·rw[k_List_length_eq_zero_iff.1 h]at hv;simp[blocksP,loopN]at hv
 ·have:=TL (isPart_iff.1 h1).1 hv;rw[h2]at this;exact⟨this.1,this.2.2⟩
def aAX {c:Cfg}(h:kR c):jH c.rules=true/\mO c.sco=true:=by
 simp only[kR,k_Bool_and_eq_true]at h;exact h.1
variable {s:Sto}
def BH (h:iW s):(∀r∈s.recs,aV r=true)/\s.recs.length<=8/\lI s.vers=true/\s.vers.length<=8:=by
 simp only[iW,k_Bool_and_eq_true,decide_eq_true_eq,aH]at h;have h2:=h.2;simp only[lI,k_Bool_and_eq_true,decide_eq_true_eq]at h2;exact⟨h.1.1.1.1,h.1.2,h.2,h2.2⟩
def RY (c:Cfg)(s:Sto)(hc:ar9 c)(hs:aAB s):Fk 89 [ai6 c,XM s] (.tup [.val (cK (zV c s)),vV (GU c s),vB (kR c&&iW s)]):=by
 refine fE [7,13,43] ntmps89 fun _ _=> ?_;simp;refine ck (QD c hc.rules hc.rule hc.weights hc.surv) ?_;simp;apply gv<;>intro a
 ·have a':=a;simp at a';have a2:kR c=false:=by simpa using a
  have hr1:zV c s=[]:=if_neg (by simp[a2]);have hr2:GU c s=[]:=if_neg (by simp[a2]);simp[a2];refine jL [] ((dQ 4).trans (dQ 5)) ?_;simp[a2,hr1,hr2]
 ·have a':=a;simp at a';have a2:kR c:=by simpa using a
  simp[a2];refine ck (FV s hs.recs hs.rec1 hs.vers) ?_;simp;apply gw<;>intro b
  ·simp at b;have hr1:zV c s=[]:=if_neg (by simp[b]);have hr2:GU c s=[]:=if_neg (by simp[b]);simp[b];refine jL [] ((dQ 4).trans (dQ 5)) ?_;simp[a2,b,hr1,hr2]
  ·simp at b;have hcv:=aAX a2;have hsv:=BH b;have hr1:zV c s=if s.recs.length=0 then[]else FJ c s:=if_pos (by simp[a2,b])
   have hr2:GU c s=jY s.vers:=if_pos (by simp[a2,b]);simp[b];refine ck (QG s.vers (by omega) hsv.2.2.1) ?_;simp;apply gw<;>intro d
   ·have hr3:zV c s=[]:=by rw[hr1];exact if_pos (by simpa using d)
    simp;refine jL [] ((dQ 4).trans (dQ 5)) ?_;simp[a2,b,hr3,hr2]
   ·have hr3:zV c s=FJ c s:=by rw[hr1];exact if_neg (by simpa using d)
    have hn:1<=s.recs.length/\s.recs.length<=8:=⟨by have:s.recs.length≠0:=(by simpa using d);omega,hsv.2.1⟩;obtain⟨items,hit⟩:∃items,items=s.recs.map jQ:=⟨_,rfl⟩;have hit2:s.recs.map jQ=items:=hit.symm;have hil:items.length=s.recs.length:=by rw[hit];simp
    have hmat:=ME c.rules c.sco hn;have hk8:=aCN s.vers hsv.2.2.2;simp;refine ck (WX s hs.recs hs.rec1 hs.vers b) ?_;simp[hit2];refine ck (RP s.recs c.rules c.sco hn hsv.1 hcv.1 hcv.2 hc.rule hc.rules hc.weights) ?_;simp;refine ck (ad4 (sQ s.vers) items hk8 (by omega)) ?_;have hsc:=aaV (sQ s.vers) items hk8 (by omega);simp;refine eB (RQ (weights s.recs c.rules c.sco) (oO (sQ s.vers) items) hmat (by omega)) (by simp) ?_;rintro r ⟨c1,e1,g1,rfl⟩;refine⟨by simp,?_⟩;have hlab:=amJ (oO (sQ s.vers) items) hmat;have hlO:nX (weights s.recs c.rules c.sco) (oO (sQ s.vers) items)=CY c s:=by rw[hit];rfl
    have hwl:(weights s.recs c.rules c.sco).length=s.recs.length:=by simp[weights]
    rw[hlO,hwl]at hlab;simp[hlO];refine ck (BK (CY c s) (by omega) (hlab.imp id And.left)) ?_;have hbs:=ahD hlab;have hrc:FJ c s=(blocksP (CY c s)).map (uK items):=by rw[hit];rfl
    have hbl:(blocksP (CY c s)).length<=8:=by rcases hlab with h|h;(rw[k_List_length_eq_zero_iff.1 h];simp[blocksP,loopN]);exact k_Nat_le_trans (blocksI (isPart_iff.1 h.1).1 (k_Nat_le_refl _)).len (by omega)
    clear hlO hlab;generalize blocksP (CY c s)=bs at*
    simp;refine wlt (Nat×L2) (fun(i,o)=>([(7,.own (nL o)),(9,vV (jY s.vers)),(10,vS items),(15,.own (nL bs)),(16,vI i)],bs.length-i,(i<=bs.length)/\(o=(bs.take i).map (uK items)))) ((0,[])) ⟨by omega,rfl⟩ ?_;rintro⟨i,o⟩ ⟨h1,h2⟩;simp;apply gw<;>intro e
    ·have hr:=ah5 e;have hsel:=hbs i e;have hol:o.length<=8:=by rw[h2,aQ,dD];omega
     have hgm:=uI (uK items) hr;generalize hbg:gat bs i=bb at hr hsel hgm|-
     simp;refine wlt (Nat×L1) (fun(j,g)=>([(7,.own (nL o)),(9,vV (jY s.vers)),(10,vS items),(15,.own (nL bs)),(16,vI i),(17,vS g),(18,vI j)],bb.length-j,(j<=bb.length)/\(g=uK items (bb.take j)))) ((0,[])) ⟨by omega,rfl⟩ ?_;rintro⟨j,g⟩ ⟨h3,h4⟩;simp[hr];apply gw<;>intro f
     ·have hg:=aY f;have hgx:=hsel.1.1 _ (aA hg);have ha0:0<=at1 bb j:=hgx.1;have hix:(at1 bb j).toNat<items.length:=by rw[hil];omega
      have hg2:=aY hix;have hgl:g.length<=8:=by rw[h4,uK,aQ,dD];omega
      have hpk:uK items (bb.take (j+1))=g++[at1 items (at1 bb j).toNat]:=by rw[uK,uI _ hg,h4];rfl
      simp[hr,hg,ha0,hg2];refine nxb (j+1,g++[at1 items (at1 bb j).toNat]) ⟨by omega,hpk.symm⟩
     ·simp at f;have hgE:uK items bb=g:=by rw[h4,bJ f]
      simp;refine nxb (i+1,o++[g]) ⟨by omega,by rw[hgm,hgE,←h2]⟩
    ·simp at e;have ho:FJ c s=o:=by rw[hrc,h2,bJ e]
     simp;refine jL [] ((dQ 4).trans (dQ 5)) ?_;simp[a2,b,hr3,ho,hr2]
def UI (h:aV r):0<=r.source/\r.source<=3/\1<=r.key/\r.key<=99:=by
 simp only[aV,inR,k_Bool_and_eq_true,decide_eq_true_eq]at h;omega
def aCI (h:iW s):(∀x∈s.recs.map jQ,inT x)/\(s.recs.map jQ).Nodup:=by
 constructor
 ·intro x hx;obtain⟨r,hr,rfl⟩:=dG.1 hx;have:=UI ((BH h).1 r hr);unfold jQ inT;omega
 ·simp only[iW,k_Bool_and_eq_true]at h;have h1:=asB (R:=fun a b=>decide (jQ a<jQ b)) (fun a b c hab hbc=>by simp only[decide_eq_true_eq]at*;omega) h.1.1.1.2;unfold List.Nodup;rw[zO];exact h1.imp fun hab=>by simp only[decide_eq_true_eq]at hab;omega
def arV {P:Ver->Prop}:∀(L:List Ver) (st:List Ver×List Ver),(∀v∈st.1,P v)->(∀v∈L,P v)->∀v∈(L.foldl KA st).1,P v
 |[],st,h,_=>h
 |c::L,st,h,hL=>arV L (KA st c) (fun v hv=>by
   unfold KA at hv;split at hv
   ·exact h v hv
   ·rcases k_List_mem_append.1 hv with h1|h1
    ·exact h v h1
    ·rw[k_List_mem_singleton.1 h1];exact hL c lF) (fun v hv=>hL v (bC _ hv))
def atL {l:List Ver}(h:lI l):∀v∈sQ l,fQ v=true:=fun v hv=>by
 rw[←(aiD h).1]at hv;have hc:=(asQ h).1;exact arV (P:=fun v=>fQ v=true) _ _ (fun v hv=>hc v (bQ.1 hv).1) (fun v hv=>hc v (bQ.1 ((KL _).mem_iff.1 hv)).1) v ((II _).mem_iff.1 hv)
def mxP (items:L1)(B:L2)(i:Nat):L2:=(B.take i).map (uK items)++B.drop i
def mxR (items b:L1)(j:Nat):L1:=uK items (b.take j)++b.drop j
def aeV {items:L1}{B:L2}{i:Nat}(h:i<=B.length):(mxP items B i).length=B.length:=by simp[mxP];omega
def av8 {items:L1}{B:L2}{i:Nat}(h:i<B.length):(mxP items B i)[i]?=B[i]?:=by
 unfold mxP;rw[aN (by simp;omega),dX,aQ,dD,fP (by omega),cB,kP]
def aHF {items:L1}{B:L2}{i:Nat}{b:L1}(h:B[i]?=some b):(mxP items B i).set i (uK items b)=mxP items B (i+1):=by
 have hi:=dH h;unfold mxP;have hl:((B.take i).map (uK items)).length=i:=by simp;omega
 rw[List.set_append,if_neg (by omega),hl,cB,aW hi,eG,dE h,fH,bP];rfl
def aDN {items:L1}{B:L2}{i:Nat}{b:L1}(h:B[i]?=some b):(mxP items B i).set i b=mxP items B i:=by
 apply kF;intro m;by_cases hm:i=m
 ·subst hm;have hi:=dH h;rw[bG (by rw[aeV (by omega)];exact hi),av8 hi,h]
 ·rw[bI hm]
def aHM {items b:L1}{j:Nat}(h:j<=b.length):(mxR items b j).length=b.length:=by simp[mxR,uK];omega
def aHL {items b:L1}{j:Nat}(h:j<b.length):(mxR items b j)[j]?=b[j]?:=by
 unfold mxR uK;rw[aN (by simp;omega),dX,aQ,dD,fP (by omega),cB,kP]
def aHN {items b:L1}{j:Nat}(h:j<b.length):(mxR items b j).set j (at1 items (at1 b j).toNat)=mxR items b (j+1):=by
 have hg:=aY h;unfold mxR uK;have hl:((b.take j).map (at1 items ·.toNat)).length=j:=by simp;omega
 have hd:b.drop j=at1 b j::b.drop (j+1):=by rw[aW h];rw[aB h]at hg;rw[k_Option_some_inj hg]
 rw[List.set_append,if_neg (by omega),hl,cB,hd,eG,dE hg,fH,bP];rfl
def aHK (items b:L1):mxR items b b.length=uK items b:=by simp[mxR]
def mxQ (items:L1)(B:L2)(i:Nat)(b:L1)(j:Nat):L2:=(mxP items B i).set i (mxR items b j)
def aDO {items:L1}{B:L2}{i:Nat}{b:L1}(h:B[i]?=some b):mxQ items B i b 0=mxP items B i:=by
 have:mxR items b 0=b:=by simp[mxR,uK]
 rw[mxQ,this,aDN h]
def aHI {items:L1}{B:L2}{i:Nat}{b:L1}{j:Nat}(h:i<=B.length):(mxQ items B i b j).length=B.length:=by rw[mxQ,oM,aeV h]
def aHH {items:L1}{B:L2}{i:Nat}{b:L1}{j:Nat}(h:i<B.length):(mxQ items B i b j)[i]?=some (mxR items b j):=by rw[mxQ,bG (by rw[aeV (by omega)];exact h)]
def aHJ {items:L1}{B:L2}{i:Nat}{b:L1}{j:Nat}(h:i<B.length)(hj:j<b.length):((mxQ items B i b j).map bV).set i (D.sl (some 3) (((mxR items b j).map dI).set j (dI (at1 items (at1 b j).toNat))))=(mxQ items B i b (j+1)).map bV:=by
 rw[←List.map_set,aHN hj];show((mxQ items B i b j).map bV).set i (bV (mxR items b (j+1)))=_;rw[←List.map_set,mxQ,mxQ,List.set_set]
def aHG {items:L1}{B:L2}{i:Nat}{b:L1}(h:B[i]?=some b):mxQ items B i b b.length=mxP items B (i+1):=by rw[mxQ,aHK,aHF h]
def ac2 (c:Cfg)(s:Sto):L2:=if s.recs.length=0 then[]else FJ c s
def adN (c:Cfg)(s:Sto)(hc:kR c)(hs:iW s)(hsc:ar9 c):Fk 110 [ai6 c,XM s] (.tup [.own (nL (ac2 c s)),wV (jY s.vers)]):=by
 refine fE [7] ntmps110 fun _ _=> ?_;have hcv:=aAX hc;have hsv:=BH hs;have hk8:=aCN s.vers hsv.2.2.2;have hkv:=atL hsv.2.2.1;simp;refine ck (P6 s.vers (by omega) hsv.2.2.1) ?_;simp;apply gw<;>intro d
 ·have hr:ac2 c s=[]:=if_pos (by simpa using d);try simp
  refine jL [] (wP (L:=[(4,.own (nL [])),(5,wV (jY s.vers))]) (by simp)) ?_;simp[hr]
 ·have hr:ac2 c s=FJ c s:=if_neg (by simpa using d);have hn:1<=s.recs.length/\s.recs.length<=8:=⟨by have:s.recs.length≠0:=(by simpa using d);omega,hsv.2.1⟩;have hio:=aCI hs;have hperm:=axK hkv hio.1 hio.2;have hmat:=ME c.rules c.sco hn;have hcl:=aiS hmat hperm;have hcl2:nX (weights s.recs c.rules c.sco) (oO (sQ s.vers) (s.recs.map jQ))=CY c s:=rfl;rw[hcl2]at hcl;have h16:=aaV (sQ s.vers) (s.recs.map jQ) hk8 (by simp;omega);rw[←hperm.length_eq]at h16;have hlab:=amJ (oO (sQ s.vers) (s.recs.map jQ)) hmat;rw[hcl2]at hlab;have hrc:FJ c s=(blocksP (CY c s)).map (uK (s.recs.map jQ)):=rfl;have hwl:(weights s.recs c.rules c.sco).length=s.recs.length:=by simp[weights]
  rw[hwl]at hlab;obtain⟨items,hit⟩:∃items,s.recs.map jQ=items:=⟨_,rfl⟩;rw[hit]at hio hperm hcl h16 hrc;have hil:items.length=s.recs.length:=by rw[←hit];simp
  simp;refine ck (WP s (by omega) (fun r hr=>by have:=UI (hsv.1 r hr);unfold jQ;simp only[inI];omega)) ?_;simp[hit];refine ck (Q5 s.recs c.rules c.sco hn hsv.1 hcv.1 hcv.2 hsc.rule hsc.rules hsc.weights) ?_;simp;refine ck (P8 (sQ s.vers) items hk8 (fun v hv=>⟨(sM (hkv v hv)).1,(sM (hkv v hv)).2.1⟩) (by omega) hio.1) ?_;simp;refine eB (Q6 (weights s.recs c.rules c.sco) (aoD (sQ s.vers) items) hmat (by omega)) (by simp) ?_;rintro r ⟨c1,e1,g1,rfl⟩;refine⟨by simp,?_⟩;simp[hcl];refine ck (RI (CY c s) (by omega) (hlab.imp id And.left)) ?_;have hbs:=ahD hlab;have hbl:(blocksP (CY c s)).length<=8:=by rcases hlab with h|h;(rw[k_List_length_eq_zero_iff.1 h];simp[blocksP,loopN]);exact k_Nat_le_trans (blocksI (isPart_iff.1 h.1).1 (k_Nat_le_refl _)).len (by omega)
  clear hcl hlab hperm;generalize blocksP (CY c s)=B at*
  have hm0:mxP items B 0=B:=by simp[mxP]
  simp;refine wl (fun(i:Nat)=>[(7,wV (jY s.vers)),(8,vS items),(11,.own (nL (mxP items B i))),(46,.al 11 []),(47,vI B.length),(48,vI i)]) (fun(i:Nat)=>B.length-i) (fun(i:Nat)=>(i<=B.length)) (0) (by omega) ?_ (h0:=by simp[hit,hm0]);rintro i h1;simp;apply gw<;>intro a
  ·obtain⟨b,hb⟩:=aO (l:=B) (i:=i) a;have hmg:=av8 (items:=items) a;rw[hb]at hmg;have hml:=aeV (items:=items) h1;have hgb:gat B i=b:=by simp[gat,List.getD,hb]
   have hsel:=hbs i a;rw[hgb]at hsel;have hz:=aDO (items:=items) hb;simp[hmg];refine wl (fun(j:Nat)=>[(7,wV (jY s.vers)),(8,vS items),(11,.own (nL (mxQ items B i b j))),(13,.al 11 [i]),(46,.al 11 []),(47,vI B.length),(48,vI i),(52,.al 11 [i]),(53,vI b.length),(54,vI j)]) (fun(j:Nat)=>b.length-j) (fun(j:Nat)=>(j<=b.length)) (0) (by omega) ?_ (h0:=by simp[hit,hmg,hml,hz]);rintro j h2;simp;apply gw<;>intro f
   ·have hg:=aY f;have hgx:=hsel.1.1 _ (aA hg);have hg3:=aY (l:=items) (i:=(at1 b j).toNat) (by rw[hil];have:=hgx.1;have:=hgx.2;omega);have hq1:=aHH (items:=items) (b:=b) (j:=j) a;have hq2:=aHI (items:=items) (b:=b) (j:=j) h1;have hq3:=aHL (items:=items) f;rw[hg]at hq3;have hq4:=aHJ (items:=items) a f;have hq5:=aHM (items:=items) (b:=b) (j:=j) (by omega);obtain⟨x,hx⟩:∃x,at1 b j=x:=⟨_,rfl⟩;rw[hx]at hg3 hq3 hq4 hgx;have hx0:=hgx.1;simp[hg3,hq1,hq3,hq4,hx0];refine nxa (j+1) (by omega)
   ·simp at f;obtain rfl:j=b.length:=by omega
    have hqa:=aHG (items:=items) hb;simp[hqa];refine nxa (i+1) (by omega)
  ·simp at a;obtain rfl:i=B.length:=by omega
   have hfin:FJ c s=mxP items B B.length:=by rw[hrc];simp[mxP]
   simp[hr,hfin]
def aaN (c:Cfg)(s:Sto):(zV c s).length<=8/\∀r∈zV c s,r.length<=8:=by
 unfold zV;split
 ·rename_i h;rw[k_Bool_and_eq_true]at h;split
  ·simp
  ·rename_i hn;have hsv:=BH h.2;have hmat:=ME c.rules c.sco (l:=s.recs) ⟨by omega,hsv.2.1⟩;have hlab:=amJ (oO (sQ s.vers) (s.recs.map jQ)) hmat;have hwl:(weights s.recs c.rules c.sco).length=s.recs.length:=by simp[weights]
   rw[hwl]at hlab;have hbs:=ahD hlab
   have hbl:(blocksP (CY c s)).length<=8:=by
    rcases hlab with h|h
    ·unfold CY;rw[k_List_length_eq_zero_iff.1 h];simp[blocksP,loopN]
    ·exact k_Nat_le_trans (blocksI (isPart_iff.1 h.1).1 (k_Nat_le_refl _)).len (by have:=h.2;have:=hsv.2.1;omega)
   unfold FJ;refine⟨by rw[aQ];exact hbl,fun r hr=> ?_⟩;obtain⟨b,hb,rfl⟩:=dG.1 hr;obtain⟨v,hv⟩:=dF hb;have hvl:=dH hv;have hg:gat (blocksP (CY c s)) v=b:=by simp[gat,List.getD,hv]
   have:=(hbs v hvl).2;have hg2:gat (blocksP (nX (weights s.recs c.rules c.sco) (oO (sQ s.vers) (s.recs.map jQ)))) v=b:=hg;rw[hg2]at this;rw[uK,aQ];omega
 ·simp
def take_len:∀(L:List Ver) (st:List Ver×List Ver),(L.foldl KA st).1.length+(L.foldl KA st).2.length=st.1.length+st.2.length+L.length
 |[],st=>by simp
 |c::L,st=>by
  rw[k_List_foldl_cons,take_len L,k_List_length_cons];unfold KA;split<;>simp<;>omega
def aaO (c:Cfg)(s:Sto):(GU c s).length<=8:=by
 unfold GU;split
 ·rename_i h;rw[k_Bool_and_eq_true]at h;have hv:=(BH h.2).2.2.1;rw[←(aiD hv).2,LG];have h1:=take_len (uU (wK (gY s.vers))) (apart (gY s.vers),[]);have h2:=amP (gY s.vers);have h3:=afZ s.vers;have h4:=(BH h.2).2.2.2;rw[afI]at h1;simp only[jI]at h1;unfold aiC;omega
 ·simp
def DT {α:Type}(f:α->D)(z:D)(l:List α)(i:Nat):List D:=(l.take i).map f++List.replicate (l.length-i) z
section
variable {α:Type}{f:α->D}{z:D}{l:List α}{i:Nat}{c:α}
def EH (h:i<=l.length):(DT f z l i).length=l.length:=by simp[DT];omega
def EG (h:i<l.length:=by omega):(DT f z l i)[i]?=some z:=by
 unfold DT;rw[aN (by simp;omega)];rw[aQ,dD,fP (by omega),cB,fG,if_pos (by omega)]
def EI (h:l[i]?=some c):(DT f z l i).set i (f c)=DT f z l (i+1):=by
 have hi:=dH h;unfold DT;have hl:((l.take i).map f).length=i:=by simp;omega
 rw[List.set_append,if_neg (by omega),hl,cB,uI f h,show l.length-i=(l.length-(i+1))+1 by omega,fU];simp
def BC:List.replicate l.length z=DT f z l 0:=by simp[DT]
def EF:DT f z l l.length=l.map f:=by simp[DT]
end
def agL (t:Tst):Fk 420 [uP t] (.val (uP t)):=by
 refine fE [] ntmps420 fun _ _=> ?_;simp
def adX (l:List Tst)(hl:Qle l):Fk 359 [.sl none (l.map uP)] (.own (.sl (some 250) (l.map uP))):=by
 refine fE [] ntmps359 fun _ _=> ?_;have hz:=BC (f:=uP) (z:=(.agg [dI 0,dI 0,dB false])) (l:=l);simp[hz];refine ai ?_;refine wl (fun(i:Nat)=>[(0,.val (.sl none (l.map uP))),(3,.own (.sl (some 250) (DT uP (.agg [dI 0,dI 0,dB false]) l i))),(4,vI i)]) (fun(i:Nat)=>l.length-i) (fun(i:Nat)=>(i<=l.length)) (0) (by omega) ?_;rintro i h1;simp;apply gw<;>intro a
 ·obtain⟨c,hc⟩:=aO (l:=l) (i:=i);have hg:=EG (f:=uP) (z:=(.agg [dI 0,dI 0,dB false])) (l:=l) (i:=i);have hfl:=EH (f:=uP) (z:=(.agg [dI 0,dI 0,dB false])) h1;have hst:=EI (f:=uP) (z:=(.agg [dI 0,dI 0,dB false])) hc;simp[hc];refine ck (agL c) ?_;simp[hg,hst];refine nxa (i+1) (by first|omega|(simp;omega)|grind)
 ·simp at a;obtain rfl:i=l.length:=by omega
  have hfa:=EF (f:=uP) (z:=(.agg [dI 0,dI 0,dB false])) (l:=l);simp[hfa]
abbrev yE (l:List Tst):D:= .agg [.sl (some 250) (l.map uP)]
def agK (l:List Tst)(hl:Qle l):Fk 271 [xJ l] (.own (yE l)):=by
 refine fE [] ntmps271 fun _ _=> ?_;simp;refine ck (adX l hl) ?_;simp
def adV (l:List (List Tst))(hl:Qle l)(hs:∀t∈l,Qle t):Fk 181 [.sl none (l.map xJ)] (.own (.sl (some 207) (l.map yE))):=by
 refine fE [] ntmps181 fun _ _=> ?_;have hz:=BC (f:=yE) (z:=(.agg [.sl (some 250) []])) (l:=l);simp[hz];refine ai ?_;refine wl (fun(i:Nat)=>[(0,.val (.sl none (l.map xJ))),(3,.own (.sl (some 207) (DT yE (.agg [.sl (some 250) []]) l i))),(4,vI i)]) (fun(i:Nat)=>l.length-i) (fun(i:Nat)=>(i<=l.length)) (0) (by omega) ?_;rintro i h1;simp;apply gw<;>intro a
 ·obtain⟨c,hc⟩:=aO (l:=l) (i:=i);have hg:=EG (f:=yE) (z:=(.agg [.sl (some 250) []])) (l:=l) (i:=i);have hfl:=EH (f:=yE) (z:=(.agg [.sl (some 250) []])) h1;have hst:=EI (f:=yE) (z:=(.agg [.sl (some 250) []])) hc;simp[hc];refine ck (agK c (hs c (aA hc))) ?_;simp[hg,hst];refine nxa (i+1) (by first|omega|(simp;omega)|grind)
 ·simp at a;obtain rfl:i=l.length:=by omega
  have hfa:=EF (f:=yE) (z:=(.agg [.sl (some 250) []])) (l:=l);simp[hfa]
def ZA (l:List (List Tst))(hl:Qle l)(hs:∀t∈l,Qle t):Fk 96 [nD l] (.own (.agg [.sl (some 207) (l.map yE)])):=by
 refine fE [] ntmps96 fun _ _=> ?_;simp;refine ck (adV l hl hs) ?_;simp
def JE (l:L1)(hl:Qle l):Fk 98 [nInts l] (vS l):=by
 refine fE [] ntmps98 fun _ _=> ?_;have hz:=BC (f:=dI) (z:=(dI 0)) (l:=l);simp[hz];refine ai ?_;refine wl (fun(i:Nat)=>[(0,vN l),(3,.own (.sl (some 3) (DT dI (dI 0) l i))),(4,vI i)]) (fun(i:Nat)=>l.length-i) (fun(i:Nat)=>(i<=l.length)) (0) (by omega) ?_;rintro i h1;simp;apply gw<;>intro a
 ·obtain⟨c,hc⟩:=aO (l:=l) (i:=i);have hg:=EG (f:=dI) (z:=(dI 0)) (l:=l) (i:=i);have hfl:=EH (f:=dI) (z:=(dI 0)) h1;have hst:=EI (f:=dI) (z:=(dI 0)) hc;simp[hc,hg,hst];refine nxa (i+1) (by first|omega|(simp;omega)|grind)
 ·simp at a;obtain rfl:i=l.length:=by omega
  have hfa:=EF (f:=dI) (z:=(dI 0)) (l:=l);simp[hfa]
def ZB (s:Sco)(hl:Qle s.weights):Fk 97 [J2 s] (.own (.agg [bV s.weights,dI s.bias])):=by
 refine fE [] ntmps97 fun _ _=> ?_;simp;refine ck (JE s.weights hl) ?_;simp
def ZC (l:List Str)(hl:Qle l):Fk 68 [mH l] (wC l):=by
 refine fE [] ntmps68 fun _ _=> ?_;have hz:=BC (f:=dS) (z:=(dS [])) (l:=l);simp[hz];refine ai ?_;refine wl (fun(i:Nat)=>[(0,vT l),(3,.own (.sl (some 9) (DT dS (dS []) l i))),(4,vI i)]) (fun(i:Nat)=>l.length-i) (fun(i:Nat)=>(i<=l.length)) (0) (by omega) ?_;rintro i h1;simp;apply gw<;>intro a
 ·obtain⟨c,hc⟩:=aO (l:=l) (i:=i);have hg:=EG (f:=dS) (z:=(dS [])) (l:=l) (i:=i);have hfl:=EH (f:=dS) (z:=(dS [])) h1;have hst:=EI (f:=dS) (z:=(dS [])) hc;simp[hc,hg,hst];refine nxa (i+1) (by first|omega|(simp;omega)|grind)
 ·simp at a;obtain rfl:i=l.length:=by omega
  have hfa:=EF (f:=dS) (z:=(dS [])) (l:=l);simp[hfa]
abbrev F7 (r:Rec):D:= .agg [dI r.source,dI r.key,dI r.version,J5 r.fields]
def EN (r:Rec)(hl:Qle r.fields):Fk 24 [nV r] (.own (F7 r)):=by
 refine fE [] ntmps24 fun _ _=> ?_;simp;refine ck (ZC r.fields hl) ?_;simp
def Y9 (l:List Rec)(hl:Qle l)(hs:∀r∈l,Qle r.fields):Fk 99 [uR l] (.own (.sl (some 68) (l.map F7))):=by
 refine fE [] ntmps99 fun _ _=> ?_;have hz:=BC (f:=F7) (z:=(.agg [dI 0,dI 0,dI 0,.sl (some 9) []])) (l:=l);simp[hz];refine ai ?_;refine wl (fun(i:Nat)=>[(0,vR l),(3,.own (.sl (some 68) (DT F7 (.agg [dI 0,dI 0,dI 0,.sl (some 9) []]) l i))),(4,vI i)]) (fun(i:Nat)=>l.length-i) (fun(i:Nat)=>(i<=l.length)) (0) (by omega) ?_;rintro i h1;simp;apply gw<;>intro a
 ·obtain⟨c,hc⟩:=aO (l:=l) (i:=i);have hg:=EG (f:=F7) (z:=(.agg [dI 0,dI 0,dI 0,.sl (some 9) []])) (l:=l) (i:=i);have hfl:=EH (f:=F7) (z:=(.agg [dI 0,dI 0,dI 0,.sl (some 9) []])) h1;have hst:=EI (f:=F7) (z:=(.agg [dI 0,dI 0,dI 0,.sl (some 9) []])) hc;simp[hc];refine ck (EN c (hs c (aA hc))) ?_;simp[hg,hst];refine nxa (i+1) (by first|omega|(simp;omega)|grind)
 ·simp at a;obtain rfl:i=l.length:=by omega
  have hfa:=EF (f:=F7) (z:=(.agg [dI 0,dI 0,dI 0,.sl (some 9) []])) (l:=l);simp[hfa]
def ZE (v:Ver):Fk 101 [kK v] (.val (kK v)):=by
 refine fE [] ntmps101 fun _ _=> ?_;simp
def JF (l:List Ver)(hl:Qle l):Fk 45 [nVers l] (wV l):=by
 refine fE [] ntmps45 fun _ _=> ?_;have hz:=BC (f:=kK) (z:=(.agg [dI 0,dI 0,dB false,dI 0])) (l:=l);simp[hz];refine ai ?_;refine wl (fun(i:Nat)=>[(0,vV l),(3,.own (.sl (some 129) (DT kK (.agg [dI 0,dI 0,dB false,dI 0]) l i))),(4,vI i)]) (fun(i:Nat)=>l.length-i) (fun(i:Nat)=>(i<=l.length)) (0) (by omega) ?_;rintro i h1;simp;apply gw<;>intro a
 ·obtain⟨c,hc⟩:=aO (l:=l) (i:=i);have hg:=EG (f:=kK) (z:=(.agg [dI 0,dI 0,dB false,dI 0])) (l:=l) (i:=i);have hfl:=EH (f:=kK) (z:=(.agg [dI 0,dI 0,dB false,dI 0])) h1;have hst:=EI (f:=kK) (z:=(.agg [dI 0,dI 0,dB false,dI 0])) hc;simp[hc];refine ck (ZE c) ?_;simp[hg,hst];refine nxa (i+1) (by first|omega|(simp;omega)|grind)
 ·simp at a;obtain rfl:i=l.length:=by omega
  have hfa:=EF (f:=kK) (z:=(.agg [dI 0,dI 0,dB false,dI 0])) (l:=l);simp[hfa]
def agI (t:Tst):Fk 450 [uP t,uP t] (vB true):=by
 refine fE [] ntmps450 fun _ _=> ?_;simp
def adR (l:List Tst)(hl:Qle l):Fk 389 [.sl none (l.map uP),.sl none (l.map uP)] (vB true):=by
 refine fE [] ntmps389 fun _ _=> ?_;simp;refine wl (fun(i:Nat)=>[(0,.val (.sl none (l.map uP))),(1,.val (.sl none (l.map uP))),(5,vI i)]) (fun(i:Nat)=>l.length-i) (fun(i:Nat)=>(i<=l.length)) (0) (by omega) ?_;rintro i h1;simp;apply gw<;>intro a
 ·obtain⟨c,hc⟩:=aO (l:=l) (i:=i);simp;refine wdr ?_;simp[hc];refine cd (agI c) ?_;simp;refine nxa (i+1) (by first|omega|(simp;omega)|grind)
 ·simp at a;simp
def agH (l:List Tst)(hl:Qle l):Fk 299 [xJ l,xJ l] (vB true):=by
 refine fE [] ntmps299 fun _ _=> ?_;simp;refine ck (adR l hl) ?_;simp
def adP (l:List (List Tst))(hl:Qle l)(hs:∀t∈l,Qle t):Fk 199 [.sl none (l.map xJ),.sl none (l.map xJ)] (vB true):=by
 refine fE [] ntmps199 fun _ _=> ?_;simp;refine wl (fun(i:Nat)=>[(0,.val (.sl none (l.map xJ))),(1,.val (.sl none (l.map xJ))),(5,vI i)]) (fun(i:Nat)=>l.length-i) (fun(i:Nat)=>(i<=l.length)) (0) (by omega) ?_;rintro i h1;simp;apply gw<;>intro a
 ·obtain⟨c,hc⟩:=aO (l:=l) (i:=i);simp;refine wdr ?_;simp[hc];refine cd (agH c (hs c (aA hc))) ?_;simp;refine nxa (i+1) (by first|omega|(simp;omega)|grind)
 ·simp at a;simp
def YX (l:List (List Tst))(hl:Qle l)(hs:∀t∈l,Qle t):Fk 117 [nD l,nD l] (vB true):=by
 refine fE [] ntmps117 fun _ _=> ?_;simp;refine ck (adP l hl hs) ?_;simp
def JA (l:L1)(hl:Qle l):Fk 119 [nInts l,nInts l] (vB true):=by
 refine fE [] ntmps119 fun _ _=> ?_;simp;refine wl (fun(i:Nat)=>[(0,vN l),(1,vN l),(5,vI i)]) (fun(i:Nat)=>l.length-i) (fun(i:Nat)=>(i<=l.length)) (0) (by omega) ?_;rintro i h1;simp;apply gw<;>intro a
 ·obtain⟨c,hc⟩:=aO (l:=l) (i:=i);simp;refine wdr ?_;simp[hc];refine nxa (i+1) (by first|omega|(simp;omega)|grind)
 ·simp at a;simp
def YY (s:Sco)(hl:Qle s.weights):Fk 118 [J2 s,J2 s] (vB true):=by
 refine fE [] ntmps118 fun _ _=> ?_;simp;refine ck (JA s.weights hl) ?_;simp
def abG (c:Cfg)(hl:Qle c.rules)(hs:∀t∈c.rules,Qle t)(hw:Qle c.sco.weights)(hv:Qle c.surv):Fk 49 [ai6 c,ai6 c] (vB true):=by
 refine fE [] ntmps49 fun _ _=> ?_;simp;refine ck (YX c.rules hl hs) ?_;simp;refine ck (YY c.sco hw) ?_;simp;refine ck (JA c.surv hv) ?_;simp
def xH (l:List Str)(hl:Qle l:=by omega):Fk 32 [mH l,mH l] (vB true):=by
 refine fE [] ntmps32 fun _ _=> ?_;simp;refine wl (fun(i:Nat)=>[(0,vT l),(1,vT l),(5,vI i)]) (fun(i:Nat)=>l.length-i) (fun(i:Nat)=>(i<=l.length)) (0) (by omega) ?_;rintro i h1;simp;apply gw<;>intro a
 ·obtain⟨c,hc⟩:=aO (l:=l) (i:=i);simp;refine wdr ?_;simp[hc];refine nxa (i+1) (by first|omega|(simp;omega)|grind)
 ·simp at a;simp
def M4 (r:Rec)(hl:Qle r.fields):Fk 26 [nV r,nV r] (vB true):=by
 refine fE [] ntmps26 fun _ _=> ?_;simp;refine ck (xH r.fields hl) ?_;simp
def xG (l:List Rec)(hl:Qle l)(hs:∀r∈l,Qle r.fields):Fk 12 [uR l,uR l] (vB true):=by
 refine fE [] ntmps12 fun _ _=> ?_;simp;refine wl (fun(i:Nat)=>[(0,vR l),(1,vR l),(5,vI i)]) (fun(i:Nat)=>l.length-i) (fun(i:Nat)=>(i<=l.length)) (0) (by omega) ?_;rintro i h1;simp;apply gw<;>intro a
 ·obtain⟨c,hc⟩:=aO (l:=l) (i:=i);simp;refine wdr ?_;simp[hc];refine cd (M4 c (hs c (aA hc))) ?_;simp;refine nxa (i+1) (by first|omega|(simp;omega)|grind)
 ·simp at a;simp
def YZ (v:Ver):Fk 121 [kK v,kK v] (vB true):=by
 refine fE [] ntmps121 fun _ _=> ?_;simp
def JB (l:List Ver)(hl:Qle l):Fk 52 [nVers l,nVers l] (vB true):=by
 refine fE [] ntmps52 fun _ _=> ?_;simp;refine wl (fun(i:Nat)=>[(0,vV l),(1,vV l),(5,vI i)]) (fun(i:Nat)=>l.length-i) (fun(i:Nat)=>(i<=l.length)) (0) (by omega) ?_;rintro i h1;simp;apply gw<;>intro a
 ·obtain⟨c,hc⟩:=aO (l:=l) (i:=i);simp;refine wdr ?_;simp[hc];refine cd (YZ c) ?_;simp;refine nxa (i+1) (by first|omega|(simp;omega)|grind)
 ·simp at a;simp
def adQ (s:Sto)(hl:Qle s.recs)(hs:∀r∈s.recs,Qle r.fields)(hv:Qle s.vers):Fk 50 [XM s,XM s] (vB true):=by
 refine fE [] ntmps50 fun _ _=> ?_;simp;refine ck (xG s.recs hl hs) ?_;simp;refine ck (JB s.vers hv) ?_;simp
def abI (c:Cfg)(left:Int)(hr:axC c.rules)(hw:c.sco.weights.length<=9223372036854775807)(hs:c.surv.length<=9223372036854775807)(h0:0<=left/\left<=1048576):fA prog 35 [ai6 c,dI left] (fun r=>∃v:Int,r=vI v/\(-1<=v/\v<=left)/\(0<=v->aGC c.rules left/\(c.sco.weights.length:Int)<=left/\(c.surv.length:Int)<=left)):=by
 refine fE [] ntmps35 fun _ _=> ?_;simp;refine eB (Y5 c.rules left hr h0) (by simp) ?_;rintro r ⟨v1,rfl,hv1,hf1⟩;refine⟨by simp,?_⟩;simp;apply gw<;>intro b
 ·simp;omega
 ·simp at b;simp;refine eB (Y6 c.sco v1 hw (by omega)) (by simp) ?_;rintro r ⟨v2,rfl,hv2,hf2⟩;refine⟨by simp,?_⟩;simp;apply gw<;>intro d
  ·simp;omega
  ·simp at d;simp;refine eB (JC c.surv v2 hs (by omega)) (by simp) ?_;rintro r ⟨v3,rfl,hv3,hf3⟩;refine⟨by simp,?_⟩;simp;apply gw<;>intro e
   ·simp;omega
   ·simp at e;have k1:=hf1 (by omega);have k2:=hf2 (by omega);have k3:=hf3 (by omega);have k4:(c.sco.weights.length:Int)<=left/\(c.surv.length:Int)<=left:=by omega
    simp[k1,k4];refine ai ?_;omega
def adT (s:Sto)(left:Int)(hr:aAO s.recs)(hw:s.vers.length<=9223372036854775807)(h0:0<=left/\left<=1048576):fA prog 36 [XM s,dI left] (fun r=>∃v:Int,r=vI v/\(-1<=v/\v<=left)/\(0<=v->aJS s.recs left/\(s.vers.length:Int)<=left)):=by
 refine fE [] ntmps36 fun _ _=> ?_;simp;refine eB (Y4 s.recs left hr h0) (by simp) ?_;rintro r ⟨v1,rfl,hv1,hf1⟩;refine⟨by simp,?_⟩;simp;apply gw<;>intro b
 ·simp;omega
 ·simp at b;simp;refine eB (JD s.vers v1 hw (by omega)) (by simp) ?_;rintro r ⟨v2,rfl,hv2,hf2⟩;refine⟨by simp,?_⟩;simp;apply gw<;>intro d
  ·simp;omega
  ·simp at d;have k1:=hf1 (by omega);have k2:=hf2 (by omega);have k4:(s.vers.length:Int)<=left:=by omega
   simp[k1,k4];refine ai ?_;omega
def abK (c:Cfg)(hl:Qle c.rules)(hs:∀t∈c.rules,Qle t)(hw:Qle c.sco.weights)(hv:Qle c.surv):Fk 42 [ai6 c] (.own (.agg [.agg [.sl (some 207) (c.rules.map yE)],.agg [bV c.sco.weights,dI c.sco.bias],bV c.surv])):=by
 refine fE [] ntmps42 fun _ _=> ?_;simp;refine ck (ZA c.rules hl hs) ?_;simp;refine ck (ZB c.sco hw) ?_;simp;refine ck (JE c.surv hv) ?_;simp
def adW (s:Sto)(hl:Qle s.recs)(hs:∀r∈s.recs,Qle r.fields)(hv:Qle s.vers):Fk 43 [XM s] (.own (.agg [dI s.version,.sl (some 68) (s.recs.map F7),oVers s.vers])):=by
 refine fE [] ntmps43 fun _ _=> ?_;simp;refine ck (Y9 s.recs hl hs) ?_;simp;refine ck (JF s.vers hv) ?_;simp
end Go.Proofs.YtebopbncplpdgaaGreatDoor
end
