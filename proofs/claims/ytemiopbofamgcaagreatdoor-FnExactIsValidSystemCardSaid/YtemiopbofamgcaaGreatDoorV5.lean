/- Lemmas and walks that the law leans on, part 5. No condition. -/
import Derived.Lib.AtoiAllCases
import Derived.Lib.AtoiErrMem
import Derived.Lib.OwnBridge
import Derived.Lib.SortBridge
import Derived.Test.YtemiopbofamgcaaGreatDoorV4
set_option linter.unusedVariables false
set_option linter.unusedSimpArgs false
set_option linter.unusedSectionVars false
set_option maxRecDepth 10000
set_option maxHeartbeats 1000000
section
namespace Go.Proofs.YtemiopbofamgcaaGreatDoor
open Go.Dv Go.Pl Go.Proofs.Tryz
theorem NB (l:L1)(x:Int):ix (fun y=>decide (x=y)) l=place l x:=by
 unfold place;congr 1;funext y;simp[eq_comm]
theorem wM (l:List Con)(items:L1)(hl:l.length<=1048576)(hi:items.length<=1048576):Fk 143 [bG l,nInts items] (.own (zM (bX l items))):=by
 refine fE good [] func143 ntmps143 fun _ _=> ?_;simp[go_sem];refine wl good (fun((i,o):(Nat)×(List Con))=>[(1,.val (nInts items)),(5,.own (zM o)),(10,.val (bG l)),(11,.val (dI l.length)),(12,.val (dI i))]) (fun(i,o)=>l.length-i) (fun(i,o)=>(i<=l.length)/\(o=(l.take i).filterMap (qK items))/\(o.length<=i)) ((0,[])) ⟨(by omega),(by simp),(by simp)⟩ ?_;rintro⟨i,o⟩ ⟨h1,h2,h3⟩;simp[go_sem];apply gw<;>intro a
 ·obtain⟨c,hc⟩:=aC (l:=l) (i:=i) (by omega);have hm:=sH (qK items) hc;rw[←h2]at hm;have e1:=NB items c.a;have e2:=NB items c.b;have b1:=arR (fun y=>decide (y=c.a)) items;have b2:=arR (fun y=>decide (y=c.b)) items;simp[go_sem,hc];refine wdt good 8 ?_;simp[go_sem];refine cd (dH items c.a) ?_;simp[go_sem];refine cd (dH items c.b) ?_;simp[go_sem,e1,e2];apply gv<;>intro e
  ·have e':=e;simp[go_sem,e];apply gw<;>intro f
   ·have hr:qK items c=some ⟨place items c.a,place items c.b,c.same⟩:=if_pos ⟨e,f⟩;rw[hr]at hm;simp[go_sem];iterate 2 refine ai ?_
    refine nx (i+1,o++[⟨place items c.a,place items c.b,c.same⟩]) ⟨(by omega),(by rw[hm];rfl),(by simp;omega)⟩
   ·simp at f;have hr:qK items c=none:=if_neg (by omega);rw[hr]at hm;simp[go_sem];refine ai ?_;refine nx (i+1,o) ⟨(by omega),(by rw[hm];simp),(by omega)⟩
  ·have e':=e;simp at e';have hr:qK items c=none:=if_neg (by omega);rw[hr]at hm;simp[go_sem,e];refine ai ?_;refine nx (i+1,o) ⟨(by omega),(by rw[hm];simp),(by omega)⟩
 ·simp at a;rw[aK a]at h2;have hfin:bX l items=o:=h2.symm;simp[go_sem,hfin]
def aeI (m:L2)(items:L1)(i k:Nat):Int:=at2 m (at1 items i).toNat (at1 items k).toNat
theorem NI (m:L2)(items:L1)(hm:aI m=true)(hs:FL m.length items)(hl:items.length<=1048576):Fk 142 [aM m,nInts items] (.own (gN (dZ m items))):=by
 refine fE good [] func142 ntmps142 fun _ _=> ?_;have hz:List.replicate items.length (aF (List.replicate items.length 0))=(zeros items.length).map aF:=by simp[zeros]
 simp[go_sem];refine ck (lN items.length (by omega)) ?_;simp[go_sem,hz];refine wl good (fun((i,q):(Nat)×(L2))=>[(0,.val (aM m)),(1,.val (nInts items)),(5,.own (gN q)),(13,.val (nInts items)),(14,.val (dI items.length)),(15,.val (dI i))]) (fun(i,q)=>items.length-i) (fun(i,q)=>(i<=items.length)/\(q=loopN i (zeros items.length) (PP items.length (aeI m items)))/\(sq2 items.length q)) ((0,zeros items.length)) ⟨(by omega),(rfl),(jK _)⟩ ?_ (h0:=by simp[go_sem,hz]);rintro⟨i,q⟩ ⟨h1,h2,h3⟩;simp[go_sem];apply gw<;>intro a
 ·have hs1:=aA i (zeros items.length) (PP items.length (aeI m items));rw[←h2]at hs1;have gi:=aD (l:=items) (i:=i) (by omega);have si:=hs.1 _ (List.mem_of_getElem? gi);simp[go_sem,gi];refine wl good (fun((k,w):(Nat)×(L2))=>[(0,.val (aM m)),(1,.val (nInts items)),(5,.own (gN w)),(6,.val (dI i)),(7,.val (dI (at1 items i))),(13,.val (nInts items)),(14,.val (dI items.length)),(15,.val (dI i)),(20,.val (nInts items)),(21,.val (dI items.length)),(22,.val (dI k))]) (fun(k,w)=>items.length-k) (fun(k,w)=>(k<=items.length)/\(w=loopN k q (DC (aeI m items) i))/\(sq2 items.length w)) ((0,q)) ⟨(by omega),(rfl),(h3)⟩ ?_;rintro⟨k,w⟩ ⟨h4,h5,h6⟩;simp[go_sem];apply gw<;>intro b
  ·have hs2:=aA k q (DC (aeI m items) i);rw[←h5]at hs2;have gk:=aD (l:=items) (i:=k) (by omega);have sk:=hs.1 _ (List.mem_of_getElem? gk);have hrw:=(kU h6 (i:=i) (by omega)).1;have hgw:=D8 h6 (i:=i) (k:=k) (by omega) (by omega);obtain⟨r,hr,hv⟩:=eP hm (i:=(at1 items i).toNat) (k:=(at1 items k).toNat) (by omega) (by omega);have hv2:r[(at1 items k).toNat]?=some (aeI m items i k):=hv;have hset:(w.map aF).set i (D.sl (some 3) (((gat w i).map dI).set k (dI (aeI m items i k))))=(DC (aeI m items) i k w).map aF:=BH w i k (aeI m items i k);have p1:=si.1;have p2:=sk.1;simp[go_sem,gk];refine wdt good 13 ?_;simp[go_sem,hrw,hgw,hr,hv2,hset,p1,p2];refine ai ?_;refine nx (k+1,DC (aeI m items) i k w) ⟨(by omega),(hs2.symm),(oM h6 (by omega) _)⟩
  ·simp at b;obtain rfl:k=items.length:=by omega
   simp[go_sem];refine ai ?_;refine nx (i+1,w) ⟨(by omega),(by rw[hs1,h5];rfl),(h6)⟩
 ·simp at a;obtain rfl:i=items.length:=by omega
  have hfin:dZ m items=q:=by rw[←asY,h2];rfl
  simp[go_sem,hfin]
end Go.Proofs.YtemiopbofamgcaaGreatDoor
end
section
namespace Go.Proofs.YtemiopbofamgcaaGreatDoor
open Go.Dv Go.Pl Go.RowKit Go.Proofs.Tryz
abbrev afC (t:Tri):D:= .agg [.agg [dI t.a,dI t.b],.agg [dI t.a,dI t.c],.agg [dI t.b,dI t.c]]
structure CB (n:Nat) (t:Tri):Prop where
 a:0<=t.a
 b:t.a<t.b
 c:t.b<t.c
 n:t.c<(n:Int)
theorem WE {t:Tri}{n i:Nat}(h:CB n t)(hi:i<3):∃x y:Nat,x<n/\y<n/\[D.agg [dI t.a,dI t.b],D.agg [dI t.a,dI t.c],D.agg [dI t.b,dI t.c]][i]?=some (D.agg [dI x,dI y]):=by
 obtain⟨h1,h2,h3,h4⟩:=h;obtain⟨a,ha⟩:=Int.eq_ofNat_of_zero_le h1;obtain⟨b,hb⟩:=Int.eq_ofNat_of_zero_le (show 0<=t.b by omega);obtain⟨c,hc⟩:=Int.eq_ofNat_of_zero_le (show 0<=t.c by omega);rw[ha,hb,hc];have:i=0\/i=1\/i=2:=by omega
 rcases this with rfl|rfl|rfl
 ·exact⟨a,b,by omega,by omega,rfl⟩
 ·exact⟨a,c,by omega,by omega,rfl⟩
 ·exact⟨b,c,by omega,by omega,rfl⟩
theorem ay0 (a b c d:Int)(w:World):Calls prog 218 #[.agg #[.int .i64 a,.int .i64 b,.int .i64 c,.int .i64 d]] w fun e w'=>e= .returned (.agg #[.int .i64 a,.int .i64 b,.int .i64 a,.int .i64 c,.int .i64 b,.int .i64 c])/\Below w.heap.size w w':=by
 go_enter func218,ntmps218
 go_wp2
 refine bodyPost_ret (v:= .agg #[.int .i64 a,.int .i64 b,.int .i64 a,.int .i64 c,.int .i64 b,.int .i64 c]) ?_ rfl ⟨rfl,((Below.refl _ w).alloc (Nat.le_refl _) _).alloc (by simp) _⟩;have z:=Tryz.sizeOf229;have g:=Tryz.isAgg229;simp[results,Tryz.f218,loadVar,asAddr]
 go_simp
theorem wS (t:Tri):bK prog 218 [ag9 t] (fun r=>r= .val (afC t)):=by
 intro w ow vs tt ht hL hnew hvs hargs;have h0:=hargs 0 _ rfl
 have hv:vs= #[.agg #[.int .i64 t.a,.int .i64 t.b,.int .i64 t.c,.int .i64 t.w]]:=by
  simp only[D.fz,D.fzs,V]at h0;obtain⟨cs,h1,h2⟩:=h0;have h3:=R.yP (cs':=[.int .i64 t.a,.int .i64 t.b,.int .i64 t.c,.int .i64 t.w]) rfl h2;apply Array.ext
  ·simpa using hvs
  ·intro i h4 h5;obtain rfl:i=0:=by simpa using h5
   simp[Array.getD_eq_getD_getElem?,h4]at h1;simp[h1];apply Array.toList_inj.1;exact h3
 subst hv;refine(ay0 t.a t.b t.c t.w w).mono ?_;rintro e w' ⟨rfl,hB⟩;refine⟨_,fun b=>if b<w.heap.size then ow b else none,_,rfl,rfl,⟨hB.os,hB.tape,hB.output,hB.size,fun b hb=>⟨hB.block b hb,if_pos hb⟩,fun b hb=>if_neg (by have:=hB.size;omega)⟩,rfl,fun s a=> ?_⟩;exact⟨_,rfl,R.flat rfl⟩
theorem XV (t:Tri)(m:L2)(hm:aI m=true)(ht:CB m.length t):bK prog 290 [ag9 t,aM m] (fun r=>∃b:Bool,r= .val (dB b)):=by
 refine fE good [] func290 ntmps290 fun _ _=> ?_;simp[go_sem];refine ck (wS t) ?_;simp[go_sem];refine wl good (fun((i,p,q):(Nat)×(Int)×(Int))=>[(1,.val (aM m)),(5,.val (dI p)),(6,.val (dI q)),(11,.val (afC t)),(12,.val (dI i))]) (fun(i,p,q)=>3-i) (fun(i,p,q)=>(i<=3)/\(0<=p/\p<=i)/\(0<=q/\q<=i)) ((0,0,0)) ⟨(by omega),(by omega),(by omega)⟩ ?_;rintro⟨i,p,q⟩ ⟨h1,h2,h3⟩;simp[go_sem];apply gw<;>intro a
 ·obtain⟨x,y,hx,hy,hp⟩:=WE ht (show i<3 by omega);obtain⟨r,hr,hw⟩:=eP hm hx hy;simp[go_sem,hp];refine ai ?_;refine wdt good 9 ?_;simp[go_sem,hr,hw];apply gw<;>intro b
  ·simp[go_sem];iterate 2 refine ai ?_
   refine nx (i+1,p+1,q) ⟨(by first|omega|(simp;omega)|grind),(by first|omega|(simp;omega)|grind),(by first|omega|(simp;omega)|grind)⟩
  ·simp at b;simp[go_sem];apply gw<;>intro c
   ·simp[go_sem];iterate 2 refine ai ?_
    refine nx (i+1,p,q+1) ⟨(by first|omega|(simp;omega)|grind),(by first|omega|(simp;omega)|grind),(by first|omega|(simp;omega)|grind)⟩
   ·simp at c;simp[go_sem];refine ai ?_;refine nx (i+1,p,q) ⟨(by first|omega|(simp;omega)|grind),(by first|omega|(simp;omega)|grind),(by first|omega|(simp;omega)|grind)⟩
 ·simp at a;simp[go_sem];apply gv<;>intro g1
  ·have g1':=g1;simp[go_sem,g1]
  ·have g1':=g1;simp[go_sem,g1]
theorem aoY (t:Tri)(n:Nat)(hn:n<=1048576):bK prog 339 [ag9 t,dI n] (fun r=>∃b:Bool,r= .val (dB b)):=by
 refine fE good [] func339 ntmps339 fun _ _=> ?_;simp[go_sem];refine ck (iB t.a n) ?_;simp[go_sem];apply gv<;>intro e
 ·have e':=e;simp at e';simp[go_sem,e];refine ck (iB t.b n) ?_;simp[go_sem];apply gv<;>intro f
  ·have f':=f;simp at f';simp[go_sem,f];refine ck (iB t.c n) ?_;simp[go_sem];apply gv<;>intro g
   ·have g':=g;simp at g';simp[go_sem,g];apply gv<;>intro h
    ·have h':=h;simp[go_sem,h]
    ·have h':=h;simp at h';simp[go_sem,h]
   ·have g':=g;simp at g';simp[go_sem,g]
  ·have f':=f;simp at f';simp[go_sem,f]
 ·have e':=e;simp at e';simp[go_sem,e]
end Go.Proofs.YtemiopbofamgcaaGreatDoor
end
section
namespace Go.Proofs.YtemiopbofamgcaaGreatDoor
open Go.Dv Go.Pl Go.Proofs.Tryz
variable {x:Int}
theorem VX (h: -1000<=x/\x<=1000):0<=rE x/\rE x<=1000:=by unfold rE;split<;>omega
theorem F6 (m:L2)(hm:aI m=true):bK prog 217 [aM m] (fun r=>∃l:List Tri,r= .own (qU l)/\l.length<=512/\∀t∈l,CB m.length t/\0<=t.w/\t.w<=1000):=by
 refine fE good [] func217 ntmps217 fun _ _=> ?_;have hn8:=aP hm;simp[go_sem];refine ck (bT m (by omega) (nT hm)) ?_;simp[go_sem,hm];refine wl good (fun((i,o):(Nat)×(List Tri))=>[(0,.val (aM m)),(3,.own (qU o)),(12,.val (dI m.length)),(13,.val (dI i))]) (fun(i,o)=>m.length-i) (fun(i,o)=>(i<=m.length)/\(o.length<=64*i)/\(∀t∈o,CB m.length t/\0<=t.w/\t.w<=1000)) ((0,[])) ⟨(by omega),(by simp),(by simp)⟩ ?_;rintro⟨i,o⟩ ⟨h1,h2,h3⟩;simp[go_sem];apply gw<;>intro a
 ·simp[go_sem];refine ai ?_;refine wl good (fun((j,p):(Nat)×(List Tri))=>[(0,.val (aM m)),(3,.own (qU p)),(4,.val (dI i)),(5,.val (dI j)),(12,.val (dI m.length)),(13,.val (dI i))]) (fun(j,p)=>m.length-j) (fun(j,p)=>(i+1<=j/\j<=m.length)/\(p.length<=64*i+8*j)/\(∀t∈p,CB m.length t/\0<=t.w/\t.w<=1000)) ((i+1,o)) ⟨(by omega),(by omega),(h3)⟩ ?_;rintro⟨j,p⟩ ⟨h4,h5,h6⟩;simp[go_sem];apply gw<;>intro b
  ·simp[go_sem];refine ai ?_;refine wl good (fun((k,q):(Nat)×(List Tri))=>[(0,.val (aM m)),(3,.own (qU q)),(4,.val (dI i)),(5,.val (dI j)),(6,.val (dI k)),(12,.val (dI m.length)),(13,.val (dI i))]) (fun(k,q)=>m.length-k) (fun(k,q)=>(j+1<=k/\k<=m.length)/\(q.length<=64*i+8*j+k)/\(∀t∈q,CB m.length t/\0<=t.w/\t.w<=1000)) ((j+1,p)) ⟨(by omega),(by omega),(h6)⟩ ?_;rintro⟨k,q⟩ ⟨h7,h8,h9⟩;simp[go_sem];apply gw<;>intro c
   ·obtain⟨r1,e1,f1⟩:=eP hm (i:=i) (k:=j) (by omega) (by omega);obtain⟨r2,e2,f2⟩:=eP hm (i:=i) (k:=k) (by omega) (by omega);obtain⟨r3,e3,f3⟩:=eP hm (i:=j) (k:=k) (by omega) (by omega);have b1:=bZ hm i j;have b2:=bZ hm i k;have b3:=bZ hm j k;rw[e1]at e2;obtain rfl:=Option.some.inj e2;simp[go_sem];refine wdf good [(28,[32,33,34,59,60]),(29,[7]),(30,[7,60])] [(0,.val (aM m)),(3,.own (qU q)),(4,.val (dI i)),(5,.val (dI j)),(6,.val (dI k)),(12,.val (dI m.length)),(13,.val (dI i))] [] (by simp[go_sem]) ?_;simp[go_sem,e1,f1];refine cd (lD (at2 m i j) (by omega)) ?_;simp[go_sem,e1,f2];refine cd (lD (at2 m i k) (by omega)) ?_;simp[go_sem,e3,f3];refine cd (lD (at2 m j k) (by omega)) ?_;obtain⟨w,hw⟩:∃w,w=min (rE (at2 m i j)) (min (rE (at2 m i k)) (rE (at2 m j k))):=⟨_,rfl⟩;have a1:=VX b1;have a2:=VX b2;have a3:=VX b3;have hw2:=hw.symm;have ht:CB m.length ⟨i,j,k,w⟩:=⟨by show(0:Int)<=i;omega,by show(i:Int)<j;omega,by show(j:Int)<k;omega,by show(k:Int)<m.length;omega⟩;simp[go_sem,hw2];refine bC (XV ⟨i,j,k,w⟩ m hm ht) (by simp[go_sem]) ?_;rintro r ⟨bb,rfl⟩;refine⟨by simp[go_sem],?_⟩;simp[go_sem];apply gw<;>intro d
    ·simp[go_sem];iterate 2 refine ai ?_
     refine nx (k+1,q++[⟨i,j,k,w⟩]) ⟨(by omega),(by simp;omega),(by intro t htm;rcases List.mem_append.1 htm with h|h;exact h9 t h;obtain rfl:=List.mem_singleton.1 h;exact⟨ht,by show 0<=w;omega,by show w<=1000;omega⟩)⟩
    ·simp[go_sem];refine ai ?_;refine nx (k+1,q) ⟨(by omega),(by omega),(h9)⟩
   ·simp at c;simp[go_sem];refine ai ?_;refine nx (j+1,q) ⟨(by omega),(by omega),(h9)⟩
  ·simp at b;simp[go_sem];refine ai ?_;refine nx (i+1,p) ⟨(by omega),(by omega),(h6)⟩
 ·simp at a;simp[go_sem];exact⟨o,rfl,by omega,h3⟩
variable {m u:L2}{y:Nat}
theorem OU {x:Nat}(hu:sq2 m.length u)(hx:x<m.length)(hy:y<m.length):u[x]?=some (gat u x)/\(gat u x)[y]?=some (at2 u x y):=⟨(kU hu hx).1,D8 hu hx hy⟩
def CZ (m u:L2)(b:Int):Prop:=sq2 m.length u/\∀x y,x<m.length->y<m.length->0<=at2 u x y/\at2 u x y<=b
variable {b:Int}
theorem ag1 {w:Int}{x:Nat}(h:CZ m u b)(hx:x<m.length)(hy:y<m.length)(hw:0<=w/\w<=1000):CZ m (set2 u x y (at2 u x y+w)) (b+1000):=by
 refine⟨oM h.1 hx _,fun a c ha hc=> ?_⟩;rw[vK h.1 hx hy];have h1:=h.2 a c ha hc;have h2:=h.2 x y hx hy;split<;>omega
variable {c:Int}
theorem tJ (h:CZ m u b)(hb:b<=c):CZ m u c:=⟨h.1,fun x y hx hy=>by have:=h.2 x y hx hy;omega⟩
theorem mW (m:L2)(hm:aI m=true):bK prog 147 [aM m] (fun r=>∃l:List Tri,r= .own (qU l)/\l.length<=512/\∀t∈l,CB m.length t/\1<=t.w/\t.w<=1000):=by
 refine fE good [] func147 ntmps147 fun _ _=> ?_;have hn8:=aP hm;have hz:List.replicate m.length (aF (List.replicate m.length 0))=(zeros m.length).map aF:=by simp[zeros]
 simp[go_sem];refine ck (lN m.length (by omega)) ?_;simp[go_sem,hz];refine bC (F6 m hm) (by simp[go_sem]) ?_;rintro r ⟨L,rfl,hL,hT⟩;refine⟨by simp[go_sem],?_⟩;simp[go_sem];refine wl good (fun((i,u,o):(Nat)×(L2)×(List Tri))=>[(0,.val (aM m)),(3,.own (qU o)),(4,.own (gN u)),(15,.own (qU L)),(16,.val (dI L.length)),(17,.val (dI i))]) (fun(i,u,o)=>L.length-i) (fun(i,u,o)=>(i<=L.length)/\(CZ m u (3000*i))/\(o.length<=i)/\(∀t∈o,CB m.length t/\1<=t.w/\t.w<=1000)) ((0,zeros m.length,[])) ⟨(by omega),(⟨jK _,fun x y _ _=>by rw[CF];omega⟩),(by simp),(by simp)⟩ ?_ (h0:=by simp[go_sem,hz]);rintro⟨i,u,o⟩ ⟨h1,h2,h3,h4⟩;simp[go_sem];apply gw<;>intro a
 ·obtain⟨t,ht⟩:=aC (l:=L) (i:=i) (by omega);have hto:=hT t (List.mem_of_getElem? ht);simp[go_sem,ht];refine ck (wS t) ?_;simp[go_sem];refine wl good (fun((k,w):(Nat)×(Int))=>[(0,.val (aM m)),(3,.own (qU o)),(4,.own (gN u)),(6,.own (.bx true (ag9 ⟨t.a,t.b,t.c,w⟩))),(15,.own (qU L)),(16,.val (dI L.length)),(17,.val (dI i)),(22,.val (afC t)),(23,.val (dI k))]) (fun(k,w)=>3-k) (fun(k,w)=>(k<=3)/\(-2000000<=w/\w<=1000)) ((0,t.w)) ⟨(by omega),(by omega)⟩ ?_;rintro⟨k,w⟩ ⟨h5,h6⟩;simp[go_sem];apply gw<;>intro b
  ·obtain⟨x,y,hx,hy,hp⟩:=WE hto.1 (show k<3 by omega);obtain⟨r,hr,hv⟩:=eP hm hx hy;obtain⟨q1,q2⟩:=OU h2.1 hx hy;have q3:=h2.2 x y hx hy;have b1:=bZ hm x y;have a1:=VX b1;simp[go_sem,hp];refine ai ?_;refine wdt good 24 ?_;simp[go_sem,hr,hv];refine cd (lD (at2 m x y) (by omega)) ?_;simp[go_sem,q1,q2];iterate 2 refine ai ?_
   refine nx (k+1,min w (rE (at2 m x y)-at2 u x y)) ⟨(by omega),(by omega)⟩
  ·simp at b;have hu1:CZ m u (3000*((i+1:Nat):Int)):=tJ h2 (by omega);simp[go_sem];apply gw<;>intro c
   ·simp[go_sem];refine ai ?_;refine nx (i+1,u,o) ⟨(by omega),(hu1),(by omega),(h4)⟩
   ·simp at c;have htw:CB m.length ⟨t.a,t.b,t.c,w⟩:=⟨hto.1.a,hto.1.b,hto.1.c,hto.1.n⟩;simp[go_sem];refine ck (wS ⟨t.a,t.b,t.c,w⟩) ?_;simp[go_sem];refine wl good (fun((j,v):(Nat)×(L2))=>[(0,.val (aM m)),(3,.own (qU o)),(4,.own (gN v)),(6,.own (.bx true (ag9 ⟨t.a,t.b,t.c,w⟩))),(15,.own (qU L)),(16,.val (dI L.length)),(17,.val (dI i)),(55,.val (afC t)),(56,.val (dI j))]) (fun(j,v)=>3-j) (fun(j,v)=>(j<=3)/\(CZ m v (3000*i+1000*j))) ((0,u)) ⟨(by omega),(tJ h2 (by omega))⟩ ?_;rintro⟨j,v⟩ ⟨h7,h8⟩;simp[go_sem];apply gw<;>intro b2
    ·obtain⟨x,y,hx,hy,hp⟩:=WE hto.1 (show j<3 by omega);obtain⟨q1,q2⟩:=OU h8.1 hx hy;have q3:=h8.2 x y hx hy;have hset:=BH v x y (at2 v x y+w);simp[go_sem,hp];refine ai ?_;refine wdt good 13 ?_;simp[go_sem,q1,q2,hset];iterate 2 refine ai ?_
     refine nx (j+1,set2 v x y (at2 v x y+w)) ⟨(by omega),(tJ (ag1 h8 hx hy (by omega)) (by omega))⟩
    ·simp at b2;obtain rfl:j=3:=by omega
     simp[go_sem];iterate 2 refine ai ?_
     refine nx (i+1,v,o++[⟨t.a,t.b,t.c,w⟩]) ⟨(by omega),(tJ h8 (by omega)),(by simp;omega),(by intro z hz;rcases List.mem_append.1 hz with h|h;exact h4 z h;obtain rfl:=List.mem_singleton.1 h;exact⟨htw,by show 1<=w;omega,by show w<=1000;omega⟩)⟩
 ·simp at a;simp[go_sem];exact⟨o,rfl,by omega,h4⟩
theorem OY (m:L2)(l:List Tri)(hm:aI m=true)(hl:l.length<=512)(hT:∀t∈l,CB m.length t/\1<=t.w/\t.w<=1000):bK prog 289 [aM m,wY l] (fun r=>∃b:Bool,r= .val (dB b)):=by
 refine fE good [] func289 ntmps289 fun _ _=> ?_;have hn8:=aP hm;have hz:List.replicate m.length (aF (List.replicate m.length 0))=(zeros m.length).map aF:=by simp[zeros]
 simp[go_sem];refine ck (bT m (by omega) (nT hm)) ?_;simp[go_sem,hm];apply gw<;>intro a0
 ·simp[go_sem]
 ·simp at a0;simp[go_sem];refine ck (lN m.length (by omega)) ?_;simp[go_sem,hz];refine wl good (fun((i,u):(Nat)×(L2))=>[(0,.val (aM m)),(5,.own (gN u)),(21,.val (wY l)),(22,.val (dI l.length)),(23,.val (dI i))]) (fun(i,u)=>l.length-i) (fun(i,u)=>(i<=l.length)/\(CZ m u (3000*i))) ((0,zeros m.length)) ⟨(by omega),(⟨jK _,fun x y _ _=>by rw[CF];omega⟩)⟩ ?_ (h0:=by simp[go_sem,hm,hz]);rintro⟨i,u⟩ ⟨h1,h2⟩;simp[go_sem];apply gw<;>intro a
  ·obtain⟨t,ht⟩:=aC (l:=l) (i:=i) (by omega);have hto:=hT t (List.mem_of_getElem? ht);simp[go_sem,ht];refine bC (aoY t m.length (by omega)) (by simp[go_sem]) ?_;rintro r ⟨b1,rfl⟩;refine⟨by simp[go_sem],?_⟩;simp[go_sem];apply gv<;>intro e
   ·have e':=e;simp at e';simp[go_sem,e]
   ·have e':=e;simp at e';simp[go_sem,e];refine bC (XV t m hm hto.1) (by simp[go_sem]) ?_;rintro r ⟨b2,rfl⟩;refine⟨by simp[go_sem],?_⟩;simp[go_sem];apply gv<;>intro f
    ·have f':=f;simp at f';simp[go_sem,f]
    ·have f':=f;simp at f';simp[go_sem,f];refine ck (aH t.w 1 1000) ?_;simp[go_sem];apply gw<;>intro g
     ·simp at g;simp[go_sem]
     ·simp at g;simp[go_sem];refine ck (wS t) ?_;simp[go_sem];refine wl good (fun((j,v):(Nat)×(L2))=>[(0,.val (aM m)),(5,.own (gN v)),(7,.own (.bx true (ag9 t))),(21,.val (wY l)),(22,.val (dI l.length)),(23,.val (dI i)),(45,.val (afC t)),(46,.val (dI j))]) (fun(j,v)=>3-j) (fun(j,v)=>(j<=3)/\(CZ m v (3000*i+1000*j))) ((0,u)) ⟨(by omega),(tJ h2 (by omega))⟩ ?_;rintro⟨j,v⟩ ⟨h7,h8⟩;simp[go_sem];apply gw<;>intro c
      ·obtain⟨x,y,hx,hy,hp⟩:=WE hto.1 (show j<3 by omega);obtain⟨q1,q2⟩:=OU h8.1 hx hy;obtain⟨r,hr,hv⟩:=eP hm hx hy;have q3:=h8.2 x y hx hy;have hset:=BH v x y (at2 v x y+t.w);have h9:=ag1 h8 hx hy (w:=t.w) (by omega);obtain⟨p1,p2⟩:=OU h9.1 hx hy;have b3:=bZ hm x y;simp[go_sem,hp];refine ai ?_;refine wdt good 13 ?_;simp[go_sem,q1,q2,hset];refine ai ?_;refine wdr good ?_;simp[go_sem,p1,p2,hr,hv];refine cd (lD (at2 m x y) (by omega)) ?_;simp[go_sem];apply gw<;>intro d
       ·simp[go_sem]
       ·simp at d;simp[go_sem];refine ai ?_;refine nx (j+1,set2 v x y (at2 v x y+t.w)) ⟨(by omega),(tJ h9 (by omega))⟩
      ·simp at c;obtain rfl:j=3:=by omega
       simp[go_sem];refine ai ?_;refine nx (i+1,v) ⟨(by omega),(tJ h8 (by omega))⟩
  ·simp at a;simp[go_sem]
theorem FV (m:L2)(l:List Tri)(hm:aI m=true)(hl:l.length<=512)(hT:∀t∈l,CB m.length t/\1<=t.w/\t.w<=1000):bK prog 216 [aM m,wY l] (fun r=>∃k:Int,r= .val (dI k)/\ -1<=k/\k<=512000):=by
 refine fE good [] func216 ntmps216 fun _ _=> ?_;simp[go_sem];refine bC (OY m l hm hl hT) (by simp[go_sem]) ?_;rintro r ⟨b1,rfl⟩;refine⟨by simp[go_sem],?_⟩;simp[go_sem];apply gw<;>intro a0
 ·simp at a0;simp[go_sem]
 ·simp at a0;simp[go_sem];refine wl good (fun((i,s):(Nat)×(Int))=>[(5,.val (dI s)),(12,.val (wY l)),(13,.val (dI l.length)),(14,.val (dI i))]) (fun(i,s)=>l.length-i) (fun(i,s)=>(i<=l.length)/\(0<=s/\s<=1000*i)) ((0,0)) ⟨(by omega),(by omega)⟩ ?_;rintro⟨i,s⟩ ⟨h1,h2⟩;simp[go_sem];apply gw<;>intro a
  ·obtain⟨t,ht⟩:=aC (l:=l) (i:=i) (by omega);have hto:=hT t (List.mem_of_getElem? ht);simp[go_sem,ht];iterate 2 refine ai ?_
   refine nx (i+1,s+t.w) ⟨(by omega),(by omega)⟩
  ·simp at a;simp[go_sem];refine ai ?_;omega
theorem mZ (m:L2)(p:L1)(l:List Tri)(hm:aI m=true)(hp:p.length<=1048576)(hl:l.length<=512)(hT:∀t∈l,CB m.length t/\1<=t.w/\t.w<=1000):bK prog 146 [aM m,nInts p,wY l] (fun r=>∃k:Int,r= .val (dI k)):=by
 refine fE good [] func146 ntmps146 fun _ _=> ?_;have hpc:=rO m p;simp[go_sem];refine ck (sN m p hm hp) ?_;simp[go_sem];refine bC (FV m l hm hl hT) (by simp[go_sem]) ?_;rintro r ⟨k,rfl,hk1,hk2⟩;refine⟨by simp[go_sem],?_⟩;simp[go_sem];apply gv<;>intro e
 ·have e':=e;simp[go_sem,e]
 ·have e':=e;simp at e';simp[go_sem,e];apply gw<;>intro f
  ·simp[go_sem]
  ·simp at f;simp[go_sem];simp only[inI];omega
structure aB9 (a b c d e:Nat):Prop where
 ab:¬a=b
 ac:¬a=c
 ad:¬a=d
 ae:¬a=e
 bc:¬b=c
 bd:¬b=d
 be:¬b=e
 cd:¬c=d
 ce:¬c=e
 de:¬d=e
theorem aqT (m:L2)(cs:List Con)(l:L1)(s:S20)(k:Int)(bc bm bl bf bn:Nat)(hA:aB9 bc bm bl bf bn)(hm:aI m=true)(hl:l.length=m.length)(hc:cs.length<=1048576):FnW prog 282 [aF l] [(bc,some (bG cs)),(bm,some (aM m)),(bl,none),(bf,none),(bn,none)] [(bc,bG cs),(bm,aM m)] [(bl,dI s.cost),(bf,aF s.best),(bn,dI k)] (fun r ds'=>r= .tup []/\∃k',ds'=[dI (fV m cs l s).cost,aF (fV m cs l s).best,dI k']):=by
 refine fW good [10] func282 ntmps282 fun _ _=> ?_;obtain⟨a1,a2,a3,a4,a5,a6,a7,a8,a9,a10⟩:=hA;have c1:=Ne.symm a1;have c2:=Ne.symm a2;have c3:=Ne.symm a3;have c4:=Ne.symm a4;have c5:=Ne.symm a5;have c6:=Ne.symm a6;have c7:=Ne.symm a7;have c8:=Ne.symm a8;have c9:=Ne.symm a9;have c0:=Ne.symm a10;have hn8:=aP hm;simp[go_sem];refine ck (uR l cs) ?_;simp[go_sem];apply gw<;>intro e
 ·simp at e;have hb:fV m cs l s=s:=if_neg (by simpa using e);simp[go_sem,c8,c9,c0,hb]
 ·simp at e;have hk:gW cs l=true:=by simpa using e
  have hbs:fV m cs l s=if s.cost<0\/aQ m l<s.cost then⟨l,aQ m l,1⟩else if aQ m l=s.cost then⟨s.best,s.cost,s.count+1⟩else s:=if_pos hk
  simp[go_sem];refine ck (dY m l hm hl) ?_;simp[go_sem];apply gv<;>intro f
  ·have f':=f;have hb:fV m cs l s=⟨l,aQ m l,1⟩:=by rw[hbs,if_pos (.inl f)]
   simp[go_sem,f];refine ck (iJ l ⟨by omega,by omega⟩) ?_;simp[go_sem,a8,a9,a10,c8,c9,c0,hb]
  ·have f':=f;simp at f';simp[go_sem,f];apply gw<;>intro g
   ·have hb:fV m cs l s=⟨l,aQ m l,1⟩:=by rw[hbs,if_pos (.inr g)]
    simp[go_sem];refine ck (iJ l ⟨by omega,by omega⟩) ?_;simp[go_sem,a8,a9,a10,c8,c9,c0,hb]
   ·simp at g;simp[go_sem];apply gw<;>intro h
    ·have hb:fV m cs l s=⟨s.best,s.cost,s.count+1⟩:=by rw[hbs,if_neg (by omega),if_pos h]
     simp[go_sem];refine wrw good [1] ?_;simp[go_sem,a9,a10,c8,c9,c0,hb]
    ·have hb:fV m cs l s=s:=by rw[hbs,if_neg (by omega),if_neg h]
     simp[go_sem,c8,c9,c0,hb]
abbrev VN (bc bm bl bf bk:Nat):D:= .one (.func (.func 282) #[] #[SG bc,SG bm,SG bl,SG bf,SG bk])
abbrev ae3 (bn bY bL bF:Nat):D:= .one (.func (.func 334) #[] #[SG bn,SG bY,SG bL,SG bF])
theorem yB {a:Nat}{l:List Nat}(h:∀b∈l,¬a=b)(hl:iD l):iD (a::l):=⟨fun b hb=>⟨h b hb,fun e=>h b hb e.symm⟩,hl⟩
def aeW (m:L2)(cs:List Con)(bn bY bL bF bc bm bl bf bk d:Nat):Prop:=∀(i nt:Nat) (I N:Int) (l:L1) (s:S20) (k:Int),I=i->N=nt->i+d=m.length->nt<=i->l.length=m.length->
 FnW prog 334 [dI I,dI N] [(bn,some (dI m.length)),(bY,some (VN bc bm bl bf bk)),(bL,none),(bF,some (ae3 bn bY bL bF))] [(bn,dI m.length),(bY,VN bc bm bl bf bk),(bF,ae3 bn bY bL bF),(bc,bG cs),(bm,aM m)] [(bL,aF l),(bl,dI s.cost),(bf,aF s.best),(bk,dI k)]
  (fun r ds'=>r= .tup []/\∃l' k',(l'.length=m.length/\l'.take i=l.take i)/\ds'=[aF l',dI (jL (fV m cs) d (l.take i) nt s).cost,aF (jL (fV m cs) d (l.take i) nt s).best,dI k'])
theorem awC (m:L2)(cs:List Con)(bn bY bL bF bc bm bl bf bk:Nat)(hA:iD [bF,bL,bY,bn,bc,bm,bl,bf,bk])(hm:aI m=true)(hc:cs.length<=1048576)(N:Int)(l:L1)(s:S20)(k:Int)(hl:l.length=m.length):FnW prog 334 [dI (m.length:Int),dI N] [(bn,some (dI m.length)),(bY,some (VN bc bm bl bf bk)),(bL,none),(bF,some (ae3 bn bY bL bF))] [(bn,dI m.length),(bY,VN bc bm bl bf bk),(bF,ae3 bn bY bL bF),(bc,bG cs),(bm,aM m)] [(bL,aF l),(bl,dI s.cost),(bf,aF s.best),(bk,dI k)] (fun r ds'=>r= .tup []/\∃k',ds'=[aF l,dI (fV m cs l s).cost,aF (fV m cs l s).best,dI k']):=by
 refine fW good [] func334 ntmps334 fun _ _=> ?_;have hA2:=hA;simp[iD]at hA2;simp[go_sem];refine PH (aqT m cs l s k bc bm bl bf bk ⟨by omega,by omega,by omega,by omega,by omega,by omega,by omega,by omega,by omega,by omega⟩ hm hl hc) rfl ?_;simp[go_sem,hA2];refine NA ?_;rintro _ _ ⟨rfl,k',rfl⟩;simp[go_sem,hA2]
variable {i:Nat}
theorem aoI {l l0:L1}(h:l.take i=l0.take i)(hi:i<l.length):(l.set i x).take (i+1)=l0.take i++[x]:=by
 have h1:(l.set i x)[i]?=some x:=by simp[hi]
 rw[aU h1,List.take_set_of_le (Nat.le_refl _),h]
def M9 (m:L2)(cs:List Con)(d:Nat)(l:L1)(nt:Nat)(x:Nat)(s:S20):S20:=jL (fV m cs) d (l++[(x:Int)]) (max nt (x+1)) s
theorem arB (m:L2)(cs:List Con)(bn bY bL bF bc bm bl bf bk d:Nat)(hA:iD [bF,bL,bY,bn,bc,bm,bl,bf,bk])(hm:aI m=true)(IH:aeW m cs bn bY bL bF bc bm bl bf bk d)(i nt:Nat)(l:L1)(s:S20)(k:Int)(hi:i+d+1=m.length)(hnt:nt<=i)(hl:l.length=m.length):FnW prog 334 [dI (i:Int),dI (nt:Int)] [(bn,some (dI m.length)),(bY,some (VN bc bm bl bf bk)),(bL,none),(bF,some (ae3 bn bY bL bF))] [(bn,dI m.length),(bY,VN bc bm bl bf bk),(bF,ae3 bn bY bL bF),(bc,bG cs),(bm,aM m)] [(bL,aF l),(bl,dI s.cost),(bf,aF s.best),(bk,dI k)] (fun r ds'=>r= .tup []/\∃l' k',(l'.length=m.length/\l'.take i=l.take i)/\ds'=[aF l',dI (jL (fV m cs) (d+1) (l.take i) nt s).cost,aF (jL (fV m cs) (d+1) (l.take i) nt s).best,dI k']):=by
 refine fW good [] func334 ntmps334 fun _ _=> ?_;have hA2:=hA;simp[iD]at hA2;have hn8:=aP hm;have hin:¬(i:Int)=(m.length:Int):=by omega
 simp[go_sem,hin];refine wl good (fun((x,q,t,j):(Nat)×(L1)×(S20)×(Int))=>[(0,.val (dI i)),(1,.val (dI nt)),(2,.rp (dI m.length)),(3,.rp (VN bc bm bl bf bk)),(4,.rf (1000000+2*bL) [0]),(5,.rp (ae3 bn bY bL bF)),(8,.val (dI x)),(1000000+2*bn,.rp (dI m.length)),(1000000+2*bY,.rp (VN bc bm bl bf bk)),(1000000+2*bF,.rp (ae3 bn bY bL bF)),(1000000+2*bc,.rp (bG cs)),(1000000+2*bm,.rp (aM m)),(1000000+2*bL,.own (.bx true (aF q))),(1000000+2*bl,.own (.bx true (dI t.cost))),(1000000+2*bf,.own (.bx true (aF t.best))),(1000000+2*bk,.own (.bx true (dI j)))]) (fun(x,q,t,j)=>nt+1-x) (fun(x,q,t,j)=>(x<=nt+1)/\(t=loopN x s (M9 m cs d (l.take i) nt))/\(q.length=m.length)/\(q.take i=l.take i)) ((0,l,s,k)) ⟨(by omega),(rfl),(hl),(rfl)⟩ ?_ (h0:=by simp[go_sem,hA2,hin]);rintro⟨x,q,t,j⟩ ⟨h1,h2,h3,h4⟩;simp[go_sem];apply gw<;>intro a
 ·have hs:=aA x s (M9 m cs d (l.take i) nt);rw[←h2]at hs;have hgi:=aD (l:=q) (i:=i) (by omega);have hts:=aoI (x:=(x:Int)) h4 (by omega);have hst:jL (fV m cs) d (l.take i++[(x:Int)]) (max nt (x+1)) t=M9 m cs d (l.take i) nt x t:=rfl;simp[go_sem,hA2,hgi];iterate 2 refine ai ?_
  refine PH (IH (i+1) (max nt (x+1)) _ _ (q.set i (x:Int)) t j (by omega) (by omega) (by omega) (by omega) (by simp;omega)) rfl ?_;simp[go_sem,hA2];refine NA ?_;rintro _ _ ⟨rfl,q2,j2,⟨e1,e2⟩,rfl⟩;rw[hts]at e2;have e3:q2.take i=l.take i:=by have:=congrArg (List.take i) e2;rw[List.take_left' (by simp;omega),List.take_take,Nat.min_eq_left (by omega)]at this;exact this
  simp[go_sem,hts,hst];refine ai ?_;refine nx (x+1,q2,M9 m cs d (l.take i) nt x t,j2) ⟨(by omega),(hs.symm),(e1),(e3)⟩ (h3:=by simp[go_sem,hA2,hin,hgi,hts,hst])
 ·simp at a;obtain rfl:x=nt+1:=by omega
  have hfin:jL (fV m cs) (d+1) (l.take i) nt s=t:=h2.symm;simp[go_sem,hA2,hfin];exact⟨q,⟨h3,h4⟩,rfl⟩
variable {cs:List Con}
theorem amS {bn bY bL bF bc bm bl bf bk:Nat}(hA:iD [bF,bL,bY,bn,bc,bm,bl,bf,bk])(hm:aI m=true)(hc:cs.length<=1048576):∀d,aeW m cs bn bY bL bF bc bm bl bf bk d
 |0=>fun i nt I N l s k hI hN hi hnt hl=>by
  obtain rfl:i=m.length:=by omega
  subst hI;refine(awC m cs bn bY bL bF bc bm bl bf bk hA hm hc N l s k hl).mono ?_;rintro r ds' ⟨h1,k',h2⟩;have ht:l.take m.length=l:=by rw[←hl,List.take_length]
  exact⟨h1,l,k',⟨hl,rfl⟩,by rw[h2,ht];rfl⟩
 |d+1=>fun i nt I N l s k hI hN hi hnt hl=>by
  subst hI;subst hN;exact arB m cs bn bY bL bF bc bm bl bf bk d hA hm (amS hA hm hc d) i nt l s k (by omega) hnt hl
theorem ayU (m:L2)(cs:List Con)(s:S20)(k:Int)(bc bm bl bf bk:Nat)(hA:iD [bc,bm,bl,bf,bk])(hm:aI m=true)(hc:cs.length<=1048576):FnW prog 281 [dI (m.length:Int),VN bc bm bl bf bk] [] [(bc,bG cs),(bm,aM m)] [(bl,dI s.cost),(bf,aF s.best),(bk,dI k)] (fun r ds'=>r= .tup []/\∃k',ds'=[dI (jL (fV m cs) m.length [] 0 s).cost,aF (jL (fV m cs) m.length [] 0 s).best,dI k']):=by
 refine fW good [] func281 ntmps281 fun _ _=> ?_;have hA2:=hA;simp[iD]at hA2;have hn8:=aP hm;simp[go_sem];refine ai ?_;refine aiX (jH (dI m.length) (by simp[go_sem]) fun bn x1=> ?_);have n1:=jA.nr x1 (b':=bc) (d:=bG cs) (by simp[go_sem,hA2]);have n2:=jA.nr x1 (b':=bm) (d:=aM m) (by simp[go_sem,hA2]);have n3:=jA.ne x1 (b':=bl) (o:=true) (d:=dI s.cost) (by simp[go_sem]);have n4:=jA.ne x1 (b':=bf) (o:=true) (d:=aF s.best) (by simp[go_sem,hA2]);have n5:=jA.ne x1 (b':=bk) (o:=true) (d:=dI k) (by simp[go_sem,hA2]);have hB1:iD [bn,bc,bm,bl,bf,bk]:=yB (by simp[n1,n2,n3,n4,n5]) hA;have hB1':=hB1;simp[iD]at hB1';refine jH (VN bc bm bl bf bk) (by simp[go_sem]) fun bY x2=> ?_;have m0:=jA.ne x2 (b':=bn) (o:=true) (d:=dI m.length) (by simp[go_sem]);have m1:=jA.nr x2 (b':=bc) (d:=bG cs) (by simp[go_sem,hB1']);have m2:=jA.nr x2 (b':=bm) (d:=aM m) (by simp[go_sem,hB1']);have m3:=jA.ne x2 (b':=bl) (o:=true) (d:=dI s.cost) (by simp[go_sem,hB1']);have m4:=jA.ne x2 (b':=bf) (o:=true) (d:=aF s.best) (by simp[go_sem,hB1']);have m5:=jA.ne x2 (b':=bk) (o:=true) (d:=dI k) (by simp[go_sem,hB1']);have hB2:iD [bY,bn,bc,bm,bl,bf,bk]:=yB (by simp[m0,m1,m2,m3,m4,m5]) hB1;have hB2':=hB2;simp[iD]at hB2';refine jH (aF (List.replicate m.length 0)) (by simp[go_sem]) fun bL x3=> ?_;have p0:=jA.ne x3 (b':=bn) (o:=true) (d:=dI m.length) (by simp[go_sem,hB2']);have p9:=jA.ne x3 (b':=bY) (o:=true) (d:=VN bc bm bl bf bk) (by simp[go_sem]);have p1:=jA.nr x3 (b':=bc) (d:=bG cs) (by simp[go_sem,hB2']);have p2:=jA.nr x3 (b':=bm) (d:=aM m) (by simp[go_sem,hB2']);have p3:=jA.ne x3 (b':=bl) (o:=true) (d:=dI s.cost) (by simp[go_sem,hB2']);have p4:=jA.ne x3 (b':=bf) (o:=true) (d:=aF s.best) (by simp[go_sem,hB2']);have p5:=jA.ne x3 (b':=bk) (o:=true) (d:=dI k) (by simp[go_sem,hB2']);have hB3:iD [bL,bY,bn,bc,bm,bl,bf,bk]:=yB (by simp[p0,p1,p2,p3,p4,p5,p9]) hB2;have hB3':=hB3;simp[iD]at hB3';refine jH (.one .nilFunc) (by simp[go_sem]) fun bF x4=> ?_;have q0:=jA.ne x4 (b':=bn) (o:=true) (d:=dI m.length) (by simp[go_sem,hB3']);have q9:=jA.ne x4 (b':=bY) (o:=true) (d:=VN bc bm bl bf bk) (by simp[go_sem,hB3']);have q8:=jA.ne x4 (b':=bL) (o:=true) (d:=aF (List.replicate m.length 0)) (by simp[go_sem]);have q1:=jA.nr x4 (b':=bc) (d:=bG cs) (by simp[go_sem,hB3']);have q2:=jA.nr x4 (b':=bm) (d:=aM m) (by simp[go_sem,hB3']);have q3:=jA.ne x4 (b':=bl) (o:=true) (d:=dI s.cost) (by simp[go_sem,hB3']);have q4:=jA.ne x4 (b':=bf) (o:=true) (d:=aF s.best) (by simp[go_sem,hB3']);have q5:=jA.ne x4 (b':=bk) (o:=true) (d:=dI k) (by simp[go_sem,hB3']);have hB4:iD [bF,bL,bY,bn,bc,bm,bl,bf,bk]:=yB (by simp[q0,q1,q2,q3,q4,q5,q8,q9]) hB3;have hB4':=hB4;simp[iD]at hB4';refine Q7 ?_;clear x1 x2 x3 x4 hA2 hB1' hB2' hB3';simp[go_sem];refine PH (amS hB4 hm hc m.length 0 0 0 0 (List.replicate m.length 0) s k rfl rfl (by omega) (by omega) (by simp)) rfl ?_;simp[go_sem,hB4'];refine NA ?_;rintro _ _ ⟨rfl,l2,k2,⟨e1,e2⟩,rfl⟩;simp[go_sem,hB4']
theorem acR (m:L2)(cs:List Con)(hm:aI m=true)(hc:cs.length<=1048576):bK prog 211 [aM m,bG cs] (fun r=>∃k:Int,r= .tup [.val (nInts (oU m cs).best),.val (dI (oU m cs).cost),.val (dI k)]):=by
 refine fE good [] func211 ntmps211 fun _ _=> ?_;have hn8:=aP hm;simp[go_sem];refine aiX (jH (bG cs) (by simp[go_sem]) fun bc x1=> ?_);refine jH (aM m) (by simp[go_sem]) fun bm x2=> ?_;have m0:=jA.ne x2 (b':=bc) (o:=true) (d:=bG cs) (by simp[go_sem]);have hB2:iD [bm,bc]:=yB (by simp[m0]) ⟨by simp,trivial⟩;have hB2':=hB2;simp[iD]at hB2';refine jH (dI (-1)) (by simp[go_sem]) fun bl x3=> ?_;have p0:=jA.ne x3 (b':=bc) (o:=true) (d:=bG cs) (by simp[go_sem,hB2']);have p1:=jA.ne x3 (b':=bm) (o:=true) (d:=aM m) (by simp[go_sem]);have hB3:iD [bl,bm,bc]:=yB (by simp[p0,p1]) hB2;have hB3':=hB3;simp[iD]at hB3';refine jH (aF []) (by simp[go_sem]) fun bf x4=> ?_;have q0:=jA.ne x4 (b':=bc) (o:=true) (d:=bG cs) (by simp[go_sem,hB3']);have q1:=jA.ne x4 (b':=bm) (o:=true) (d:=aM m) (by simp[go_sem,hB3']);have q2:=jA.ne x4 (b':=bl) (o:=true) (d:=dI (-1)) (by simp[go_sem]);have hB4:iD [bf,bl,bm,bc]:=yB (by simp[q0,q1,q2]) hB3;have hB4':=hB4;simp[iD]at hB4';refine jH (dI 0) (by simp[go_sem]) fun bk x5=> ?_;have r0:=jA.ne x5 (b':=bc) (o:=true) (d:=bG cs) (by simp[go_sem,hB4']);have r1:=jA.ne x5 (b':=bm) (o:=true) (d:=aM m) (by simp[go_sem,hB4']);have r2:=jA.ne x5 (b':=bl) (o:=true) (d:=dI (-1)) (by simp[go_sem,hB4']);have r3:=jA.ne x5 (b':=bf) (o:=true) (d:=aF []) (by simp[go_sem]);have hB5:iD [bc,bm,bl,bf,bk]:=yB (by simp[hB4',r0.symm]) (yB (by simp[hB4',r1.symm]) (yB (by simp[hB4',r2.symm]) (yB (by simp[r3.symm]) ⟨by simp,trivial⟩)));have hB5':=hB5;simp[iD]at hB5';refine Q7 ?_;clear x1 x2 x3 x4 x5 hB2' hB3' hB4';simp[go_sem];refine PH (ayU m cs ⟨[], -1,0⟩ 0 bc bm bl bf bk hB5 hm hc) rfl ?_;simp[go_sem,hB5'];refine NA ?_;rintro _ _ ⟨rfl,k2,rfl⟩;have hbe:jL (fV m cs) m.length [] 0 ⟨[], -1,0⟩=oU m cs:=rfl;simp[go_sem,hbe];refine eQ good [] (aiK (d:=aF (oU m cs).best) 7 (1000000+2*bf) (by simp[go_sem,hB5',hbe]) (by simp[go_sem,hB5',hbe]) (by decide)) ?_;simp[go_sem,hB5'];refine wdr good ?_;simp[go_sem,hB5']
theorem agI (n:Nat)(v:Int):D.iH (List.replicate n (dI v))=true:=by
 induction n with
 |zero=>rfl
 |succ n ih=>rw[List.replicate_succ];simp only[D.iH,Bool.and_eq_true];exact⟨rfl,ih⟩
variable {p:Nat}{v:Int}{q:L1}{k:Nat}
theorem alH {l:L1}(h:pvB m p k (at1 q k)=false):gstep (pvB m p) v k q=q:=if_neg (by simp[h])
theorem pv_set {l:L1}(h:pvB m p k (at1 q k)=true):gstep (pvB m p) v k q=q.set k v:=if_pos h
theorem DW (m:L2)(o:L1)(hm:aI m=true)(ho:xG m.length o=true):Fk 284 [aM m,nInts o] (.own (aF (eD m o))):=by
 refine fE good [] func284 ntmps284 fun _ _=> ?_;have hml:=aP hm;have hoo:=NU ho;have hpe:=avE hm ho;simp[go_sem];refine ck (bT m (by omega) (nT hm)) ?_;simp[go_sem,hm];refine ck (U7 m.length o ⟨by omega,by omega⟩ ho (by omega)) ?_;have hao:D.iH (List.replicate m.length (dI (-1)))=true:=agI m.length (-1);simp[go_sem];refine ck ((aBH (-1) m.length hml)) ?_;simp[go_sem,hao];refine wl good (fun((i,l):(Nat)×(L1))=>[(0,.val (aM m)),(1,.val (nInts o)),(5,.own (aF l)),(24,.val (nInts o)),(25,.val (dI o.length)),(26,.val (dI i))]) (fun(i,l)=>o.length-i) (fun(i,l)=>(i<=o.length)/\(l=loopN i (List.replicate m.length (-1)) (UG m o))/\(l.length=m.length)) ((0,List.replicate m.length (-1))) ⟨(by omega),(rfl),(by simp)⟩ ?_;rintro⟨i,l⟩ ⟨h1,h2,h3⟩;simp[go_sem];apply gw<;>intro a
 ·have hoi:=hoo.2.2.2.2 i a;have hg:=aD a;have hgl:=aD (l:=l) (i:=(at1 o i).toNat) (by omega);have hs:=aA i (List.replicate m.length (-1)) (UG m o);rw[←h2]at hs;simp[go_sem,hg,hgl];refine ai ?_;apply gw<;>intro b
  ·have hu:UG m o i l=l:=if_pos b;simp[go_sem];refine ai ?_;refine nx (i+1,l) ⟨(by omega),(by rw[hs,hu]),(h3)⟩
  ·simp at b;have hu:UG m o i l=loopN m.length (l.set (at1 o i).toNat (at1 o i)) (gstep (pvB m (at1 o i).toNat) (at1 o i)):=if_neg (by omega);obtain⟨r,hr,hrl⟩:=uA hm (a:=(at1 o i).toNat) (by omega);have hrk:∀k<m.length,r[k]?=some (at2 m (at1 o i).toNat k):=fun k hk=>by obtain⟨r2,e1,e2⟩:=eP hm (i:=(at1 o i).toNat) (k:=k) (by omega) hk;rw[hr]at e1;rw[Option.some.inj e1];exact e2
   simp[go_sem,hgl,hr,hrl];refine ai ?_;refine wl good (fun((k,q):(Nat)×(L1))=>[(0,.val (aM m)),(1,.val (nInts o)),(5,.own (aF q)),(7,.val (dI (at1 o i))),(24,.val (nInts o)),(25,.val (dI o.length)),(26,.val (dI i)),(42,.val (nInts r)),(43,.val (dI m.length)),(44,.val (dI k))]) (fun(k,q)=>m.length-k) (fun(k,q)=>(k<=m.length)/\(q=loopN k (l.set (at1 o i).toNat (at1 o i)) (gstep (pvB m (at1 o i).toNat) (at1 o i)))/\(q.length=m.length)) ((0,l.set (at1 o i).toNat (at1 o i))) ⟨(by omega),(rfl),(by simp[h3])⟩ ?_;rintro⟨k,q⟩ ⟨h1k,h2k,h3k⟩;simp[go_sem];apply gw<;>intro d
   ·have hgk:=aD (l:=q) (i:=k) (by omega);have hk:=hrk k d;have hsk:=aA k (l.set (at1 o i).toNat (at1 o i)) (gstep (pvB m (at1 o i).toNat) (at1 o i));rw[←h2k]at hsk;simp[go_sem,hk];apply gv<;>intro e
    ·have e':=e;simp[go_sem,hgk,e];apply gw<;>intro f
     ·simp[go_sem,hgk];refine ai ?_;refine nx (k+1,q.set k (at1 o i)) ⟨(by omega),(by rw[hsk];exact(pv_set (l:=l) (by simp[pvB,e,f])).symm),(by simp[h3k])⟩
     ·simp at f;simp[go_sem];refine ai ?_;refine nx (k+1,q) ⟨(by omega),(by rw[hsk];exact(alH (l:=l) (by simp[pvB,f])).symm),(h3k)⟩
    ·have e':=e;simp at e';simp[go_sem,e];refine ai ?_;refine nx (k+1,q) ⟨(by omega),(by rw[hsk];exact(alH (l:=l) (by simp[pvB,e])).symm),(h3k)⟩
   ·simp at d;obtain rfl:k=m.length:=by omega
    simp[go_sem];refine ai ?_;refine nx (i+1,q) ⟨(by omega),(by rw[hs,hu];exact h2k),(h3k)⟩
 ·simp at a;obtain rfl:i=o.length:=by omega
  have hp:canon l=eD m o:=by rw[h2];exact hpe
  simp[go_sem];refine ck (lI l (by omega)) ?_;simp[go_sem,hp]
variable {n:Nat}
theorem wrap_small (h:n<9223372036854775808):IntKind.i64.wrap (n:Int)=n:=by
 simp[IntKind.wrap,IntKind.bits,IntKind.signed];omega
theorem JS (n:Nat):BitVec.ofInt 64 (n:Int)=BitVec.ofNat 64 n:=by
 apply BitVec.eq_of_toNat_eq;simp
theorem au9 (s:Nat)(h:s<256):TQ .and .i64 (s:Int) 1=((s % 2:Nat):Int):=by
 have e:(1:Int)=((1:Nat):Int):=rfl;show IntKind.i64.wrap ((((BitVec.ofInt 64 (s:Int))&&&(BitVec.ofInt 64 (1:Int))).toNat:Nat):Int)=_;rw[e,JS,JS,BitVec.toNat_and,BitVec.toNat_ofNat,BitVec.toNat_ofNat,Nat.mod_eq_of_lt (by omega),Nat.mod_eq_of_lt (by omega),Nat.and_one_is_mod,wrap_small (by omega)]
theorem axA (s t:Nat)(h:s<256)(h2:t<256):TQ .or .i64 (s:Int) (t:Int)=((s|||t:Nat):Int):=by
 have h3:s|||t<2^8:=Nat.or_lt_two_pow (n:=8) h h2;show IntKind.i64.wrap ((((BitVec.ofInt 64 (s:Int))|||(BitVec.ofInt 64 (t:Int))).toNat:Nat):Int)=_;rw[JS,JS,BitVec.toNat_or,BitVec.toNat_ofNat,BitVec.toNat_ofNat,Nat.mod_eq_of_lt (by omega),Nat.mod_eq_of_lt (by omega),wrap_small (by omega)]
variable {s:Nat}
theorem asU (hs:s<256)(hx:0<=x/\x<=7):(TQ .and .i64 ((s:Int).fdiv (2^min x.toNat 64)) 1=1)=(s.testBit x.toNat=true):=by
 have e:(s:Int).fdiv (2^min x.toNat 64)=((s/2^x.toNat:Nat):Int):=by
  rw[Nat.min_eq_left (by omega)];have:((2:Int)^x.toNat)=((2^x.toNat:Nat):Int):=by simp
  rw[this];exact Int.ofNat_fdiv s (2^x.toNat)|>.symm
 have h1:s/2^x.toNat<=s:=Nat.div_le_self _ _;rw[e,au9 _ (by omega),Nat.testBit_eq_decide_div_mod_eq,decide_eq_true_eq];exact propext ⟨fun h=>by omega,fun h=>by omega⟩
theorem ay7 (hs:s<256)(hx:0<=x/\x<=7):TQ .or .i64 (s:Int) (IntKind.i64.wrap (2^min x.toNat 64))=((s|||2^x.toNat:Nat):Int):=by
 have hpow:2^x.toNat<2^8:=Nat.pow_lt_pow_right (by omega) (by omega);have this:((2:Int)^x.toNat)=((2^x.toNat:Nat):Int):=by simp
 rw[Nat.min_eq_left (by omega),this,wrap_small (by omega),axA _ _ hs hpow]
theorem UX (n:Int)(l:L1)(hn: -1048576<=n/\n<=1048576:=by first|assumption|omega|(simp;omega)|grind)(hl:l.length<=1048576:=by first|assumption|omega|(simp;omega)|grind):Fk 259 [dI n,nInts l] (.val (dB (xG n l))):=by
 refine fE good [] func259 ntmps259 fun _ _=> ?_;simp[go_sem];refine wl good (fun((i,s):(Nat)×(Nat))=>[(0,.val (dI n)),(1,.val (nInts l)),(5,.val (dI s)),(6,.val (dI i))]) (fun(i,s)=>l.length-i) (fun(i,s)=>(i<=l.length)/\(anP n l i s)) ((0,0)) ⟨(by omega),(apB n l)⟩ ?_;rintro⟨i,s⟩ ⟨h1,h2⟩;simp[go_sem];apply gw<;>intro a
 ·have hg:=aD a;simp[go_sem,hg];refine ai ?_;refine ck (aG _ _ _) ?_;simp[go_sem];apply gv<;>intro b
  ·have b':=b;simp at b';have ho:=YP h2 a (.inl (by simp at b;omega));simp[go_sem,b];simp[ho]
  ·have b':=b;simp at b';simp[go_sem,b];apply gv<;>intro d
   ·have d':=d;have ho:=YP h2 a (.inr (.inl (by omega)));simp[go_sem,d];simp[ho]
   ·have d':=d;simp at d';have hx:0<=at1 l i/\at1 l i<=7:=by simp at b;omega
    have hsb:=asU h2.2.1 hx;have hso:=ay7 h2.2.1 hx;simp[go_sem,hg,d,hsb];refine ai ?_;apply gw<;>intro e
    ·have ho:=YP h2 a (.inr (.inr e));simp[go_sem];simp[ho]
    ·have hst:=apV h2 a ⟨by omega,by omega⟩ (by omega) (by simpa using e);simp[go_sem,hg,hso];iterate 2 refine ai ?_
     refine nx (i+1,s|||2^(at1 l i).toNat) ⟨(by omega),(hst)⟩
 ·simp at a;obtain rfl:i=l.length:=by omega
  have ho:=aqM h2;simp[go_sem];refine ck (aG _ _ _) ?_;simp[go_sem];apply gv<;>intro f
  ·have f':=f;simp at f';simp[go_sem,f];simp[ho,f]
  ·have f':=f;simp at f';simp[go_sem,f];simp[ho,f]
theorem DR (m:L2)(o:L1)(hm:aI m=true)(ho:xG m.length o=true):Fk 181 [aM m,nInts o] (.own (aF (eD m o))):=by
 refine fE good [] func181 ntmps181 fun _ _=> ?_;have hml:=aP hm;have hoo:=NU ho;simp[go_sem];refine ck (aY m) ?_;simp[go_sem,hm];refine ck (UX m.length o) ?_;simp[go_sem,ho];refine wl good (fun(i:Nat)=>[(0,.val (aM m)),(1,.val (nInts o)),(5,.own (aF (List.replicate i (-1)))),(6,.val (dI i))]) (fun(i:Nat)=>m.length-i) (fun(i:Nat)=>(i<=m.length)) (0) (by omega) ?_;rintro i h1;simp[go_sem];apply gw<;>intro a
 ·have hx:=List.replicate_succ' (n:=i) (a:=(-1:Int));simp[go_sem];iterate 2 refine ai ?_
  refine nx (i+1) (by first|omega|(simp;omega)|grind) (h3:=by simp[go_sem,hx])
 ·simp at a;obtain rfl:i=m.length:=by omega
  simp[go_sem];refine wl good (fun((i,l):(Nat)×(L1))=>[(0,.val (aM m)),(1,.val (nInts o)),(5,.own (aF l)),(7,.val (dI i))]) (fun(i,l)=>o.length-i) (fun(i,l)=>(i<=o.length)/\(l=loopN i (List.replicate m.length (-1)) (pivOne m o))/\(l.length=m.length)) ((0,List.replicate m.length (-1))) ⟨(by omega),(rfl),(by simp)⟩ ?_;rintro⟨i,l⟩ ⟨h1,h2,h3⟩;simp[go_sem];apply gw<;>intro a
  ·have hs:=aA i (List.replicate m.length (-1)) (pivOne m o);rw[←h2]at hs;have hoi:=hoo.2.2.2.2 i a;have hg:=aD a;have hgl:=aD (l:=l) (i:=(at1 o i).toNat) (by omega);simp[go_sem,hg,hgl];refine ai ?_;apply gw<;>intro b
   ·have hu:pivOne m o i l=l:=if_pos b;simp[go_sem];refine ai ?_;refine nx (i+1,l) ⟨(by omega),(by rw[hs,hu]),(h3)⟩
   ·simp at b;have hu:pivOne m o i l=loopN m.length l (qH m (at1 o i) i):=if_neg (by omega);simp[go_sem];refine wl good (fun((k,q):(Nat)×(L1))=>[(0,.val (aM m)),(1,.val (nInts o)),(5,.own (aF q)),(7,.val (dI i)),(8,.val (dI (at1 o i))),(9,.val (dI k))]) (fun(k,q)=>m.length-k) (fun(k,q)=>(k<=m.length)/\(q=loopN k (l) (qH m (at1 o i) i))/\(q.length=m.length)) ((0,l)) ⟨(by omega),rfl,(by omega)⟩ ?_;rintro⟨k,q⟩ ⟨h1k,h2k,h3k⟩;simp[go_sem];apply gw<;>intro ak
    ·have hsk:=aA k (l) (qH m (at1 o i) i);rw[←h2k]at hsk;have hgk:=aD (l:=q) (i:=k) (by omega);obtain⟨r,hr,hrk⟩:=eP hm (i:=(at1 o i).toNat) (k:=k) (by omega) ak;simp[go_sem,hgk];apply gv<;>intro e
     ·have e':=e;simp[go_sem,e];apply gv<;>intro f
      ·have f':=f;have hv:qH m (at1 o i) i k q=q.set k i:=if_pos ⟨e,.inl (by omega)⟩;have hk0:(at1 o i).toNat=k:=by omega
       have hgk2:q[(at1 o i).toNat]?=some (at1 q k):=by rw[hk0];exact hgk
       simp[go_sem,f,hgk2];iterate 2 refine ai ?_
       refine nx (k+1,q.set (at1 o i).toNat i) ⟨(by omega),(by rw[hsk,hv,hk0]),(by simp[h3k])⟩ (h3:=by simp[go_sem,hg,hgk,hr,hrk,h3k,e,f,hgk2])
      ·have f':=f;simp[go_sem,hr,hrk,f];refine ai ?_;apply gw<;>intro g
       ·have hv:qH m (at1 o i) i k q=q.set k i:=if_pos ⟨e,.inr g⟩;simp[go_sem,hgk];refine ai ?_;refine nx (k+1,q.set k i) ⟨(by omega),(by rw[hsk,hv]),(by simp[h3k])⟩
       ·simp at g;have hv:qH m (at1 o i) i k q=q:=if_neg (by omega);simp[go_sem];refine ai ?_;refine nx (k+1,q) ⟨(by omega),(by rw[hsk,hv]),(h3k)⟩
     ·have e':=e;simp at e';have hv:qH m (at1 o i) i k q=q:=if_neg (by omega);simp[go_sem,e];refine ai ?_;refine nx (k+1,q) ⟨(by omega),(by rw[hsk,hv]),(h3k)⟩
    ·simp at ak;have hik:m.length=k:=by omega
     subst hik;simp[go_sem];refine ai ?_;refine nx (i+1,q) ⟨(by omega),(by rw[hs,hu];exact h2k),(h3k)⟩
  ·simp at a;have hi:o.length=i:=by omega
   subst hi;have hp:eD m o=canon l:=by rw[eD,VU,←h2]
   simp[go_sem];refine ck (lK l (by omega)) ?_;simp[go_sem];simp[hp]
theorem aqD (n s i:Nat):(List.range (i+1)).map (fun i=>(((s+i) % n:Nat):Int))=(List.range i).map (fun i=>(((s+i) % n:Nat):Int))++[(((s+i) % n:Nat):Int)]:=by simp[List.range_succ]
def afV (n s i:Nat):L1:=(List.range i).map fun i=>(((s+i) % n:Nat):Int)
theorem abL (n s:Nat):afV n s 0=[]:=rfl
theorem abB (n s i:Nat):afV n s (i+1)=afV n s i++[(((s+i) % n:Nat):Int)]:=aqD n s i
theorem af1 (n s:Nat):afV n s n=rot n s:=rfl
theorem aeX (n s i:Nat):(afV n s i).length=i:=by simp[afV]
theorem afB (n a b:Nat):((a:Int)+(b:Int)).tmod n=(((a+b) % n:Nat):Int):=by
 rw[←Int.natCast_add];exact(Int.ofNat_tmod _ _).symm
theorem O3 (m:L2)(hm:aI m=true):Fk 108 [aM m] (.tup [.val (nInts (fA m).1),.val (dI (fA m).2)]):=by
 refine fE good [] func108 ntmps108 fun _ _=> ?_;have hml:=aP hm;simp[go_sem];refine wlc good [4] (fun((i,b,c):(Nat)×(L1)×(Int))=>[(0,.val (aM m)),(4,.val (nInts b)),(5,.val (dI c)),(6,.val (dI i))]) (fun(i,b,c)=>m.length-i) (fun(i,b,c)=>(i<=m.length)/\((b,c)=loopN i ([], -1) (pJ m))) ((0,[], -1)) ⟨(by omega),rfl⟩ ?_;rintro⟨i,b,c⟩ ⟨h1,h2⟩;simp[go_sem];apply gv<;>intro a
 ·have a':=a;simp[go_sem,a];refine ck (aY m) ?_;have hs:=aA i ([], -1) (pJ m);rw[←h2]at hs;have hz:=abL m.length i;simp[go_sem,hm];refine wl good (fun(k:Nat)=>[(0,.val (aM m)),(4,.val (nInts b)),(5,.val (dI c)),(6,.val (dI i)),(7,.own (aF (afV m.length i k))),(8,.val (dI k))]) (fun(k:Nat)=>m.length-k) (fun(k:Nat)=>(k<=m.length)) (0) (by omega) ?_ (h0:=by simp[go_sem,hm,hz]);rintro k h1k;simp[go_sem];apply gw<;>intro d
  ·have hrl:=aeX m.length i k;have hrs:=abB m.length i k;have htm:=afB m.length i k;have hne:¬m=[]:=by intro e;rw[e]at hml;simp at hml
   simp[go_sem,htm,hne];iterate 3 refine ai ?_
   refine nx (k+1) (by first|omega|(simp;omega)|grind) (h3:=by simp[go_sem,hrs,htm,hne])
  ·simp at d;obtain rfl:k=m.length:=by omega
   rw[af1];have hpl:=LP m (rot m.length i);simp[go_sem];refine ck (DR m (rot m.length i) hm (al0 hml a)) ?_;simp[go_sem];refine ck (EI m (eD m (rot m.length i)) hm hpl) ?_;simp[go_sem];apply gv<;>intro e
   ·have e':=e;have hu:pJ m i (b,c)=(eD m (rot m.length i),aQ m (eD m (rot m.length i))):=if_pos (.inl e);simp[go_sem,e];refine ai ?_;refine nxc (i+1,eD m (rot m.length i),aQ m (eD m (rot m.length i))) [4] ⟨(by omega),(by rw[hs,hu])⟩
   ·have e':=e;simp at e';simp[go_sem,e];apply gw<;>intro f
    ·have hu:pJ m i (b,c)=(eD m (rot m.length i),aQ m (eD m (rot m.length i))):=if_pos (.inr f);simp[go_sem];refine ai ?_;refine nxc (i+1,eD m (rot m.length i),aQ m (eD m (rot m.length i))) [4] ⟨(by omega),(by rw[hs,hu])⟩
    ·simp at f;have hu:pJ m i (b,c)=(b,c):=if_neg (by simp only;omega);simp[go_sem];refine ai ?_;refine nxc (i+1,b,c) [4] ⟨(by omega),(by rw[hs,hu])⟩
 ·have a':=a;simp at a';obtain rfl:i=m.length:=by omega
  have hb:fA m=(b,c):=h2.symm;simp[go_sem,a];simp[hb]
def ajC:Nat->L1->D
 |0,_=> .one (.slice none 0 0)
 |_+1,b=>nInts b
theorem apM (b:L1):ajC 0 b= .one (.slice none 0 0):=rfl
theorem apA (i:Nat)(b:L1):ajC (i+1) b=nInts b:=rfl
theorem aqP {b:L1}(h2:(b,c)=loopN i ([], -1) (pJ m))(hc:0<=c):ajC i b=nInts b:=by
 cases i with
 |zero=>have e:(b,c)=(([]:L1),(-1:Int)):=h2
        have:c= -1:=congrArg Prod.snd e;omega
 |succ j=>rfl
theorem NV (m:L2)(hm:aI m=true):Fk 212 [aM m] (.tup [.val (nInts (fA m).1),.val (dI (fA m).2)]):=by
 refine fE good [] func212 ntmps212 fun _ _=> ?_;have hml:=aP hm;simp[go_sem];refine ck (bT m (by omega) (nT hm)) ?_;have hf0:=apM [];simp[go_sem,hm];refine wlc good [4] (fun((i,b,c):(Nat)×(L1)×(Int))=>[(0,.val (aM m)),(4,.val (ajC i b)),(5,.val (dI c)),(15,.val (dI m.length)),(16,.val (dI i))]) (fun(i,b,c)=>m.length-i) (fun(i,b,c)=>(i<=m.length)/\((b,c)=loopN i ([], -1) (pJ m))) ((0,[], -1)) ⟨(by omega),(rfl)⟩ ?_ (h0:=by simp[go_sem,hm,hf0]);rintro⟨i,b,c⟩ ⟨h1,h2⟩;simp[go_sem];apply gw<;>intro a
 ·have hs:=aA i ([], -1) (pJ m);rw[←h2]at hs;have hf1:=apA i;have hi0:0<=c->ajC i b=nInts b:=aqP h2;have hz:=abL m.length i;simp[go_sem];refine wl good (fun(k:Nat)=>[(0,.val (aM m)),(4,.val (ajC i b)),(5,.val (dI c)),(6,.val (dI i)),(7,.own (aF (afV m.length i k))),(15,.val (dI m.length)),(16,.val (dI i)),(20,.val (dI m.length)),(21,.val (dI k))]) (fun(k:Nat)=>m.length-k) (fun(k:Nat)=>(k<=m.length)) (0) (by omega) ?_ (h0:=by simp[go_sem,hm,hf0,hf1,hz]);rintro k h1k;simp[go_sem];apply gw<;>intro d
  ·have hrl:=aeX m.length i k;have hrs:=abB m.length i k;have htm:=afB m.length i k;have hne:¬m=[]:=by intro e;rw[e]at hml;simp at hml
   simp[go_sem,htm,hne];iterate 3 refine ai ?_
   refine nx (k+1) (by first|omega|(simp;omega)|grind) (h3:=by simp[go_sem,hf0,hf1,hrs,htm,hne])
  ·simp at d;obtain rfl:k=m.length:=by omega
   rw[af1];have hpl:=LP m (rot m.length i);simp[go_sem];refine ck (DW m (rot m.length i) hm (al0 hml a)) ?_;simp[go_sem];refine ck (dY m (eD m (rot m.length i)) hm hpl) ?_;simp[go_sem];apply gv<;>intro e
   ·have e':=e;have hu:pJ m i (b,c)=(eD m (rot m.length i),aQ m (eD m (rot m.length i))):=if_pos (.inl e);simp[go_sem,e];refine ai ?_;refine nxc (i+1,eD m (rot m.length i),aQ m (eD m (rot m.length i))) [4] ⟨(by omega),(by rw[hs,hu])⟩ (h3:=by simp[go_sem,hf0,hf1,e])
   ·have e':=e;simp at e';simp[go_sem,e];apply gw<;>intro f
    ·have hu:pJ m i (b,c)=(eD m (rot m.length i),aQ m (eD m (rot m.length i))):=if_pos (.inr f);simp[go_sem];refine ai ?_;refine nxc (i+1,eD m (rot m.length i),aQ m (eD m (rot m.length i))) [4] ⟨(by omega),(by rw[hs,hu])⟩ (h3:=by simp[go_sem,hf0,hf1,e])
    ·simp at f;have hu:pJ m i (b,c)=(b,c):=if_neg (by simp only;omega);have hi1:=hi0 (by omega);simp[go_sem,hi1];refine ai ?_;refine nxc (i+1,b,c) [4] ⟨(by omega),(by rw[hs,hu])⟩ (h3:=by simp[go_sem,hf0,hf1,e,hi1])
 ·simp at a;obtain rfl:i=m.length:=by omega
  have hb:fA m=(b,c):=h2.symm;have hfm:ajC m.length b=nInts b:=by obtain⟨j,hj⟩:∃j,m.length=j+1:=⟨m.length-1,by omega⟩;rw[hj];rfl
  simp[go_sem,hfm];simp[hb]
def aiQ (s:L2)(q:List Con):L1:=if 6<s.length then kE s q 100 (eX s q)else(oU s q).best
theorem avB {items:L1}(h:Part m cs items):aiQ (dZ m items) (bX cs items)=partOf m cs items:=by
 unfold aiQ partOf;rw[h.len,QQ h.mat (by rw[h.len];exact h.are)]
theorem aiM {s:L2}{q:List Con}(h:aX s.length q=true):gW q (eX s q)=true:=by
 unfold eX;split
 ·rename_i hk;unfold keepP at hk;simp only[Bool.and_eq_true]at hk;exact hk.1
 ·exact KM h
theorem KC (s:L2)(q:List Con)(hm:aI s=true)(hcS:aX s.length q=true)(hq:q.length<=1048576):Fk 141 [aM s,bG q] (.val (nInts (aiQ s q))):=by
 refine fE good [9,17] func141 ntmps141 fun _ _=> ?_;have hml:=aP hm;have hare:=(cZ.1 hcS).1;have hst:=K9 hm hare;have hsk:=aiM hcS;have hsp:bM (eX s q)=true:=isPart_iff.2 ⟨hst.2,by omega⟩;have hbp:=M6 hm;have hbI:bM (fA s).1=true:=isPart_iff.2 ⟨hbp.2.1,by omega⟩;have hkp:keepP q (fA s).1=gW q (fA s).1:=by unfold keepP gW;rw[hbI,Bool.and_true]
 simp[go_sem];apply gw<;>intro a
 ·have hpS:aiQ s q=(oU s q).best:=if_neg (by omega);simp[go_sem];refine bC (acR s q hm hq) (by simp[go_sem]) ?_;rintro r ⟨kk,rfl⟩;refine⟨by simp[go_sem],?_⟩;simp[go_sem,hpS]
 ·simp at a;have hpS:aiQ s q=kE s q 100 (eX s q):=if_pos (by omega);simp[go_sem];refine ck (NV s hm) ?_;simp[go_sem];refine GY good (fun(_:Unit)=>[(0,.val (aM s)),(1,.val (bG q)),(8,.val (nInts (eX s q)))]) (fun(_:Unit)=>True) ?_ ?_
  ·simp[go_sem];refine ck (uR (fA s).1 q (by omega) hq) ?_;simp[go_sem];apply gw<;>intro d
   ·simp at d;have hs1:eX s q=aV s.length q:=if_neg (by rw[hkp,d];simp);simp[go_sem];refine ck (pE s.length q (by omega) hq hare) ?_;simp[go_sem];refine jnc (()) [8] trivial (h3:=by simp[go_sem,hpS,hs1])
   ·simp at d;have hs1:eX s q=(fA s).1:=if_pos (by rw[hkp];simpa using d);simp[go_sem];refine jnc (()) [8] trivial (h3:=by simp[go_sem,hpS,hs1])
  rintro⟨⟩ -
  simp[go_sem];refine bC (AJ s q (eX s q) hm hsp hst.1 hsk hq) (by simp[go_sem]) ?_;rintro r ⟨kk,rfl⟩;refine⟨by simp[go_sem],?_⟩;simp[go_sem];refine eQ good [] (aR 4) ?_;simp[go_sem,hpS]
abbrev sS (m:L2)(cs:List Con)(s:S20):D:= .agg [aM m,bG cs,aF s.best,dI s.cost,dI s.count]
abbrev nS (m:L2)(cs:List Con)(s:S20):D:= .bx false (.agg [aM m,bG cs,nInts s.best,dI s.cost,dI s.count])
def apS (l:L1)(c:Con):Bool:=decide (c.b=(l.length:Int)-1)&&(decide (at1 l c.a.toNat=at1 l (l.length-1)) !=c.same)
theorem ayB (cs:List Con)(l:L1):akK cs l=cs.any (apS l):=rfl
theorem YO (m:L2)(cs:List Con)(s:S20)(l:L1)(hcs:∀c∈cs,0<=c.a/\c.a<c.b)(hl:1<=l.length/\l.length<=1048576)(hs:cs.length<=1048576):Fk 322 [nS m cs s,nInts l] (.val (dB (akK cs l))):=by
 refine fE good [] func322 ntmps322 fun _ _=> ?_;have hbe:=ayB cs l;simp[go_sem];refine ai ?_;refine wl good (fun(i:Nat)=>[(0,.val (nS m cs s)),(1,.val (nInts l)),(5,.val (dI ((l.length:Int)-1))),(6,.val (dI i))]) (fun(i:Nat)=>(cs).length-i) (fun(i:Nat)=>(i<=(cs).length)/\(((cs).take i).any (apS l)=false)) (0) ⟨(by omega),rfl⟩ ?_;rintro i ⟨h1,h2⟩;simp[go_sem];apply gw<;>intro a
 ·obtain⟨c,hc⟩:=aC (l:=cs) (i:=i) (by omega);simp[go_sem];refine wdr good ?_;simp[go_sem,hc];apply gv<;>intro e
  ·have e':=e;have hcc:=hcs c (AR hc);have hga:=aD (l:=l) (i:=c.a.toNat) (by omega);have hgb:=aD (l:=l) (i:=l.length-1) (by omega);have hln:((l.length:Int)-1).toNat=l.length-1:=by omega
   simp[go_sem,hc,e,hga,hgb,hln];iterate 2 refine ai ?_
   apply gw<;>intro f
   ·simp at f;have hn:=amH hc (P:=(apS l)) (by simp[apS,e];simpa using f);simp[go_sem,hbe,hn]
   ·simp at f;simp[go_sem];refine ai ?_;refine nx (i+1) ⟨(by omega),(eF hc h2 (by simp[apS,e];simpa using f))⟩
  ·have e':=e;simp[go_sem,e];refine ai ?_;refine nx (i+1) ⟨(by omega),(eF hc h2 (by simp[apS,e]))⟩
 ·simp at a;have hf:=jU h2 a;simp[go_sem,hbe,hf]
def aAD (m:L2)(cs:List Con)(d:Nat):Prop:=∀(l:L1) (top cost:Int) (s:S20),l.length+d=m.length-> -1<=top/\top+1<=l.length->0<=cost/\cost<=8000*l.length->0<=s.count/\s.count+(9^d:Nat)<=4611686018427387904->
 FK prog 258 [.one (.bool false),nInts l,dI top,dI cost] 0 (.bx true (sS m cs s)) (fun r' d'=>r'= .tup []/\d'= .bx true (sS m cs (walk20 m cs d l top cost s)))
theorem atJ (m:L2)(cs:List Con)(d:Nat)(l:L1)(top cost:Int)(s:S20)(hm:aI m=true)(hcs:aN m.length cs=true)(hrec:∀e,d=e+1->aAD m cs e)(hd:l.length+d=m.length)(ht: -1<=top/\top+1<=l.length)(hco:0<=cost/\cost<=8000*l.length)(hcn:0<=s.count/\s.count+(9^d:Nat)<=4611686018427387904):FK prog 258 [.one (.bool false),nInts l,dI top,dI cost] 0 (.bx true (sS m cs s)) (fun r' d'=>r'= .tup []/\d'= .bx true (sS m cs (walk20 m cs d l top cost s))):=by
 refine fMs good [42] func258 ntmps258 fun w0 ow0 v0=> ?_;have hml:=aP hm;have hco2:=fO hcs;have hcut:∀d l top cost s,MG cost s->walk20 m cs d l top cost s=s:=fun d l top cost s h=>by cases d;(rw[walk20,if_pos h]);(rw[walk20_succ,if_pos h])
 refine GY good (fun(_:Unit)=>[(0,.own (.bx true (sS m cs s))),(1,.val (nInts l)),(2,.val (dI top)),(3,.val (dI cost))]) (fun(_:Unit)=>(¬MG cost s)) ?_ ?_
 ·simp[go_sem];apply gv<;>intro a
  ·have a':=a;simp[go_sem,a];apply gw<;>intro b
   ·have hw:=hcut d l top cost s ⟨a,b⟩;simp[go_sem];simp[hw]
   ·simp at b;simp[go_sem];refine jn (()) (by unfold MG;omega)
  ·have a':=a;simp at a';simp[go_sem,a];refine jn (()) (by unfold MG;omega)
 rintro⟨⟩ h5;simp[go_sem];apply gw<;>intro e
 ·obtain rfl:d=0:=by omega
  have hw:walk20 m cs 0 l top cost s=MS l cost s:=by rw[walk20,if_neg h5]
  simp[go_sem];apply gv<;>intro f
  ·have f':=f;have hw2:MS l cost s=⟨l,cost,1⟩:=if_pos (.inl f);simp[go_sem,f];iterate 2 refine ai ?_
   simp[hw,hw2]
  ·have f':=f;simp at f';simp[go_sem,f];apply gw<;>intro g
   ·have hw2:MS l cost s=⟨l,cost,1⟩:=if_pos (.inr g);simp[go_sem];iterate 2 refine ai ?_
    simp[hw,hw2]
   ·simp at g;have hw2:MS l cost s=⟨s.best,s.cost,s.count+1⟩:=if_neg (by omega);simp[go_sem];refine ai ?_;simp[hw,hw2]
 ·obtain⟨d,rfl⟩:∃e,d=e+1:=⟨d-1,by omega⟩;have hwk:=hrec d rfl;have hw:walk20 m cs (d+1) l top cost s=loopN (top+2).toNat s (uG m cs d l top cost):=by rw[walk20_succ,if_neg h5]
  have hp9:=aCZ d;have hps:9^(d+1)=9*9^d:=by rw[Nat.pow_succ,Nat.mul_comm]
  simp[go_sem];refine wl good (fun((k,x):(Nat)×(S20))=>[(0,.own (.bx true (sS m cs x))),(1,.val (nInts l)),(2,.val (dI top)),(3,.val (dI cost)),(8,.val (dI l.length)),(9,.val (dI k))]) (fun(k,x)=>(top+2).toNat-k) (fun(k,x)=>(k<=(top+2).toNat)/\(x=loopN k s (uG m cs d l top cost))/\(0<=x.count/\x.count<=s.count+(k*9^d:Nat))) ((0,s)) ⟨(by omega),(rfl),(by simp;omega)⟩ ?_;rintro⟨k,x⟩ ⟨h1,h2,h3⟩;simp[go_sem];refine ai ?_;apply gw<;>intro b
  ·have hs:=aA k s (uG m cs d l top cost);rw[←h2]at hs;have hbl:(l++[(k:Int)]).length=l.length+1:=by simp
   have hkm:k*9^d+9^d<=9*9^d:=by have:(k+1)*9^d<=9*9^d:=Nat.mul_le_mul_right _ (by omega);rw[Nat.add_mul,Nat.one_mul]at this;exact this
   have hk1:(k+1)*9^d=k*9^d+9^d:=by rw[Nat.add_mul,Nat.one_mul]
   simp[go_sem];iterate 2 refine ai ?_
   refine ckz (YO m cs x (l++[(k:Int)]) (fun c hc=>⟨(hco2.2.2.2 c hc).1,(hco2.2.2.2 c hc).2.1⟩) (by omega) (by omega)) ?_;simp[go_sem];apply gw<;>intro f
   ·have hn:uG m cs d l top cost k x=x:=if_pos f;simp[go_sem];refine ai ?_;refine nx (k+1,x) ⟨(by omega),(by rw[hs,hn]),(by rw[hk1];omega)⟩
   ·have hn:uG m cs d l top cost k x=walk20 m cs d (l++[(k:Int)]) (max top k) (Y0 m l k l.length cost) x:=if_neg (by simp[f]);simp[go_sem];refine wl good (fun((i,c):(Nat)×(Int))=>[(0,.own (.bx true (sS m cs x))),(1,.val (nInts l)),(2,.val (dI top)),(3,.val (dI cost)),(8,.val (dI l.length)),(9,.val (dI k)),(10,.own (aF (l++[(k:Int)]))),(11,.val (dI c)),(12,.val (dI i))]) (fun(i,c)=>l.length-i) (fun(i,c)=>(i<=l.length)/\(c=loopN i cost (fun i s=>s+sU m l k l.length i))/\(cost<=c/\c<=cost+1000*i)) ((0,cost)) ⟨(by omega),rfl,(by omega)⟩ ?_;rintro⟨i,c⟩ ⟨h1i,h2i,h3i⟩;simp[go_sem];apply gw<;>intro u
    ·have hsi:=aA i cost (fun i s=>s+sU m l k l.length i);rw[←h2i]at hsi;obtain⟨r,hr,hrk⟩:=eP hm (i:=i) (k:=l.length) (by omega) (by omega);have hi:=aD u;have hmb:=bZ hm i l.length;simp[go_sem,hr,hrk];apply gv<;>intro p
     ·have p':=p;simp[go_sem,hi,p];apply gw<;>intro q
      ·have hc:sU m l k l.length i=at2 m i l.length:=if_pos ⟨p,q⟩;simp[go_sem,hr,hrk];refine ai ?_;apply gv<;>intro g
       ·have g':=g;exfalso;omega
       ·have g':=g;simp at g';simp[go_sem,g];refine ai ?_;refine nx (i+1,c+at2 m i l.length) ⟨(by omega),(by rw[hsi,hc]),(by omega)⟩
      ·simp[go_sem,hr,hrk];apply gv<;>intro g
       ·have g':=g;exfalso;omega
       ·have g':=g;simp at g';have hc:sU m l k l.length i=0:=by rw[sU,if_neg (by simp[q]),if_neg (by omega)]
        simp[go_sem,g];refine ai ?_;refine nx (i+1,c) ⟨(by omega),(by rw[hsi,hc];simp),(by omega)⟩
     ·have p':=p;simp at p';simp[go_sem,hr,hrk,p];apply gv<;>intro g
      ·have g':=g;simp[go_sem,hi,g];apply gw<;>intro q
       ·have hc:sU m l k l.length i= - at2 m i l.length:=by rw[sU,if_neg (by omega),if_pos ⟨g,q⟩]
        simp[go_sem,hr,hrk];iterate 2 refine ai ?_
        refine nx (i+1,c-at2 m i l.length) ⟨(by omega),(by rw[hsi,hc];omega),(by omega)⟩
       ·have hc:sU m l k l.length i=0:=by rw[sU,if_neg (by omega),if_neg (by simp[q])]
        simp[go_sem];refine ai ?_;refine nx (i+1,c) ⟨(by omega),(by rw[hsi,hc];simp),(by omega)⟩
      ·have g':=g;simp at g';have hc:sU m l k l.length i=0:=by rw[sU,if_neg (by omega),if_neg (by omega)]
       simp[go_sem,g];refine ai ?_;refine nx (i+1,c) ⟨(by omega),(by rw[hsi,hc];simp),(by omega)⟩
    ·simp at u;obtain rfl:i=l.length:=by omega
     have ha:Y0 m l k l.length cost=c:=h2i.symm;rw[ha]at hn;have hW:=ah2 (m:=m) (cs:=cs) d (l++[(k:Int)]) (max top k) c x (by omega);simp[go_sem];refine eQ good [] (aR 10) ?_;have hcl:=hwk (l++[(k:Int)]) (max top k) c x (by omega) (by omega) (by omega) (by omega);rw[show nInts (l++[(k:Int)])=D.sl none (l.map dI++[dI k]) by simp]at hcl;simp[go_sem];refine gX rfl (hcl) ?_;rintro r d ⟨rfl,rfl⟩;simp[go_sem];refine ai ?_;refine nx (k+1,walk20 m cs d (l++[(k:Int)]) (max top k) c x) ⟨(by omega),(by rw[hs,hn]),(by have:=hW.lo h3.1;have:=hW.hi h3.1;rw[hk1];omega)⟩
  ·simp at b;obtain rfl:k=(top+2).toNat:=by omega
   simp[go_sem];simp[hw,h2]
theorem ED (m:L2)(cs:List Con)(hm:aI m=true)(hcs:aN m.length cs=true):∀d,aAD m cs d
 |0=>fun l top cost s h1 h2 h3 h4=>atJ m cs 0 l top cost s hm hcs (fun e he=>by omega) h1 h2 h3 h4
 |d+1=>fun l top cost s h1 h2 h3 h4=>atJ m cs (d+1) l top cost s hm hcs (fun e he=>by obtain rfl:d=e:=(by omega);exact ED m cs hm hcs d) h1 h2 h3 h4
theorem XL (m:L2)(cs:List Con)(hm:aI m=true:=by first|assumption|omega|(simp;omega)|grind)(hcs:aX m.length cs=true:=by first|assumption|omega|(simp;omega)|grind):Fk 180 [aM m,bG cs] (.tup [.own (sS m cs (TE m cs)),.val (dB true)]):=by
 refine fE good [] func180 ntmps180 fun _ _=> ?_;have hml:=aP hm;have hc1:aN m.length cs=true:=by simp only[aX,Bool.and_eq_true]at hcs;exact hcs.1
 have hc2:nL m.length cs<0:=by simp only[aX,Bool.and_eq_true,decide_eq_true_eq]at hcs;exact hcs.2
 have hco2:=fO hc1;simp[go_sem];refine ck (aY m) ?_;simp[go_sem,hm];refine ck (vM m.length cs) ?_;have hp9:(9^m.length:Nat)<=9^8:=Nat.pow_le_pow_right (by omega) hml.2;have hw:=ED m cs hm hc1 m.length [] (-1) 0 ⟨[], -1,0⟩ (by simp) (by simp) (by simp) ⟨by simp,by show(0:Int)+((9^m.length:Nat):Int)<=_;omega⟩;simp[go_sem,hc1,hc2];refine gX rfl (hw) ?_;rintro r d ⟨rfl,rfl⟩;have hr:walk20 m cs m.length [] (-1) 0 ⟨[], -1,0⟩=TE m cs:=rfl;simp[go_sem,hr]
theorem FJ (m:L2)(cs:List Con)(hm:aI m=true)(hcs:aX m.length cs=true):Fk 107 [aM m,bG cs] (.tup [.val (nInts (TE m cs).best),.val (dI (TE m cs).cost),.val (dB true)]):=by
 refine fE good [] func107 ntmps107 fun _ _=> ?_;simp[go_sem];refine ck (XL m cs) ?_;simp[go_sem];refine eQ good [] (aR 7) ?_;simp[go_sem];refine wdr good ?_;simp[go_sem]
variable {l:List Tri}
theorem apL (h:∀t∈l,0<=t.w)(x y:Int):0<=rC l x y:=by
 have key:∀(l:List Tri) (s:Int),0<=s->(∀t∈l,0<=t.w)->0<=l.foldl (fun s t=>if yM x y t=true then s+t.w else s) s:=by
  intro l
  induction l with
  |nil=>intro s hs _;exact hs
  |cons t l ih=>
   intro s hs h;have h1:=h t (by simp);rw[List.foldl_cons];exact ih _ (by split<;>omega) (fun t ht=>h t (List.mem_cons_of_mem _ ht))
 exact key l 0 (by omega) h
def akM (m:L2)(t:Tri):Bool:=nN m t.a t.b t.c&&inR t.w 1 1000
def apY (m:L2)(l:List Tri)(x y:Nat):Bool:=decide (rC l x y<=rE (at2 m x y))
def aeA (m:L2)(l:List Tri)(x:Nat):Bool:=(List.range m.length).all fun y=>decide (y<=x)||apY m l x y
def KJ (m:L2)(l:List Tri):Bool:=l.all (akM m)&&(List.range m.length).all (aeA m l)&&decide (l.length<=100)
theorem aBQ {x:Nat}{P:Nat->Bool}(hx:x<y)(hy:y<n)(h:P y=false):(List.range n).all (fun y=>decide (y<=x)||P y)=false:=gP hy (by simp[h];omega)
theorem NF (m:L2)(l:List Tri)(hm:aI m=true)(hl:l.length<=1048576)(hw:∀t∈l, -1048576<=t.w/\t.w<=1048576):Fk 261 [aM m,wY l] (.val (dB (KJ m l))):=by
 refine fE good [] func261 ntmps261 fun _ _=> ?_;have hml:=aP hm;simp[go_sem];refine wl good (fun(i:Nat)=>[(0,.val (aM m)),(1,.val (wY l)),(5,.val (dI i))]) (fun(i:Nat)=>(l).length-i) (fun(i:Nat)=>(i<=(l).length)/\(((l).take i).all (akM m)=true)) (0) ⟨(by omega),rfl⟩ ?_;rintro i ⟨h1,h2⟩;simp[go_sem];apply gw<;>intro a
 ·obtain⟨c,hc⟩:=aC (l:=l) (i:=i) (by omega);simp[go_sem];refine wdr good ?_;simp[go_sem,hc];refine cd (sO m c.a c.b c.c) ?_;simp[go_sem];apply gv<;>intro e
  ·have e':=e;simp at e';have hn:=bI hc (P:=(akM m)) (by simp[akM];simp at e;simp[e]);have hp:KJ m l=false:=by simp only[KJ];rw[hn];rfl
   simp[go_sem,e,hp]
  ·have e':=e;simp at e';simp[go_sem,hc,e];refine cd (aG c.w 1 1000) ?_;simp[go_sem];apply gw<;>intro f
   ·simp at f;have hn:=bI hc (P:=(akM m)) (by simp only[akM];rw[show inR c.w 1 1000=false by simp;omega];simp);have hp:KJ m l=false:=by simp only[KJ];rw[hn];rfl
    simp[go_sem,hp]
   ·simp at f;simp[go_sem];refine ai ?_;refine nx (i+1) ⟨(by omega),(aL hc h2 (by simp only[akM];rw[show inR c.w 1 1000=true by simp;omega,e'];rfl))⟩
 ·simp at a;have hf:=cO h2 a;simp[go_sem];refine wl good (fun(x:Nat)=>[(0,.val (aM m)),(1,.val (wY l)),(6,.val (dI x))]) (fun(x:Nat)=>m.length-x) (fun(x:Nat)=>(x<=m.length)/\((List.range x).all (aeA m l)=true)) (0) ⟨(by omega),rfl⟩ ?_;rintro x ⟨h1x,h2x⟩;simp[go_sem];apply gw<;>intro ax
  ·simp[go_sem];refine ai ?_;refine wl good (fun(y:Nat)=>[(0,.val (aM m)),(1,.val (wY l)),(6,.val (dI x)),(7,.val (dI y))]) (fun(y:Nat)=>m.length-y) (fun(y:Nat)=>(x<y/\y<=m.length)/\(∀z<y,(decide (z<=x)||apY m l x z)=true)) (x+1) ⟨(by omega),(fun z hz=>by simp;omega)⟩ ?_;rintro y ⟨h3,h4⟩;simp[go_sem];apply gw<;>intro d
   ·obtain⟨r,hr,hrk⟩:=eP hm (i:=x) (k:=y) (by omega) (by omega);have hb:=bZ hm x y;simp[go_sem];refine wdr good ?_;simp[go_sem];refine cd (aY m) ?_;simp[go_sem,hm];refine cd (qE l x y) ?_;simp[go_sem,hr,hrk];refine cd (iQ (at2 m x y) (by omega)) ?_;simp[go_sem];apply gw<;>intro e
    ·have hu:apY m l x y=false:=by simp[apY];omega
     have hp:KJ m l=false:=by simp only[KJ];rw[gP ax (aBQ (by omega) d hu)];simp
     simp[go_sem,hp]
    ·simp at e;have hu:apY m l x y=true:=by simp[apY];omega
     simp[go_sem];refine ai ?_;refine nx (y+1) ⟨(by omega),(fun z hz=>by by_cases hzy:z=y;(subst hzy;rw[hu];simp);exact h4 z (by omega))⟩
   ·simp at d;have hrow:aeA m l x=true:=by rw[aeA,List.all_eq_true];intro z hz;exact h4 z (by have:=List.mem_range.1 hz;omega)
    simp[go_sem];refine ai ?_;refine nx (x+1) ⟨(by omega),(iO h2x hrow)⟩
  ·simp at ax;have hfx:=BF (n:=m.length) h2x (by omega) (by omega);simp[go_sem];refine ck (aY m) ?_;have hp:KJ m l=decide (l.length<=100):=by simp only[KJ];rw[hf,hfx];simp
   simp[go_sem,hm,hp];omega
def PN (m:L2)(l:List Tri):Int:=if KJ m l=true then l.foldl (fun s t=>s+t.w) 0 else -1
theorem ahE (h:∀t∈l, -1048576<=t.w/\t.w<=1048576)(i:Nat): -(1048576*(i:Int))<=(l.take i).foldl (fun(s:Int) t=>s+t.w) (0:Int)/\(l.take i).foldl (fun(s:Int) t=>s+t.w) (0:Int)<=1048576*(i:Int):=by
 induction i with
 |zero=>rw[List.take_zero,List.foldl_nil];omega
 |succ i ih=>
  by_cases hi:i<l.length
  ·obtain⟨t,ht⟩:=aC hi;have h1:=h t (AR ht);have h2:=bB (fun(s:Int) (t:Tri)=>s+t.w) 0 ht;rw[h2];omega
  ·have e:l.take (i+1)=l.take i:=by rw[aK (by omega),aK (by omega)]
   rw[e];omega
theorem atQ (h:∀t∈l, -1048576<=t.w/\t.w<=1048576)(hl:l.length<=1048576): -1099511627777<=PN m l/\PN m l<=1099511627777:=by
 have:=ahE h l.length;rw[List.take_length]at this;unfold PN;split<;>omega
theorem I4 (m:L2)(l:List Tri)(hm:aI m=true)(hl:l.length<=1048576)(hw:∀t∈l, -1048576<=t.w/\t.w<=1048576):Fk 187 [aM m,wY l] (.val (dI (PN m l))):=by
 refine fE good [] func187 ntmps187 fun _ _=> ?_;simp[go_sem];refine ck (NF m l hm hl hw) ?_;simp[go_sem];apply gw<;>intro a
 ·simp at a;have hp:PN m l= -1:=if_neg (by simp[a]);simp[go_sem,hp]
 ·simp at a;have hp:PN m l=l.foldl (fun s t=>s+t.w) 0:=if_pos (by simpa using a);simp[go_sem];refine wl good (fun((i,s):(Nat)×(Int))=>[(1,.val (wY l)),(5,.val (dI s)),(6,.val (dI i))]) (fun(i,s)=>l.length-i) (fun(i,s)=>(i<=l.length)/\(s=(l.take i).foldl (fun s t=>s+t.w) 0)) ((0,0)) ⟨(by omega),(rfl)⟩ ?_;rintro⟨i,s⟩ ⟨h1,h2⟩;have hfb:=ahE hw i;rw[←h2]at hfb;simp[go_sem];apply gw<;>intro b
  ·obtain⟨t,ht⟩:=aC b;have hwt:=hw t (AR ht);have hm2:=bB (fun(s:Int) (t:Tri)=>s+t.w) 0 ht;rw[←h2]at hm2;simp[go_sem,ht];iterate 2 refine ai ?_
   refine nx (i+1,s+t.w) ⟨(by omega),(hm2.symm)⟩
  ·simp at b;rw[aK b]at h2;simp[go_sem];simp[hp,h2]
def gw3 (m:L2)(o:List Tri)(t:Tri):Int:=min (rE (at2 m t.a.toNat t.b.toNat)-rC o t.a t.b) (min (rE (at2 m t.a.toNat t.c.toNat)-rC o t.a t.c) (rE (at2 m t.b.toNat t.c.toNat)-rC o t.b t.c))
def KU (m:L2)(o:List Tri)(t:Tri):List Tri:=if 0<gw3 m o t then o++[⟨t.a,t.b,t.c,gw3 m o t⟩]else o
def aeB (m:L2):List Tri:=(wR m).foldl (KU m) []
theorem ahN (hm:aI m=true){o:List Tri}{t:Tri}(h:DK m k o)(ht:P9 m.length t):DK m (k+1) (KU m o t):=by
 unfold KU;split
 ·rename_i hpos;have z1:=apL (fun t ht=>(h.2 t ht).2.2.2.2.1) t.a t.b;have v1:=EA (bZ hm t.a.toNat t.b.toNat);have hle:gw3 m o t<=1000:=by unfold gw3;omega
  refine⟨by have:=h.1;simp;omega,fun t' ht'=> ?_⟩;rcases List.mem_append.1 ht' with h2|h2
  ·exact h.2 t' h2
  ·rw[List.mem_singleton.1 h2];unfold P9 at ht|-;simp only;omega
 ·exact⟨by have:=h.1;omega,h.2⟩
theorem anK (hm:aI m=true):DK m 512 (aeB m):=by
 have hb:=ZX hm m.length;have h8:=aP hm
 have key:∀(L o:List Tri) (k:Nat),(∀t∈L,P9 m.length t)->DK m k o->DK m (k+L.length) (L.foldl (KU m) o):=by
  intro L
  induction L with
  |nil=>intro o k _ h;exact h
  |cons t L ih=>
   intro o k hL h;have:=ih (KU m o t) (k+1) (fun t ht=>hL t (List.mem_cons_of_mem _ ht)) (ahN hm h (hL t (by simp)));rw[List.foldl_cons,List.length_cons,show k+(L.length+1)=k+1+L.length by omega];exact this
 have h1:=key (wR m) [] 0 hb.2 ⟨by simp,by simp⟩;have hbl:(wR m).length<=64*m.length:=hb.1;exact⟨Nat.le_trans h1.1 (by omega),h1.2⟩
theorem FC (m:L2)(hm:aI m=true):Fk 115 [aM m] (.own (qU (aeB m))):=by
 refine fE good [] func115 ntmps115 fun _ _=> ?_;have hml:=aP hm;have hb:=ZX hm m.length;have hgr:aeB m=(wR m).foldl (KU m) []:=rfl;have hL512:(wR m).length<=512:=Nat.le_trans hb.1 (by omega);have hLt:∀t∈wR m,P9 m.length t:=hb.2;simp[go_sem];refine ck (HY m hm) ?_;clear hb;generalize wR m=L at*
 simp[go_sem];refine wl good (fun((i,o):(Nat)×(List Tri))=>[(0,.val (aM m)),(3,.own (qU o)),(4,.own (qU L)),(5,.val (dI i))]) (fun(i,o)=>L.length-i) (fun(i,o)=>(i<=L.length)/\(o=(L.take i).foldl (KU m) [])/\(DK m i o)) ((0,[])) ⟨(by omega),(rfl),(⟨by simp,by simp⟩)⟩ ?_;rintro⟨i,o⟩ ⟨h1,h2,h3⟩;simp[go_sem];apply gw<;>intro a
 ·obtain⟨t,ht⟩:=aC a;have hk0:=hLt t (AR ht);have hok:=ahN hm h3 hk0;have hk:=hk0;unfold P9 at hk;have hm2:=bB (KU m) [] ht;rw[←h2]at hm2;obtain⟨r,hr,hrb⟩:=eP hm (i:=t.a.toNat) (k:=t.b.toNat) (by omega) (by omega);obtain⟨r',hr',hrc⟩:=eP hm (i:=t.a.toNat) (k:=t.c.toNat) (by omega) (by omega);obtain rfl:r=r':=by rw[hr]at hr';exact Option.some.inj hr'
  obtain⟨q,hq,hqc⟩:=eP hm (i:=t.b.toNat) (k:=t.c.toNat) (by omega) (by omega);have ha0:0<=t.a:=hk.1;have hb0:0<=t.b:=by omega
  have hc0:0<=t.c:=by omega
  have hol:=h3.1;have hwo:∀t∈o, -1000<=t.w/\t.w<=1000:=fun t ht=>by have:=h3.2 t ht;unfold P9 at this;omega
  have hwo2:∀t∈o, -1048576<=t.w/\t.w<=1048576:=fun t ht=>by have:=hwo t ht;omega
  have u1:=ZL (by omega) hwo t.a t.b;have u2:=ZL (by omega) hwo t.a t.c;have u3:=ZL (by omega) hwo t.b t.c;have v1:=EA (bZ hm t.a.toNat t.b.toNat);have v2:=EA (bZ hm t.a.toNat t.c.toNat);have v3:=EA (bZ hm t.b.toNat t.c.toNat);have hgw:min (rE (at2 m t.a.toNat t.b.toNat)-rC o t.a t.b) (min (rE (at2 m t.a.toNat t.c.toNat)-rC o t.a t.c) (rE (at2 m t.b.toNat t.c.toNat)-rC o t.b t.c))=gw3 m o t:=rfl;simp[go_sem,ht];refine wdt good 52 ?_;simp[go_sem,hr,hrb,ha0,hb0];refine cd (iQ (at2 m t.a.toNat t.b.toNat) (by have:=bZ hm t.a.toNat t.b.toNat;omega)) ?_;simp[go_sem];refine cd (qE o t.a t.b (by omega) hwo2) ?_;simp[go_sem,hr,hrc,ha0,hc0];refine ai ?_;refine cd (iQ (at2 m t.a.toNat t.c.toNat) (by have:=bZ hm t.a.toNat t.c.toNat;omega)) ?_;simp[go_sem];refine cd (qE o t.a t.c (by omega) hwo2) ?_;simp[go_sem,hq,hqc,hb0,hc0];refine ai ?_;refine cd (iQ (at2 m t.b.toNat t.c.toNat) (by have:=bZ hm t.b.toNat t.c.toNat;omega)) ?_;simp[go_sem];refine cd (qE o t.b t.c (by omega) hwo2) ?_;simp[go_sem,hgw];refine ai ?_;apply gw<;>intro f
  ·have hu:KU m o t=o++[⟨t.a,t.b,t.c,gw3 m o t⟩]:=if_pos f;rw[hu]at hok;simp[go_sem];iterate 2 refine ai ?_
   refine nx (i+1,o++[⟨t.a,t.b,t.c,gw3 m o t⟩]) ⟨(by omega),(by rw[hm2,hu]),(hok)⟩
  ·simp at f;have hu:KU m o t=o:=if_neg (by omega);rw[hu]at hok;simp[go_sem];refine ai ?_;refine nx (i+1,o) ⟨(by omega),(by rw[hm2,hu]),(hok)⟩
 ·simp at a;rw[aK a]at h2;simp[go_sem];simp[hgr,←h2]
def ayN (m:L2)(x:L1)(l:List Tri):Int:=if nA m x<0\/PN m l<0 then -1 else nA m x-PN m l
theorem ES (m:L2)(x:L1)(l:List Tri)(hm:aI m=true)(hx:x.length<=1048576)(hl:l.length<=1048576)(hw:∀t∈l, -1048576<=t.w/\t.w<=1048576):Fk 114 [aM m,nInts x,wY l] (.val (dI (ayN m x l))):=by
 refine fE good [] func114 ntmps114 fun _ _=> ?_;have hml:=aP hm;have hp:=rO m x;have hq:=atQ (m:=m) hw hl;have e1:(if aI m=true/\bM x=true/\x.length=m.length then aQ m x else -1)=nA m x:=rfl;simp[go_sem];refine ck ((e1▸gJ m x (by omega) hx)) ?_;simp[go_sem];refine ck (I4 m l hm hl hw) ?_;simp[go_sem];apply gv<;>intro a
 ·have a':=a;simp[go_sem,a];grind[ayN]
 ·have a':=a;simp at a';simp[go_sem,a];apply gw<;>intro d
  ·simp[go_sem];grind[ayN]
  ·simp at d;have hg:ayN m x l=nA m x-PN m l:=if_neg (by omega);simp[go_sem,hg];simp only[inI];omega
abbrev J9 (l:L1)(c:Int)(e:Bool)(g:Int):D:= .agg [aF l,dI c,dB e,dI g]
theorem TI (l:List Con)(items:L1):(bX l items).length<=l.length:=List.length_filterMap_le _ _
theorem GL (m:L2)(cs:List Con)(hm:aI m=true)(hcs:cs.length<=1048576):bK prog 46 [aM m,bG cs] (fun r'=>∃(c:Int) (e:Bool) (g:Int),r'= .tup [.own (J9 (iA m cs) c e g),.val (dB (aX m.length cs))]):=by
 refine fE good [22,23,29] func46 ntmps46 fun _ _=> ?_;have hml:=aP hm;have ecs:(aN (m.length:Int) cs&&decide (nL m.length cs<0))=aX m.length cs:=rfl;simp[go_sem];refine ck (aY m) ?_;simp[go_sem,hm];refine ck (vM m.length cs (by omega) hcs) ?_;simp[go_sem,ecs];apply gw<;>intro a
 ·simp at a;have hcA:iA m cs=[]:=if_neg (by simp[a]);simp[go_sem,hcA];omega
 ·simp at a;have hcc:aX m.length cs=true:=by simpa using a
  have hcA:iA m cs=iG m cs:=if_pos hcc;have hac:=(cZ.1 hcc).1;have hsp:=yR hm hac;simp[go_sem];refine ck (KE m cs (by omega) hcs) ?_;simp[go_sem];refine ck (qR (aO m cs) (by omega) (.inr hsp.2.1)) ?_;have hbs:∀v,v<(blocksP (aO m cs)).length->FL m.length (gat (blocksP (aO m cs)) v)/\1<=(gat (blocksP (aO m cs)) v).length/\(gat (blocksP (aO m cs)) v).length<=m.length:=fun v hv=>by have:=JE (isPart_iff.1 hsp.2.1).1 hv;rwa [hsp.2.2]at this
  have hcl:iG m cs=canon (abF m cs (blocksP (aO m cs))):=rfl;have hll:=Q0 m cs (blocksP (aO m cs));have hbl:(blocksP (aO m cs)).length<=m.length:=Nat.le_trans (blocksI (isPart_iff.1 hsp.2.1).1 (Nat.le_refl _)).len (Nat.le_of_eq hsp.2.2);generalize hbsg:blocksP (aO m cs)=bs at hbs hcl hll hbl|-
  simp[go_sem];refine ai ?_;refine wl good (fun((i,L,e):(Nat)×(L1)×(Bool))=>[(0,.val (aM m)),(1,.val (bG cs)),(4,.own (.bx true (J9 [] 0 false 0))),(6,.own (gN bs)),(7,.own (aF L)),(8,.own (.bx true (J9 [] 0 e 0))),(9,.val (dI i))]) (fun(i,L,e)=>bs.length-i) (fun(i,L,e)=>(i<=bs.length)/\(L=loopN i (List.replicate m.length 0) (wI m cs bs))) ((0,List.replicate m.length 0,true)) ⟨(by omega),(rfl)⟩ ?_;rintro⟨i,L,e⟩ ⟨h1,h2⟩;simp[go_sem];apply gw<;>intro b
  ·have hr:=WL b;have hsel:=hbs i b;have hpt:=adY hm hcc hsel.1 hsel.2.1 hsel.2.2;have hok:=aa7 hpt;have hLl:L.length=m.length:=by rw[h2,qZ (IA m cs bs)];simp
   generalize hit:gat bs i=items at hr hsel hpt hok|-
   have hsl:=hpt.len;simp[go_sem,hr];refine ck (PR m items hm hsel.1 (by omega)) ?_;simp[go_sem,hr];refine ck (wE cs items hcs (by omega)) ?_;have hmS:=hpt.mat;have hcS:aX (dZ m items).length (bX cs items)=true:=by rw[hsl];exact hpt.con
   have hrl:(bX cs items).length<=1048576:=by have:=TI cs items;omega
   have hst:=K9 hmS (r:=bX cs items) (by rw[hsl];exact hpt.are);have hsO:eX (dZ m items) (bX cs items)=if keepP (bX cs items) (fA (dZ m items)).1=true then(fA (dZ m items)).1 else aV (dZ m items).length (bX cs items):=rfl
   have hpO:partOf m cs items=if 6<items.length then kE (dZ m items) (bX cs items) 100 (eX (dZ m items) (bX cs items))else(TE (dZ m items) (bX cs items)).best:=rfl
   have hbp:=M6 hmS;have hare:aN (dZ m items).length (bX cs items)=true:=by rw[hsl];exact hpt.are
   generalize dZ m items=s at*
   generalize bX cs items=q at*
   simp[go_sem];refine eQ good [] (mI.trans (aR 10) (aR 11)) ?_;simp[go_sem];refine ck (FJ s q hmS hcS) ?_;simp[go_sem];refine GY good (fun(e2:Bool)=>[(0,.val (aM m)),(1,.val (bG cs)),(4,.own (.bx true (J9 [] 0 false 0))),(6,.own (gN bs)),(7,.own (aF L)),(8,.own (.bx true (J9 [] 0 e2 0))),(9,.val (dI i)),(12,.val (nInts (partOf m cs items)))]) (fun(e2:Bool)=>True) ?_ ?_
   ·simp[go_sem,hr];apply gw<;>intro c
    ·simp[go_sem];refine ck (O3 s hmS) ?_;simp[go_sem];refine GY good (fun(_:Unit)=>[(0,.val (aM m)),(1,.val (bG cs)),(4,.own (.bx true (J9 [] 0 false 0))),(6,.own (gN bs)),(7,.own (aF L)),(8,.own (.bx true (J9 [] 0 false 0))),(9,.val (dI i)),(10,.val (aM s)),(11,.val (bG q)),(15,.val (nInts (eX s q)))]) (fun(_:Unit)=>True) ?_ ?_
     ·simp[go_sem];refine ck (kL (fA s).1 q (by omega) hrl) ?_;have hkO:(q.all (oN (fA s).1)&&bM (fA s).1)=keepP q (fA s).1:=rfl;simp[go_sem,hkO];apply gw<;>intro d
      ·simp at d;have hs1:eX s q=aV s.length q:=by rw[hsO];exact if_neg (by simpa using d)
       simp[go_sem];refine ck (oV s.length q (by omega) hrl) ?_;have hs2:(if aN s.length q=true then aV s.length q else[])=aV s.length q:=if_pos hare;simp[go_sem,hs2];refine jnc (()) [15] trivial (h3:=by simp[go_sem,hm,ecs,hr,hkO,hs1,hs2])
      ·simp at d;have hs1:eX s q=(fA s).1:=by rw[hsO];exact if_pos (by simpa using d)
       simp[go_sem];refine jnc (()) [15] trivial (h3:=by simp[go_sem,hm,ecs,hr,hkO,hs1])
     rintro⟨⟩ -
     simp[go_sem];refine bC (zZ s q (eX s q) (by omega) hrl (by omega)) (by simp[go_sem]) ?_;rintro r ⟨kk,rfl⟩;refine⟨by simp[go_sem],?_⟩;have hp1:partOf m cs items=kE s q 100 (eX s q):=by rw[hpO];exact if_pos (by omega)
     simp[go_sem];refine jnc (false) [12] trivial (h3:=by simp[go_sem,hm,ecs,hr,hp1])
    ·simp at c;have hp1:partOf m cs items=(TE s q).best:=by rw[hpO];exact if_neg (by omega)
     simp[go_sem];refine jnc (e) [12] trivial (h3:=by simp[go_sem,hm,ecs,hr,hp1])
   rintro e2 -
   simp[go_sem];refine wl good (fun((j,L'):(Nat)×(L1))=>[(0,.val (aM m)),(1,.val (bG cs)),(4,.own (.bx true (J9 [] 0 false 0))),(6,.own (gN bs)),(7,.own (aF L')),(8,.own (.bx true (J9 [] 0 e2 0))),(9,.val (dI i)),(12,.val (nInts (partOf m cs items))),(17,.val (dI j))]) (fun(j,L')=>items.length-j) (fun(j,L')=>(j<=items.length)/\(L'=loopN j L (UZ items (partOf m cs items) i))) ((0,L)) ⟨(by omega),(rfl)⟩ ?_;rintro⟨j,L'⟩ ⟨h5,h6⟩;simp[go_sem,hr];apply gw<;>intro f
   ·have hg:=aD f;have hgx:=hsel.1.1 _ (List.mem_of_getElem? hg);have hpl:j<(partOf m cs items).length:=by omega
    have hg2:=aD hpl;have hb2:=aqN hok.2 j hpl;have hLl2:L'.length=m.length:=by rw[h6,qZ fun k l=>by simp[UZ]];exact hLl
    have hpu:UZ items (partOf m cs items) i j L'=L'.set (at1 items j).toNat (i*8+at1 (partOf m cs items) j):=rfl;have hput:(L'.map dI).set (at1 items j).toNat (D.one (.int .i64 ((i:Int)*8+at1 (partOf m cs items) j)))=(UZ items (partOf m cs items) i j L').map dI:=by rw[hpu,List.map_set]
    have hb1:=(hok.2 j hpl).1;have ha0:0<=at1 items j:=hgx.1;obtain⟨u,hu⟩:=aC (l:=L') (i:=(at1 items j).toNat) (by omega);generalize partOf m cs items=pp at*
    simp[go_sem];refine wdt good 16 ?_;simp[go_sem,hr,hg,hg2,hu,ha0,hput];iterate 3 refine ai ?_
    refine nx (j+1,UZ items pp i j L') ⟨(by omega),(by rw[aA,←h6])⟩
   ·simp at f;obtain rfl:j=items.length:=by omega
    have hpA:wI m cs bs i L=L':=by rw[wI,hit,h6]
    simp[go_sem];refine ai ?_;refine nx (i+1,L',e2) ⟨(by omega),(by rw[aA,←h2,hpA])⟩
  ·simp at b;obtain rfl:i=bs.length:=by omega
   have hLc:canon L=iG m cs:=by rw[hcl,h2];rfl
   have hLl:L.length=m.length:=by rw[h2];exact hll
   have hcln:(iG m cs).length=m.length:=by rw[←hLc,jE,hLl]
   simp[go_sem];refine ck (lK L (by omega)) ?_;have hpc:(if aI m=true/\bM (iG m cs)=true/\(iG m cs).length=m.length then aQ m (iG m cs)else -1)=nA m (iG m cs):=rfl;simp[go_sem,hLc];refine ck ((hpc▸gJ m (iG m cs) (by omega) (by omega))) ?_;generalize iG m cs=X at*
   simp[go_sem];apply gw<;>intro d
   ·simp at d;have hgr:=anK hm;obtain rfl:e=false:=d;simp[go_sem];refine wdf good [(4,[128,129]),(7,[131,130,8,126,127])] [(0,.val (aM m)),(4,.own (.bx true (J9 [] 0 false 0))),(8,.own (.bx true (J9 X (nA m X) false 0)))] [] (by simp[go_sem]) ?_;simp[go_sem];refine cf (FC m hm) ?_;simp[go_sem];refine cd (ES m X (aeB m) hm (by omega) (by have:=hgr.1;omega) (fun t ht=>by have:=hgr.2 t ht;unfold P9 at this;omega)) ?_;simp[go_sem];first|exact hcA|exact hcA.symm|exact⟨hcA.symm,hcc.symm⟩|simp[hcA,hcc]
   ·simp at d;obtain rfl:e=true:=d;simp[go_sem];first|exact hcA|exact hcA.symm|exact⟨hcA.symm,hcc.symm⟩|simp[hcA,hcc]
theorem IE (m:L2)(cs:List Con)(hm:aI m=true)(hcs:cs.length<=1048576):bK prog 67 [aM m,bG cs] (fun r'=>∃(c:Int) (e:Bool) (g:Int),r'= .tup [.own (J9 (iA m cs) c e g),.val (dB (aX m.length cs))]):=by
 refine fE good [14] func67 ntmps67 fun _ _=> ?_;have hml:=aP hm;simp[go_sem];refine ck (LX m cs (by omega) (nT hm) hcs) ?_;simp[go_sem,hm];apply gw<;>intro a
 ·simp at a;have hcA:iA m cs=[]:=if_neg (by simp[a]);have hcn:aX m.length cs=false:=by simpa using a
  simp[go_sem,hcA,hcn]
 ·simp at a;have hcc:aX m.length cs=true:=by simpa using a
  have hcA:iA m cs=iG m cs:=if_pos hcc;have hac:=(cZ.1 hcc).1;have hsp:=yR hm hac;simp[go_sem,hcc];refine ai ?_;refine ck (J6 m cs hcs hm hac) ?_;simp[go_sem];refine ck (FM (aO m cs) (by omega) (.inr hsp.2.1)) ?_;have hbs:∀v,v<(blocksP (aO m cs)).length->FL m.length (gat (blocksP (aO m cs)) v)/\1<=(gat (blocksP (aO m cs)) v).length/\(gat (blocksP (aO m cs)) v).length<=m.length:=fun v hv=>by have:=JE (isPart_iff.1 hsp.2.1).1 hv;rwa [hsp.2.2]at this
  have hcl:iG m cs=canon (abF m cs (blocksP (aO m cs))):=rfl;have hll:=Q0 m cs (blocksP (aO m cs));have hbl:(blocksP (aO m cs)).length<=m.length:=Nat.le_trans (blocksI (isPart_iff.1 hsp.2.1).1 (Nat.le_refl _)).len (Nat.le_of_eq hsp.2.2);generalize hbsg:blocksP (aO m cs)=bs at hbs hcl hll hbl|-
  simp[go_sem];refine wlc good [23] (fun((i,L,e):(Nat)×(L1)×(Bool))=>[(0,.val (aM m)),(1,.val (bG cs)),(4,.own (.bx true (J9 [] 0 false 0))),(6,.own (.bx true (J9 L 0 e 0))),(23,.val (aM bs)),(24,.val (dI bs.length)),(25,.val (dI i))]) (fun(i,L,e)=>bs.length-i) (fun(i,L,e)=>(i<=bs.length)/\(L=loopN i (List.replicate m.length 0) (wI m cs bs))) ((0,List.replicate m.length 0,true)) ⟨(by omega),(rfl)⟩ ?_;rintro⟨i,L,e⟩ ⟨h1,h2⟩;simp[go_sem];apply gw<;>intro b
  ·have hr:=WL b;have hsel:=hbs i b;have hpt:=adY hm hcc hsel.1 hsel.2.1 hsel.2.2;have hok:=aa7 hpt;have hLl:L.length=m.length:=by rw[h2,qZ (IA m cs bs)];simp
   generalize hit:gat bs i=items at hr hsel hpt hok|-
   simp[go_sem,hr];refine wtc good 6 [32,35] ?_;simp[go_sem];refine ck (NI m items hm hsel.1 (by omega)) ?_;simp[go_sem];refine ck (wM cs items hcs (by omega)) ?_;have hsl:=hpt.len;have hrl:(bX cs items).length<=1048576:=by have:=TI cs items;omega
   have hpS:=avB hpt;simp[go_sem];refine ck (KC (dZ m items) (bX cs items) hpt.mat (by rw[hsl];exact hpt.con) hrl) ?_;simp[go_sem,hpS];refine wl good (fun((j,L'):(Nat)×(L1))=>[(0,.val (aM m)),(1,.val (bG cs)),(4,.own (.bx true (J9 [] 0 false 0))),(6,.own (.bx true (J9 L' 0 e 0))),(7,.val (dI i)),(8,.val (nInts items)),(23,.val (aM bs)),(24,.val (dI bs.length)),(25,.val (dI i)),(36,.val (nInts (partOf m cs items))),(37,.val (dI (partOf m cs items).length)),(38,.val (dI j))]) (fun(j,L')=>items.length-j) (fun(j,L')=>(j<=items.length)/\(L'=loopN j L (UZ items (partOf m cs items) i))) ((0,L)) ⟨(by omega),(rfl)⟩ ?_;rintro⟨j,L'⟩ ⟨h5,h6⟩;simp[go_sem];apply gw<;>intro f
   ·have hg:=aD (l:=items) (i:=j) (by omega);have hgx:=hsel.1.1 _ (List.mem_of_getElem? hg);have hpl:j<(partOf m cs items).length:=by omega
    have hg2:=aD hpl;have hb2:=aqN hok.2 j hpl;have hLl2:L'.length=m.length:=by rw[h6,qZ fun k l=>by simp[UZ]];exact hLl
    have hpu:UZ items (partOf m cs items) i j L'=L'.set (at1 items j).toNat (i*8+at1 (partOf m cs items) j):=rfl;have hput:(L'.map dI).set (at1 items j).toNat (D.one (.int .i64 ((i:Int)*8+at1 (partOf m cs items) j)))=(UZ items (partOf m cs items) i j L').map dI:=by rw[hpu,List.map_set]
    have hb1:=(hok.2 j hpl).1;have ha0:0<=at1 items j:=hgx.1;obtain⟨u,hu⟩:=aC (l:=L') (i:=(at1 items j).toNat) (by omega);generalize partOf m cs items=pp at*
    simp[go_sem,hg2];refine wdt good 11 ?_;simp[go_sem,hg,hu,ha0,hput];iterate 3 refine ai ?_
    refine nx (j+1,UZ items pp i j L') ⟨(by omega),(by rw[aA,←h6])⟩
   ·simp at f;obtain rfl:j=items.length:=by omega
    have hpA:wI m cs bs i L=L':=by rw[wI,hit,h6]
    simp[go_sem];apply gv<;>intro g2
    ·have g2':=g2;simp[go_sem,g2];refine ai ?_;refine nxc (i+1,L',decide ((items.length:Int)<=6)) [23] ⟨(by omega),(by rw[aA,←h2,hpA])⟩
    ·have g2':=g2;simp[go_sem,g2];refine ai ?_;refine nxc (i+1,L',false) [23] ⟨(by omega),(by rw[aA,←h2,hpA])⟩
  ·simp at b;obtain rfl:i=bs.length:=by omega
   have hLc:canon L=iG m cs:=by rw[hcl,h2];rfl
   have hLl:L.length=m.length:=by rw[h2];exact hll
   have hcln:(iG m cs).length=m.length:=by rw[←hLc,jE,hLl]
   simp[go_sem];refine ck (lI L (by omega)) ?_;simp[go_sem,hLc];refine ck (dY m (iG m cs) hm hcln) ?_;generalize iG m cs=X at*
   simp[go_sem];apply gw<;>intro d
   ·simp at d;simp[go_sem];refine wdx good [0,3] (.st 1 (.st 2 (.st 4 (.st 5 (.st 6 (.st 7 OT.fin OT.no) OT.no) OT.no) OT.no) (.st 4 (.st 2 (.st 5 (.st 6 (.st 7 OT.fin OT.no) OT.no) OT.no) OT.no) OT.no)) (.st 4 (.st 1 (.st 2 (.st 5 (.st 6 (.st 7 OT.fin OT.no) OT.no) OT.no) OT.no) OT.no) OT.no)) ?_;simp[go_sem];refine⟨⟨?_,?_⟩,?_⟩
    ·repeat with_reducible refine ai ?_
     refine bC (mW m hm) (by simp[go_sem]) ?_;rintro r ⟨lT,rfl,hT1,hT2⟩;refine⟨by simp[go_sem],?_⟩;simp[go_sem];refine bC (mZ m X lT hm (by omega) hT1 hT2) (by simp[go_sem]) ?_;rintro r ⟨gg,rfl⟩;refine⟨by simp[go_sem],?_⟩;simp[go_sem,hcc];grind
    ·repeat with_reducible refine ai ?_
     refine bC (mW m hm) (by simp[go_sem]) ?_;rintro r ⟨lT,rfl,hT1,hT2⟩;refine⟨by simp[go_sem],?_⟩;simp[go_sem];refine bC (mZ m X lT hm (by omega) hT1 hT2) (by simp[go_sem]) ?_;rintro r ⟨gg,rfl⟩;refine⟨by simp[go_sem],?_⟩;simp[go_sem,hcc];grind
    ·repeat with_reducible refine ai ?_
     refine bC (mW m hm) (by simp[go_sem]) ?_;rintro r ⟨lT,rfl,hT1,hT2⟩;refine⟨by simp[go_sem],?_⟩;simp[go_sem];refine bC (mZ m X lT hm (by omega) hT1 hT2) (by simp[go_sem]) ?_;rintro r ⟨gg,rfl⟩;refine⟨by simp[go_sem],?_⟩;simp[go_sem,hcc];grind
   ·simp at d;simp[go_sem,hcc];grind
theorem kH (r:List (List Tst))(hs:r.length<=1048576:=by first|assumption|omega|(simp;omega)|grind)(hr:∀l∈r,l.length<=1048576:=by first|assumption|omega|(simp;omega)|grind):Fk 85 [fZ r] (.val (dB (dF r))):=by
 refine fE good [] func85 ntmps85 fun _ _=> ?_;simp[go_sem];refine wl good (fun(i:Nat)=>[(1,.own (.bx true (fZ r))),(3,.val (dI i))]) (fun(i:Nat)=>(r).length-i) (fun(i:Nat)=>(i<=(r).length)/\(((r).take i).all dE=true)) (0) ⟨(by omega),rfl⟩ ?_;rintro i ⟨h1,h2⟩;simp[go_sem];apply gw<;>intro a
 ·obtain⟨c,hc⟩:=aC (l:=r) (i:=i) (by omega);have hcl:=hr c (List.mem_of_getElem? hc);simp[go_sem,hc];refine wl good (fun(k:Nat)=>[(1,.own (.bx true (fZ r))),(3,.val (dI i)),(4,.val (.sl none (c.map qP))),(5,.val (dI k))]) (fun(k:Nat)=>(c).length-k) (fun(k:Nat)=>(k<=(c).length)/\((c.take k).all xQ=true)/\(adj (fun a b=>decide (a.feature<b.feature)) (c.take k)=true)) (0) ⟨(by omega),rfl,rfl⟩ ?_;rintro k ⟨h1k,h2k,h3k⟩;simp[go_sem];apply gw<;>intro ak
  ·obtain⟨ck,hck⟩:=aC (l:=c) (i:=k) (by omega);simp[go_sem];refine wdr good ?_;simp[go_sem,hck];refine cd (aG _ _ _) ?_;simp[go_sem];apply gv<;>intro e
   ·have e':=e;simp at e';have hn:=bI hc (P:=dE) (by have:=bI hck (P:=xQ) (by simp[xQ];omega);simp[dE,this]);simp[go_sem,e];grind[dF]
   ·have e':=e;simp at e';simp[go_sem,hck,e];refine cd (aG _ _ _) ?_;simp[go_sem];apply gv<;>intro f
    ·have f':=f;simp at f';have hn:=bI hc (P:=dE) (by have:=bI hck (P:=xQ) (by simp[xQ];omega);simp[dE,this]);simp[go_sem,f];grind[dF]
    ·have f':=f;simp at f';simp[go_sem,f];apply gv<;>intro g
     ·have g':=g;obtain⟨p,hp⟩:=aC (l:=c) (i:=k-1) (by omega);have hi1:k-1+1=k:=by omega
      simp[go_sem,hck,g,hp];iterate 2 refine ai ?_
      apply gw<;>intro b
      ·have hn:=bI hc (P:=dE) (by have:=zW hp (by rw[hi1];exact hck) (R:=fun a b=>decide (a.feature<b.feature)) (by simp;omega);simp[dE,this]);simp[go_sem];grind[dF]
      ·simp at b;simp[go_sem];refine ai ?_;refine nx (k+1) ⟨(by omega),(aL hck h2k (by simp[xQ];omega)),(by have:=pQ (i:=k-1) (by rw[hi1];exact h3k) hp (by rw[hi1];exact hck) (by simp;omega);rwa [hi1]at this)⟩
     ·have g':=g;simp at g';simp[go_sem,g];refine ai ?_;refine nx (k+1) ⟨(by omega),(aL hck h2k (by simp[xQ];omega)),(by obtain rfl:k=0:=(by omega);exact mU)⟩
  ·simp at ak;have hfk:=cO h2k ak;rw[aK ak]at h3k;simp[go_sem];refine ck (aG _ _ _) ?_;simp[go_sem];apply gw<;>intro b
   ·simp at b;have hn:=bI hc (P:=dE) (by simp[dE,hfk,h3k];omega);simp[go_sem];grind[dF]
   ·simp at b;simp[go_sem];refine ai ?_;refine nx (i+1) ⟨(by omega),(aL hc h2 (by simp[dE,hfk,h3k];omega))⟩
 ·simp at a;have hf:=cO h2 a;simp[go_sem];refine ck (aG _ _ _) ?_;simp[go_sem];grind[dF]
theorem E8 (c:Cfg)(hs:c.rules.length<=1048576)(hr:∀l∈c.rules,l.length<=1048576)(hw:c.sco.weights.length<=1048576)(hv:c.surv.length<=1048576):Fk 40 [aaS c] (.val (dB (eY c))):=by
 refine fE good [] func40 ntmps40 fun _ _=> ?_;simp[go_sem];refine ck (kH _) ?_;simp[go_sem];apply gv<;>intro g1
 ·have g1':=g1;simp[go_sem,g1];refine ck (iX _) ?_;simp[go_sem];apply gv<;>intro g2
  ·have g2':=g2;simp[go_sem,g2];refine ck (zT _) ?_;simp[go_sem];grind[eY]
  ·have g2':=g2;simp[go_sem,g2];grind[eY]
 ·have g1':=g1;simp[go_sem,g1];grind[eY]
theorem uZ (s:Sto)(hs:s.recs.length<=1048576:=by first|assumption|omega|(simp;omega)|grind)(hr:∀r∈s.recs,vV r:=by first|assumption|omega|(simp;omega)|grind)(hv:s.vers.length<=1048576:=by first|assumption|omega|(simp;omega)|grind):Fk 41 [MM s] (.val (dB (dA s))):=by
 refine fE good [] func41 ntmps41 fun _ _=> ?_;simp[go_sem];refine wl good (fun(i:Nat)=>[(1,.own (.bx true (MM s))),(3,.val (dI i))]) (fun(i:Nat)=>(s.recs).length-i) (fun(i:Nat)=>(i<=(s.recs).length)/\((s.recs.take i).all aJ=true)/\(adj (fun a b=>decide (eH a<eH b)) (s.recs.take i)=true)) (0) ⟨(by omega),rfl,rfl⟩ ?_;rintro i ⟨h1,h2,h3⟩;simp[go_sem];apply gw<;>intro a
 ·obtain⟨c,hc⟩:=aC (l:=s.recs) (i:=i) (by omega);simp[go_sem];refine wdr good ?_;simp[go_sem,hc];refine cd (jS _ (hr c (List.mem_of_getElem? hc))) ?_;simp[go_sem];apply gv<;>intro e
  ·have e':=e;simp at e';have hn:=bI hc (P:=aJ) (by simpa using e);simp[go_sem,e];grind[dA]
  ·have e':=e;simp at e';simp[go_sem,e];apply gv<;>intro f
   ·have f':=f;obtain⟨p,hp⟩:=aC (l:=s.recs) (i:=i-1) (by omega);have hi1:i-1+1=i:=by omega
    have hvp:aJ p=true:=List.all_eq_true.1 h2 p (by apply List.mem_of_getElem? (i:=i-1);rw[List.getElem?_take,if_pos (by omega)];exact hp);have hk1:inR p.source 0 3=true/\inR p.key 1 99=true:=by simp only[aJ,Bool.and_eq_true]at hvp;exact⟨hvp.1.1.1.2,hvp.1.1.2⟩
    have hk2:inR c.source 0 3=true/\inR c.key 1 99=true:=by simp only[aJ,Bool.and_eq_true]at e';exact⟨e'.1.1.1.2,e'.1.1.2⟩
    simp[go_sem,f,hp];iterate 2 refine ai ?_
    refine cd (tT p hk1.1 hk1.2) ?_;simp[go_sem,hc];refine cd (tT c hk2.1 hk2.2) ?_;simp[go_sem];apply gw<;>intro b
    ·have hn:=zW hp (by rw[hi1];exact hc) (R:=fun a b=>decide (eH a<eH b)) (by simp;omega);simp[go_sem];grind[dA]
    ·simp at b;simp[go_sem];refine ai ?_;refine nx (i+1) ⟨(by omega),(aL hc h2 (by simpa using e)),(by have:=pQ (i:=i-1) (by rw[hi1];exact h3) hp (by rw[hi1];exact hc) (by simp;omega);rwa [hi1]at this)⟩
   ·have f':=f;simp at f';simp[go_sem,f];refine ai ?_;refine nx (i+1) ⟨(by omega),(aL hc h2 (by simpa using e)),(by obtain rfl:i=0:=(by omega);exact mU)⟩
 ·simp at a;have hf:=cO h2 a;rw[aK a]at h3;simp[go_sem];refine ck (aG _ _ _) ?_;simp[go_sem];apply gv<;>intro g1
  ·have g1':=g1;simp at g1';simp[go_sem,g1];apply gv<;>intro g2
   ·have g2':=g2;simp[go_sem,g2];refine ck (oQ _) ?_;simp[go_sem];grind[dA]
   ·have g2':=g2;simp at g2';simp[go_sem,g2];grind[dA]
  ·have g1':=g1;simp at g1';simp[go_sem,g1];grind[dA]
theorem ME (s:Sto)(hs:s.recs.length<=1048576)(hr:∀r∈s.recs,vV r)(hv:s.vers.length<=1048576)(hvs:dA s=true):Fk 43 [MM s] (.own (aF (s.recs.map eH))):=by
 refine fE good [] func43 ntmps43 fun _ _=> ?_;simp[go_sem];refine wl good (fun(i:Nat)=>[(1,.own (.bx true (MM s))),(3,.own (aF ((s.recs.take i).map eH))),(4,.val (dI i))]) (fun(i:Nat)=>s.recs.length-i) (fun(i:Nat)=>(i<=s.recs.length)) (0) (by omega) ?_;rintro i h1;simp[go_sem];apply gv<;>intro a
 ·have a':=a;simp[go_sem,a];refine ck (uZ _) ?_;obtain⟨c,hc⟩:=aC (l:=s.recs) (i:=i) (by omega);have hvr:s.recs.all aJ=true:=by simp only[dA,Bool.and_eq_true]at hvs;exact hvs.1.1.1.1
  have hvc:=List.all_eq_true.1 hvr c (List.mem_of_getElem? hc);have hk:inR c.source 0 3=true/\inR c.key 1 99=true:=by simp only[aJ,Bool.and_eq_true]at hvc;exact⟨hvc.1.1.1.2,hvc.1.1.2⟩
  have hm:=pU eH hc;simp[go_sem,hvs,hc];refine ck (tT c hk.1 hk.2) ?_;simp[go_sem];iterate 2 refine ai ?_
  refine nx (i+1) (by first|omega|(simp;omega)|grind) (h3:=by simp[go_sem,hvs,hc,hm])
 ·have a':=a;simp at a';rw[aK (by simp;omega)];simp[go_sem,a]
variable {out:List Ver}
theorem TA {c:Ver}(h:out=[]):kD out c=out++[c]:=by subst h;rfl
theorem Y1 {c p:Ver}(h:out[out.length-1]?=some p):kD out c=if p.a≠c.a\/p.b≠c.b then out++[c]else if p.time<c.time then out.set (out.length-1) c else out:=by unfold kD;rw[h]
theorem BC (l:List Ver)(hs:l.length<=1048576)(hv:eO l=true):Fk 91 [nVers l] (.own (oVers (bQ l))):=by
 refine fE good [] func91 ntmps91 fun _ _=> ?_;simp[go_sem];refine wl good (fun((i,out):(Nat)×(List Ver))=>[(0,.val (nVers l)),(3,.own (oVers out)),(4,.val (dI i))]) (fun(i,out)=>l.length-i) (fun(i,out)=>(i<=l.length)/\(out=(l.take i).foldl kD [])/\(out.length<=i)) ((0,[])) ⟨(by omega),rfl,(by simp)⟩ ?_;rintro⟨i,out⟩ ⟨h1,h2,h3⟩;simp[go_sem];apply gv<;>intro a
 ·have a':=a;simp[go_sem,a];refine ck (oQ _) ?_;obtain⟨c,hc⟩:=aC (l:=l) (i:=i) (by omega);have hm:=bB kD [] hc;rw[←h2]at hm;simp[go_sem,hv];refine wdt good 30 ?_;simp[go_sem];apply gv<;>intro e
  ·have e':=e;have hm2:=TA (c:=c) e;simp[go_sem,hc,e];refine ai ?_;refine nx (i+1,out++[c]) ⟨(by omega),(by rw[hm,hm2]),(by simp;omega)⟩ (h3:=by simp[go_sem,hv,hc,e])
  ·have e':=e;have hpos:0<out.length:=List.length_pos_iff.2 e;obtain⟨p,hp⟩:=aC (l:=out) (i:=out.length-1) (by omega);have hm2:=Y1 (c:=c) hp;simp[go_sem,hc,e,hp];iterate 2 refine ai ?_
   apply gv<;>intro f
   ·have f':=f;simp[go_sem,hc,f];iterate 2 refine ai ?_
    refine nx (i+1,out++[c]) ⟨(by omega),(by rw[hm,hm2,if_pos (.inl f)]),(by simp;omega)⟩
   ·have f':=f;simp[go_sem,hc,hp,f];iterate 2 refine ai ?_
    apply gw<;>intro g
    ·simp[go_sem,hc];iterate 2 refine ai ?_
     refine nx (i+1,out++[c]) ⟨(by omega),(by rw[hm,hm2,if_pos (.inr g)]),(by simp;omega)⟩
    ·simp[go_sem];refine wdt good 12 ?_;simp[go_sem,hc,hp,f];iterate 2 refine ai ?_
     apply gw<;>intro b
     ·simp[go_sem,hc,hp,f];iterate 3 refine ai ?_
      refine nx (i+1,out.set (out.length-1) c) ⟨(by omega),(by rw[hm,hm2,if_neg (by simp_all),if_pos b]),(by simp;omega)⟩
     ·simp at b;simp[go_sem];refine ai ?_;refine nx (i+1,out) ⟨(by omega),(by rw[hm,hm2,if_neg (by simp_all),if_neg (by omega)]),(by omega)⟩
 ·have a':=a;simp at a';have hi:i=l.length:=by omega
  subst hi;rw[List.take_length]at h2;simp[go_sem,a];grind[bQ]
theorem yI (l:List Ver)(items:L1)(hs:l.length<=1048576:=by first|assumption|omega|(simp;omega)|grind)(hi:items.length<=1048576:=by first|assumption|omega|(simp;omega)|grind):Fk 101 [nVers l,nInts items] (.own (zM (wK l items))):=by
 refine fE good [] func101 ntmps101 fun _ _=> ?_;simp[go_sem];refine wl good (fun((i,out):(Nat)×(List Con))=>[(0,.val (nVers l)),(1,.val (nInts items)),(5,.own (zM out)),(6,.val (dI i))]) (fun(i,out)=>(l).length-i) (fun(i,out)=>(i<=(l).length)/\(out=(l.take i).filterMap (xA items))/\(out.length<=i)) ((0,[])) ⟨(by omega),rfl,(by simp)⟩ ?_;rintro⟨i,out⟩ ⟨h1,h2,h3⟩;simp[go_sem];apply gw<;>intro a
 ·obtain⟨c,hc⟩:=aC (l:=l) (i:=i) (by omega);have hm:=sH (xA items) hc;rw[←h2]at hm;simp[go_sem,hc];refine ck (iT _ _) ?_;simp[go_sem,hc];refine ck (iT _ _) ?_;simp[go_sem];apply gv<;>intro e
  ·have e':=e;simp[go_sem,e];apply gw<;>intro b
   ·have hv:xA items c=some ⟨place items c.a,place items c.b,c.same⟩:=if_pos ⟨by omega,by omega⟩;simp[go_sem,hc];iterate 2 refine ai ?_
    refine nx (i+1,out++[⟨place items c.a,place items c.b,c.same⟩]) ⟨(by omega),(by rw[hm,hv];rfl),(by simp;omega)⟩
   ·simp at b;have hv:xA items c=none:=if_neg (by rintro⟨h1,h2⟩;unfold place at h1 h2;omega);simp[go_sem];refine ai ?_;refine nx (i+1,out) ⟨(by omega),(by rw[hm,hv];simp),(by omega)⟩
  ·have e':=e;simp at e';have hv:xA items c=none:=if_neg (by rintro⟨h1,h2⟩;unfold place at h1 h2;omega);simp[go_sem,e];refine ai ?_;refine nx (i+1,out) ⟨(by omega),(by rw[hm,hv];simp),(by omega)⟩
 ·simp at a;rw[aK a]at h2;simp[go_sem];grind[wK]
theorem BJ (l:List Ver)(hs:l.length<=1048576)(hv:eO l=true):Fk 132 [nVers l] (.own (oVers (bQ l))):=by
 refine fE good [] func132 ntmps132 fun _ _=> ?_;simp[go_sem];refine ck (vX l) ?_;simp[go_sem,hv];refine wl good (fun((i,out):(Nat)×(List Ver))=>[(3,.own (oVers out)),(10,.val (nVers l)),(11,.val (dI l.length)),(12,.val (dI i))]) (fun(i,out)=>l.length-i) (fun(i,out)=>(i<=l.length)/\(out=(l.take i).foldl kD [])/\(out.length<=i)) ((0,[])) ⟨(by omega),rfl,(by simp)⟩ ?_;rintro⟨i,out⟩ ⟨h1,h2,h3⟩;simp[go_sem];apply gw<;>intro a
 ·obtain⟨c,hc⟩:=aC (l:=l) (i:=i) (by omega);have hm:=bB kD [] hc;rw[←h2]at hm;simp[go_sem,hc];refine ai ?_;refine wdt good 22 ?_;simp[go_sem];apply gv<;>intro e
  ·have e':=e;have he:out=[]:=List.length_eq_zero_iff.1 (by omega);have hm2:=TA (c:=c) he;simp[go_sem,e];iterate 2 refine ai ?_
   refine nx (i+1,out++[c]) ⟨(by omega),(by rw[hm,hm2]),(by simp;omega)⟩
  ·have e':=e;simp at e';have hpos:0<out.length:=by omega
   obtain⟨p,hp⟩:=aC (l:=out) (i:=out.length-1) (by omega);have hm2:=Y1 (c:=c) hp;simp[go_sem,e,hp];refine ai ?_;apply gv<;>intro f
   ·have f':=f;simp[go_sem,f];iterate 2 refine ai ?_
    refine nx (i+1,out++[c]) ⟨(by omega),(by rw[hm,hm2,if_pos (.inl (by simpa using f))]),(by simp;omega)⟩
   ·have f':=f;simp[go_sem,hp,f];refine ai ?_;apply gw<;>intro g
    ·simp[go_sem];iterate 2 refine ai ?_
     refine nx (i+1,out++[c]) ⟨(by omega),(by rw[hm,hm2,if_pos (.inr (by simpa using g))]),(by simp;omega)⟩
    ·simp[go_sem];refine wdt good 8 ?_;simp[go_sem,hp,f];refine ai ?_;apply gw<;>intro b
     ·simp[go_sem,hp,f];iterate 2 refine ai ?_
      refine nx (i+1,out.set (out.length-1) c) ⟨(by omega),(by rw[hm,hm2,if_neg (by simp_all),if_pos b]),(by simp;omega)⟩
     ·simp at b;simp[go_sem];refine ai ?_;refine nx (i+1,out) ⟨(by omega),(by rw[hm,hm2,if_neg (by simp_all),if_neg (by omega)]),(by omega)⟩
 ·simp at a;rw[aK a]at h2;have ho:bQ l=out:=h2.symm;simp[go_sem,ho]
variable {α:Type}
def cfB (cf:α->α->Int)(v c:α):Bool:=decide (cf v c<0)
def srt (cf:α->α->Int)(l:List α)(i:Nat):List α:=eG (cfB cf) (l.take i)
def XP (cf:α->α->Int)(l:List α)(i:Nat):List α:=srt cf l i++l.drop i
def EY (cf:α->α->Int)(l:List α)(i j:Nat)(v:α):List α:=tZ (cfB cf) l i j v
theorem amI {cf:α->α->Int}{l:List α}{c:α}(h:(srt cf l i)[k]?=some c):c∈l:=by
 have h1:=(rU (cfB cf) (l.take i) []).mem_iff (a:=c);rw[List.nil_append]at h1;exact List.mem_of_mem_take (h1.1 (List.mem_of_getElem? h))
theorem ah5 (cf:α->α->Int)(l:List α):XP cf l 1=l:=by
 cases l with
 |nil=>rfl
 |cons x l=>rfl
theorem agG (cf:α->α->Int){l:List α}(h:l.length<=i):XP cf l i=eG (cfB cf) l:=by unfold XP srt;rw[List.take_of_length_le h,List.drop_eq_nil_of_le h,List.append_nil]
theorem aa8 (f:α->D){cf:α->α->Int}{l:List α}{j:Nat}{v c:α}(hi:i<l.length)(hj:0<j/\j<=i)(hc:(srt cf l i)[j-1]?=some c):(((EY cf l i j v).map f).set j (f c)).set (j-1) (f v)=(EY cf l i (j-1) v).map f:=by
 rw[←List.map_set,←List.map_set];have:=an0 (p:=cfB cf) (j:=j-1) (v:=v) hi (by omega) hc;rw[show j-1+1=j by omega]at this;exact congrArg _ this
theorem ar9 (l:List Ver)(cf:Ver->Ver->Int)(g:FuncId)(E:Dv.Enters prog g)(U:T (1000000+g)=⟨.no,0,.any 0⟩)(G:∀a∈l,∀b∈l,bK prog g [gD a,gD b] (fun r=>r= .val (dI (cf a b))))(hl:l.length<=1048576):FK prog 265 [.one (.bool false),dI 0,dI l.length,.one (.func (.func g) #[] #[])] 0 (oVers l) (fun r d=>r= .tup []/\d=oVers (eG (cfB cf) l)):=by
 refine fM good [] func265 ntmps265 fun w0 ow0 v0=> ?_;have h00:=ah5 cf l;simp[go_sem];refine ai ?_;refine wl good (fun(i:Nat)=>[(0,.own (oVers (XP cf l i))),(1,.val (dI 0)),(2,.val (dI l.length)),(3,.val (.one (.func (.func g) #[] #[]))),(8,.val (dI i))]) (fun(i:Nat)=>l.length-i) (fun(i:Nat)=>(1<=i/\i<=l.length+1)) (1) (by omega) ?_ (h0:=by simp[go_sem,E,U,h00]);rintro i h1;simp[go_sem];apply gw<;>intro a
 ·obtain⟨v,hv⟩:=aC (l:=l) (i:=i) (by omega);have hin:EY cf l i i v=XP cf l i:=amU (p:=cfB cf) hv;have hsl:=qM (p:=cfB cf) (l:=l) (i:=i) (by omega);simp[go_sem];refine wl good (fun(j:Nat)=>[(0,.own (oVers (EY cf l i j v))),(1,.val (dI 0)),(2,.val (dI l.length)),(3,.val (.one (.func (.func g) #[] #[]))),(8,.val (dI i)),(9,.val (dI j))]) (fun(j:Nat)=>j) (fun(j:Nat)=>(j<=i)/\(∀k c,j<=k->(srt cf l i)[k]?=some c->cfB cf v c=true)) (i) ⟨(by omega),(fun k c hk hc=>absurd (aS hc) (by unfold srt;omega))⟩ ?_ (h0:=by simp[go_sem,E,U,h00,hin]);rintro j ⟨h2,h3⟩;have hnow:(EY cf l i j v)[j]?=some v:=ahU a h2;simp[go_sem];refine wdt good 14 ?_;simp[go_sem];apply gv<;>intro e
  ·have e':=e;obtain⟨c,hc⟩:=aC (l:=srt cf l i) (i:=j-1) (by unfold srt;omega);have hprev:(EY cf l i j v)[j-1]?=some c:=by have:=acJ (p:=cfB cf) (v:=v) a (show j-1<i by omega) hc;rwa [show j-1+1=j by omega]at this
   have hj1:((j:Int)-1).toNat=j-1:=by omega
   have hsw:=aa8 gD (v:=v) a ⟨by omega,h2⟩ hc;have hs2:∀x:D,(((EY cf l i j v).map gD).set j x)[j-1]?=some (gD c):=fun x=>by rw[List.getElem?_set_ne (by omega),List.getElem?_map,hprev];rfl
   have hj2:(j:Int)-1=((j-1:Nat):Int):=by omega
   simp[go_sem,E,U,e,hnow,hprev,hj2];refine ai ?_;refine ck ((G v (List.mem_of_getElem? hv) c (amI hc))) ?_;simp[go_sem];apply gw<;>intro b
   ·simp[go_sem];refine wdh good [2,3] [(15,[51,46,0,37,39,42,45,47,49,50]),(17,[52,50,0,37,39,42,45,46,47,49,51])] [(0,.own (oVers (EY cf l i j v))),(1,.val (dI 0)),(2,.val (dI l.length)),(3,.val (.one (.func (.func g) #[] #[]))),(8,.val (dI i)),(9,.val (dI j)),(39,.al 0 []),(40,.val (dI j))] [] ?_;simp[go_sem,hnow,hprev,hsw,hs2,hj2];refine ai ?_;refine nx (j-1) ⟨(by omega),(fun k c2 hk hc2=>by by_cases hkj:k=j-1;(subst hkj;rw[hc]at hc2;cases hc2;exact decide_eq_true b);exact h3 k c2 (by omega) hc2)⟩
   ·simp at b;have ho:EY cf l i j v=XP cf l (i+1):=N7 hv h2 h3 (.inr ⟨c,hc,by unfold cfB;exact decide_eq_false (by omega)⟩);simp[go_sem,ho];refine ai ?_;refine nx (i+1) (by omega)
  ·have e':=e;simp at e';have ho:EY cf l i j v=XP cf l (i+1):=N7 hv h2 h3 (.inl (by omega));simp[go_sem,e,ho];refine ai ?_;refine nx (i+1) (by omega)
 ·simp at a;have ho:=agG cf (l:=l) (i:=i) (by omega);simp[go_sem,ho]
end Go.Proofs.YtemiopbofamgcaaGreatDoor
end
section
namespace Go.Proofs.YtemiopbofamgcaaGreatDoor
open Go.Dv Go.Pl Go.RowKit Go.Proofs.Tryz
theorem TF (n:Nat)(hn:n<=1048576):bK prog 157 [.one (.int .u64 n)] (fun r=>r= .val (dI (Lib.bitLen n))):=
 vI (u:= .int .i64 (Lib.bitLen n)) rfl fun w ow vs hL hs ha=>by
  obtain rfl:=Q5 hs ha;have:=Tryz.bits_Len n w (by omega) (by omega);exact this.mono fun e w' h=>⟨h.1,h.2▸Below.refl _ _⟩
theorem anZ (l:List Ver)(cf:Ver->Ver->Int)(g:FuncId)(E:Dv.Enters prog g)(U:T (1000000+g)=⟨.no,0,.any 0⟩)(G:∀a∈l,∀b∈l,bK prog g [gD a,gD b] (fun r=>r= .val (dI (cf a b))))(hl:l.length<=12):FK prog 200 [.one (.bool false),dI l.length,.one (.func (.func g) #[] #[])] 0 (oVers l) (fun r d=>r= .tup []/\d=oVers (eG (cfB cf) l)):=by
 refine fM good [] func200 ntmps200 fun w0 ow0 v0=> ?_;have hlt:¬(20:Int)<=l.length:=by omega
 have hlt2:¬(20:Int)<l.length:=by omega
 simp[go_sem];refine wl good (fun(i:Nat)=>[(0,.own (oVers l)),(1,.val (dI l.length)),(2,.val (.one (.func (.func g) #[] #[]))),(6,.val (dI 20)),(7,.val (dI 0)),(8,.val (dI 20))]) (fun(i:Nat)=>0) (fun(i:Nat)=>(i=0)) (0) (rfl) ?_;rintro i h1;simp[go_sem,hlt];refine gX rfl (ar9 l cf g E U G (by omega)) ?_;rintro r d ⟨rfl,rfl⟩;simp[go_sem];refine wl good (fun(j:Nat)=>[(0,.own (oVers (eG (cfB cf) l))),(1,.val (dI l.length)),(2,.val (.one (.func (.func g) #[] #[]))),(6,.val (dI 20))]) (fun(j:Nat)=>0) (fun(j:Nat)=>(j=0)) (0) (rfl) ?_;rintro j h2;simp[go_sem,hlt2]
theorem ak8 (l:List Ver)(cf:Ver->Ver->Int)(g:FuncId)(E:Dv.Enters prog g)(U:T (1000000+g)=⟨.no,0,.any 0⟩)(G:∀a∈l,∀b∈l,bK prog g [gD a,gD b] (fun r=>r= .val (dI (cf a b))))(hl:l.length<=12):FK prog 133 [.one (.bool false),.one (.func (.func g) #[] #[])] 0 (oVers l) (fun r d=>r= .tup []/\d=oVers (eG (cfB cf) l)):=by
 refine fM good [] func133 ntmps133 fun w0 ow0 v0=> ?_;simp[go_sem];refine gX rfl (anZ l cf g E U G hl) ?_;rintro r d ⟨rfl,rfl⟩;simp[go_sem]
theorem aA0 (l:List Ver)(k:Int)(cf:Ver->Ver->Int)(g:FuncId)(E:Dv.Enters prog g)(U:T (1000000+g)=⟨.no,0,.any 0⟩)(G:∀a∈l,∀b∈l,bK prog g [gD a,gD b] (fun r=>r= .val (dI (cf a b))))(hl:l.length<=12):FK prog 204 [.one (.bool false),dI 0,dI l.length,dI k,.one (.func (.func g) #[] #[])] 0 (oVers l) (fun r d=>r= .tup []/\d=oVers (eG (cfB cf) l)):=by
 refine fM good [] func204 ntmps204 fun w0 ow0 v0=> ?_;simp[go_sem];refine wl good (fun(i:Nat)=>[(0,.own (oVers l)),(1,.val (dI 0)),(2,.val (dI l.length)),(3,.val (dI k)),(4,.val (.one (.func (.func g) #[] #[])))]) (fun(i:Nat)=>0) (fun(i:Nat)=>(i=0)) (0) (rfl) ?_;rintro i h1;have hlt:(l.length:Int)<=12:=by omega
 simp[go_sem,hlt];refine ai ?_;refine gX rfl (ar9 l cf g E U G (by omega)) ?_;rintro r d ⟨rfl,rfl⟩;simp[go_sem]
theorem ahB (l:List Ver)(cf:Ver->Ver->Int)(g:FuncId)(E:Dv.Enters prog g)(U:T (1000000+g)=⟨.no,0,.any 0⟩)(G:∀a∈l,∀b∈l,bK prog g [gD a,gD b] (fun r=>r= .val (dI (cf a b))))(hl:l.length<=12):FK prog 138 [.one (.bool false),.one (.func (.func g) #[] #[])] 0 (oVers l) (fun r d=>r= .tup []/\d=oVers (eG (cfB cf) l)):=by
 refine fM good [] func138 ntmps138 fun w0 ow0 v0=> ?_;have hw:IntKind.u64.wrap (l.length:Int)=l.length:=by simp[IntKind.wrap,IntKind.bits,IntKind.signed];omega
 simp[go_sem,hw];refine ck (TF l.length (by omega)) ?_;simp[go_sem];refine gX rfl (aA0 l (Lib.bitLen l.length) cf g E U G hl) ?_;rintro r d ⟨rfl,rfl⟩;simp[go_sem]
theorem A9 (a b:Ver):Fk 134 [gD a,gD b] (.val (dI (cmpI b.time a.time))):=by
 refine fE good [] func134 ntmps134 fun _ _=> ?_;simp[go_sem];refine ck (jM _ _) ?_;simp[go_sem]
theorem aeH (l:List Ver):eG (cfB fun a b:Ver=>cmpI b.time a.time) l=lZ l:=by
 have:(cfB fun a b:Ver=>cmpI b.time a.time)=uK:=by
  funext v u;unfold cfB uK cmpI;rw[Bool.eq_iff_iff,decide_eq_true_eq,decide_eq_true_eq];show(if u.time<v.time then(-1:Int)else if u.time>v.time then 1 else 0)<0↔_;split
  ·exact⟨fun _=>by assumption,fun _=>by omega⟩
  ·rename_i h1;constructor
   ·intro h;split at h<;>omega
   ·intro h;exact absurd h h1
 unfold eG lZ;rw[this]
theorem KO (l:List Ver):eG (cfB bP) l=bV l:=by
 have:cfB bP=kY:=by
  funext v u;unfold cfB kY;rw[Bool.eq_iff_iff,decide_eq_true_eq,decide_eq_true_eq,IY];omega
 unfold eG bV;rw[this]
def lk0 (i:Nat):L1:=(List.range i).map (fun(k:Nat)=>(k:Int))++List.replicate (400-i) 0
theorem au8:lk0 0=List.replicate 400 0:=rfl
theorem awY:lk0 400=rY:=by simp[lk0,rY]
variable {i:Nat}
theorem aeQ (h:i<=400):(lk0 i).length=400:=by simp[lk0];omega
theorem axI (h:i<400):((lk0 i).map dI).set i (dI (i:Int))=(lk0 (i+1)).map dI:=by
 rw[←List.map_set];congr 1;unfold lk0;rw[List.set_append_right _ _ (by simp),show(List.map (fun(k:Nat)=>(k:Int)) (List.range i)).length=i by simp,Nat.sub_self,show 400-i=(400-(i+1))+1 by omega,List.replicate_succ,List.set_cons_zero,List.range_succ,List.map_append,List.append_assoc];rfl
theorem axT (h:i<400):(lk0 i)[i]?=some 0:=by
 unfold lk0;rw[List.getElem?_append_right (by simp),show(List.map (fun(k:Nat)=>(k:Int)) (List.range i)).length=i by simp,Nat.sub_self,show 400-i=(400-(i+1))+1 by omega,List.replicate_succ];rfl
def lkm (o:L1)(f:Int->Int)(k:Nat):L1:=(o.take k).map f++o.drop k
theorem amQ (o:L1)(f:Int->Int)(k:Nat):(lkm o f k).length=o.length:=by simp[lkm];omega
variable {o:L1}{f:Int->Int}{k:Nat}
theorem aqC (h:k<o.length):(lkm o f k)[k]?=some (at1 o k):=by
 unfold lkm;rw[List.getElem?_append_right (by simp;omega),List.length_map,List.length_take,Nat.min_eq_left (by omega),Nat.sub_self,List.getElem?_drop,Nat.add_zero];exact aD h
theorem amD (h:k<o.length):(lkm o f k).set k (f (at1 o k))=lkm o f (k+1):=by
 have hg:=aD h;unfold lkm;have hd:o.drop k=at1 o k::o.drop (k+1):=by rw[List.drop_eq_getElem_cons h];rw[List.getElem?_eq_getElem h]at hg;rw[Option.some.inj hg]
 rw[List.set_append_right _ _ (by simp;omega),List.length_map,List.length_take,Nat.min_eq_left (by omega),Nat.sub_self,hd,List.set_cons_zero,aU hg,List.map_append,List.append_assoc];rfl
theorem aqA (h:k<o.length)(hf:f (at1 o k)=at1 o k):lkm o f k=lkm o f (k+1):=by
 rw[←amD h,hf];apply List.ext_getElem?;intro m;by_cases hm:k=m
 ·subst hm;rw[aqC h,List.getElem?_set_self (by rw[amQ];exact h)]
 ·rw[List.getElem?_set_ne hm]
theorem avR (o:L1)(f:Int->Int):lkm o f 0=o:=rfl
theorem azG (f:Int->Int):lkm o f o.length=o.map f:=by simp[lkm]
theorem mH (l:L1)(i:Nat):D.ws (List.take i (l.map dI))=min i l.length:=by
 have h:∀l:L1,D.ws (l.map dI)=l.length:=fun l=>by
  induction l with
  |nil=>rfl
  |cons x l ih=>simp only[List.map_cons,D.ws,D.w,ih,List.length_cons];omega
 rw[←List.map_take,h,List.length_take]
theorem adL (o:L1)(v:Ver):(mK o v).length=o.length:=by unfold mK;split<;>simp
theorem H7 (l:List Ver)(hl:l.length<=1048576)(hv:∀v∈l,inT v.a/\inT v.b):Fk 155 [nVers l] (.val (.agg ((dX l).map dI))):=by
 refine fE good [] func155 ntmps155 fun _ _=> ?_;have hz:List.replicate 400 (dI 0)=(lk0 0).map dI:=by rw[au8,List.map_replicate]
 simp[go_sem,hz];refine wl good (fun(i:Nat)=>[(0,.val (nVers l)),(2,.own (.bx true (.agg ((lk0 0).map dI)))),(3,.own (.bx true (.agg ((lk0 i).map dI)))),(10,.val (dI i))]) (fun(i:Nat)=>400-i) (fun(i:Nat)=>(i<=400)) (0) (by omega) ?_;rintro i h1;simp[go_sem];apply gw<;>intro a
 ·have hlen:=aeQ (i:=i) (by omega);have hs:=axI (i:=i) (by omega);have hg:=axT (i:=i) (by omega);have hws:D.ws (List.take i ((lk0 i).map dI))=i:=by rw[mH,hlen];omega
  simp[go_sem,hz,hs,hg,hws];iterate 2 refine ai ?_
  refine nx (i+1) (by omega)
 ·simp at a;obtain rfl:i=400:=by omega
  have hall:=awY;simp[go_sem,hall];refine wl good (fun((j,o):(Nat)×(L1))=>[(0,.val (nVers l)),(2,.own (.bx true (.agg ((lk0 0).map dI)))),(3,.own (.bx true (.agg (o.map dI)))),(17,.val (nVers l)),(18,.val (dI l.length)),(19,.val (dI j))]) (fun(j,o)=>l.length-j) (fun(j,o)=>(j<=l.length)/\(o=(l.take j).foldl mK rY)/\(o.length=400)) ((0,rY)) ⟨(by omega),(rfl),(arP.len)⟩ ?_;rintro⟨j,o⟩ ⟨h2,h3,h4⟩;simp[go_sem];apply gw<;>intro b
  ·obtain⟨c,hc⟩:=aC (l:=l) (i:=j) (by omega);have hcv:=hv c (List.mem_of_getElem? hc);have hA:=aD (l:=o) (i:=c.a.toNat) (by have:=hcv.1.2;have:=hcv.1.1;omega);have hB:=aD (l:=o) (i:=c.b.toNat) (by have:=hcv.2.2;have:=hcv.2.1;omega);have hm:=bB mK rY hc;rw[←h3]at hm;simp[go_sem,hc];apply gw<;>intro d
   ·simp at d;simp[go_sem];refine ai ?_;refine nx (j+1,o) ⟨(by omega),(by rw[hm];exact(if_neg (by simp[d])).symm),(h4)⟩
   ·simp at d;obtain⟨A,hAe⟩:∃A,at1 o c.a.toNat=A:=⟨_,rfl⟩;obtain⟨B,hBe⟩:∃B,at1 o c.b.toNat=B:=⟨_,rfl⟩;rw[hAe]at hA;rw[hBe]at hB;have hz2:=avR o (jT A B);have h90:=hcv.1.1;have h91:=hcv.1.2;have h92:=hcv.2.1;have h93:=hcv.2.2;have hwA:D.ws (List.take c.a.toNat (o.map dI))=c.a.toNat:=by rw[mH,h4];omega
    have hwB:D.ws (List.take c.b.toNat (o.map dI))=c.b.toNat:=by rw[mH,h4];omega
    have hA2:=(List.getElem?_eq_some_iff.1 hA).2;have hB2:=(List.getElem?_eq_some_iff.1 hB).2;simp[go_sem];refine wdr good ?_;simp[go_sem,hz,hA2,hB2,h4,h90,h91,h92,h93,hwA,hwB];refine wl good (fun(k:Nat)=>[(0,.val (nVers l)),(2,.own (.bx true (.agg ((lk0 0).map dI)))),(3,.own (.bx true (.agg ((lkm o (jT A B) k).map dI)))),(7,.val (dI A)),(8,.val (dI B)),(17,.val (nVers l)),(18,.val (dI l.length)),(19,.val (dI j)),(34,.val (dI k))]) (fun(k:Nat)=>400-k) (fun(k:Nat)=>(k<=400)) (0) (by omega) ?_ (h0:=by simp[go_sem,hz,hall,hc,hA2,hB2,hz2,h4,h90,h91,h92,h93,hwA,hwB]);rintro k h5;simp[go_sem];apply gw<;>intro e
    ·have hkl:k<o.length:=by omega
     have hg:=aqC (f:=jT A B) hkl;have hlen:(lkm o (jT A B) k).length=400:=by rw[amQ];exact h4
     have hws:D.ws (List.take k ((lkm o (jT A B) k).map dI))=k:=by rw[mH,hlen];omega
     obtain⟨z,hze⟩:∃z,at1 o k=z:=⟨_,rfl⟩;have hset:=amD (f:=jT A B) hkl;have hsame:=aqA (f:=jT A B) hkl;rw[hze]at hg hset hsame;simp[go_sem,hz,hg,hws];refine ai ?_;apply gw<;>intro g
     ·have hf:jT A B z=min A B:=if_pos g;have hst:((lkm o (jT A B) k).map dI).set k (dI (min A B))=(lkm o (jT A B) (k+1)).map dI:=by rw[←List.map_set,←hf,hset]
      simp[go_sem,hz,hg,hws,hst];iterate 2 refine ai ?_
      refine nx (k+1) (by omega)
     ·have hs2:=(hsame (if_neg g)).symm;simp[go_sem];refine ai ?_;refine nx (k+1) (by omega) (h3:=by simp[go_sem,hz,hall,h4,hg,hlen,hws,hs2])
    ·simp at e;obtain rfl:k=400:=by omega
     have hall:lkm o (jT A B) 400=o.map (jT A B):=by rw[←h4];exact azG _
     have hls:mK o c=o.map (jT A B):=by unfold mK;rw[if_pos (by simpa using d),hAe,hBe]
     simp[go_sem,hall];refine ai ?_;refine nx (j+1,o.map (jT A B)) ⟨(by omega),(by rw[hm,hls]),(by rw[List.length_map];exact h4)⟩
  ·simp at b;have hr:dX l=o:=by rw[h3,List.take_of_length_le (by omega)];rfl
   have hws4:D.ws (o.map dI)=400:=by have:=mH o 400;rw[List.take_of_length_le (by rw[List.length_map];omega),h4]at this;simpa using this
   have hws5:D.ws ((lk0 0).map dI)=400:=by have:=mH (lk0 0) 400;rw[List.take_of_length_le (by rw[List.length_map,aeQ (by omega)];omega),aeQ (by omega)]at this;simpa using this
   clear h3;simp[go_sem,hz,hr,hws4,hws5];grind
theorem amK (h:o.length=400){x:Int}(hx:inT x):o[x.toNat]?=some (at1 o x.toNat):=aD (by have:=hx.2;have:=hx.1;omega)
theorem uU (l:List Ver):(dX l).length=400:=by
 have:∀(l:List Ver) (o:L1),o.length=400->(l.foldl mK o).length=400:=fun l=>by
  induction l with
  |nil=>exact fun o h=>h
  |cons v l ih=>exact fun o h=>ih _ (by rw[adL];exact h)
 exact this l _ (by simp[rY])
def WP (o:L1)(v:Ver):Bool:= !v.same&&decide (at1 o v.a.toNat=at1 o v.b.toNat)
theorem U3 (o:L1)(v:Ver)(ho:o.length=400)(hv:inT v.a/\inT v.b):Fk 203 [gD v,.bx false (.agg (o.map dI))] (.val (dB (WP o v))):=by
 refine fE good [] func203 ntmps203 fun _ _=> ?_;have hA:=amK ho hv.1;have hB:=amK ho hv.2;have h0:=hv.1.1;have h1:=hv.1.2;have h2:=hv.2.1;have h3:=hv.2.2;have hwA:D.ws (List.take v.a.toNat (o.map dI))=v.a.toNat:=by rw[mH,ho];omega
 have hwB:D.ws (List.take v.b.toNat (o.map dI))=v.b.toNat:=by rw[mH,ho];omega
 simp[go_sem];refine wdt good 14 ?_;simp[go_sem];apply gv<;>intro e
 ·have e':=e;simp at e';simp[go_sem,ho,h0,h1,h2,h3,hwA,hwB,e];grind[WP]
 ·have e':=e;simp at e';simp[go_sem,e];grind[WP]
theorem ak3 (l:List Ver)(p:Ver->Bool)(g:FuncId)(b:Nat)(d:D)(F:d.fz=d)(E:Dv.Enters prog g)(U:T (1000000+g)=⟨.no,0,.any 0⟩)(G:∀c∈l,bK prog g [gD c,.bx false d] (fun r=>r= .val (dB (p c))))(hl:l.length<=1048576):qX prog 231 [nVers l,.one (.func (.func g) #[] #[.pointer (some ⟨b,0,none⟩)])] [(b,d)] (fun res'=>res'= .val (dI (ix p l))):=by
 refine fB good [] func231 ntmps231 fun _ _=> ?_;simp[go_sem];refine wl good (fun(i:Nat)=>[(0,.val (nVers l)),(1,.val (.one (.func (.func g) #[] #[.pointer (some ⟨b,0,none⟩)]))),(7,.val (dI l.length)),(8,.val (dI i)),(1000000+2*b,.rp (d))]) (fun(i:Nat)=>(l).length-i) (fun(i:Nat)=>(i<=(l).length)/\(((l).take i).any p=false)) (0) ⟨(by omega),rfl⟩ ?_;rintro i ⟨h1,h2⟩;simp[go_sem];apply gw<;>intro a
 ·obtain⟨c,hc⟩:=aC (l:=l) (i:=i) (by omega);simp[go_sem,E,U,F,hc];refine ck ((G c (List.mem_of_getElem? hc))) ?_;simp[go_sem];apply gw<;>intro e
  ·have hn:=vH hc h2 (by simp[e]);simp[go_sem,hn]
  ·simp[go_sem];refine ai ?_;refine nx (i+1) ⟨(by omega),(eF hc h2 (by simp[e]))⟩
 ·simp at a;have hf:=jU h2 a;have hx:=kV hf;simp[go_sem,hx]
theorem ao3 (l:List Ver)(p:Ver->Bool)(g:FuncId)(b:Nat)(d:D)(F:d.fz=d)(E:Dv.Enters prog g)(U:T (1000000+g)=⟨.no,0,.any 0⟩)(G:∀c∈l,bK prog g [gD c,.bx false d] (fun r=>r= .val (dB (p c))))(hl:l.length<=1048576):qX prog 202 [nVers l,.one (.func (.func g) #[] #[.pointer (some ⟨b,0,none⟩)])] [(b,d)] (fun res'=>res'= .val (dB (l.any p))):=by
 refine fB good [] func202 ntmps202 fun _ _=> ?_;have hq:decide (0<=ix p l)=l.any p:=by rw[Bool.eq_iff_iff,decide_eq_true_eq];exact dK
 simp[go_sem,F];refine ckB (ak3 l p g b d F E U G hl) ?_;simp[go_sem,hq]
theorem aaU (l:List Ver)(hl:l.length<=1048576)(hv:∀v∈l,inT v.a/\inT v.b):Fk 136 [nVers l] (.val (dB (WZ l))):=by
 refine fE good [] func136 ntmps136 fun _ _=> ?_;simp[go_sem];refine ck (H7 l hl hv) ?_;have hF:(D.agg ((dX l).map dI)).fz=D.agg ((dX l).map dI):=by simp[D.fz,D.dM]
 have hcl:l.any (WP (dX l))=WZ l:=rfl;have hws:D.ws ((dX l).map dI)=400:=by have:=mH (dX l) 400;rw[List.take_of_length_le (by rw[List.length_map,uU];omega),uU]at this;simpa using this
 have hll:=uU l;simp[go_sem,hws,hll];intro b;refine ckB (ao3 l (WP (dX l)) 203 b (.agg ((dX l).map dI)) hF aDD aD6 (fun c hc=>U3 (dX l) c (uU l) (hv c hc)) hl) ?_;simp[go_sem,hcl]
end Go.Proofs.YtemiopbofamgcaaGreatDoor
end
section
namespace Go.Proofs.YtemiopbofamgcaaGreatDoor
open Go.Dv Go.Pl Go.Proofs.Tryz
abbrev aCH (l:L2):D:= .sl (some 25) (l.map nInts)
variable {g:L2}
theorem atV (hg:∀l∈g,l.length<=1048576)(i:Nat):(gat g i).length<=1048576:=by
 unfold gat;rw[List.getD_eq_getElem?_getD];cases h:g[i]? with
 |none=>simp
 |some r=>exact hg r (List.mem_of_getElem? h)
theorem ah8 (g:L2)(x:Int): -1<=bA g x/\(bA g x<g.length\/bA g x= -1):=by
 have:=arR (grp x) g;unfold bA;omega
theorem EO (g:L2)(x y:Int)(hs:g.length<=1048576)(hg:∀l∈g,l.length<=1048576):Fk 93 [aM g,dI x,dI y] (.val (aM (jD g x y))):=by
 refine fE good [33,35,100000] func93 ntmps93 fun _ _=> ?_;simp[go_sem];refine ck (jF _ _ hs hg) ?_;simp[go_sem];refine ck (jF _ _ hs hg) ?_;have hA1:=ah8 g x;have hB1:=ah8 g y;generalize hA:bA g x=A at hA1|-
 generalize hB:bA g y=B at hB1|-
 simp[go_sem];refine wl good (fun((i,o):(Nat)×(L2))=>[(0,.val (aM g)),(1,.val (dI x)),(2,.val (dI y)),(7,.own (aF [x])),(8,.own (aF [y])),(9,.own (aCH o)),(10,.val (dI A)),(11,.val (dI B)),(12,.val (dI i))]) (fun(i,o)=>g.length-i) (fun(i,o)=>(i<=g.length)/\(o=loopN i ([]) ((fun i o=>if(i:Int)≠A/\(i:Int)≠B then o++[gat g i]else o)))/\(o.length<=i)) ((0,[])) ⟨(by omega),rfl,(by simp)⟩ ?_;rintro⟨i,o⟩ ⟨h1,h2,h3⟩;simp[go_sem];apply gw<;>intro a
 ·have hs:=aA i ([]) ((fun i o=>if(i:Int)≠A/\(i:Int)≠B then o++[gat g i]else o));rw[←h2]at hs;obtain⟨c,hc⟩:=aC (l:=g) (i:=i) (by omega);have hc2:=sJ hc;simp[go_sem];apply gv<;>intro e
  ·have e':=e;simp[go_sem,e];apply gw<;>intro f
   ·simp[go_sem,hc];iterate 2 refine ai ?_
    refine nx (i+1,o++[c]) ⟨(by omega),(by rw[hs,if_pos ⟨e,f⟩,hc2]),(by simp;omega)⟩
   ·simp[go_sem];refine ai ?_;refine nx (i+1,o) ⟨(by omega),(by rw[hs,if_neg (by omega)]),(by omega)⟩
  ·have e':=e;simp[go_sem,e];refine ai ?_;refine nx (i+1,o) ⟨(by omega),(by rw[hs,if_neg (by omega)]),(by omega)⟩ (h3:=by simp[go_sem,hc,e])
 ·simp at a;have hi:g.length=i:=by omega
  subst hi;have hr:o=pR g A B:=h2;simp[go_sem];refine amP good (fun(_:Unit)=>[(0,.val (aM g)),(2,.val (dI y)),(7,.val (nInts (if 0<=A then gat g A.toNat else[x]))),(8,.own (aF [y])),(9,.own (aCH o)),(10,.val (dI A)),(11,.val (dI B))]) (fun(_:Unit)=>True) ?_ ?_
  ·simp[go_sem];apply gw<;>intro b
   ·obtain⟨c,hc⟩:=aC (l:=g) (i:=A.toNat) (by omega);have hc2:=sJ hc;simp[go_sem,hc,b];refine jnc (()) [7] trivial (h3:=by simp[go_sem,hc,hc2,b])
   ·simp at b;have b':¬0<=A:=by omega
    simp[go_sem,b'];refine jnc (()) [7] trivial (h3:=by simp[go_sem,b'])
  rintro⟨⟩ -
  refine GY good (fun(_:Unit)=>[(7,.val (nInts (if 0<=A then gat g A.toNat else[x]))),(8,.val (nInts (if 0<=B then gat g B.toNat else[y]))),(9,.own (aCH o)),(10,.val (dI A)),(11,.val (dI B))]) (fun(_:Unit)=>True) ?_ ?_
  ·simp[go_sem];apply gw<;>intro b
   ·obtain⟨c,hc⟩:=aC (l:=g) (i:=B.toNat) (by omega);have hc2:=sJ hc;simp[go_sem,hc,b];refine jnc (()) [8] trivial (h3:=by simp[go_sem,hc,hc2,b])
   ·simp at b;have b':¬0<=B:=by omega
    simp[go_sem,b'];refine jnc (()) [8] trivial (h3:=by simp[go_sem,b'])
  rintro⟨⟩ -
  have hLl:(if 0<=A then gat g A.toNat else[x]).length<=1048576:=by split;(exact atV hg _);simp
  have hRl:(if 0<=B then gat g B.toNat else[y]).length<=1048576:=by split;(exact atV hg _);simp
  generalize hL:(if 0<=A then gat g A.toNat else[x])=L at hLl|-
  generalize hR:(if 0<=B then gat g B.toNat else[y])=R at hRl|-
  simp[go_sem];apply gv<;>intro e
  ·have e':=e;simp[go_sem,e];apply gw<;>intro f
   ·simp[go_sem];refine ai ?_;refine eQ good [] (aR 6) ?_;have hj:jD g x y=o++[L]:=by rw[jD,hA,hB,if_pos ⟨e,f⟩,hr,←hL,if_pos e]
    simp[go_sem];simp[hj]
   ·simp[go_sem];iterate 3 refine ai ?_
    refine eQ good [] (aR 6) ?_;have hj:jD g x y=o++[L++R]:=by rw[jD,hA,hB,if_neg (by simp[f]),hr,←hL,←hR]
    simp[go_sem];simp[hj]
  ·have e':=e;simp at e';simp[go_sem,e];iterate 3 refine ai ?_
   refine eQ good [] (aR 6) ?_;have hj:jD g x y=o++[L++R]:=by rw[jD,hA,hB,if_neg (by simp[e]),hr,←hL,←hR]
   simp[go_sem];simp[hj]
variable {m:Nat}
theorem QA (hg:∀l∈g,l.length<=m)(i:Nat):(gat g i).length<=m:=by
 unfold gat;rw[List.getD_eq_getElem?_getD];cases h:g[i]? with
 |none=>simp
 |some r=>exact hg r (List.mem_of_getElem? h)
theorem aaT (hg:∀l∈g,l.length<=m)(a b:Int):(pR g a b).length<=g.length/\∀l∈pR g a b,l.length<=m:=by
 refine loopN_inv (fun n (o:L2)=>o.length<=n/\∀l∈o,l.length<=m) (by simp) fun i o _ ho=> ?_;split
 ·refine⟨by simp;omega,fun l hl=> ?_⟩;rcases List.mem_append.1 hl with h|h
  ·exact ho.2 l h
  ·obtain rfl:l=gat g i:=by simpa using h
   exact QA hg i
 ·exact⟨by omega,ho.2⟩
theorem Y5 (hm:1<=m)(hg:∀l∈g,l.length<=m)(x y:Int):(jD g x y).length<=g.length+1/\∀l∈jD g x y,l.length<=2*m:=by
 have hr:=aaT hg (bA g x) (bA g y);unfold jD;split
 ·refine⟨by simp;omega,fun l hl=> ?_⟩;rcases List.mem_append.1 hl with h|h
  ·have:=hr.2 l h;omega
  ·obtain rfl:l=gat g (bA g x).toNat:=by simpa using h
   have:=QA hg (bA g x).toNat;omega
 ·refine⟨by simp;omega,fun l hl=> ?_⟩;rcases List.mem_append.1 hl with h|h
  ·have:=hr.2 l h;omega
  ·have e:l=_:=List.mem_singleton.1 h;subst e;have h1:=QA hg (bA g x).toNat;have h2:=QA hg (bA g y).toNat;have h3:(if 0<=bA g x then gat g (bA g x).toNat else[x]).length<=m:=by split;(exact h1);(simpa using hm)
   have h4:(if 0<=bA g y then gat g (bA g y).toNat else[y]).length<=m:=by split;(exact h2);(simpa using hm)
   rw[List.length_append];omega
variable {items:L1}{i k:Nat}
theorem aeR (hk:k<items.length)(hik:i<k)(he:bA g (at1 items k)=bA g (at1 items i))(hno:∀j,i<j->j<k->bA g (at1 items j)≠bA g (at1 items i)):FX g items i=some k:=by
 unfold FX;rw[List.find?_range_eq_some];refine⟨by simp[hik,he],by simpa using hk,fun j hj=> ?_⟩;by_cases hij:i<j
 ·simp[hno j hij hj]
 ·simp[hij]
theorem ah6 (hno:∀j,i<j->j<items.length->bA g (at1 items j)≠bA g (at1 items i)):FX g items i=none:=by
 unfold FX;rw[List.find?_eq_none];intro j hj;have hj:=List.mem_range.1 hj;by_cases hij:i<j
 ·simp[hno j hij hj]
 ·simp[hij]
def zQ (g:L2)(items:L1)(k:Nat):List Con:=(List.range k).flatMap (kT g items)
theorem afU (g:L2)(items:L1):zQ g items 0=[]:=rfl
theorem TG (g:L2)(items:L1)(k:Nat):zQ g items (k+1)=zQ g items k++kT g items k:=by simp[zQ,List.range_succ]
theorem ajS (g:L2)(items:L1)(k:Nat):(zQ g items k).length<=k:=by
 induction k with
 |zero=>simp[zQ]
 |succ k ih=>have:=UI g items k;rw[TG,List.length_append];omega
variable {l:List Ver}{c:Ver}
theorem LW (h:l[i]?=some c):mM (l.take (i+1))=mM (l.take i)++if c.same then[c]else[]:=rD _ h
theorem L9 (h:l[i]?=some c):apart (l.take (i+1))=apart (l.take i)++if !c.same then[c]else[]:=rD _ h
theorem U1 (kept:List Ver)(items:L1)(hk:kept.length<=8)(hi:items.length<=8):Fk 45 [nVers kept,nInts items] (.own (zM (iI kept items))):=by
 refine fE good [] func45 ntmps45 fun _ _=> ?_;have hs0:mM []=[]:=rfl;have ha0:apart []=[]:=rfl;simp[go_sem];refine wl good (fun(i:Nat)=>[(0,.val (nVers kept)),(1,.val (nInts items)),(5,.own (oVers (mM (kept.take i)))),(6,.own (oVers (apart (kept.take i)))),(7,.val (dI i))]) (fun(i:Nat)=>(kept).length-i) (fun(i:Nat)=>(i<=(kept).length)/\((mM (kept.take i)).length<=8/\(apart (kept.take i)).length<=8)) (0) ⟨(by simp),(by simp[hs0,ha0])⟩ ?_ (h0:=by simp[go_sem,hs0,ha0]);rintro i ⟨h1,h2⟩;simp[go_sem];apply gw<;>intro a
 ·obtain⟨c,hc⟩:=aC (l:=kept) (i:=i) (by omega);have h1f:=LW hc;have h2f:=L9 hc;have hms:(mM (kept.take (i+1))).length<=8:=Nat.le_trans (List.length_filter_le _ _) (by simp;omega);have hma:(apart (kept.take (i+1))).length<=8:=Nat.le_trans (List.length_filter_le _ _) (by simp;omega);simp[go_sem,hc];apply gw<;>intro b
  ·simp only[b,Bool.not_true,Bool.false_eq_true,if_true,if_false,List.append_nil]at h1f h2f;simp[go_sem,hc];iterate 2 refine ai ?_
   refine nx (i+1) ⟨(by omega),(⟨hms,hma⟩)⟩ (h3:=by simp[go_sem,hs0,ha0,hc,h1f,h2f])
  ·simp only[b,Bool.not_false,Bool.false_eq_true,if_true,if_false,List.append_nil]at h1f h2f;simp[go_sem,hc];iterate 2 refine ai ?_
   refine nx (i+1) ⟨(by omega),(⟨hms,hma⟩)⟩ (h3:=by simp[go_sem,hs0,ha0,hc,h1f,h2f])
 ·simp at a;obtain rfl:i=kept.length:=by omega
  have hms:(mM kept).length<=8:=Nat.le_trans (List.length_filter_le _ _) hk;have hma:(apart kept).length<=8:=Nat.le_trans (List.length_filter_le _ _) hk;rw[List.take_length];generalize hM:mM kept=M at*
  generalize hA:apart kept=A at*
  simp[go_sem];refine wlc good [8] (fun((i,g):(Nat)×(L2))=>[(0,.val (nVers kept)),(1,.val (nInts items)),(5,.own (oVers M)),(6,.own (oVers A)),(8,.val (aM g)),(9,.val (dI i))]) (fun(i,g)=>(M).length-i) (fun(i,g)=>(i<=(M).length)/\(g=(M.take i).foldl (fun g v=>jD g v.a v.b) [])/\(g.length<=i/\∀l∈g,l.length<=2^i)) ((0,[])) ⟨(by omega),rfl,(by simp)⟩ ?_;rintro⟨i,g⟩ ⟨h1m,h2m,h3m⟩;simp[go_sem];apply gw<;>intro am
  ·obtain⟨cm,hcm⟩:=aC (l:=M) (i:=i) (by omega);have hm:=bB (fun g v=>jD g v.a v.b) [] hcm;rw[←h2m]at hm;have hp:2^i<=256:=Nat.le_trans (Nat.pow_le_pow_right (by omega) (show i<=8 by omega)) (by decide);have hp2:2^(i+1)=2*2^i:=by omega
   have hp1:1<=2^i:=Nat.one_le_two_pow;have hj:=Y5 (m:=2^i) hp1 h3m.2 cm.a cm.b;simp[go_sem];refine wdt good 12 ?_;simp[go_sem,hcm];refine cd (EO g cm.a cm.b (by omega) (fun l hl=>by have:=h3m.2 l hl;omega)) ?_;simp[go_sem];refine ai ?_;refine nxc (i+1,jD g cm.a cm.b) [8] ⟨(by omega),(by rw[hm]),(by rw[hp2];exact⟨by omega,hj.2⟩)⟩
  ·simp at am;rw[aK am]at h2m;have hG:g.length<=8/\∀l∈g,l.length<=256:=⟨by omega,fun l hl=>Nat.le_trans (h3m.2 l hl) (Nat.le_trans (Nat.pow_le_pow_right (by omega) (show i<=8 by omega)) (by decide))⟩;have hJ:joined kept=g:=by rw[joined,hM,h2m]
   clear h2m h3m h1m am;have hz0:=afU g items;simp[go_sem];refine wl good (fun(i:Nat)=>[(0,.val (nVers kept)),(1,.val (nInts items)),(6,.own (oVers A)),(8,.val (aM g)),(10,.own (zM (zQ g items i))),(11,.val (dI i))]) (fun(i:Nat)=>items.length-i) (fun(i:Nat)=>(i<=items.length)) (0) (by omega) ?_ (h0:=by simp[go_sem,hs0,ha0,hz0]);rintro i h1i;have hlen:=ajS g items i;simp[go_sem];apply gw<;>intro d
   ·have hd:=aD (l:=items) (i:=i) d;have hfl:=TG g items i;simp[go_sem,hd];refine ck (jF g (at1 items i) (by omega) (fun l hl=>by have:=hG.2 l hl;omega)) ?_;obtain⟨ga,hga⟩:∃ga,bA g (at1 items i)=ga:=⟨_,rfl⟩;simp[go_sem,hga];refine ai ?_;refine wl good (fun(k:Nat)=>[(0,.val (nVers kept)),(1,.val (nInts items)),(6,.own (oVers A)),(8,.val (aM g)),(10,.own (zM (zQ g items i))),(11,.val (dI i)),(12,.val (dI ga)),(13,.val (dI k))]) (fun(k:Nat)=>items.length-k) (fun(k:Nat)=>(i<k/\k<=items.length)/\(∀j,i<j->j<k->bA g (at1 items j)≠ga)) (i+1) ⟨(by omega),(fun j h1 h2=>absurd h2 (by omega))⟩ ?_;rintro k ⟨h1k,h2k⟩;simp[go_sem];apply gv<;>intro e
    ·have e':=e;simp[go_sem,e];apply gw<;>intro f
     ·have hdk:=aD (l:=items) (i:=k) e;have h10:((zQ g items i).length:Int)<10:=by omega
      simp[go_sem,hdk];refine ck (jF g (at1 items k) (by omega) (fun l hl=>by have:=hG.2 l hl;omega)) ?_;simp[go_sem];apply gv<;>intro m
      ·have m':=m;have hn:=aeR e h1k.1 (m'.trans hga.symm) (fun j h1 h2=>by rw[hga];exact h2k j h1 h2);have hsc:kT g items i=[⟨i,k,true⟩]:=by rw[kT,if_pos (by omega),hn]
       rw[hsc]at hfl;simp[go_sem,h10,m];iterate 2 refine ai ?_
       refine nx (i+1) (by first|omega|(simp;omega)|grind) (h3:=by simp[go_sem,hs0,ha0,hz0,hga,hdk,h10,m,hfl])
      ·have m':=m;simp[go_sem,m];refine ai ?_;refine nx (k+1) ⟨(by omega),(fun j h1 h2=>by by_cases hj:j=k;(subst hj;exact m);exact h2k j h1 (by omega))⟩
     ·simp at f;have hsc:kT g items i=[]:=by rw[kT,if_neg (by omega)]
      rw[hsc,List.append_nil]at hfl;simp[go_sem];refine ai ?_;refine nx (i+1) (by first|omega|(simp;omega)|grind) (h3:=by simp[go_sem,hs0,ha0,hz0,hga,e,hfl])
    ·have e':=e;simp at e';have hn:=ah6 (g:=g) (items:=items) (i:=i) (fun j h1 h2=>by rw[hga];exact h2k j h1 (by omega));have hsc:kT g items i=[]:=by rw[kT,hn];simp
     rw[hsc,List.append_nil]at hfl;simp[go_sem,e];refine ai ?_;refine nx (i+1) (by first|omega|(simp;omega)|grind) (h3:=by simp[go_sem,hs0,ha0,hz0,hga,e,hfl])
   ·simp at d;obtain rfl:i=items.length:=by omega
    have hvl:(wK A items).length<=A.length:=List.length_filterMap_le _ _;have hsg:BQ g items=zQ g items items.length:=rfl;simp[go_sem];refine ck (yI _ _) ?_;simp[go_sem];refine ai ?_;simp[iI,hJ,hA,hsg]
theorem vT (l:List Ver)(hl:l.length<=1048576):Fk 96 [nVers l] (.val (nVers (bV l))):=by
 refine fE good [11] func96 ntmps96 fun _ _=> ?_;simp[go_sem];refine wlc good [3] (fun((i,out):(Nat)×(List Ver))=>[(0,.val (nVers l)),(3,.val (nVers out)),(4,.val (dI i))]) (fun(i,out)=>(l).length-i) (fun(i,out)=>(i<=(l).length)/\(out=(l.take i).foldl (fun o v=>dW (kY v) o v) [])/\(out.length=i)) ((0,[])) ⟨(by omega),rfl,rfl⟩ ?_;rintro⟨i,out⟩ ⟨h1,h2,h3⟩;simp[go_sem];apply gw<;>intro a
 ·obtain⟨c,hc⟩:=aC (l:=l) (i:=i) (by omega);have hm:=bB (fun o v=>dW (kY v) o v) [] hc;rw[←h2]at hm;have hil:=H9 (kY c) out c;simp[go_sem];refine GY good (fun(k:Nat)=>[(0,.val (nVers l)),(3,.val (nVers out)),(4,.val (dI i)),(5,.val (dI k))]) (fun(k:Nat)=>(dW (kY c) out c=out.take k++[c]++out.drop k)/\(k<=out.length)) ?_ ?_
  ·simp[go_sem];refine wl good (fun(k:Nat)=>[(0,.val (nVers l)),(3,.val (nVers out)),(4,.val (dI i)),(5,.val (dI k))]) (fun(k:Nat)=>k) (fun(k:Nat)=>(k<=out.length)/\(∀j,k<=j->(h:j<out.length)->kY c out[j]=true)) (out.length) ⟨(by omega),(fun j h1 h2=>absurd h2 (by omega))⟩ ?_;rintro k ⟨h1k,h2k⟩;simp[go_sem];refine wdr good ?_;simp[go_sem];apply gv<;>intro e
   ·have e':=e;obtain⟨d,hd⟩:=aC (l:=out) (i:=k-1) (by omega);have hk1:((k:Int)-1).toNat=k-1:=by omega
    have hk2:(k:Int)-1=((k-1:Nat):Int):=by omega
    simp[go_sem,hc,e,hd,hk2];refine ai ?_;refine cd (lJ d c) ?_;simp[go_sem];apply gw<;>intro f
    ·simp[go_sem,hk2];refine ai ?_;refine nx (k-1) ⟨(by omega),(fun j h1 h2=>by by_cases hj:j=k-1;(subst hj;have hdd:out[k-1]=d:=(by simpa[List.getElem?_eq_getElem h2]using hd);rw[hdd];simp[kY];omega);exact h2k j (by omega) h2)⟩
    ·simp at f;have hb:=GR (p:=kY c) h1k h2k (.inr ⟨d,hd,by simp[kY];omega⟩);simp[go_sem];refine jn (k) ⟨(by rw[dW,hb]),(h1k)⟩
   ·have e':=e;simp at e';have hb:=GR (p:=kY c) h1k h2k (.inl (by omega));simp[go_sem,e];refine jn (k) ⟨(by rw[dW,hb]),(h1k)⟩
  rintro k ⟨h5,h6⟩;simp[go_sem];refine wdf good [(0,[32]),(4,[32,35,36]),(9,[40,41]),(10,[36,41,42]),(14,[42,45,46]),(15,[46,3])] [(0,.val (nVers l)),(3,.val (nVers out)),(4,.val (dI i)),(5,.val (dI k))] [] (by simp[go_sem]) ?_;simp[go_sem,hc];iterate 6 refine ai ?_
  refine nxc (i+1,out.take k++[c]++out.drop k) [3] ⟨(by omega),(by rw[hm,h5]),(by rw[←h5];omega)⟩
 ·simp at a;rw[aK a]at h2;simp[go_sem];grind[bV]
theorem agA {v:Ver}(hk:k<=l.length)(h1:(l.take k).all (fun u=>decide (bP u v<0))=true)(h2:k=l.length\/∃c,l[k]?=some c/\¬bP c v<0):YT l v=k:=by
 refine aeE hk h1 ?_;rcases h2 with h|⟨c,h3,h4⟩
 ·exact .inl h
 ·exact .inr ⟨c,h3,by simpa using h4⟩
theorem LZ (l:List Ver)(v:Ver)(hl:l.length<=1048576):Fk 95 [nVers l,gD v] (.tup [.val (nVers (qN l v)),.val (dB (yJ l v))]):=by
 refine fE good [5,7,13] func95 ntmps95 fun _ _=> ?_;have hix:0<=ix (fun y=>decide (y=v)) l↔l.any (fun y=>decide (y=v))=true:=dK;simp[go_sem];refine ck (oQ _) ?_;simp[go_sem];apply gv<;>intro a
 ·have a':=a;simp at a';have ho:yJ l v=false:=by simp[yJ,a']
  simp[go_sem,a];refine ck (mO _) ?_;simp[go_sem];refine eQ good [] (aR 4) ?_;simp[go_sem];simp[qN,ho]
 ·have a':=a;simp at a';simp[go_sem,a];refine ck (rX _) ?_;simp[go_sem];apply gv<;>intro b
  ·have b':=b;simp at b';have ho:yJ l v=false:=by simp only[yJ];rw[b'];simp
   simp[go_sem,b];refine ck (mO _) ?_;simp[go_sem];refine eQ good [] (aR 4) ?_;simp[go_sem];simp[qN,ho]
  ·have b':=b;simp at b';simp[go_sem,b];refine ck (aaF _ _) ?_;simp[go_sem];apply gv<;>intro d
   ·have d':=d;have ho:yJ l v=false:=by simp only[yJ];rw[hix.1 d];simp
    simp[go_sem,d];refine ck (mO _) ?_;simp[go_sem];refine eQ good [] (aR 4) ?_;simp[go_sem];simp[qN,ho]
   ·have d':=d;simp at d';simp[go_sem,d];apply gw<;>intro e
    ·have ho:yJ l v=false:=by simp only[yJ];rw[show decide (l.length≠8)=false by simp;omega];simp
     simp[go_sem];refine ck (mO _) ?_;simp[go_sem];refine eQ good [] (aR 4) ?_;simp[go_sem];simp[qN,ho]
    ·have hna:l.any (fun y=>decide (y=v))=false:=by rw[Bool.eq_false_iff];intro h;exact d (hix.2 h)
     have ho:yJ l v=true:=by simp only[yJ];rw[hna,a',b'];simp;omega
     simp[go_sem];refine GY good (fun(k:Nat)=>[(0,.val (nVers l)),(3,.own (.bx true (gD v))),(6,.val (dI k))]) (fun(k:Nat)=>(YT l v=k)/\(k<=l.length)) ?_ ?_
     ·simp[go_sem];refine wl good (fun(k:Nat)=>[(0,.val (nVers l)),(3,.own (.bx true (gD v))),(6,.val (dI k))]) (fun(k:Nat)=>l.length-k) (fun(k:Nat)=>(k<=l.length)/\((l.take k).all (fun u=>decide (bP u v<0))=true)) (0) ⟨(by omega),rfl⟩ ?_;rintro k ⟨h1k,h2k⟩;simp[go_sem];refine wdr good ?_;simp[go_sem];apply gv<;>intro f
      ·have f':=f;obtain⟨c,hc⟩:=aC (l:=l) (i:=k) (by omega);have hcc:l[k]=c:=by simpa[List.getElem?_eq_getElem f]using hc
       simp[go_sem,f,hcc];refine cd (lJ c v) ?_;simp[go_sem];apply gw<;>intro g
       ·simp[go_sem];refine ai ?_;refine nx (k+1) ⟨(by omega),(aL hc h2k (by simpa using g))⟩
       ·simp at g;simp[go_sem];refine jn (k) ⟨(agA h1k h2k (.inr ⟨c,hc,by omega⟩)),(h1k)⟩
      ·have f':=f;simp at f';simp[go_sem,f];refine jn (k) ⟨(agA h1k h2k (.inl (by omega))),(h1k)⟩
     rintro k ⟨h5,h6⟩;simp[go_sem];refine wdf good [(0,[43]),(4,[43,46,47]),(6,[48,49]),(7,[47,49,50]),(11,[50,53,54]),(12,[54,4]),(13,[5])] [(0,.val (nVers l)),(3,.own (.bx true (gD v))),(6,.val (dI k))] [] (by simp[go_sem]) ?_;simp[go_sem];iterate 5 refine ai ?_
     refine eQ good [] (aR 4) ?_;simp[go_sem];simp[qN,ho,h5]
theorem agJ (o:List Ver)(c:Ver):(kD o c).length<=o.length+1:=by
 unfold kD;split
 ·simp
 ·split
  ·simp
  ·split<;>simp
theorem TR (l:List Ver):(bQ l).length<=l.length:=by
 have:=wV kD agJ l [];simpa[bQ]using this
theorem ZP (l:List Ver):(lZ l).length=l.length:=by
 have:=uQ uK l [];simpa[lZ]using this
theorem yZ (l:List Ver):(bV l).length=l.length:=by
 have:=uQ kY l [];simpa[bV]using this
theorem ai2 (l:List Ver)(v:Ver):(qN l v).length<=l.length+1:=by
 unfold qN;split
 ·simp;omega
 ·omega
theorem agN (l:List Ver)(c:Ver):lZ (l++[c])=dW (uK c) (lZ l) c:=by simp[lZ,List.foldl_append]
theorem EX (l:List Ver)(hl:l.length<=8)(hv:eO l=true):Fk 42 [nVers l] (.tup [.val (nVers (kP l)),.val (nVers (dQ l))]):=by
 refine fE good [19,48] func42 ntmps42 fun _ _=> ?_;have hcl:=TR l;have hap:apart (bQ l)=apart (bQ l):=rfl;have hks:kP l=bV (zG l).2.1:=rfl;have hrs:dQ l=bV (zG l).2.2:=rfl;have hst:zG l=(lZ (mM (bQ l))).foldl (mQ (apart (bQ l))) ([],apart (bQ l),[]):=rfl;simp[go_sem];refine ck (BC l (by omega) hv) ?_;generalize bQ l=cur at hcl hap hst|-
 simp[go_sem];refine wlc good [6] (fun((i,A,M):(Nat)×(List Ver)×(List Ver))=>[(4,.own (oVers cur)),(5,.own (oVers A)),(6,.val (nVers M)),(7,.val (dI i))]) (fun(i,A,M)=>(cur).length-i) (fun(i,A,M)=>(i<=(cur).length)/\(A=apart (cur.take i)/\M=lZ (mM (cur.take i)))/\(A.length<=i/\M.length<=i)) ((0,[],[])) ⟨(by simp),(⟨rfl,rfl⟩),(by simp)⟩ ?_;rintro⟨i,A,M⟩ ⟨h1,h2,h3⟩;simp[go_sem];apply gw<;>intro a
 ·obtain⟨c,hc⟩:=aC (l:=cur) (i:=i) (by omega);have h1f:=LW hc;have h2f:=L9 hc;simp[go_sem,hc];apply gw<;>intro b
  ·simp at b;simp only[b,Bool.not_false,Bool.false_eq_true,if_true,if_false,List.append_nil]at h1f h2f;simp[go_sem,hc];iterate 2 refine ai ?_
   refine nxc (i+1,A++[c],M) [6] ⟨(by omega),(⟨by rw[h2f,h2.1],by rw[h1f,h2.2]⟩),(by simp;omega)⟩
  ·simp at b;simp only[b,Bool.not_true,Bool.false_eq_true,if_true,if_false,List.append_nil]at h1f h2f;have hil:=H9 (uK c) M c;simp[go_sem];refine GY good (fun(k:Nat)=>[(4,.own (oVers cur)),(5,.own (oVers A)),(6,.val (nVers M)),(7,.val (dI i)),(8,.val (dI k))]) (fun(k:Nat)=>(dW (uK c) M c=M.take k++[c]++M.drop k)/\(k<=M.length)) ?_ ?_
   ·simp[go_sem];refine wl good (fun(k:Nat)=>[(4,.own (oVers cur)),(5,.own (oVers A)),(6,.val (nVers M)),(7,.val (dI i)),(8,.val (dI k))]) (fun(k:Nat)=>k) (fun(k:Nat)=>(k<=M.length)/\(∀j,k<=j->(h:j<M.length)->uK c M[j]=true)) (M.length) ⟨(by omega),(fun j h1 h2=>absurd h2 (by omega))⟩ ?_;rintro k ⟨h1k,h2k⟩;simp[go_sem];refine wdr good ?_;simp[go_sem];apply gv<;>intro e
    ·have e':=e;obtain⟨d,hd⟩:=aC (l:=M) (i:=k-1) (by omega);have hk1:((k:Int)-1).toNat=k-1:=by omega
     have hk2:(k:Int)-1=((k-1:Nat):Int):=by omega
     simp[go_sem,hc,e,hd,hk2];refine ai ?_;apply gw<;>intro f
     ·simp[go_sem,hk2];refine ai ?_;refine nx (k-1) ⟨(by omega),(fun j h1 h2=>by by_cases hj:j=k-1;(subst hj;have hdd:M[k-1]=d:=(by simpa[List.getElem?_eq_getElem h2]using hd);rw[hdd];simp[uK];omega);exact h2k j (by omega) h2)⟩
     ·simp at f;have hb:=GR (p:=uK c) h1k h2k (.inr ⟨d,hd,by simp[uK];omega⟩);simp[go_sem];refine jn (k) ⟨(by rw[dW,hb]),(h1k)⟩
    ·have e':=e;simp at e';have hb:=GR (p:=uK c) h1k h2k (.inl (by omega));simp[go_sem,e];refine jn (k) ⟨(by rw[dW,hb]),(h1k)⟩
   rintro k ⟨h5,h6⟩;simp[go_sem];refine wdf good [(0,[57]),(4,[57,60,61]),(9,[65,66]),(10,[61,66,67]),(14,[67,70,71]),(15,[71,6])] [(4,.own (oVers cur)),(5,.own (oVers A)),(6,.val (nVers M)),(7,.val (dI i)),(8,.val (dI k))] [] (by simp[go_sem]) ?_;simp[go_sem,hc];iterate 6 refine ai ?_
   refine nxc (i+1,A,M.take k++[c]++M.drop k) [6] ⟨(by omega),(⟨by rw[h2f,h2.1],by rw[h1f,agN,←h2.2,h5]⟩),(by rw[←h5];omega)⟩
 ·simp at a;rw[aK a]at h2;obtain⟨rfl,rfl⟩:=h2;clear hap;generalize apart cur=A at*
  generalize lZ (mM cur)=M at*
  simp[go_sem];refine ck (mO _) ?_;simp[go_sem];refine wlc good [11,9] (fun((i,g,kp,rf):(Nat)×(L2)×(List Ver)×(List Ver))=>[(5,.own (oVers A)),(6,.val (nVers M)),(9,.val (nVers kp)),(10,.own (oVers rf)),(11,.val (aM g)),(12,.val (dI i))]) (fun(i,g,kp,rf)=>(M).length-i) (fun(i,g,kp,rf)=>(i<=(M).length)/\((g,kp,rf)=(M.take i).foldl (mQ A) ([],A,[]))/\(g.length<=i/\∀l∈g,l.length<=2^i)/\(kp.length<=A.length+i/\rf.length<=i)) ((0,[],A,[])) ⟨(by simp),(rfl),(by simp),(by simp)⟩ ?_;rintro⟨i,g,kp,rf⟩ ⟨h1m,h2m,h3m,h4m⟩;simp[go_sem];apply gw<;>intro am
  ·obtain⟨cm,hcm⟩:=aC (l:=M) (i:=i) (by omega);have hm:=bB (mQ A) ([],A,[]) hcm;rw[←h2m]at hm;have hp:2^i<=256:=Nat.le_trans (Nat.pow_le_pow_right (by omega) (show i<=8 by omega)) (by decide);have hp2:2^(i+1)=2*2^i:=by omega
   have hp1:1<=2^i:=Nat.one_le_two_pow;have hj:=Y5 (m:=2^i) hp1 h3m.2 cm.a cm.b;have hsl:=yZ kp;have hal:=ai2 (bV kp) cm;simp[go_sem];refine wdt good 12 ?_;simp[go_sem,hcm];refine cd (EO g cm.a cm.b (by omega) (fun l hl=>by have:=h3m.2 l hl;omega)) ?_;simp[go_sem];refine ck (SB (jD g cm.a cm.b) A (by omega) (fun l hl=>by have:=hj.2 l hl;omega) (by omega)) ?_;simp[go_sem];apply gw<;>intro b
   ·simp at b;have hu:mQ A (g,kp,rf) cm=(jD g cm.a cm.b,qN (bV kp) cm,rf):=if_pos (by simpa using b);simp[go_sem];refine wdf good [(7,[105,98]),(10,[106,9])] [(5,.own (oVers A)),(6,.val (nVers M)),(9,.val (nVers kp)),(10,.own (oVers rf)),(11,.val (aM (jD g cm.a cm.b))),(12,.val (dI i))] [] (by simp[go_sem]) ?_;simp[go_sem];refine cd (vT kp (by omega)) ?_;simp[go_sem,hcm];refine cd (LZ (bV kp) cm (by omega)) ?_;simp[go_sem];refine ai ?_;refine nxc (i+1,jD g cm.a cm.b,qN (bV kp) cm,rf) [11,9] ⟨(by omega),(by rw[hm,hu]),(by rw[hp2];exact⟨by omega,hj.2⟩),(by omega)⟩
   ·simp at b;have hu:mQ A (g,kp,rf) cm=(g,kp,rf++[cm]):=if_neg (by simpa using b);simp[go_sem,hcm];iterate 2 refine ai ?_
    refine nxc (i+1,g,kp,rf++[cm]) [11,9] ⟨(by omega),(by rw[hm,hu]),(by rw[hp2];exact⟨by omega,fun l hl=>by have:=h3m.2 l hl;omega⟩),(by simp;omega)⟩
  ·simp at am;rw[aK am,←hst]at h2m;have e1:(zG l).2.1=kp:=by rw[←h2m]
   have e2:(zG l).2.2=rf:=by rw[←h2m]
   rw[hks,hrs,e1,e2];simp[go_sem];refine eQ good [] (aR 10) ?_;simp[go_sem];refine ck (vT kp (by omega)) ?_;simp[go_sem];refine ck (vT rf (by omega)) ?_;simp[go_sem]
theorem fU (l:List Ver)(hl:l.length<=1048576):Fk 137 [nVers l] (.own (oVers l)):=by
 refine fE good [2,5] func137 ntmps137 fun _ _=> ?_;have hle:l.length<=1073741824:=by omega
 simp[go_sem];refine aDJ good 1 ?_;simp[go_sem,hle];intro hnil;subst hnil;try simp[go_sem,hle]
 refine eQ good [] (JU (L:=[(2,.own (oVers []))]) (by simp[go_sem])) ?_;simp[go_sem]
theorem amY {α β:Type}(f:β->α->β)(z:β){l:List α}{c:α}(h:l[i]?=some c):(l.take (i+1)).foldl f z=f ((l.take i).foldl f z) c:=bB f z h
theorem ad3 (l:List Ver):(apart l).length+(mM l).length=l.length:=by
 induction l with
 |nil=>rfl
 |cons v l ih=>unfold apart mM at ih|-;cases hv:v.same<;>simp[hv]<;>omega
def byT (a b:Ver):Int:=cmpI b.time a.time
theorem gT (l:List Ver):∀a∈l,∀b∈l,bK prog 134 [gD a,gD b] (fun r=>r= .val (dI (byT a b))):=fun a _ b _=>A9 a b
theorem gC (l:List Ver):∀a∈l,∀b∈l,bK prog 129 [gD a,gD b] (fun r=>r= .val (dI (bP a b))):=fun a _ b _=>qY a b
theorem awM (h:∀v∈l,bH v=true)(hc:bH c=true):∀v∈l++[c],inT v.a/\inT v.b:=fun v hv=>by
 have hv2:bH v=true:=by
  rcases List.mem_append.1 hv with h2|h2
  ·exact h v h2
  ·rw[List.mem_singleton.1 h2];exact hc
 exact⟨(jZ hv2).1,(jZ hv2).2.1⟩
theorem an7 (l:List Ver):eG (cfB byT) l=lZ l:=aeH l
theorem ER (l:List Ver)(hl:l.length<=1048576)(hv:eO l=true):Fk 65 [nVers l] (.tup [.own (oVers (kP l)),.own (oVers (dQ l))]):=by
 refine fE good [20] func65 ntmps65 fun _ _=> ?_;have h8:=(EC hv).2.2;have hse:=Y8 hv;obtain⟨hcv,_⟩:=akY hv;have hcl:=YU l;simp[go_sem];refine ck (BJ l hl hv) ?_;unfold X3 at hse;generalize bQ l=cur at*
 simp[go_sem];refine wl good (fun((i,ke,op):(Nat)×(List Ver)×(List Ver))=>[(4,.own (oVers ke)),(5,.val (.one (.slice none 0 0))),(6,.own (oVers op)),(12,.own (oVers cur)),(13,.val (dI cur.length)),(14,.val (dI i))]) (fun(i,ke,op)=>cur.length-i) (fun(i,ke,op)=>(i<=cur.length)/\(ke=apart (cur.take i))/\(op=mM (cur.take i))) ((0,[],[])) ⟨(by omega),(rfl),(rfl)⟩ ?_;rintro⟨i,ke,op⟩ ⟨h1,h2,h3⟩;simp[go_sem];apply gw<;>intro a
 ·obtain⟨c,hc⟩:=aC (l:=cur) (i:=i) (by omega);have hs1:=LW hc;have hs2:=L9 hc;have hm:=ad3 (cur.take i);rw[←h2,←h3]at hm;have htl:(cur.take i).length<=8:=by simp;omega
  simp[go_sem,hc];apply gw<;>intro b
  ·simp[go_sem];iterate 2 refine ai ?_
   refine nx (i+1,ke,op++[c]) ⟨(by omega),(by rw[hs2,h2];simp[b]),(by rw[hs1,h3];simp[b])⟩
  ·simp[go_sem];iterate 2 refine ai ?_
   refine nx (i+1,ke++[c],op) ⟨(by omega),(by rw[hs2,h2];simp[b]),(by rw[hs1,h3];simp[b])⟩
 ·simp at a;have hcur:cur.take i=cur:=List.take_of_length_le (by omega);rw[hcur]at h2 h3;have hm:=ad3 cur;rw[←h2,←h3]at hm;have hbt:=an7 op;have hbl:=ZP op;simp[go_sem];refine gX rfl (ak8 op byT 134 aD2 aDG (gT op) (by omega)) ?_;rintro r d ⟨rfl,rfl⟩;have hLv:∀v∈lZ op,bH v=true:=fun v hv=>hcv v (by have:=(zN op).mem_iff.1 hv;rw[h3]at this;exact(List.mem_filter.1 this).1);have hkv:∀v∈ke,bH v=true:=fun v hv=>hcv v (by rw[h2]at hv;exact(List.mem_filter.1 hv).1);rw[←h2,←h3]at hse;generalize lZ op=L at*
  simp[go_sem,hbt];refine eQ good [] (aR 6) ?_;simp[go_sem];refine wl good (fun((j,k2,re):(Nat)×(List Ver)×(List Ver))=>[(4,.own (oVers k2)),(5,.own (oVers re)),(6,.val (nVers L)),(31,.val (nVers L)),(32,.val (dI L.length)),(33,.val (dI j))]) (fun(j,k2,re)=>L.length-j) (fun(j,k2,re)=>(j<=L.length)/\((L.take j).foldl xZ (ke,[])=(k2,re))/\(k2.length+re.length=ke.length+j)/\(∀v∈k2,bH v=true)) ((0,ke,[])) ⟨(by omega),(rfl),(by simp),(hkv)⟩ ?_;rintro⟨j,k2,re⟩ ⟨h4,h5,h6,h7⟩;simp[go_sem];apply gw<;>intro d
  ·obtain⟨c,hc⟩:=aC (l:=L) (i:=j) (by omega);have hfs:=amY xZ (ke,[]) hc;rw[h5]at hfs;have hcv2:=hLv c (List.mem_of_getElem? hc);have hin:=awM h7 hcv2;simp[go_sem,hc];refine wdf good [(1,[37,38,4]),(3,[39,40]),(4,[38,40,41])] [(4,.own (oVers k2)),(5,.own (oVers re)),(6,.val (nVers L)),(10,.own (.bx true (gD c))),(31,.val (nVers L)),(32,.val (dI L.length)),(33,.val (dI j))] [] (by simp[go_sem]) ?_;simp[go_sem];refine cf (fU k2 (by omega)) ?_;simp[go_sem];refine ai ?_;refine cdz (aaU (k2++[c]) (by simp;omega) hin) ?_;simp[go_sem];apply gw<;>intro e
   ·simp[go_sem];iterate 2 refine ai ?_
    refine nx (j+1,k2,re++[c]) ⟨(by omega),(by rw[hfs,xZ,if_pos e]),(by simp;omega),(h7)⟩
   ·simp[go_sem];iterate 2 refine ai ?_
    refine nx (j+1,k2++[c],re) ⟨(by omega),(by rw[hfs,xZ,if_neg (by simp[e])]),(by simp;omega),(fun v hv=>by rcases List.mem_append.1 hv with h|h;(exact h7 v h);(rw[List.mem_singleton.1 h];exact hcv2))⟩
  ·simp at d;rw[List.take_of_length_le (by omega)]at h5;rw[h5]at hse;have hk:=KO k2;have hr:=KO re;have hk2:=hse.1;have hr2:=hse.2;simp[go_sem];refine gX rfl (ahB k2 bP 129 aAG az9 (gC k2) (by omega)) ?_;rintro r d ⟨rfl,rfl⟩;simp[go_sem,hk,hk2];refine gX rfl (ahB re bP 129 aAG az9 (gC re) (by omega)) ?_;rintro r d ⟨rfl,rfl⟩;simp[go_sem,hr,hr2]
end Go.Proofs.YtemiopbofamgcaaGreatDoor
end
section
namespace Go.Dv
open Go.RowKit
variable [fH]
variable {P:Program}{f:FuncId}{fn:Func}{c:Code}{n:Nat}{rs:List ResultVar}{ds:List D}{m:Nat}{dm:D}{Q:S->Prop}
theorem aDA {T:TypeId->TyE}(hG:∀t,Good P T t) (hf:P.funcs[f]?=some fn) (hb:fn.body=some c) (hn':fn.ntmps=n) (hn:n<=1000000) (hd:ds.length<=n)
  (hr:fn.results=rs.toArray) (h:∀w0 ow0,OkC P n w0 ow0 none c (H5 ds m dm) (ad1 T rs Q)):asK P f ds m dm Q:=by
 subst hn';intro w ow vs t l ht hL hnew hvs hm hargs hV;have hm6:m<1000000:=by omega
 refine calls_of_wp hf hb ?_
 have hav:∀i,i<ds.length->aval {tmps:=vs++Array.replicate (fn.ntmps-vs.size) undef,defers:=[]} i=vs.getD i undef:=by
  intro i hi;unfold aval;rw[if_pos (by omega)];simp only[Array.getD_eq_getD_getElem?];rw[Array.getElem?_append_left (by omega)]
 have hfit:Fits P fn.ntmps w (zV l m ow) (zV l m ow) (H5 ds m dm) {tmps:=vs++Array.replicate (fn.ntmps-vs.size) undef,defers:=[]} w:=by
  refine⟨rfl,by simp;omega,hn,(hL.mono fun b o h1 h2=>⟨h1,fQ h2⟩),⟨rfl,rfl,rfl,Nat.le_refl _,fun _ _ _=>rfl⟩,fun _ _ h=>h,fun b hb=>fQ (hnew b hb),?_,fun _ _ _ h=>⟨rfl,h⟩,fun i=> ?_⟩
  ·unfold H5 eT;rw[jQ (by unfold far0;omega),List.getElem?_eq_none (by unfold far0;omega)]
  ·by_cases him:i=m
   ·subst him;simp only[H5,put_eq,SV];rw[hav i hm];exact V.tr (fun b _=>⟨fun ho=>⟨rfl,fQ ho⟩,fun q hq=>⟨rfl,XU hq⟩⟩) hV
   ·simp only[H5,jQ him];unfold eT;cases hdi:ds[i]? with
    |none=>trivial
    |some d=>
     have hi:i<ds.length:=(List.getElem?_eq_some_iff.1 hdi).1;simp only[SV];rw[hav i hi];exact V.trf (fun b _ ho=>⟨rfl,fQ ho⟩) (hargs i d hdi him)
 refine h w _ _ w ⟨_,hfit⟩ (by intro m v e;cases e) _ fun e s' a' w' hK hR hp'=> ?_
 have key:(uX T rs s' fun ds s2=>Q (nV ds))->bodyPost P fn (fun e w'=>∃v ow' r,e= .returned v/\Q r/\w'.os=w.os/\w'.tape=w.tape/\w'.output=w.output/\w.heap.size<=w'.heap.size/\
   (∀b,b<w.heap.size->(∀q,ow b≠some (q++l))->w'.heap[b]?=w.heap[b]?/\ow' b=ow b)/\(∀b,w'.heap.size<=b->ow' b=none)/\S.plain r=true/\∀s a,SV P w' ow' s a t r v) .ret a' w':=by
  intro hK;obtain⟨ow1,hf1⟩:=hR;obtain⟨vals,ow2,s2,ds2,hQ,hf2,hl1,hl2,hrun,hvals,hkeep⟩:=hf1.retL hG (fun k=>if rs.length=1 then[]else[k]) rs 0 hK
  have hres:(results fn a'.tmps).run P w'= .ok (if h:vals.toArray.size=1 then vals.toArray[0]else .tuple vals.toArray) w':=by
   unfold results;rw[hr];have hb:∀{α β:Type}(x:Sem α) (g:α->Sem β),Sem.run P (Sem.bind x g) w'=(Sem.run P x w').andThen fun a w'=>Sem.run P (g a) w':=fun x g=>Sem.run_bind ..;simp only[List.mapM_toArray,Functor.map,Sem.run_bind,Sem.run_pure];rw[hb,hrun _ (QD a'.tmps P w' _ (fun _=>rfl) fun _ _=>rfl)];rfl
  refine⟨hf1.nodef,_,hres,?_⟩
  have hmiss:∀b,b<w.heap.size->(∀q,ow b≠some (q++l))->w'.heap[b]?=w.heap[b]?/\(ow b=none->ow2 b=none)/\(∀lab,ow b=some lab->ow2 b=some (lab++[far0])):=by
   intro b hlt hno;cases ho:ow b with
   |none=>exact⟨hf2.bel.block b hlt (fQ ho),fun _=>hf2.own b hlt (fQ ho),fun lab e=>by cases e⟩
   |some lab=>
    have hlab:=UK (l:=l) (m:=m) ho (fun hu=>by obtain⟨q,hq⟩:=hu;exact hno q (by rw[ho,hq]));obtain⟨g1,g2⟩:=hf2.keep b hlt lab hlab;exact⟨g1,fun e=>(by cases e),fun lab' e=>by obtain rfl:=Option.some.inj e;exact g2⟩
  have hnone:∀b,ow2 b=none->dR w l m t ow ow2 b=none:=by
   intro b hb;unfold dR;split
   ·rename_i hc;cases ho:ow b with
    |none=>rfl
    |some lab=>have:=(hmiss b hc.1 hc.2).2.2 lab ho;rw[hb]at this;cases this
   ·rw[hb]
  have hlast:∀b q j,ow2 b=some (q++[j])->j≠far0->¬(b<w.heap.size/\∀q,ow b≠some (q++l)):=by
   rintro b q j hq hj ⟨h1,h2⟩;obtain⟨_,g1,g2⟩:=hmiss b h1 h2;cases ho:ow b with
   |none=>rw[g1 ho]at hq;cases hq
   |some lab=>
    rw[g2 lab ho]at hq;have:=congrArg List.getLast? (Option.some.inj hq);simp at this;exact hj this.symm
  have hmf:m≠far0:=by unfold far0;omega
  have hmr:m≠res0:=by unfold res0;omega
  have hkm:Keeps w' ow2 [m] w' (dR w l m t ow ow2) l:=fun b _=>⟨fun ho=>⟨rfl,hnone b ho⟩,fun q hq=>⟨rfl,by
   unfold dR;rw[if_neg (hlast b q m hq hmf),hq];simp⟩⟩
  have hk:∀l2,Keeps w' ow2 (l2++[res0]) w' (dR w l m t ow ow2) (l2++[t]):=fun l2 b _=>⟨fun ho=>⟨rfl,hnone b ho⟩,fun q hq=>⟨rfl,by
   have hq':ow2 b=some ((q++l2)++[res0]):=by rw[hq];simp
   unfold dR;rw[if_neg (hlast b _ res0 hq' (by unfold res0 far0;omega)),hq'];simp[Ne.symm hmr]⟩⟩
  have hq:Quiet w' ow2 w' (dR w l m t ow ow2):=fun b _ ho=>⟨rfl,hnone b ho⟩
  have part:∀(j:Nat) (p:D×Bool),ds2[j]?=some p->∃v,vals[j]?=some v/\(if(p.2||p.1.frz)=true then V P w' (dR w l m t ow ow2) p.1.fz [] v else V P w' (dR w l m t ow ow2) p.1 ((if rs.length=1 then[]else[j])++[t]) v):=by
   intro j p hj;obtain⟨v,h1,h2,h3⟩:=hvals j p hj;rw[Nat.zero_add]at h2;refine⟨v,h1,?_⟩;by_cases hp:(p.2||p.1.frz)=true
   ·rw[if_pos hp]
    have hfz:p.1.fz=p.1:=by
     rcases Bool.or_eq_true _ _▸hp with hp|hp
     ·exact h3 hp
     ·exact D.MW hp
    rw[←hfz]at h2;exact V.trf hq h2
   ·rw[if_neg hp];exact V.tr (hk _) h2
  refine⟨_,dR w l m t ow ow2,nV ds2,rfl,hQ,hf2.bel.os,hf2.bel.tape,hf2.bel.output,hf2.bel.size,fun b hb hno=>⟨(hmiss b hb hno).1,by unfold dR;rw[if_pos ⟨hb,hno⟩]⟩,fun b hb=>hnone b (hf2.new b hb),?_,fun s a=> ?_⟩
  ·unfold nV;split
   ·split<;>rfl
   ·rfl
  ·by_cases hone:rs.length=1
   ·have hd1:ds2.length=1:=by rw[hl1,hone]
    have hv1:vals.length=1:=by rw[hl2,hone]
    obtain⟨⟨d,b⟩,rfl⟩:=List.length_eq_one_iff.1 hd1;obtain⟨v,rfl⟩:=List.length_eq_one_iff.1 hv1;obtain⟨v',h1,h2⟩:=part 0 (d,b) rfl;obtain rfl:v=v':=by simpa using h1
    rw[if_pos hone]at h2;simp only[nV];by_cases hp:(b||d.frz)=true
    ·rw[if_pos hp]at h2|-
     exact h2
    ·rw[if_neg hp]at h2|-
     exact h2
   ·have hd1:∀p,ds2≠[p]:=fun p e=>by rw[e]at hl1;simp at hl1;exact hone hl1.symm
    have htup:nV ds2= .tup (ds2.map fun p=>if p.2||p.1.frz then .val p.1 else .own p.1):=by
     unfold nV;split
     ·rename_i d b;exact absurd rfl (hd1 _)
     ·rfl
    rw[htup];refine⟨vals.toArray,?_,by simp[hl1,hl2],fun j x hx=> ?_⟩
    ·rw[dif_neg];simp[hl2,hone]
    ·simp only[List.getElem?_map,Option.map_eq_some_iff]at hx;obtain⟨p,hp,rfl⟩:=hx;obtain⟨v,h1,h2⟩:=part j p hp;have hv:vals.toArray.getD j undef=v:=by simp[Array.getD_eq_getD_getElem?,h1]
     rw[hv];by_cases hpf:(p.2||p.1.frz)=true
     ·rw[if_pos hpf]at h2|-
      exact h2
     ·rw[if_neg hpf]at h2|-
      rw[if_neg hone]at h2;exact h2
 cases e with
 |normal=>exact key hK
 |ret=>exact key hK
 |_=>exact hK.elim
theorem fT {T:TypeId->TyE}(hG:∀t,Good P T t) (sp:List Nat) (hf:P.funcs[f]?=some fn) (hn':fn.ntmps=n) (h:∀w0 ow0,@WC _ P T n w0 ow0 none sp ⟨c⟩ ((eT ds).put m (.own dm)) ⟨ad1 T rs Q⟩)
  (hb:fn.body=some c:=by rfl) (hr:fn.results=rs.toArray:=by rfl) (hn:n<=1000000:=by decide) (hd:ds.length<=n:=by simp):asK P f ds m dm Q:=aDA hG hf hb hn' hn hd hr fun w0 ow0=>wcI hG sp (h w0 ow0) (pX c)
end Go.Dv
end
section
namespace Go.Proofs.YtemiopbofamgcaaGreatDoor
open Go.Dv Go.Pl Go.Proofs.Tryz
theorem AV (v:Ver):Fk 153 [gD v] (.val (dB v.same)):=by
 refine fE good [] func153 ntmps153 fun _ _=> ?_;simp[go_sem]
theorem ahJ (l:List Ver)(p:Ver->Bool)(g:FuncId)(E:Dv.Enters prog g)(U:T (1000000+g)=⟨.no,0,.any 0⟩)(G:∀c∈l,bK prog g [gD c] (fun r=>r= .val (dB (p c))))(hl:l.length<=1048576):Fk 231 [nVers l,.one (.func (.func g) #[] #[])] (.val (dI (ix p l))):=by
 refine fE good [] func231 ntmps231 fun _ _=> ?_;simp[go_sem];refine wl good (fun(i:Nat)=>[(0,.val (nVers l)),(1,.val (.one (.func (.func g) #[] #[]))),(7,.val (dI l.length)),(8,.val (dI i))]) (fun(i:Nat)=>(l).length-i) (fun(i:Nat)=>(i<=(l).length)/\(((l).take i).any p=false)) (0) ⟨(by omega),rfl⟩ ?_;rintro i ⟨h1,h2⟩;simp[go_sem];apply gw<;>intro a
 ·obtain⟨c,hc⟩:=aC (l:=l) (i:=i) (by omega);simp[go_sem,E,U,hc];refine ck ((G c (List.mem_of_getElem? hc))) ?_;simp[go_sem];apply gw<;>intro e
  ·have hn:=vH hc h2 (by simp[e]);simp[go_sem,hn]
  ·simp[go_sem];refine ai ?_;refine nx (i+1) ⟨(by omega),(eF hc h2 (by simp[e]))⟩
 ·simp at a;have hf:=jU h2 a;have hx:=kV hf;simp[go_sem,hx]
variable {α:Type}{p:α->Bool}{l:List α}
theorem asL (h:ix p l≠ -1):∃i:Nat,ix p l=i/\i<l.length/\(∀k c,k<i->l[k]?=some c->p c=false)/\∀c,l[i]?=some c->p c=true:=by
 unfold ix at h|-
 cases hf:l.findIdx? p with
 |none=>rw[hf]at h;exact absurd rfl h
 |some i=>
  rw[List.findIdx?_eq_some_iff_getElem]at hf;obtain⟨h1,h2,h3⟩:=hf;refine⟨i,rfl,h1,fun k c hk hc=> ?_,fun c hc=> ?_⟩
  ·have hkl:k<l.length:=by omega
   rw[List.getElem?_eq_getElem hkl]at hc;have:=h3 k hk;rw[Option.some.inj hc]at this;simpa using this
  ·rw[List.getElem?_eq_getElem h1]at hc;rw[Option.some.inj hc]at h2;exact h2
variable {i:Nat}
theorem atN (h:∀k c,k<i->l[k]?=some c->p c=true):(l.take i).filter p=l.take i:=by
 refine List.filter_eq_self.2 fun c hc=> ?_;obtain⟨k,hk,hkc⟩:=List.mem_iff_getElem.1 hc;have hk3:k<min i l.length:=by simpa using hk
 have hk4:k<l.length:=by omega
 exact h k c (by omega) (by rw[←hkc,List.getElem_take,List.getElem?_eq_getElem hk4])
theorem aaI {m:List α}{c:α}(h:i<m.length):(m.set i c).take (i+1)=m.take i++[c]:=by
 rw[aU (c:=c) (by rw[List.getElem?_set_self h])];congr 1;rw[List.take_set_of_le (Nat.le_refl _)]
theorem aBB (l:List Ver)(p:Ver->Bool)(g:FuncId)(E:Dv.Enters prog g)(U:T (1000000+g)=⟨.no,0,.any 0⟩)(G:∀c∈l,bK prog g [gD c] (fun r=>r= .val (dB (p c))))(hl:l.length<=1048576):asK prog 152 [.one (.bool false),.one (.func (.func g) #[] #[])] 0 (oVers l) (fun res'=>res'= .val (nVers (l.filter fun v=> !p v))):=by
 refine fT good [7,22,24] func152 ntmps152 fun _ _=> ?_;simp[go_sem];refine ck (ahJ l p g E U G hl) ?_;simp[go_sem];apply gw<;>intro a
 ·have hfl:(l.filter fun v=> !p v)=l:=List.filter_eq_self.2 fun v hv=>by cases hpv:p v;rfl;exact absurd (dK.2 (List.any_eq_true.2 ⟨v,hv,hpv⟩)) (by omega)
  simp[go_sem];refine eQ good [] (aR 4) ?_;simp[go_sem,hfl]
 ·obtain⟨i0,hi0,hil,hpre,hat⟩:=asL (p:=p) (l:=l) a;obtain⟨c0,hc0⟩:=aC (l:=l) (i:=i0) hil;have hpc0:=hat c0 hc0;have h40:l.take i0=(l.take (i0+1)).filter fun v=> !p v:=by rw[aU hc0,List.filter_append,atN (fun k c hk hc=>by rw[hpre k c hk hc];rfl)];simp[hpc0]
  simp[go_sem,hi0];refine ai ?_;refine wl good (fun((j,i,m):(Nat)×(Nat)×(List Ver))=>[(0,.own (oVers m)),(1,.val (.one (.func (.func g) #[] #[]))),(5,.val (dI i)),(6,.val (dI j))]) (fun(j,i,m)=>l.length-j) (fun(j,i,m)=>(j<=l.length)/\(i<j)/\(m.length=l.length)/\(m.take i=(l.take j).filter fun v=> !p v)/\(∀k,j<=k->m[k]?=l[k]?)) ((i0+1,i0,l)) ⟨(by omega),(by omega),(rfl),(h40),(fun _ _=>rfl)⟩ ?_;rintro⟨j,i,m⟩ ⟨h1,h2,h3,h4,h5⟩;simp[go_sem,h3];apply gw<;>intro b
  ·obtain⟨c,hc⟩:=aC (l:=l) (i:=j) (by omega);have hm:=(h5 j (Nat.le_refl _)).trans hc;have hil2:i<m.length:=by omega
   simp[go_sem,E,U,hm];refine ck ((G c (List.mem_of_getElem? hc))) ?_;simp[go_sem];apply gw<;>intro d
   ·simp at d;obtain⟨m2,hm2⟩:∃m2,m.set i c=m2:=⟨_,rfl⟩;have hst:(m.map gD).set i (gD c)=m2.map gD:=by rw[←List.map_set,hm2]
    obtain⟨ci,hmi⟩:=aC (l:=m) (i:=i) hil2;simp[go_sem,hst,hmi];iterate 2 refine ai ?_
    refine nx (j+1,i+1,m2) ⟨(by omega),(by omega),(by rw[←hm2,List.length_set];exact h3),(by rw[←hm2,aaI hil2,h4,aU hc,List.filter_append];simp[d]),(fun k hk=>by rw[←hm2,List.getElem?_set_ne (by omega)];exact h5 k (by omega))⟩
   ·simp at d;simp[go_sem];refine ai ?_;refine nx (j+1,i,m) ⟨(by omega),(by omega),(h3),(by rw[h4,aU hc,List.filter_append];simp[d]),(fun k hk=>h5 k (by omega))⟩
  ·simp at b;have hjl:j=l.length:=by omega
   rw[hjl,List.take_length]at h4;have hil3:i<=m.length:=by omega
   simp[go_sem];refine aCD good 2 ?_;have hz:D.fzs (List.replicate (l.length-i) (D.any 4))=List.replicate (l.length-i) (D.any 4):=by rw[D.dM,List.map_replicate];rfl
   have hil4:i<=l.length:=by omega
   have hlm:min i l.length=i:=by omega
   have hr:(l.filter fun v=> !p v).map gD=(m.map gD).take i:=by rw[←h4,List.map_take]
   simp[go_sem,h3];refine ai ?_;refine eQ good [] (aR 0) ?_;simp[go_sem,h3,hz,hlm,hr]
   skip
theorem wX (l:List Ver)(items:L1)(hs:l.length<=1048576)(hi:items.length<=1048576):Fk 154 [nVers l,nInts items] (.own (zM (wK l items))):=by
 refine fE good [] func154 ntmps154 fun _ _=> ?_;simp[go_sem];refine wl good (fun((i,out):(Nat)×(List Con))=>[(1,.val (nInts items)),(5,.own (zM out)),(10,.val (nVers l)),(11,.val (dI l.length)),(12,.val (dI i))]) (fun(i,out)=>l.length-i) (fun(i,out)=>(i<=l.length)/\(out=(l.take i).filterMap (xA items))/\(out.length<=i)) ((0,[])) ⟨(by omega),(rfl),(by simp)⟩ ?_;rintro⟨i,out⟩ ⟨h1,h2,h3⟩;simp[go_sem];apply gw<;>intro a
 ·obtain⟨c,hc⟩:=aC (l:=l) (i:=i) (by omega);have hm:=sH (xA items) hc;rw[←h2]at hm;have hpa:=NB items c.a;have hpb:=NB items c.b;simp[go_sem,hc];refine wdr good ?_;simp[go_sem];refine cd (dH items c.a hi) ?_;simp[go_sem,hpa];refine cd (dH items c.b hi) ?_;simp[go_sem,hpb];apply gv<;>intro e
  ·have e':=e;simp[go_sem,e];apply gw<;>intro b
   ·have hv:xA items c=some ⟨place items c.a,place items c.b,c.same⟩:=if_pos ⟨by omega,by omega⟩;simp[go_sem];iterate 2 refine ai ?_
    refine nx (i+1,out++[⟨place items c.a,place items c.b,c.same⟩]) ⟨(by omega),(by rw[hm,hv];rfl),(by simp;omega)⟩
   ·simp at b;have hv:xA items c=none:=if_neg (by rintro⟨h1,h2⟩;omega);simp[go_sem];refine ai ?_;refine nx (i+1,out) ⟨(by omega),(by rw[hm,hv];simp),(by omega)⟩
  ·have e':=e;simp at e';have hv:xA items c=none:=if_neg (by rintro⟨h1,h2⟩;omega);simp[go_sem,e];refine ai ?_;refine nx (i+1,out) ⟨(by omega),(by rw[hm,hv];simp),(by omega)⟩
 ·simp at a;rw[aK a]at h2;simp[go_sem];grind[wK]
theorem gS (l:List Ver):∀c∈l,bK prog 153 [gD c] (fun r=>r= .val (dB c.same)):=fun c _=>AV c
theorem ET (kept:List Ver)(items:L1)(hk:kept.length<=8)(hkv:∀v∈kept,inT v.a/\inT v.b)(hi:items.length<=8)(hiv:∀x∈items,inT x):Fk 69 [nVers kept,nInts items] (.own (zM (ag5 kept items))):=by
 refine fE good [] func69 ntmps69 fun _ _=> ?_;simp[go_sem];refine ck (fU kept (by omega)) ?_;have hap:(kept.filter fun v=> !v.same)=apart kept:=rfl;have hapl:(apart kept).length<=8:=Nat.le_trans (List.length_filter_le _ _) hk;simp[go_sem];refine aoJ rfl (aBB kept (fun v=>v.same) 153 aDS aC9 (gS kept) (by omega)) ?_;simp[go_sem,hap];refine ck (wX (apart kept) items (by omega) (by omega)) ?_;simp[go_sem];refine ck (H7 kept (by omega) hkv) ?_;obtain⟨o,ho⟩:∃o,dX kept=o:=⟨_,rfl⟩;have hol:o.length=400:=by rw[←ho];exact uU kept
 obtain⟨V,hV⟩:∃V,wK (apart kept) items=V:=⟨_,rfl⟩;have hVl:V.length<=8:=by rw[←hV];exact Nat.le_trans (List.length_filterMap_le _ _) hapl
 have hws:D.ws (o.map dI)=400:=by have:=mH o 400;rw[List.take_of_length_le (by rw[List.length_map];omega),hol]at this;simpa using this
 simp[go_sem,ho,hV,hws,hol];refine wl good (fun((b,out):(Nat)×(List Con))=>[(1,.val (nInts items)),(6,.own (zM out)),(7,.own (.bx true (.agg (o.map dI)))),(18,.val (nInts items)),(19,.val (dI items.length)),(20,.val (dI b))]) (fun(b,out)=>items.length-b) (fun(b,out)=>(b<=items.length)/\(out=V++rH o items b)/\(out.length<=8+b)) ((0,V)) ⟨(by omega),(by simp[rH]),(by omega)⟩ ?_;rintro⟨b,out⟩ ⟨h1,h2,h3⟩;simp[go_sem];apply gw<;>intro a
 ·have hb:=aD a;have hbi:=hiv _ (List.mem_of_getElem? hb);have hls:=Z6 o items b;obtain⟨y,hy⟩:∃y,at1 items b=y:=⟨_,rfl⟩;rw[hy]at hb hbi;have hoy:=amK hol hbi;have hwy:D.ws (List.take y.toNat (o.map dI))=y.toNat:=by rw[mH,hol];have:=hbi.1;have:=hbi.2;omega
  have hy0:=hbi.1;have hy1:=hbi.2;simp[go_sem];refine ai ?_;refine wl good (fun(k:Nat)=>[(1,.val (nInts items)),(6,.own (zM out)),(7,.own (.bx true (.agg (o.map dI)))),(8,.val (dI b)),(9,.val (dI ((k:Int)-1))),(18,.val (nInts items)),(19,.val (dI items.length)),(20,.val (dI b))]) (fun(k:Nat)=>k) (fun(k:Nat)=>(k<=b)/\(DT o items b=match xK (UD o items b) k with|some a=>[⟨a,b,true⟩]|none=>[])) (b) ⟨(Nat.le_refl _),(rfl)⟩ ?_;rintro k ⟨h4,h5⟩;simp[go_sem];apply gw<;>intro d
  ·obtain⟨q,rfl⟩:∃q,k=q+1:=⟨k-1,by omega⟩;have hq:=aD (l:=items) (i:=q) (by omega);have hqi:=hiv _ (List.mem_of_getElem? hq);obtain⟨x,hx⟩:∃x,at1 items q=x:=⟨_,rfl⟩;rw[hx]at hq hqi;have hox:=amK hol hqi;have hwx:D.ws (List.take x.toNat (o.map dI))=x.toNat:=by rw[mH,hol];have:=hqi.1;have:=hqi.2;omega
   have hx0:=hqi.1;have hx1:=hqi.2;have hq2:((q+1:Nat):Int)-1=q:=by omega
   have hox2:=(List.getElem?_eq_some_iff.1 hox).2;have hoy2:=(List.getElem?_eq_some_iff.1 hoy).2;have hpg:xK (UD o items b) (q+1)=if at1 o x.toNat=at1 o y.toNat then some q else xK (UD o items b) q:=by rw[xK,UD,hx,hy];simp
   simp[go_sem];refine wdr good ?_;simp[go_sem,hol,hq,hb,hox2,hoy2,hwx,hwy,hx0,hx1,hy0,hy1];apply gw<;>intro e
   ·simp[go_sem];iterate 2 refine ai ?_
    refine nx (b+1,out++[⟨q,b,true⟩]) ⟨(by omega),(by rw[hls,h5,hpg,if_pos e,h2,List.append_assoc]),(by simp;omega)⟩
   ·simp[go_sem];refine ai ?_;refine nx (q) ⟨(by omega),(by rw[h5,hpg,if_neg e])⟩
  ·simp at d;obtain rfl:k=0:=by omega
   rw[xK]at h5;simp[go_sem];refine ai ?_;refine nx (b+1,out) ⟨(by omega),(by rw[hls,h5,h2];simp),(by omega)⟩
 ·simp at a;rw[show b=items.length by omega]at h2;have hr:ag5 kept items=out:=by rw[h2,←hV,←ho];rfl
  simp[go_sem,hr]
def sF (x:Int):Bool:= !inR x 0 1000
theorem yL (x:Int):Fk 292 [dI x] (.val (dB (sF x))):=by
 refine fE good [] func292 ntmps292 fun _ _=> ?_;simp[go_sem];refine ck (aH x 0 1000) ?_;simp[go_sem];grind[sF]
theorem ahD (l:L1)(hl:l.length<=1048576):Fk 193 [nInts l,.one (.func (.func 292) #[] #[])] (.val (dI (ix sF l))):=by
 refine fE good [] func193 ntmps193 fun _ _=> ?_;simp[go_sem];refine wl good (fun(i:Nat)=>[(0,.val (nInts l)),(1,.val (.one (.func (.func 292) #[] #[]))),(7,.val (dI l.length)),(8,.val (dI i))]) (fun(i:Nat)=>(l).length-i) (fun(i:Nat)=>(i<=(l).length)/\(((l).take i).any sF=false)) (0) ⟨(by omega),rfl⟩ ?_;rintro i ⟨h1,h2⟩;simp[go_sem];apply gw<;>intro a
 ·obtain⟨c,hc⟩:=aC (l:=l) (i:=i) (by omega);simp[go_sem,hc];refine ck (yL c) ?_;simp[go_sem];apply gw<;>intro b
  ·have hn:=vH hc h2 (by simp[b]);simp[go_sem,hn]
  ·simp[go_sem];refine ai ?_;refine nx (i+1) ⟨(by omega),(eF hc h2 (by simp[b]))⟩
 ·simp at a;have hf:=jU h2 a;have hx:=kV hf;simp[go_sem,hx]
theorem aiR (l:L1)(hl:l.length<=1048576):Fk 122 [nInts l,.one (.func (.func 292) #[] #[])] (.val (dB (l.any sF))):=by
 refine fE good [] func122 ntmps122 fun _ _=> ?_;have hq:decide (0<=ix sF l)=l.any sF:=by rw[Bool.eq_iff_iff,decide_eq_true_eq];exact dK
 simp[go_sem];refine ck (ahD l hl) ?_;simp[go_sem,hq]
theorem aoN (l:L1):l.any sF= !(l.all xS):=by
 induction l with
 |nil=>rfl
 |cons x l ih=>rw[List.any_cons,List.all_cons,ih,sF,xS];simp
theorem iK (l:L1)(hl:l.length<=1048576:=by first|assumption|omega|(simp;omega)|grind):Fk 222 [nInts l] (.val (dB (mP l))):=by
 refine fE good [] func222 ntmps222 fun _ _=> ?_;simp[go_sem];apply gv<;>intro e
 ·have e':=e;simp[go_sem,e];refine ck (aiR l hl) ?_;simp[go_sem];rw[aoN,mP,decide_eq_true (show l.length=6 by omega)];simp
 ·have e':=e;simp[go_sem,e];rw[mP,decide_eq_false (show¬l.length=6 by omega)];simp
theorem FD (l w:L1)(hl:l.length<=1048576:=by first|assumption|omega|(simp;omega)|grind)(hw:w.length<=1048576:=by first|assumption|omega|(simp;omega)|grind):Fk 293 [nInts l,nInts w] (.val (dI (iZ l w))):=by
 refine fE good [] func293 ntmps293 fun _ _=> ?_;simp[go_sem];apply gw<;>intro e
 ·simp[go_sem];simp[iZ];omega
 ·simp[go_sem];refine wl good (fun((i,s,t):(Nat)×(Int)×(Int))=>[(0,.val (nInts l)),(1,.val (nInts w)),(5,.val (dI s)),(6,.val (dI t)),(14,.val (nInts l)),(15,.val (dI l.length)),(16,.val (dI i))]) (fun(i,s,t)=>l.length-i) (fun(i,s,t)=>(i<=l.length)/\((List.range i).all (lS l w)=true)/\(s=oF l w i)/\(t=lX w i)) ((0,0,0)) ⟨(by omega),rfl,rfl,rfl⟩ ?_;rintro⟨i,s,t⟩ ⟨h1,h2,h3,h4⟩;simp[go_sem];apply gw<;>intro a
  ·have hl1:=aD (l:=l) (i:=i) (by omega);have hw1:=aD (l:=w) (i:=i) (by omega);have hb:∀j<i,lS l w j=true:=fun j hj=>List.all_eq_true.1 h2 j (List.mem_range.2 hj);have hN:=tY i hb;have hD:=uN i hb;simp[go_sem,hl1];refine ck (aH (at1 l i) 0 1000) ?_;simp[go_sem];apply gv<;>intro e
   ·have e':=e;simp at e';have hn:=gP a (P:=lS l w) (by simp[lS]at*;omega);simp[go_sem,e];all_goals simp[iZ,hn]
   ·have e':=e;simp at e';simp[go_sem,hw1,e];refine ck (aH (at1 w i) 0 1000) ?_;simp[go_sem];apply gw<;>intro f
    ·simp at f;have hn:=gP a (P:=lS l w) (by simp[lS]at*;omega);simp[go_sem];all_goals simp[iZ,hn]
    ·simp at f;have hc:lS l w i=true:=by simp[lS]at*;omega
     have hp1:0<=at1 l i*at1 w i:=Int.mul_nonneg (by simp at*;omega) (by simp at*;omega);have hp2:at1 l i*at1 w i<=1000*1000:=Int.mul_le_mul (by simp at*;omega) (by simp at*;omega) (by simp at*;omega) (by omega);simp[go_sem,hw1];iterate 4 refine ai ?_
     refine nx (i+1,s+at1 l i*at1 w i,t+at1 w i) ⟨(by omega),(iO h2 hc),(by rw[h3,oF,oF,aA]),(by rw[h4,lX,lX,aA])⟩
  ·simp at a;have hi:l.length=i:=by omega
   subst hi;have hb:∀j<l.length,lS l w j=true:=fun j hj=>List.all_eq_true.1 h2 j (List.mem_range.2 hj);have hN:=tY l.length hb;have hD:=uN l.length hb;simp[go_sem];apply gw<;>intro b
   ·simp[go_sem];all_goals simp[iZ,←h4,b]
   ·simp[go_sem];iterate 2 refine ai ?_
    all_goals(rw[iZ,if_pos ⟨by omega,h2⟩,←h4,if_neg b,←h3])
theorem NM (s:Sco)(f:L1)(hs:s.weights.length<=1048576:=by first|assumption|omega|(simp;omega)|grind)(hf:f.length<=1048576:=by first|assumption|omega|(simp;omega)|grind):Fk 223 [yH s,nInts f] (.val (dI (fK s f))):=by
 refine fE good [] func223 ntmps223 fun _ _=> ?_;simp[go_sem];refine ck (iY s hs) ?_;simp[go_sem];apply gv<;>intro e
 ·have e':=e;simp at e';simp[go_sem,e];grind[fK]
 ·have e':=e;simp at e';simp[go_sem,e];refine ck (iK f hf) ?_;simp[go_sem];apply gw<;>intro b
  ·simp at b;simp[go_sem];grind[fK]
  ·simp at b;simp[go_sem];refine ck (FD _ _) ?_;simp[go_sem];grind[fK]
theorem PS (t:Tst)(f:L1)(hf:f.length<=1048576:=by first|assumption|omega|(simp;omega)|grind):Fk 377 [qP t,nInts f] (.val (dB (jI f t))):=by
 refine fE good [] func377 ntmps377 fun _ _=> ?_;simp[go_sem];refine wdt good 20 ?_;simp[go_sem];refine cd (iK _) ?_;simp[go_sem];apply gv<;>intro e
 ·have e':=e;simp[go_sem,e];refine cd (zI _) ?_;simp[go_sem];apply gv<;>intro g
  ·have g':=g;simp at g';have h6:f.length=6:=by simp only[mP,Bool.and_eq_true,decide_eq_true_eq]at e;exact e.2
   have hx:=aD (l:=f) (i:=t.feature.toNat) (by omega);simp[go_sem,g,hx];refine ai ?_;all_goals(simp only[jI];rw[e',show inR t.feature 0 5=true by simp;omega];simp;by_cases hq:at1 f t.feature.toNat<t.threshold<;>simp[hq,Int.not_lt.symm]<;>omega)
  ·have g':=g;simp at g';simp[go_sem,g];all_goals(simp only[jI];rw[e',show inR t.feature 0 5=false by simp;omega];simp)
 ·have e':=e;simp[go_sem,e];all_goals simp[jI,e']
theorem J3 (t:Tst)(f:L1)(hf:f.length<=1048576):Fk 376 [qP t,.bx false (nInts f)] (.val (dB (!jI f t))):=by
 refine fE good [] func376 ntmps376 fun _ _=> ?_;simp[go_sem];refine ck (PS _ _) ?_;simp[go_sem]
theorem akE (l:List Tst)(p:Tst->Bool)(g:FuncId)(b:Nat)(d:D)(F:d.fz=d)(E:Dv.Enters prog g)(U:T (1000000+g)=⟨.no,0,.any 0⟩)(G:∀c∈l,bK prog g [qP c,.bx false d] (fun r=>r= .val (dB (p c))))(hl:l.length<=1048576):qX prog 394 [D.sl none (l.map qP),.one (.func (.func g) #[] #[.pointer (some ⟨b,0,none⟩)])] [(b,d)] (fun res'=>res'= .val (dI (ix p l))):=by
 refine fB good [] func394 ntmps394 fun _ _=> ?_;simp[go_sem];refine wl good (fun(i:Nat)=>[(0,.val (D.sl none (l.map qP))),(1,.val (.one (.func (.func g) #[] #[.pointer (some ⟨b,0,none⟩)]))),(7,.val (dI l.length)),(8,.val (dI i)),(1000000+2*b,.rp (d))]) (fun(i:Nat)=>(l).length-i) (fun(i:Nat)=>(i<=(l).length)/\(((l).take i).any p=false)) (0) ⟨(by omega),rfl⟩ ?_;rintro i ⟨h1,h2⟩;simp[go_sem];apply gw<;>intro a
 ·obtain⟨c,hc⟩:=aC (l:=l) (i:=i) (by omega);simp[go_sem,E,U,F,hc];refine ck ((G c (List.mem_of_getElem? hc))) ?_;simp[go_sem];apply gw<;>intro e
  ·have hn:=vH hc h2 (by simp[e]);simp[go_sem,hn]
  ·simp[go_sem];refine ai ?_;refine nx (i+1) ⟨(by omega),(eF hc h2 (by simp[e]))⟩
 ·simp at a;have hf:=jU h2 a;have hx:=kV hf;simp[go_sem,hx]
theorem am7 (l:List Tst)(p:Tst->Bool)(g:FuncId)(b:Nat)(d:D)(F:d.fz=d)(E:Dv.Enters prog g)(U:T (1000000+g)=⟨.no,0,.any 0⟩)(G:∀c∈l,bK prog g [qP c,.bx false d] (fun r=>r= .val (dB (p c))))(hl:l.length<=1048576):qX prog 375 [D.sl none (l.map qP),.one (.func (.func g) #[] #[.pointer (some ⟨b,0,none⟩)])] [(b,d)] (fun res'=>res'= .val (dB (l.any p))):=by
 refine fB good [] func375 ntmps375 fun _ _=> ?_;have hq:decide (0<=ix p l)=l.any p:=by rw[Bool.eq_iff_iff,decide_eq_true_eq];exact dK
 simp[go_sem,F];refine ckB (akE l p g b d F E U G hl) ?_;simp[go_sem,hq]
theorem aj5 (l:List (List Tst))(p:List Tst->Bool)(g:FuncId)(b:Nat)(d:D)(F:d.fz=d)(E:Dv.Enters prog g)(U:T (1000000+g)=⟨.no,0,.any 0⟩)(G:∀c∈l,bK prog g [nH c,.bx false d] (fun r=>r= .val (dB (p c))))(hl:l.length<=1048576):qX prog 340 [.sl none (l.map nH),.one (.func (.func g) #[] #[.pointer (some ⟨b,0,none⟩)])] [(b,d)] (fun res'=>res'= .val (dI (ix p l))):=by
 refine fB good [] func340 ntmps340 fun _ _=> ?_;simp[go_sem];refine wl good (fun(i:Nat)=>[(0,.val (.sl none (l.map nH))),(1,.val (.one (.func (.func g) #[] #[.pointer (some ⟨b,0,none⟩)]))),(7,.val (dI l.length)),(8,.val (dI i)),(1000000+2*b,.rp (d))]) (fun(i:Nat)=>(l).length-i) (fun(i:Nat)=>(i<=(l).length)/\(((l).take i).any p=false)) (0) ⟨(by omega),rfl⟩ ?_;rintro i ⟨h1,h2⟩;simp[go_sem];apply gw<;>intro a
 ·obtain⟨c,hc⟩:=aC (l:=l) (i:=i) (by omega);simp[go_sem,E,U,F,hc];refine ck ((G c (List.mem_of_getElem? hc))) ?_;simp[go_sem];apply gw<;>intro e
  ·have hn:=vH hc h2 (by simp[e]);simp[go_sem,hn]
  ·simp[go_sem];refine ai ?_;refine nx (i+1) ⟨(by omega),(eF hc h2 (by simp[e]))⟩
 ·simp at a;have hf:=jU h2 a;have hx:=kV hf;simp[go_sem,hx]
theorem PV (r:List Tst)(f:L1)(hr:r.length<=1048576:=by first|assumption|omega|(simp;omega)|grind)(hf:f.length<=1048576:=by first|assumption|omega|(simp;omega)|grind):Fk 342 [nH r,nInts f] (.val (dB (lQ f r))):=by
 refine fE good [] func342 ntmps342 fun _ _=> ?_;simp[go_sem];refine ck (iK f hf) ?_;simp[go_sem];apply gv<;>intro e
 ·have e':=e;simp[go_sem,e];intro b;refine ckB (am7 r (fun t=> !jI f t) 376 b (nInts f) (NP _) aC5 aD5 (fun t _=>J3 t f hf) hr) ?_;simp[go_sem];all_goals simp[lQ,e',aeK]
 ·have e':=e;simp[go_sem,e];all_goals simp[lQ,e']
theorem J8 (r:List Tst)(f:L1)(hr:r.length<=1048576)(hf:f.length<=1048576):Fk 341 [nH r,.bx false (nInts f)] (.val (dB (lQ f r))):=by
 refine fE good [] func341 ntmps341 fun _ _=> ?_;simp[go_sem];refine ck (PV _ _) ?_;simp[go_sem]
theorem PE (rs:List (List Tst))(f:L1)(hs:rs.length<=1048576:=by first|assumption|omega|(simp;omega)|grind)(hr:∀l∈rs,l.length<=1048576:=by first|assumption|omega|(simp;omega)|grind)(hf:f.length<=1048576:=by first|assumption|omega|(simp;omega)|grind):Fk 294 [fZ rs,nInts f] (.val (dI (mR rs f))):=by
 refine fE good [] func294 ntmps294 fun _ _=> ?_;simp[go_sem];refine ck (kI rs hs hr) ?_;simp[go_sem];apply gw<;>intro a
 ·simp at a;simp[go_sem];grind[mR]
 ·simp at a;simp[go_sem];intro b;refine ckB (aj5 rs (lQ f) 341 b (nInts f) (NP _) aDC aEJ (fun r hm=>J8 r f (hr r hm) hf) hs) ?_;simp[go_sem];grind[mR]
theorem QI (rs:List (List Tst))(f:L1)(hs:rs.length<=1048576:=by first|assumption|omega|(simp;omega)|grind)(hr:∀l∈rs,l.length<=1048576:=by first|assumption|omega|(simp;omega)|grind)(hf:f.length<=1048576:=by first|assumption|omega|(simp;omega)|grind):Fk 224 [fZ rs,nInts f] (.val (dB (decide (0<=mR rs f)))):=by
 refine fE good [] func224 ntmps224 fun _ _=> ?_;simp[go_sem];refine ck (PE _ _) ?_;simp[go_sem]
theorem M3 (rs:List (List Tst))(s:Sco)(f:L1)(hs:rs.length<=1048576)(hr:∀l∈rs,l.length<=1048576)(hw:s.weights.length<=1048576)(hf:f.length<=1048576):Fk 150 [fZ rs,yH s,nInts f] (.val (dI (cK rs s f))):=by
 refine fE good [] func150 ntmps150 fun _ _=> ?_;simp[go_sem];refine ck (kI rs hs hr) ?_;simp[go_sem];apply gv<;>intro e
 ·have e':=e;simp at e';simp[go_sem,e];grind[cK]
 ·have e':=e;simp at e';simp[go_sem,e];refine ck (iY s hw) ?_;simp[go_sem];apply gv<;>intro g
  ·have g':=g;simp at g';simp[go_sem,g];grind[cK]
  ·have g':=g;simp at g';simp[go_sem,g];refine ck (iK f hf) ?_;simp[go_sem];apply gw<;>intro b
   ·simp at b;simp[go_sem];grind[cK]
   ·simp at b;have hp:=M8 s f hf;have hb:0<=s.bias/\s.bias<=1000:=by simp only[fC,Bool.and_eq_true,decide_eq_true_eq]at g';exact g'.2
    simp[go_sem];refine wdt good 6 ?_;simp[go_sem];refine cd (NM _ _) ?_;simp[go_sem];refine ai ?_;refine ck (QI _ _) ?_;simp[go_sem];apply gw<;>intro d
    ·simp[go_sem];grind[cK]
    ·simp at d;simp[go_sem];grind[cK]
end Go.Proofs.YtemiopbofamgcaaGreatDoor
end
section
namespace Go.Proofs.YtemiopbofamgcaaGreatDoor
open Go.Dv Go.Pl Go.RowKit Go.Lib Go.Sort Go.Proofs.Tryz
theorem V3 (x:Str):encStr x= .string ⟨x.toArray⟩:=by simp[encStr]
variable {os:Array Obj}{v:Value}
theorem aoL {w:World}{base:Nat}{e:TypeId}{n:Nat}{xs:List Value}(h:w.ownsRow base e 1 v n xs):(grow w os).ownsRow base e 1 v n xs:=by
 refine⟨h.1,h.2.imp_right ?_⟩;rintro⟨g,cap,cur,h1,h2,h3,h4⟩;exact⟨g,cap,cur,h1,h2,(by show(w.heap++os)[g]?=_;rw[Array.getElem?_append_left (Go.Dv.lt_of_heap h3)];exact h3),h4⟩
variable {w':World}
theorem afA {B:Nat}{w:World}(h:Below B w w')(hB:B<=w'.heap.size):Below B w (Go.Sort.grow w' os):=h.trans ⟨rfl,rfl,rfl,by simp[Go.Sort.grow],fun b hb=>by
 show(w'.heap++os)[b]?=_;rw[Array.getElem?_append_left (by omega)]⟩
theorem YY (l:List Str)(a:Addr)(cap:Nat)(w:World)(hl:l.length<=262144)(hc:l=[]\/(a.spot=none/\∀(j:Nat) x,l[j]?=some x->w.cell? ⟨a.block,a.off+j,none⟩=some (.string ⟨x.toArray⟩))):
  Calls prog 350 #[.slice (some a) l.length cap] w fun e w1=>∃v1,e= .returned v1/\w1.ownsRow w.heap.size 9 1 v1 l.length (l.map encStr)/\v1≠ .slice none 0 0/\Below w.heap.size w w1:=by
 rcases hc with rfl|⟨ha,hcell⟩
 ·exact Tryz.slices_Clone_string_zero a cap w
 ·have:=Tryz.slices_Clone_string a.block a.off l.length cap (l.map fun x=>(⟨x.toArray⟩:ByteArray)) w (by simp) (by omega) (fun j hj=>by
   have hj':j<l.length:=by simpa using hj
   rw[hcell j _ (List.getElem?_eq_getElem hj')];simp[List.getD,hj'])
  have hae:(⟨a.block,a.off,none⟩:Addr)=a:=by cases a;cases ha;rfl
  rw[hae]at this;refine this.mono fun e w1 ⟨v1,h1,h2,h4,h3⟩=>⟨v1,h1,?_,h4,h3⟩
  have he:(((l.map fun x=>(⟨x.toArray⟩:ByteArray)).take l.length).map Value.string)=l.map encStr:=by
   rw[List.take_of_length_le (by simp),List.map_map];exact List.map_congr_left fun x _=>(V3 x).symm
  rwa [he]at h2
theorem ao9 (l:List Str)(g c base:Nat)(w1:World)(hl:l.length<=262144)(h:w1.ownsRow base 9 1 (.slice (some ⟨g,0,none⟩) l.length c) l.length (l.map encStr))(hb:base<=w1.heap.size):
  Calls prog 351 #[.slice (some ⟨g,0,none⟩) l.length c] w1 fun e w2=>e= .returned (.tuple #[])/\w2.ownsRow base 9 1 (.slice (some ⟨g,0,none⟩) l.length c) l.length ((kS l).map encStr)/\Below base w1 w2:=by
 obtain⟨g',c',he,hbg,hlt,hn,hm,_,hH⟩:=holds_of_ownsRow h (by simp);obtain⟨rfl,rfl⟩:g=g'/\c=c':=by simpa using he
 refine(Tryz.slices_Sort_string g 0 c l w1 hH hlt (by omega)).mono ?_;rintro e w2 ⟨h1,n,os,rfl⟩;have hy:=ownsRow_putRow (q:=n) (ys:=kS l) (k:=l.length) h (lG l) (Nat.le_refl _);rw[List.take_of_length_le (by rw[lG];omega)]at hy;refine⟨h1,aoL hy,?_⟩;exact afA (below_putRow (Below.refl _ _) hbg) (Nat.le_trans hb (below_putRow (Below.refl base w1) hbg).size)
theorem anH (l:List Str)(g c base:Nat)(w1:World)(hl:l.length<=262144)(hk:(Lib.compact l).length<=l.length)(h:w1.ownsRow base 9 1 (.slice (some ⟨g,0,none⟩) l.length c) l.length (l.map encStr)):
  Calls prog 352 #[.slice (some ⟨g,0,none⟩) l.length c] w1 fun e w2=>e= .returned (.slice (some ⟨g,0,none⟩) (Lib.compact l).length c)/\w2.ownsRow base 9 1 (.slice (some ⟨g,0,none⟩) (Lib.compact l).length c) (Lib.compact l).length ((Lib.compact l).map encStr)/\Below base w1 w2:=by
 obtain⟨g',c',he,hbg,hlt,hn,hm,_,hH⟩:=holds_of_ownsRow h (by simp);obtain⟨rfl,rfl⟩:g=g'/\c=c':=by simpa using he
 refine(Tryz.slices_Compact_string g 0 c l w1 hH (by omega) hn).mono ?_;rintro e w2 ⟨h1,n,rfl⟩;have hy:=ownsRow_putRow (q:=n) (ys:=Lib.compact l++List.replicate (l.length-(Lib.compact l).length) []) (k:=(Lib.compact l).length) h (by simp;omega) hk;rw[List.take_left' rfl]at hy;exact⟨h1,hy,below_putRow (Below.refl _ _) hbg⟩
theorem adJ:bK prog 157 [.one (.int .u64 0)] (fun r=>r= .val (dI 0)):=
 vI (u:= .int .i64 0) rfl fun w ow vs hL hs ha=>by
  obtain rfl:=Q5 hs ha;have:=Tryz.bits_Len 0 w (by decide) (by decide);exact this.mono fun e w' h=>⟨h.1,h.2▸Below.refl _ _⟩
theorem azS:Fk 399 [.one (.slice none 0 0),dI 0,dI 0] (.tup []):=by
 refine fE good [] func399 ntmps399 fun _ _=> ?_;simp[go_sem];refine ai ?_;refine wl good (fun(i:Nat)=>[(0,.val (.one (.slice none 0 0))),(1,.val (dI 0)),(2,.val (dI 0)),(6,.val (dI 1))]) (fun(i:Nat)=>0) (fun(i:Nat)=>(i=1)) (1) (rfl) ?_;rintro i h1;simp[go_sem]
theorem awP (k:Int):Fk 387 [.one (.slice none 0 0),dI 0,dI 0,dI k] (.tup []):=by
 refine fE good [] func387 ntmps387 fun _ _=> ?_;simp[go_sem];refine wl good (fun(i:Nat)=>[(0,.val (.one (.slice none 0 0))),(1,.val (dI 0)),(2,.val (dI 0)),(3,.val (dI k))]) (fun(i:Nat)=>0) (fun(i:Nat)=>(i=0)) (0) (rfl) ?_;rintro i h1;simp[go_sem];refine ai ?_;refine ck (azS) ?_;simp[go_sem]
theorem atC:Fk 351 [.one (.slice none 0 0)] (.tup []):=by
 refine fE good [] func351 ntmps351 fun _ _=> ?_;simp[go_sem];refine ck (adJ) ?_;simp[go_sem];refine ck (awP 0) ?_;simp[go_sem]
theorem alC (cap:Nat)(w:World)(hs:Calls prog 351 #[.slice none 0 0] w fun e w'=>e= .returned (.tuple #[])/\Below w.heap.size w w'):Calls prog 298 #[.slice none 0 cap] w fun e w'=>e= .returned (.slice none 0 0)/\Below w.heap.size w w':=by
 have h1:=Tryz.slices_Clone_string_nil 0 cap w;have h3:=fun w2=>Tryz.slices_Compact_string_empty none 0 w2;go_enter func298,ntmps298
 go_wp2_with (first|(go_at_call 350;refine h1.mono ?_;rintro e w1 ⟨rfl,hw1⟩;obtain rfl:=hw1.symm)|(go_at_call 351;refine hs.mono ?_;rintro e w2 ⟨rfl,q2⟩)|(go_at_call 352;refine(h3 w2).mono ?_;rintro e w3 ⟨rfl,hw3⟩;obtain rfl:=hw3.symm))
 exact bodyPost_ret (v:= .slice none 0 0) (by simp[results,Tryz.f298,loadVar]) rfl ⟨rfl,q2⟩
theorem akI (l:List Str)(a:Addr)(cap:Nat)(w:World)(hl:l.length<=262144)(hc:l=[]\/(a.spot=none/\∀(j:Nat) x,l[j]?=some x->w.cell? ⟨a.block,a.off+j,none⟩=some (.string ⟨x.toArray⟩))):
  Calls prog 298 #[.slice (some a) l.length cap] w fun e w'=>∃v,e= .returned v/\w'.ownsRow w.heap.size 9 1 v (rF l).length ((rF l).map encStr)/\Below w.heap.size w w':=by
 have h1:=YY l a cap w hl hc;have h2:=fun g c w1=>ao9 l g c w.heap.size w1 hl;have h3:=fun g c w1=>anH (kS l) g c w.heap.size w1 (by rw[lG];exact hl) (by rw[lG];exact HV l);simp only[lG]at h3;go_enter func298,ntmps298
 go_wp2_with (first|(go_at_call 350;refine h1.mono ?_;rintro e w1 ⟨v1,rfl,k1,k2,k3⟩;obtain⟨g,c,rfl,k4,k5,_⟩:=holds_of_ownsRow k1 k2)|(go_at_call 351;refine(h2 g c w1 k1 k3.size).mono ?_;rintro e w2 ⟨rfl,q1,q2⟩)|(go_at_call 352;refine(h3 g c w2 q1).mono ?_;rintro e w3 ⟨rfl,r1,r2⟩))
 exact bodyPost_ret (v:= .slice (some ⟨g,0,none⟩) (Lib.compact (kS l)).length c) (by simp[results,Tryz.f298,loadVar]) rfl ⟨_,rfl,r1,(k3.trans q2).trans r2⟩
variable {ow:Own}{l:List Str}
theorem Y4 {w:World}{t:Nat}(hB:Below w.heap.size w w')(h:w'.ownsRow w.heap.size 9 1 v l.length (l.map encStr)):∃ow',After w ow w' ow'/\∀(s:St) (a:Act),SV prog w' ow' s a t (.own (vZ l)) v:=by
 rcases h.2 with⟨rfl,h0⟩|⟨g,cap,cur,rfl,hg,hrow,hn,hm,hs,ht⟩
 ·obtain rfl:l=[]:=List.eq_nil_of_length_eq_zero h0;refine⟨fun b=>if b<w.heap.size then ow b else none,⟨hB.os,hB.tape,hB.output,hB.size,fun b hb=>⟨hB.block b hb,if_pos hb⟩,fun b hb=>if_neg (by have:=hB.size;omega)⟩,fun s a=> ?_⟩;exact adU
 ·have hlt:g<w'.heap.size:=Go.Dv.lt_of_heap hrow;refine⟨fun b=>if b=g then some [t]else if b<w.heap.size then ow b else none,⟨hB.os,hB.tape,hB.output,hB.size,fun b hb=>⟨hB.block b hb,?_⟩,fun b hb=> ?_⟩,fun s' a=> ?_⟩
  ·rw[if_neg (by omega),if_pos hb]
  ·have:=hB.size;rw[if_neg (by omega),if_neg (by omega)]
  ·simp only[SV,V,R];refine⟨some ⟨g,0,none⟩,cap,by simp,by simpa using hn,hm,.inr (.inr ⟨g,0,1,_,9,(0,0),rfl,hrow,(by intro h;cases h),fun t' ht'=> ?_,?_⟩)⟩
   ·obtain rfl:=Option.some.inj ht';obtain⟨_,i,zv,hi,hsz,_⟩:=(good 9).of (fun x h e=>by rw[e]at h;cases h);exact⟨by simp,rfl,unfz0 _,rfl,by simpa using hs,i,hi,hsz⟩
   ·rw[Rs.iff hrow];intro j x hx;rw[List.getElem?_map,Option.map_eq_some_iff]at hx;obtain⟨y,hy,rfl⟩:=hx
    have hc:cur[j]?=some (.string ⟨y.toArray⟩):=by
     have hj:=aS hy;have h1:(cur.toList.take (l.length*1))[j]?=some (encStr y):=by rw[ht,List.getElem?_map,hy];rfl
     rw[List.getElem?_take,if_pos (by omega)]at h1;rw[←Array.getElem?_toList,h1,V3]
    refine⟨rfl,_,_,_,[.string ⟨y.toArray⟩],hrow,fun k hk=> ?_,?_⟩
    ·obtain rfl:k=0:=by simpa[D.w]using hk
     simpa using hc
    ·simp[R,Value.oneCell']
theorem amG {w:World}(h:V prog w ow (D.fz (bE l)) [] v):∃a cap,v= .slice a l.length cap/\l.length<=cap/\(l=[]\/∃b off,a=some ⟨b,off,none⟩/\b<w.heap.size/\∀(j:Nat) x,l[j]?=some x->w.cell? ⟨b,off+j,none⟩=some (.string ⟨x.toArray⟩)):=by
 have hfz:D.fz (bE l)=bE l:=by simp[D.fz,D.IV]
 rw[hfz]at h;simp only[V,R]at h;obtain⟨a,cap,h1,h2,h3,h4⟩:=h;have h1:v= .slice a (l.map dS).length cap:=by simpa using h1
 rw[List.length_map]at h1 h2;refine⟨a,cap,h1,h2,?_⟩;rcases h4 with h4|h4|⟨b,off,s,C,e,fz,ha,hh,hn,hs,hr⟩
 ·exact .inl (by simpa using h4.2.1)
 ·exact .inl (by simpa using h4.2)
 ·refine .inr ⟨b,off,ha,Go.Dv.lt_of_heap hh,fun j x hx=> ?_⟩;have:=(Rs.iff hh).1 hr j (dS x) (by rw[List.getElem?_map,hx];rfl);obtain⟨hw,C',e',fz',cs,g1,g2,g3⟩:=this;have hs1:s=1:=hw.symm;subst hs1;rw[hh]at g1;obtain⟨rfl,rfl,rfl⟩:C=C'/\e=e'/\fz=fz':=by simpa using g1
  simp only[R]at g3;obtain⟨rfl,_⟩:=g3;rw[cell_of_row w b (off+j) C e fz hh];have:=g2 0 (by simp[D.w]);simpa using this
theorem yQ (l:List Str)(hl:l.length<=262144):bK prog 298 [bE l] (fun r=>r= .own (vZ (rF l))):=by
 intro w ow vs t ht hL hnew hsz ha;obtain⟨a,cap,hv,hcap,hc⟩:=amG (ha 0 _ rfl)
 obtain rfl:vs= #[.slice a l.length cap]:=by
  apply Array.ext
  ·simpa using hsz
  ·intro i hi h2;obtain rfl:i=0:=by simpa using h2
   simpa[Array.getD_eq_getD_getElem?,hi]using hv
 cases a with
 |none=>
  obtain rfl:l=[]:=by
   rcases hc with h|⟨b,off,h,_⟩
   ·exact h
   ·cases h
  have he:rF []=[]:=List.eq_nil_of_length_eq_zero (by have:=HV [];simpa using this)
  have hsort:Calls prog 351 #[.slice none 0 0] w fun e w'=>e= .returned (.tuple #[])/\Below w.heap.size w w':=by
   refine(atC w ow _ t ht hL hnew rfl fun i d hd=> ?_).mono ?_
   ·match i,hd with
    |0,hd=>obtain rfl:=Option.some.inj hd;simp[D.fz,V,R,Value.oneCell']
    |i+1,hd=>simp at hd
   ·rintro e w' ⟨v,ow',r,rfl,rfl,h3,_,h5⟩;have hv:=h5 (fun _=> .un) ⟨#[],[]⟩;obtain⟨us,rfl,hu,_⟩:=hv;have:us= #[]:=by apply Array.eq_empty_of_size_eq_zero;simpa using hu
    subst this;exact⟨rfl,⟨h3.os,h3.tape,h3.output,h3.size,fun b hb=>(h3.old b hb).1⟩⟩
  refine(alC cap w hsort).mono ?_;rintro e w' ⟨rfl,hB⟩;refine⟨_,fun b=>if b<w.heap.size then ow b else none,_,rfl,rfl,⟨hB.os,hB.tape,hB.output,hB.size,fun b hb=>⟨hB.block b hb,if_pos hb⟩,fun b hb=>if_neg (by have:=hB.size;omega)⟩,rfl,fun s a=> ?_⟩;rw[he];exact adU
 |some a=>
  have hc':l=[]\/(a.spot=none/\∀(j:Nat) x,l[j]?=some x->w.cell? ⟨a.block,a.off+j,none⟩=some (.string ⟨x.toArray⟩)):=by
   rcases hc with h|⟨b,off,h,_,h2⟩
   ·exact .inl h
   ·cases h;exact .inr ⟨rfl,h2⟩
  refine(akI l a cap w hl hc').mono ?_;rintro e w' ⟨v,rfl,h1,h2⟩;obtain⟨ow',h3,h4⟩:=Y4 (ow:=ow) (t:=t) h2 h1;exact⟨_,ow',_,rfl,rfl,h3,rfl,h4⟩
end Go.Proofs.YtemiopbofamgcaaGreatDoor
end
section
namespace Go.Proofs.YtemiopbofamgcaaGreatDoor
open Go.Dv Go.Pl Go.RowKit Go.Proofs.Tryz
theorem EP (c:UInt8):Fk 388 [dC c] (.val (dB (decide (97<=c.toNat)&&decide (c.toNat<=122)))):=by
 refine fE good [] func388 ntmps388 fun _ _=> ?_;simp[go_sem];apply gv<;>intro e
 ·have e':=e;simp[go_sem,e];grind
 ·have e':=e;simp at e';simp[go_sem,e];omega
theorem qB (c:UInt8):Fk 357 [dC c] (.val (dB (decide (48<=c.toNat)&&decide (c.toNat<=57)))):=by
 refine fE good [] func357 ntmps357 fun _ _=> ?_;simp[go_sem];apply gv<;>intro e
 ·have e':=e;simp[go_sem,e];grind
 ·have e':=e;simp at e';simp[go_sem,e];omega
theorem MQ (c:UInt8):Fk 382 [dC c] (.val (dB (nU c))):=by
 refine fE good [] func382 ntmps382 fun _ _=> ?_;simp[go_sem];refine ck (EP _) ?_;simp[go_sem];apply gv<;>intro e
 ·have e':=e;simp at e';simp[go_sem,e];grind[nU]
 ·have e':=e;simp at e';simp[go_sem,e];apply gv<;>intro f
  ·have f':=f;simp[go_sem,f];apply gv<;>intro g1
   ·have g1':=g1;simp[go_sem,g1];grind[nU]
   ·have g1':=g1;simp at g1';simp[go_sem,g1];refine ck (qB _) ?_;simp[go_sem];grind[nU]
  ·have f':=f;simp at f';simp[go_sem,f];refine ck (qB _) ?_;simp[go_sem];grind[nU]
theorem LQ (c:UInt8):Fk 383 [dC c] (.val (dC (cB c))):=by
 refine fE good [] func383 ntmps383 fun _ _=> ?_;simp[go_sem];apply gv<;>intro e
 ·have e':=e;simp[go_sem,e];apply gw<;>intro f
  ·have hu:=V5 (c:=c) (by omega) (by omega);simp[go_sem,hu];simp only[inI];omega
  ·simp at f;have hu:=JH (c:=c) (by omega);simp[go_sem,hu]
 ·have e':=e;simp at e';have hu:=JH (c:=c) (by omega);simp[go_sem,e,hu]
theorem GJ (c:UInt8):Fk 381 [dC c] (.val (dC (GA c))):=by
 refine fE good [] func381 ntmps381 fun _ _=> ?_;simp[go_sem];refine ck (MQ _) ?_;simp[go_sem];apply gw<;>intro b
 ·have hu:GA c=c:=if_pos b;simp[go_sem,hu]
 ·have hu:GA c=32:=if_neg (by simpa using b);simp[go_sem,hu]
theorem aC6 {s:Str}{i:Nat}{c:UInt8}{f:UInt8->UInt8}(h:s[i]?=some c):((s.take i).map f++s.drop i)[i]?=some c/\((s.take i).map f++s.drop i).set i (f c)=(s.take (i+1)).map f++s.drop (i+1):=by
 have hi:=aS h;have hl:((s.take i).map f).length=i:=by simp;omega
 have hd:s.drop i=c::s.drop (i+1):=by rw[List.drop_eq_getElem_cons hi];rw[List.getElem?_eq_getElem hi]at h;rw[Option.some.inj h]
 constructor
 ·rw[List.getElem?_append_right (by omega),hl,hd];simp
 ·rw[List.set_append_right _ _ (by omega),hl,hd,List.take_succ_eq_append_getElem hi];rw[List.getElem?_eq_getElem hi]at h;rw[Option.some.inj h];simp
def atO (f:UInt8->UInt8)(s:Str):Str:=s.map f
def aiU (f:UInt8->UInt8)(s:Str)(i:Nat):Str:=(s.take i).map f++s.drop i
theorem abT (s:Str)(f:UInt8->UInt8)(g:FuncId)(E:Dv.Enters prog g)(U:T (1000000+g)=⟨.no,0,.any 0⟩)(G:∀c∈s,bK prog g [dC c] (fun r=>r= .val (dC (f c))))(hs:s.length<=1048576):Fk 379 [dS s,.one (.func (.func g) #[] #[])] (.val (dS (atO f s))):=by
 refine fE good [] func379 ntmps379 fun _ _=> ?_;have hm0:aiU f s 0=s:=rfl;simp[go_sem];refine ai ?_;refine wl good (fun(i:Nat)=>[(0,.val (dS s)),(1,.val (.one (.func (.func g) #[] #[]))),(5,.own (oBs (aiU f s i))),(10,.al 5 []),(11,.val (dI s.length)),(12,.val (dI i))]) (fun(i:Nat)=>s.length-i) (fun(i:Nat)=>(i<=s.length)) (0) (by omega) ?_ (h0:=by simp[go_sem,E,U,hm0]);rintro i h1;simp[go_sem];apply gw<;>intro a
 ·obtain⟨c,hc⟩:=aC (l:=s) (i:=i) (by omega);have hm:=aC6 (f:=f) hc;have hc1:(aiU f s i)[i]?=some c:=hm.1;have hc2:((aiU f s i).map dU).set i (dC (f c))=(aiU f s (i+1)).map dU:=by rw[←List.map_set (f:=dU)];exact congrArg _ hm.2
  simp[go_sem,E,U,hc1];refine ck ((G c (List.mem_of_getElem? hc))) ?_;simp[go_sem,hc1,hc2];refine ai ?_;refine nx (i+1) (by omega)
 ·simp at a;have hm:aiU f s i=atO f s:=by have:i=List.length s:=(by omega);subst this;simp[aiU,atO]
  simp[go_sem,hm]
theorem aCJ {w:World}{ow:Own}{vs:Array Value}{u u' u2:Value}(hs:vs.size=3)(h:∀(i:Nat) (d:D),[D.one u,D.one u',D.one u2][i]?=some d->V prog w ow d.fz [] (vs.getD i undef)):vs= #[u,u',u2]:=by
 have h0:=DN (h 0 _ rfl);have h1:=DN (h 1 _ rfl);have h3:=DN (h 2 _ rfl);apply Array.ext
 ·simpa using hs
 ·intro i hi h2;have:i=0\/i=1\/i=2:=by simp at h2;omega
  rcases this with rfl|rfl|rfl
  ·simpa[Array.getD_eq_getD_getElem?,hi]using h0
  ·simpa[Array.getD_eq_getD_getElem?,hi]using h1
  ·simpa[Array.getD_eq_getD_getElem?,hi]using h3
def agX (s:Str):Str:=s.filter fun c=> !decide (c=39)
theorem E5 (s:Str)(hs:s.length<=1048576):bK prog 380 [dS s,dS [39],dS []] (fun r=>r= .val (dS (agX s))):=
 vI (u:= .string ⟨(agX s).toArray⟩) rfl fun w ow vs hL hsz ha=>by
  obtain rfl:=aCJ hsz ha;obtain⟨m,hm⟩:=(D9 hL).2.2.2.1;have hc:Lib.countB ⟨s.toArray⟩ ⟨[39].toArray⟩=s.count 39:=Lib.count_one 39 s;refine(Tryz.strings_ReplaceAll ⟨s.toArray⟩ ⟨[39].toArray⟩ ⟨[].toArray⟩ m w (by simp[ByteArray.size];omega) hm (by simp[ByteArray.size]) (by rw[hc];simp[ByteArray.size];omega)).mono fun e w' ⟨h1,h2⟩=>⟨?_,h2⟩;rw[h1];show Ending.returned (.string ⟨(Lib.replaceAll s [39] []).toArray⟩)=_;rw[WS];rfl
theorem FH (s:Str)(hs:s.length<=1048576:=by first|assumption|omega|(simp;omega)|grind):bK prog 378 [dS s,dS [32]] (fun r=>r= .val (dS (aa9 s))):=
 vI (u:= .string ⟨(aa9 s).toArray⟩) rfl fun w ow vs hL hsz ha=>by
  obtain rfl:=adG hsz ha;rw[ar6,←asF];exact(Tryz.strings_TrimSuffix ⟨s.toArray⟩ ⟨[32].toArray⟩ w (by simp[ByteArray.size];omega)).mono fun e w' ⟨h1,h2⟩=>⟨h1,h2▸Below.refl _ _⟩
theorem aj0 (x:Nat)(hx:x<=1114111)(w:World):Calls prog 354 #[.int .i32 x] w fun e w'=>e= .returned (.bool (isSp x))/\Below w.heap.size w w':=by
 go_enter func354,ntmps354
 go_wp2
 refine bodyPost_ret (v:= .bool (decide ((x:Int)=32))) (by simp[results,Tryz.f354,loadVar]) rfl ⟨?_,Below.refl _ _⟩;have:decide ((x:Int)=32)=isSp x:=by unfold isSp;rw[Bool.eq_iff_iff,decide_eq_true_eq,decide_eq_true_eq];omega
 rw[this]
theorem BP (s:Str)(hs:s.length<=1048576:=by first|assumption|omega|(simp;omega)|grind):Fk 345 [dS s] (.val (dS (nM s))):=by
 refine fE good [] func345 ntmps345 fun _ _=> ?_;have hm:atO cB s=nM s:=rfl;simp[go_sem];refine ck (abT s cB 383 aDV aDY (fun c _=>LQ c) hs) ?_;simp[go_sem,hm]
theorem MV (s:Str)(hs:s.length<=1048576):Fk 344 [dS s] (.val (dS (oZ s))):=by
 refine fE good [] func344 ntmps344 fun _ _=> ?_;have hm:atO GA (agX s)=oZ s:=aq8 s;have hl:(agX s).length<=s.length:=List.length_filter_le _ _;simp[go_sem];refine ck (E5 s hs) ?_;simp[go_sem];refine ck (abT (agX s) GA 381 aD9 aDF (fun c _=>GJ c) (by omega)) ?_;simp[go_sem,hm]
theorem CW (s:Str)(hs:s.length<=1048576):Fk 343 [dS s] (.val (dS (uW s))):=by
 refine fE good [] func343 ntmps343 fun _ _=> ?_;simp[go_sem];refine wl good (fun((i,o):(Nat)×(Str))=>[(0,.val (dS s)),(3,.own (oBs o)),(5,.val (dS s)),(6,.val (dI s.length)),(7,.val (dI i))]) (fun(i,o)=>(s).length-i) (fun(i,o)=>(i<=(s).length)/\(o=(s.take i).foldl PX [])/\(o.length<=i)) ((0,[])) ⟨(by omega),rfl,(by simp)⟩ ?_;rintro⟨i,o⟩ ⟨h1,h2,h3⟩;simp[go_sem];apply gw<;>intro a
 ·obtain⟨c,hc⟩:=aC (l:=s) (i:=i) (by omega);have hm:=bB PX [] hc;rw[←h2]at hm;simp[go_sem,hc];apply gv<;>intro e
  ·have e':=e;have hu:PX o c=o++[c]:=if_pos (.inl (by rintro rfl;simp at e));simp[go_sem,hc,e];iterate 2 refine ai ?_
   refine nx (i+1,o++[c]) ⟨(by omega),(by rw[hm,hu]),(by simp;omega)⟩
  ·have e':=e;have hc32:c=32:=UInt8.toNat_inj.1 (show c.toNat=32 by omega);simp[go_sem,e];apply gv<;>intro f
   ·have f':=f;obtain⟨x,hx⟩:=aC (l:=o) (i:=o.length-1) (by omega);have hj:((o.length:Int)-1).toNat=o.length-1:=by omega
    have hg:o.getLast?=some x:=by rw[List.getLast?_eq_getElem?];exact hx
    simp[go_sem,f,hx,hj];iterate 2 refine ai ?_
    apply gw<;>intro b
    ·have hu:PX o c=o++[c]:=if_pos (.inr ⟨by rintro rfl;simp at f,by rw[hg];rintro h;cases h;simp at b⟩);simp[go_sem,hc,e];iterate 2 refine ai ?_
     refine nx (i+1,o++[c]) ⟨(by omega),(by rw[hm,hu]),(by simp;omega)⟩ (h3:=by simp[go_sem,hc,e,f,hx,hj])
    ·have hx32:x=32:=UInt8.toNat_inj.1 (show x.toNat=32 by omega);have hu:PX o c=o:=if_neg (by rw[hg,hc32,hx32];simp);simp[go_sem];refine ai ?_;refine nx (i+1,o) ⟨(by omega),(by rw[hm,hu]),(by omega)⟩
   ·have f':=f;simp at f';have ho:o=[]:=List.eq_nil_of_length_eq_zero (by omega);have hu:PX o c=o:=if_neg (by rw[ho,hc32];simp);simp[go_sem,f];refine ai ?_;refine nx (i+1,o) ⟨(by omega),(by rw[hm,hu]),(by omega)⟩
 ·simp at a;rw[aK a]at h2;have hce:=UJ s;rw[←h2]at hce;simp[go_sem];refine ck (FH _) ?_;simp[go_sem,hce]
theorem sI (s:Str)(hs:s.length<=65536):Fk 295 [dS s] (.val (dS (normal s))):=by
 refine fE good [] func295 ntmps295 fun _ _=> ?_;have h1:=BB s;have h2:=EB (nM s);have hn:uW (oZ (nM s))=normal s:=rfl;simp[go_sem];refine ck (BP s (by omega)) ?_;simp[go_sem];refine ck (MV (nM s) (by omega)) ?_;simp[go_sem];refine ck (CW (oZ (nM s)) (by omega)) ?_;simp[go_sem,hn]
end Go.Proofs.YtemiopbofamgcaaGreatDoor
end
section
namespace Go.Proofs.YtemiopbofamgcaaGreatDoor
open Go.Dv Go.Pl Go.RowKit Go.Lib Go.Proofs.Tryz
theorem afL:∀(s o:Str) (c:UInt8),c∈s.foldl PX o->c∈o\/c∈s
 |[],o,c,h=> .inl h
 |d::s,o,c,h=>by
  rcases afL s (PX o d) c h with h|h
  ·unfold PX at h;split at h
   ·rcases List.mem_append.1 h with h|h
    ·exact .inl h
    ·exact .inr (by rw[List.mem_singleton.1 h];exact List.mem_cons_self)
   ·exact .inl h
  ·exact .inr (List.mem_cons_of_mem _ h)
variable {s:Str}{c:UInt8}
theorem aoF (h:c∈oZ s):c.toNat<128:=by
 unfold oZ at h;obtain⟨d,_,hd⟩:=List.mem_flatMap.1 h;unfold rV at hd;split at hd
 ·rename_i hw;rw[List.mem_singleton.1 hd];rcases hw with hw|hw
  ·unfold nU at hw;simp only[Bool.or_eq_true,Bool.and_eq_true,decide_eq_true_eq]at hw;omega
  ·omega
 ·split at hd
  ·rw[List.mem_singleton.1 hd];decide
  ·cases hd
theorem aj3 (h:c∈normal s):c.toNat<128:=by
 unfold normal at h;rw[UJ]at h
 have h2:c∈(oZ (nM s)).foldl PX []:=by
  unfold aa9 at h;split at h
  ·exact(List.dropLast_sublist _).subset h
  ·exact h
 rcases afL _ _ _ h2 with h3|h3
 ·cases h3
 ·exact aoF h3
theorem AY (s:Str):(normal s).length<=2*s.length:=by
 have h1:=BB s;have h2:=EB (nM s);have h3:=N9 (oZ (nM s));unfold normal;omega
theorem abX (s:Str):(CJ s).length<=s.length+1:=Nat.le_trans (List.length_filter_le _ _) (GZ 32 s []).1
theorem ap0 (s:Str)(hs:s.length<=1048576)(hA:∀c∈s,c.toNat<128):bK prog 353 [dS s,.one (.func (.func 354) #[] #[])] (fun r=>r= .own (vZ (CJ s))):=by
 intro w ow vs t ht hL hnew hsz ha;obtain rfl:=adG hsz ha;refine(Tryz.strings_FieldsFunc_grows 354 #[] aDW isSp ⟨s.toArray⟩ w (by simp[ByteArray.size];omega) (fun W x hx hb=>aj0 x hx W)).mono ?_;rintro e w' ⟨A,rfl,_,h1,h2⟩;have hm:=map_encStr (Lib.goFieldsP isSp ⟨s.toArray⟩);rw[acG hA]at hm;have hl:(Lib.goFieldsP isSp ⟨s.toArray⟩).length=(CJ s).length:=by rw[←acG hA,List.length_map]
 rw[←hm,hl]at h1;obtain⟨ow',h3,h4⟩:=Y4 (ow:=ow) (t:=t) h2 h1;exact⟨_,ow',_,by rw[hl],rfl,h3,rfl,h4⟩
theorem aaD (s:Str)(hs:s.length<=1048576)(hA:∀c∈s,c.toNat<128):Fk 299 [dS s] (.own (vZ (CJ s))):=by
 refine fE good [] func299 ntmps299 fun _ _=> ?_;simp[go_sem];refine ck (ap0 s hs hA) ?_;simp[go_sem]
theorem xM (s:Str)(hs:s.length<=65536):Fk 227 [dS s] (.own (vZ (tokens s))):=by
 refine fE good [] func227 ntmps227 fun _ _=> ?_;have hn:=AY s;have hw:=abX (normal s);have ht:=KY s;simp[go_sem];refine ck (sI s hs) ?_;simp[go_sem];refine ck (aaD (normal s) (by omega) (fun c hc=>aj3 hc)) ?_;simp[go_sem];refine ck (yQ (CJ (normal s)) (by omega)) ?_;simp[go_sem,ht]
end Go.Proofs.YtemiopbofamgcaaGreatDoor
end
section
namespace Go.Proofs.YtemiopbofamgcaaGreatDoor
open Go.Dv Go.Pl Go.Proofs.Tryz
theorem DF (s:Str)(hs:s.length<=1048576):Fk 398 [dS s] (.val (dB (s.all AL))):=by
 refine fE good [] func398 ntmps398 fun _ _=> ?_;simp[go_sem];refine wl good (fun(i:Nat)=>[(0,.val (dS s)),(5,.val (dI s.length)),(6,.val (dI i))]) (fun(i:Nat)=>(s).length-i) (fun(i:Nat)=>(i<=(s).length)/\(((s).take i).all AL=true)) (0) ⟨(by omega),rfl⟩ ?_;rintro i ⟨h1,h2⟩;simp[go_sem];apply gw<;>intro a
 ·obtain⟨c,hc⟩:=aC (l:=s) (i:=i) (by omega);simp[go_sem,hc];refine ck (EP c) ?_;simp[go_sem];apply gv<;>intro e
  ·have e':=e;simp at e';simp[go_sem,hc,e];refine ck (qB c) ?_;simp[go_sem];apply gw<;>intro b
   ·simp at b;have hn:=bI hc (P:=AL) (by simp[AL]at*;omega);simp[go_sem,hn]
   ·simp at b;simp[go_sem];refine ai ?_;refine nx (i+1) ⟨(by omega),(aL hc h2 (by simp[AL]at*;omega))⟩
  ·have e':=e;simp at e';simp[go_sem,e];refine ai ?_;refine nx (i+1) ⟨(by omega),(aL hc h2 (by simp[AL]at*;omega))⟩
 ·simp at a;have hf:=cO h2 a;simp[go_sem,hf]
theorem ayY {c:Str}(h:c≠[]):J2 c=c.all AL:=by rw[awT];simp[h]
theorem xY (l:List Str)(hl:l.length<=1048576)(hs:∀x∈l,x.length<=1048576):Fk 385 [bE l] (.val (dB (jP l))):=by
 refine fE good [] func385 ntmps385 fun _ _=> ?_;simp[go_sem];refine wl good (fun(i:Nat)=>[(0,.val (bE l)),(5,.val (bE l)),(6,.val (dI l.length)),(7,.val (dI i))]) (fun(i:Nat)=>(l).length-i) (fun(i:Nat)=>(i<=(l).length)/\((l.take i).all J2=true)/\(adj ltL (l.take i)=true)) (0) ⟨(by omega),rfl,rfl⟩ ?_;rintro i ⟨h1,h2,h3⟩;simp[go_sem];apply gw<;>intro a
 ·obtain⟨c,hc⟩:=aC (l:=l) (i:=i) (by omega);simp[go_sem,hc];apply gv<;>intro e
  ·have e':=e;have hn:=bI hc (P:=J2) (by simp[J2,e]);simp[go_sem,e];grind[jP]
  ·have e':=e;have hne:c≠[]:=by simpa using e
   have hta:=ayY hne;simp[go_sem,e];refine ck (DF c (hs c (AR hc))) ?_;simp[go_sem];apply gv<;>intro g
   ·have g':=g;simp at g';have hn:=bI hc (P:=J2) (by rw[hta];simpa using g);simp[go_sem,g];grind[jP]
   ·have g':=g;simp at g';simp[go_sem,g];apply gv<;>intro f
    ·have f':=f;obtain⟨p,hp⟩:=aC (l:=l) (i:=i-1) (by omega);have hi1:i-1+1=i:=by omega
     have hj1:((i:Int)-1).toNat=i-1:=by omega
     simp[go_sem,f,hp,hj1];iterate 2 refine ai ?_
     apply gw<;>intro b
     ·simp at b;have hn:=zW hp (by rw[hi1];exact hc) (R:=ltL) (by simpa using b);simp[go_sem];grind[jP]
     ·simp at b;simp[go_sem];refine ai ?_;refine nx (i+1) ⟨(by omega),(aL hc h2 (by rw[hta];simpa using g)),(by have:=pQ (i:=i-1) (by rw[hi1];exact h3) hp (by rw[hi1];exact hc) (R:=ltL) (by simpa using b);rwa [hi1]at this)⟩
    ·have f':=f;simp at f';simp[go_sem,f];refine ai ?_;refine nx (i+1) ⟨(by omega),(aL hc h2 (by rw[hta];simpa using g)),(by obtain rfl:i=0:=(by omega);exact mU)⟩
 ·simp at a;have hf:=cO h2 a;rw[aK a]at h3;simp[go_sem];grind[jP]
theorem F8 (a b:List Str)(ha:a.length<=1048576)(hsa:∀x∈a,x.length<=1048576)(hb:b.length<=1048576)(hsb:∀x∈b,x.length<=1048576):Fk 347 [bE a,bE b] (.val (dB (nG a b))):=by
 refine fE good [] func347 ntmps347 fun _ _=> ?_;simp[go_sem];refine ck (xY a ha hsa) ?_;simp[go_sem];apply gv<;>intro e
 ·have e':=e;simp[go_sem,e];refine ck (xY b hb hsb) ?_;simp[go_sem];grind[nG]
 ·have e':=e;simp[go_sem,e];grind[nG]
theorem RS (n d:Int)(hn:0<=n/\n<=1000000000000)(hd:0<=d/\d<=1000000000):Fk 349 [dI n,dI d] (.val (dI (if d=0 then 1000 else n.tdiv d))):=by
 refine fE good [] func349 ntmps349 fun _ _=> ?_;simp[go_sem];apply gw<;>intro b
 ·simp[go_sem];omega
 ·simp[go_sem];iterate 2 refine ai ?_
  omega
end Go.Proofs.YtemiopbofamgcaaGreatDoor
end
section
namespace Go.Proofs.YtemiopbofamgcaaGreatDoor
open Go.Dv Go.Pl Go.RowKit Go.Proofs.Tryz
theorem anS:∀k<26,F4.getD k 0=codeOf (97+k):=by decide
theorem WT {w:World}(h:uB w){k:Nat}(hk:k<26):w.cell? ⟨0,k,none⟩=some (.int .i64 (codeOf (97+k))):=by
 have hv:=h.2.2.2.2;have hg:prog.globalNamed "loop.example/g01923/impl.soundCodes" =some 0:=by kernel_rfl
 rw[←anS k hk];simp only[World.var?,hg,Option.bind_some]at hv;have hl:k<F4.length:=hk;cases hh:w.heap[0]? with
 |none=>rw[hh]at hv;simp at hv
 |some o=>
  rw[hh]at hv;cases o with
  |cells cs e fz=>
   simp only[Option.bind_some]at hv;obtain rfl:=Option.some.inj hv;simp only[World.cell?,hh];simp[List.getD,hl]
  |_=>simp at hv
theorem aCL (c:UInt8)(w:World)(h:uB w):Calls prog 355 #[.int .u8 c.toNat] w fun e w'=>e= .returned (.int .i64 (aB c))/\Below w.heap.size w w':=by
 have hc:c.toNat<256:=c.toNat_lt;have hs:=UN c;by_cases h1:65<=c.toNat/\c.toNat<=90
 ·have hu:=V5 h1.1 h1.2;have hcell:=WT h (k:=c.toNat-65) (by omega);rw[if_pos (by omega),hu]at hs;rw[show 97+(c.toNat-65)=c.toNat+32 by omega]at hcell;go_enter func355,ntmps355
  go_wp2
  all_goals first
   |(refine bodyPost_ret (v:= .int .i64 (aB c)) ?_ rfl ⟨rfl,Below.refl _ _⟩;simp[results,Tryz.f355,loadVar,hs];done)
   |(refine bodyPost_ret (v:= .int .i64 (-2)) ?_ rfl ⟨rfl,Below.refl _ _⟩;simp[results,Tryz.f355,loadVar];done)
   |(exfalso;rename_i h9;simp at h9;omega)
   |(exfalso;omega)
   |(exfalso;rename_i h8 h9;simp at h8 h9;omega)
 ·have hu:=JH h1;rw[hu]at hs;by_cases h2:97<=c.toNat/\c.toNat<=122
  ·have hcell:=WT h (k:=c.toNat-97) (by omega);rw[if_pos h2]at hs;rw[show 97+(c.toNat-97)=c.toNat by omega]at hcell;go_enter func355,ntmps355
   go_wp2
   all_goals first
    |(refine bodyPost_ret (v:= .int .i64 (aB c)) ?_ rfl ⟨rfl,Below.refl _ _⟩;simp[results,Tryz.f355,loadVar,hs];done)
    |(refine bodyPost_ret (v:= .int .i64 (-2)) ?_ rfl ⟨rfl,Below.refl _ _⟩;simp[results,Tryz.f355,loadVar];done)
    |(exfalso;rename_i h9;simp at h9;omega)
    |(exfalso;omega)
    |(exfalso;rename_i h8 h9;simp at h8 h9;omega)
  ·rw[if_neg h2]at hs;go_enter func355,ntmps355
   go_wp2
   all_goals first
    |(refine bodyPost_ret (v:= .int .i64 (aB c)) ?_ rfl ⟨rfl,Below.refl _ _⟩;simp[results,Tryz.f355,loadVar,hs];done)
    |(refine bodyPost_ret (v:= .int .i64 (-2)) ?_ rfl ⟨rfl,Below.refl _ _⟩;simp[results,Tryz.f355,loadVar];done)
    |(exfalso;rename_i h9;simp at h9;omega)
    |(exfalso;omega)
    |(exfalso;rename_i h8 h9;simp at h8 h9;omega)
    |(exfalso;simp only[Bool.not_eq_eq_eq_not,Bool.not_false,decide_eq_true_eq]at*;omega)
theorem zA (c:UInt8):bK prog 355 [dC c] (fun r=>r= .val (dI (aB c))):=
 vI (u:= .int .i64 (aB c)) rfl fun w ow vs hL hs ha=>by
  obtain rfl:=Q5 hs ha;exact aCL c w (D9 hL)
end Go.Proofs.YtemiopbofamgcaaGreatDoor
end
section
namespace Go.Proofs.YtemiopbofamgcaaGreatDoor
open Go.Dv Go.Pl Go.Proofs.Tryz
def okC (c:UInt8):Bool:=decide (aB c≠ -2)
def aw2 (c0:UInt8)(r:Str)(i:Nat):Str×Int:=(r.take (i-1)).foldl kQ ([cB c0],aB c0)
variable {i:Nat}
theorem aoX (c0:UInt8)(r:Str){c:UInt8}(hi:0<i)(h:(c0::r)[i]?=some c):aw2 c0 r (i+1)=kQ (aw2 c0 r i) c:=by
 obtain⟨j,rfl⟩:∃j,i=j+1:=⟨i-1,by omega⟩;rw[List.getElem?_cons_succ]at h;exact bB kQ _ h
theorem U5 (s:Str)(hs:s.length<=65536):Fk 300 [dS s] (.val (dS (dG s))):=by
 refine fE good [] func300 ntmps300 fun _ _=> ?_;simp[go_sem];apply gw<;>intro a
 ·have hx:dG s=[]:=if_pos (.inl (by simpa using a));simp[go_sem,hx]
 ·obtain⟨c0,r,rfl⟩:∃c r,s=c::r:=by cases s with|nil=>simp at a|cons c r=>exact⟨c,r,rfl⟩
  have hf:nM [c0]=[cB c0]:=rfl;have hrl:r.length<=65536:=by simp at hs;omega
  simp[go_sem];refine ck (BP [c0]) ?_;simp[go_sem,hf];refine ck (zA c0) ?_;simp[go_sem];refine wl good (fun((i,o,p):(Nat)×(Str)×(Int))=>[(0,.val (dS (c0::r))),(3,.own (oBs o)),(4,.val (dI p)),(16,.val (dS (c0::r))),(17,.val (dI (r.length+1))),(18,.val (dI i))]) (fun(i,o,p)=>(r.length+1)-i) (fun(i,o,p)=>(i<=r.length+1)/\(((c0::r).take i).all okC=true)/\((o,p)=aw2 c0 r i)/\(1<=o.length/\o.length<=i+1)) ((0,[cB c0],aB c0)) ⟨(by omega),(rfl),(rfl),(by simp)⟩ ?_;rintro⟨i,o,p⟩ ⟨h1,h2,h3,h4⟩;simp[go_sem];apply gw<;>intro b
  ·obtain⟨c,hc⟩:=aC (l:=c0::r) (i:=i) (by simp;omega);have hle:=OJ c;simp[go_sem,hc];refine ck (zA c) ?_;simp[go_sem];apply gw<;>intro d
   ·have hn:=bI hc (P:=okC) (by simp[okC,d]);have hx:=aj6 hn;simp[go_sem,hx]
   ·have hok:okC c=true:=by simp[okC,d]
    simp[go_sem];apply gv<;>intro e
    ·have e':=e;obtain rfl:i=0:=by omega
     simp[go_sem];refine ai ?_;refine nx (1,o,p) ⟨(by omega),(aL hc h2 hok),(h3),(by omega)⟩
    ·have e':=e;have hst:=aoX c0 r (by omega) hc;rw[←h3]at hst;simp[go_sem,e];apply gw<;>intro f
     ·have hs1:kQ (o,p) c=(o,p):=by simp only[kQ];rw[if_neg (by omega),if_neg (by omega)]
      simp[go_sem];refine ai ?_;refine nx (i+1,o,p) ⟨(by omega),(aL hc h2 hok),(by rw[hst,hs1]),(by omega)⟩
     ·simp at f;simp[go_sem];apply gv<;>intro g
      ·have g':=g;simp[go_sem,g];apply gw<;>intro k
       ·have hs1:kQ (o,p) c=(o++[UInt8.ofNat (48+aB c).toNat],aB c):=by simp only[kQ];rw[if_pos ⟨by omega,k⟩,if_pos (by omega)]
        have hu:((UInt8.ofNat (48+aB c).toNat).toNat:Int)=48+aB c:=by simp;omega
        have hw:IntKind.u8.wrap (48+aB c)=max (48+aB c) 0 % 256:=by simp[IntKind.wrap,IntKind.bits,IntKind.signed];omega
        simp[go_sem,hw];iterate 3 refine ai ?_
        refine nx (i+1,o++[UInt8.ofNat (48+aB c).toNat],aB c) ⟨(by omega),(aL hc h2 hok),(by rw[hst,hs1]),(by simp;omega)⟩
       ·have hs1:kQ (o,p) c=(o,aB c):=by simp only[kQ];rw[if_neg (by rintro⟨_,h⟩;exact h (by omega)),if_pos (by omega)]
        simp[go_sem];refine ai ?_;refine nx (i+1,o,aB c) ⟨(by omega),(aL hc h2 hok),(by rw[hst,hs1]),(by omega)⟩
      ·have g':=g;simp at g';have hs1:kQ (o,p) c=(o,aB c):=by simp only[kQ];rw[if_neg (by omega),if_pos (by omega)]
       simp[go_sem,g];refine ai ?_;refine nx (i+1,o,aB c) ⟨(by omega),(aL hc h2 hok),(by rw[hst,hs1]),(by omega)⟩
  ·simp at b;obtain rfl:i=r.length+1:=by omega
   rw[List.take_of_length_le (by simp)]at h2;have hse:=ajB c0 r h2;have ho:(r.foldl kQ ([cB c0],aB c0)).1=o:=by have:=congrArg Prod.fst h3;simpa[aw2]using this.symm
   rw[ho]at hse;simp[go_sem,hse];refine ai ?_;omega
theorem aoZ (s:Str):(tokens s).length<=2*s.length+1:=by
 rw[←KY];have h1:=HV (CJ (normal s));have h2:=abX (normal s);have h3:=AY s;omega
def ZU (l:List Str)(i:Nat):List Str:=ahF (l.take i)
theorem aj7 {l:List Str}{c:Str}(h:l[i]?=some c):ZU l (i+1)=ZU l i++if dG c=[]then[]else[dG c]:=by
 unfold ZU ahF;rw[aU h,List.map_append,List.filter_append];congr 1;by_cases hc:dG c=[]<;>simp[hc]
theorem zP (s:Str)(hs:s.length<=4096):Fk 228 [dS s] (.own (vZ (fP s))):=by
 refine fE good [] func228 ntmps228 fun _ _=> ?_;have hk:=ahO s;have ht:=aoZ s;have hel:∀x∈tokens s,x.length<=65536:=fun x hx=>by have h1:=((M5 s).2 x).1 hx;have h2:=(GZ 32 (normal s) []).2 x h1.1;have h3:=AY s;simp at h2;omega
 simp[go_sem];refine ck (xM s (by omega)) ?_;generalize tokens s=l at*
 simp[go_sem];refine wl good (fun((i,o):(Nat)×(List Str))=>[(3,.own (vZ o)),(8,.own (vZ l)),(9,.val (dI l.length)),(10,.val (dI i))]) (fun(i,o)=>l.length-i) (fun(i,o)=>(i<=l.length)/\(o=ZU l i)/\(o.length<=i)) ((0,[])) ⟨(by omega),(rfl),(by simp)⟩ ?_;rintro⟨i,o⟩ ⟨h1,h2,h3⟩;simp[go_sem];apply gw<;>intro a
 ·obtain⟨c,hc⟩:=aC (l:=l) (i:=i) (by omega);have hst:=aj7 hc;simp[go_sem,hc];refine ck (U5 c (hel c (List.mem_of_getElem? hc))) ?_;simp[go_sem];apply gw<;>intro b
  ·have hu:ZU l (i+1)=o++[dG c]:=by rw[hst,if_neg b,h2]
   simp[go_sem];iterate 2 refine ai ?_
   refine nx (i+1,o++[dG c]) ⟨(by omega),(hu.symm),(by simp;omega)⟩
  ·have hu:ZU l (i+1)=o:=by rw[hst,if_pos b,List.append_nil,h2]
   simp[go_sem];refine ai ?_;refine nx (i+1,o) ⟨(by omega),(hu.symm),(by omega)⟩
 ·simp at a;have ho:o=ahF l:=by rw[h2,ZU,List.take_of_length_le (by omega)]
  rw[←ho]at hk;simp[go_sem];refine ck (yQ o (by omega)) ?_;simp[go_sem,hk]
end Go.Proofs.YtemiopbofamgcaaGreatDoor
end
section
namespace Go.Proofs.YtemiopbofamgcaaGreatDoor
open Go.Dv Go.Pl Go.RowKit Go.Proofs.Tryz
theorem UR (n:Int)(hn: -9223372036854775808<=n/\n<=9223372036854775807):bK prog 410 [dI n] (fun r=>r= .val (dS (oP n))):=
 vI (u:= .string ⟨(oP n).toArray⟩) rfl fun w ow vs hL hs ha=>by
  obtain rfl:=Q5 hs ha;rw[←azL];exact(Tryz.strconv_Itoa n hn.1 hn.2 w (D9 hL).1).mono fun e w' ⟨h1,k,os,h2⟩=>⟨h1,h2▸below_grow⟩
theorem xI (s:Str)(v:Int)(hs:s.length<=1048576)(h:Lib.atoiAll s= .ok v):bK prog 389 [dS s] (fun r=>r= .tup [.val (dI v),.val (.one .nilIface)]):=by
 refine au5 (us:=[.int .i64 v,.nilIface]) (by simp[Value.oneCell']) fun w ow vs hL hsz ha=> ?_;obtain rfl:=Q5 hsz ha;refine(Tryz.strconv_Atoi_ok ⟨s.toArray⟩ (by simp[ByteArray.size];omega) v h w).mono fun e w' ⟨h1,h2⟩=>⟨h1,?_⟩;rcases h2 with rfl|⟨t,rfl⟩
 ·exact Below.refl _ _
 ·exact Lib.bytesWorld_below w _ t
theorem KZ (s:Str)(hs:s.length<=1048576)(h:∀v,Lib.atoiAll s≠ .ok v):bK prog 389 [dS s] (fun r=>∃k tp p,r= .tup [.val (dI k),.val (.one (.iface tp p))]):=by
 have hsz:(⟨s.toArray⟩:ByteArray).size<=281474976710656:=by simp[ByteArray.size];omega
 have key:∀(w:World) (ow:Own) (vs:Array Value) (t:Nat),Laid w ow->vs.size=1->(∀(i:Nat) (d:D),[dS s][i]?=some d->V prog w ow d.fz [] (vs.getD i undef))->Calls prog 389 vs w fun e w'=>∃k tp p,e= .returned (.tuple #[.int .i64 k,.iface tp p])/\Below w.heap.size w w':=by
  intro w ow vs t hL h1 h2;obtain rfl:=Q5 h1 h2;obtain⟨_,⟨t1,p1,hv1⟩,⟨t2,p2,hv2⟩,_⟩:=D9 hL;by_cases hr:Lib.atoiAll s= .range
  ·exact(Tryz.strconv_Atoi_range_var ⟨s.toArray⟩ hsz hr t2 p2 w hv2).mono fun e w' ⟨N,g1,_,_,g4⟩=>⟨_,_,_,g1,g4⟩
  ·exact(Tryz.strconv_Atoi_syntax_var ⟨s.toArray⟩ hsz h hr t1 p1 w hv1).mono fun e w' ⟨N,g1,_,_,g4⟩=>⟨_,_,_,g1,g4⟩
 intro w ow vs t ht hL hnew hvs hargs;refine(key w ow vs t hL hvs hargs).mono ?_;rintro e w' ⟨k,tp,p,rfl,hB⟩;refine⟨_,fun b=>if b<w.heap.size then ow b else none,_,rfl,⟨k,tp,p,rfl⟩,⟨hB.os,hB.tape,hB.output,hB.size,fun b hb=>⟨hB.block b hb,if_pos hb⟩,fun b hb=>if_neg (by have:=hB.size;omega)⟩,rfl,fun s a=> ?_⟩;refine⟨_,rfl,by simp,fun k x hx=> ?_⟩
 match k,hx with
 |0,hx=>obtain rfl:=Option.some.inj hx;simp[D.fz,V,R,Array.getD_eq_getD_getElem?,Value.oneCell']
 |1,hx=>obtain rfl:=Option.some.inj hx;simp[D.fz,V,R,Array.getD_eq_getD_getElem?,Value.oneCell']
def aeJ (s:Str):Int:=if gV s=true then fD s else 0
theorem VT (s:Str):aeJ s=if gV s=true then fD s else 0:=rfl
theorem yO (n:Int)(hn: -9223372036854775808<=n/\n<=9223372036854775807):Fk 390 [dI n] (.val (dS (oP n))):=by
 refine fE good [] func390 ntmps390 fun _ _=> ?_;simp[go_sem];refine ck (UR n hn) ?_;simp[go_sem]
theorem apE (s:Str)(hs:s.length<=1048576)(hp:gV s=true):Fk 356 [dS s] (.tup [.val (dI (aeJ s)),.val (dB (gV s))]):=by
 refine fE good [] func356 ntmps356 fun _ _=> ?_;have hv:=ao6 hp;have hf:oP (fD s)=s:=by simp only[gV,Bool.and_eq_true,decide_eq_true_eq]at hp;exact hp.2
 have ha:Lib.atoiAll s= .ok (fD s):=(congrArg Lib.atoiAll hf.symm).trans (avS hv);have hg:aeJ s=fD s:=by rw[VT,if_pos hp]
 simp[go_sem];refine ck (xI s (fD s) hs ha) ?_;simp[go_sem];refine ck (yO (fD s) (by omega)) ?_;simp[go_sem,hf];refine ck (aH (fD s) (-999999999) 999999999) ?_;simp[go_sem];apply gw<;>intro g
 ·simp at g;simp[go_sem];refine ai ?_;exfalso;omega
 ·simp at g;simp[go_sem];refine ai ?_;simp[hp]
theorem an9 (s:Str)(v:Int)(hs:s.length<=1048576)(hp:gV s=false)(ha:Lib.atoiAll s= .ok v)(hv: -9223372036854775808<=v/\v<=9223372036854775807):Fk 356 [dS s] (.tup [.val (dI (aeJ s)),.val (dB (gV s))]):=by
 refine fE good [] func356 ntmps356 fun _ _=> ?_;have hg:aeJ s=0:=by rw[VT,if_neg (by simp[hp])]
 simp[go_sem];refine ck (xI s v hs ha) ?_;simp[go_sem];refine ck (yO v hv) ?_;simp[go_sem];apply gv<;>intro e
 ·have e':=e;simp[go_sem,e];refine ai ?_;simp[hp]
 ·have e':=e;simp[go_sem,e];refine ck (aH v (-999999999) 999999999) ?_;simp[go_sem];apply gw<;>intro g
  ·simp at g;simp[go_sem];refine ai ?_;simp[hp]
  ·simp at g;simp[go_sem];have h2:=(anA (n:=v) (by omega)).1;all_goals(rw[e']at h2;rw[hp]at h2;cases h2)
theorem aoD (s:Str)(hs:s.length<=1048576)(hp:gV s=false)(ha:∀v,Lib.atoiAll s≠ .ok v):Fk 356 [dS s] (.tup [.val (dI (aeJ s)),.val (dB (gV s))]):=by
 refine fE good [] func356 ntmps356 fun _ _=> ?_;have hg:aeJ s=0:=by rw[VT,if_neg (by simp[hp])]
 simp[go_sem];refine bC (KZ s hs ha) (by simp[go_sem]) ?_;rintro r ⟨k,tp,p,rfl⟩;refine⟨by simp[go_sem],?_⟩;simp[go_sem];refine ai ?_;simp[hp]
theorem R9 (s:Str)(hs:s.length<=1048576):Fk 356 [dS s] (.tup [.val (dI (aeJ s)),.val (dB (gV s))]):=by
 cases hp:gV s with
 |true=>rw[←hp];exact apE s hs hp
 |false=>
  rw[←hp];by_cases ha:∃v,Lib.atoiAll s= .ok v
  ·obtain⟨v,ha⟩:=ha;exact an9 s v hs hp ha (Lib.atoiAll_bounds ha)
  ·exact aoD s hs hp fun v h=>ha ⟨v,h⟩
theorem yU (s:Str)(hs:s.length<=1048576):Fk 301 [dS s] (.val (dI (dD s))):=by
 refine fE good [] func301 ntmps301 fun _ _=> ?_;have hg:=VT s;simp[go_sem];refine ck (R9 s hs) ?_;simp[go_sem];apply gv<;>intro a
 ·have a':=a;have hgv:aeJ s=fD s:=by rw[hg,if_pos a]
  simp[go_sem,a,hgv];refine ck (aH (fD s) 1000 9999) ?_;simp[go_sem];apply gw<;>intro b
  ·simp at b;simp[go_sem];grind[dD]
  ·simp at b;simp[go_sem];grind[dD]
 ·have a':=a;simp[go_sem,a];grind[dD]
theorem PL (s:Str):0<=dD s/\dD s<=9999:=by
 unfold dD;split
 ·rename_i h;simp only[inR,decide_eq_true_eq]at h;omega
 ·omega
theorem atD (x y z:Int):max (x-y) (y-x)=max x y-min x y:=by omega
theorem JX (x y z:Int):Fk 302 [dI x,dI y,dI z] (.val (dI (gM x y z))):=by
 refine fE good [] func302 ntmps302 fun _ _=> ?_;simp[go_sem];refine ck (aH x 0 9999) ?_;simp[go_sem];apply gv<;>intro e
 ·have e':=e;simp at e';simp[go_sem,e];all_goals(simp only[gM];rw[if_neg (by intro h;simp_all;omega)])
 ·have e':=e;simp at e';simp[go_sem,e];refine ck (aH y 0 9999) ?_;simp[go_sem];apply gv<;>intro f
  ·have f':=f;simp at f';simp[go_sem,f];all_goals(simp only[gM];rw[if_neg (by intro h;simp_all;omega)])
  ·have f':=f;simp at f';simp[go_sem,f];refine ck (aH z 1 9999) ?_;simp[go_sem];apply gw<;>intro g
   ·simp at g;simp[go_sem];all_goals(simp only[gM];rw[if_neg (by intro h;simp_all;omega)])
   ·simp at g;have hxy:inR x 0 9999=true/\inR y 0 9999=true/\inR z 1 9999=true:=by simp_all
    have hnc:=atD x y z;obtain⟨D,hD⟩:∃D,max x y-min x y=D:=⟨_,rfl⟩;have hns:gM x y z=if D>=z then 0 else(1000*(z-D)).tdiv z:=by rw[gM,if_pos hxy,hD]
    rw[hD]at hnc;have hb:0<=D/\D<=9999/\ -9999<=x-y/\x-y<=9999/\1<=z/\z<=9999:=by simp at hxy;omega
    clear hxy;have hm:(1000*max (z-D) 0).tdiv z=gM x y z:=by rw[hns];split;(rw[show max (z-D) 0=0 by omega];simp);(rw[show max (z-D) 0=z-D by omega])
    have hz0:¬z=0:=by omega
    have hq:=BO (a:=1000*max (z-D) 0) (b:=z) (by omega) (by omega);simp[go_sem,hnc,hm,hz0];iterate 4 refine ai ?_
    grind
theorem PQ (x y:Str)(hx:x.length<=1048576)(hy:y.length<=1048576):Fk 229 [dS x,dS y] (.val (dI (kW x y))):=by
 refine fE good [] func229 ntmps229 fun _ _=> ?_;have hxp:=PL x;have hyp:=PL y;simp[go_sem];refine ck (yU x hx) ?_;simp[go_sem];refine ck (yU y hy) ?_;simp[go_sem];apply gv<;>intro e
 ·have e':=e;have hs:kW x y=0:=if_neg (by omega);simp[go_sem,e,hs]
 ·have e':=e;simp[go_sem,e];apply gw<;>intro f
  ·have hs:kW x y=0:=if_neg (by omega);simp[go_sem,hs]
  ·have hs:kW x y=gM (dD x) (dD y) 10:=if_pos (by omega);simp[go_sem];refine ck (JX _ _ _) ?_;simp[go_sem,hs]
theorem BA (s:Str)(hs:s.length<=1048576):Fk 303 [dS s] (.val (dS (digits s))):=by
 refine fE good [] func303 ntmps303 fun _ _=> ?_;simp[go_sem];refine wl good (fun((i,o):(Nat)×(Str))=>[(0,.val (dS s)),(3,.own (oBs o)),(5,.val (dS s)),(6,.val (dI s.length)),(7,.val (dI i))]) (fun(i,o)=>(s).length-i) (fun(i,o)=>(i<=(s).length)/\(o=(s.take i).filter (fun c=>decide (48<=c.toNat/\c.toNat<=57)))/\(o.length<=i)) ((0,[])) ⟨(by omega),rfl,(by simp)⟩ ?_;rintro⟨i,o⟩ ⟨h1,h2,h3⟩;simp[go_sem];apply gw<;>intro a
 ·obtain⟨c,hc⟩:=aC (l:=s) (i:=i) (by omega);have hm:=rD (fun c:UInt8=>decide (48<=c.toNat/\c.toNat<=57)) hc;rw[←h2]at hm;simp[go_sem,hc];refine ck (qB c) ?_;simp[go_sem];apply gw<;>intro f
  ·simp at f;have hd:(decide (48<=c.toNat/\c.toNat<=57))=true:=by simp at f|-;omega
   simp[go_sem,hc];iterate 2 refine ai ?_
   refine nx (i+1,o++[c]) ⟨(by omega),(by rw[hm,hd];rfl),(by simp;omega)⟩
  ·simp at f;have hd:(decide (48<=c.toNat/\c.toNat<=57))=false:=by simp at f|-;omega
   simp[go_sem];refine ai ?_;refine nx (i+1,o) ⟨(by omega),(by rw[hm,hd];simp),(by omega)⟩
 ·simp at a;rw[aK a]at h2;simp[go_sem];grind[digits]
theorem vD (s p:Str)(hs:s.length<=1048576:=by first|assumption|omega|(simp;omega)|grind):bK prog 304 [dS s,dS p] (fun r=>r= .val (dB (p.isSuffixOf s))):=
 vI (u:= .bool (p.isSuffixOf s)) rfl fun w ow vs hL hsz ha=>by
  obtain rfl:=adG hsz ha;exact(Tryz.strings_HasSuffix ⟨s.toArray⟩ ⟨p.toArray⟩ w (by simp[ByteArray.size];omega)).mono fun e w' ⟨h1,h2⟩=>⟨h1,h2▸Below.refl _ _⟩
theorem LA (x y:Str)(hx:x.length<=1048576)(hy:y.length<=1048576):Fk 230 [dS x,dS y] (.val (dI (kK x y))):=by
 refine fE good [5] func230 ntmps230 fun _ _=> ?_;have hdx:(digits x).length<=x.length:=List.length_filter_le _ _;have hdy:(digits y).length<=y.length:=List.length_filter_le _ _;have hps:kK x y=yV (digits x) (digits y):=rfl;simp[go_sem];refine ck (BA x hx) ?_;simp[go_sem];refine ck (BA y hy) ?_;generalize digits x=p at*
 generalize digits y=q at*
 simp[go_sem];refine amP good (fun(n:Nat)=>[(5,.val (dS p)),(6,.val (dS q)),(7,.val (dI n))]) (fun(n:Nat)=>(shared p.reverse q.reverse=n)/\(n<=p.length/\n<=q.length)) ?_ ?_
 ·simp[go_sem];refine wl good (fun(n:Nat)=>[(5,.val (dS p)),(6,.val (dS q)),(7,.val (dI n))]) (fun(n:Nat)=>p.length-n) (fun(n:Nat)=>(n<=p.length/\n<=q.length)/\(shared p.reverse q.reverse=n+shared (p.reverse.drop n) (q.reverse.drop n))) (0) ⟨(by omega),(by simp)⟩ ?_;rintro n ⟨h1,h2⟩;simp[go_sem];refine wdr good ?_;simp[go_sem];apply gv<;>intro a
  ·have a':=a;simp[go_sem,a];apply gv<;>intro b
   ·have b':=b;have hk:((p.length:Int)-1-n).toNat=p.length-1-n:=by omega
    have hk2:((q.length:Int)-1-n).toNat=q.length-1-n:=by omega
    have hcx:=WA (s:=p) (i:=n) (by omega);have hcy:=WA (s:=q) (i:=n) (by omega);have hss:=UM (p:=p.reverse) (q:=q.reverse) (i:=n) (by simp;omega) (by simp;omega);simp[go_sem,b,hk,hk2,hcx,hcy];iterate 6 refine ai ?_
    apply gw<;>intro f
    ·simp[go_sem];refine ai ?_;refine nx (n+1) ⟨(by omega),(by rw[h2,hss,if_pos (by simpa using f)];omega)⟩
    ·simp[go_sem];refine jn (n) ⟨(by rw[h2,hss,if_neg (by simpa using f)];rfl),(h1)⟩
   ·have b':=b;simp at b';simp[go_sem,b];refine jn (n) ⟨(by rw[h2,DU (.inr (by simp;omega))];rfl),(h1)⟩
  ·have a':=a;simp at a';simp[go_sem,a];refine jn (n) ⟨(by rw[h2,DU (.inl (by simp;omega))];rfl),(h1)⟩
 rintro n ⟨h5,h6⟩;have hpe:=aiW p q;rw[h5,←hps]at hpe;refine GY good (fun(_:Unit)=>[(5,.val (dS p))]) (fun(_:Unit)=>(kK x y=400)) ?_ ?_
 ·simp[go_sem];apply gv<;>intro a
  ·have a':=a;rw[if_pos (by omega)]at hpe;simp[go_sem,a,hpe]
  ·have a':=a;simp at a';simp[go_sem,a];apply gv<;>intro b
   ·have b':=b;rw[if_pos (by omega)]at hpe;simp[go_sem,b,hpe]
   ·have b':=b;simp at b';simp[go_sem,b];apply gw<;>intro d
    ·rw[if_pos (by omega)]at hpe;simp[go_sem,hpe]
    ·simp at d;rw[if_neg (by omega)]at hpe;simp[go_sem];apply gw<;>intro e
     ·rw[if_pos (by simpa using e)]at hpe;simp[go_sem,hpe]
     ·rw[if_neg (by simpa using e)]at hpe;simp[go_sem];apply gv<;>intro f
      ·have f':=f;rw[if_pos (.inl (by omega))]at hpe;simp[go_sem,f,hpe]
      ·have f':=f;simp at f';simp[go_sem,f];refine ck (vD p q) ?_;simp[go_sem];apply gv<;>intro g
       ·have g':=g;simp at g';rw[if_pos (.inr (.inl (by simpa using g)))]at hpe;simp[go_sem,g,hpe]
       ·have g':=g;simp[go_sem,g];refine ck (vD q p) ?_;simp[go_sem];apply gw<;>intro l
        ·simp at l;rw[if_pos (.inr (.inr (List.isSuffixOf_iff_suffix.2 l)))]at hpe;simp[go_sem,hpe]
        ·rw[if_neg (by rintro(h|h|h);(omega);(exact absurd (h.symm.trans g) (by simp));(exact absurd (h.symm.trans l) (by simp)))]at hpe;simp[go_sem];refine jn (()) (hpe)
 rintro⟨⟩ h7;simp[go_sem];omega
end Go.Proofs.YtemiopbofamgcaaGreatDoor
end
section
namespace Go.Proofs.YtemiopbofamgcaaGreatDoor
open Go.Dv Go.Pl Go.Proofs.Tryz
def edB (x y:Str)(i:Nat):L2:=edT x y false i++List.replicate (x.length+1-i) []
theorem arO (x y:Str):List.replicate (x.length+1) (D.sl (some 3) [])=(edB x y 0).map aF:=by
 show _=(List.replicate (x.length+1) ([]:L1)).map aF;rw[List.map_replicate];rfl
variable {i:Nat}
theorem axC (x y:Str)(h:i<=x.length+1):(edB x y i).length=x.length+1:=by simp[edB,uS];omega
theorem aA6 (x y:Str)(h:i<=x.length):(edB x y i)[i]?=some []:=by
 unfold edB;rw[List.getElem?_append_right (by rw[uS];omega),uS,List.getElem?_replicate,if_pos (by omega)]
theorem axR (x y:Str)(h:i<=x.length)(r:L1):(edB x y i).set i r=edT x y false i++r::List.replicate (x.length-i) []:=by
 unfold edB;rw[List.set_append_right _ _ (by rw[uS];omega),uS,Nat.sub_self,show x.length+1-i=(x.length-i)+1 by omega,List.replicate_succ];rfl
theorem axZ (x y:Str)(h:i<=x.length):((edB x y i).map aF).set i (D.sl (some 3) (List.replicate (y.length+1) (dI 0)))=(edU x y false i 0).map aF:=by
 have e:(D.sl (some 3) (List.replicate (y.length+1) (dI 0)))=aF (List.replicate (y.length+1) 0):=by rw[←List.map_replicate]
 rw[e,←List.map_set,axR x y h];rfl
theorem axL (x y:Str)(h:i<=x.length):edU x y false i (y.length+1)=edB x y (i+1):=by
 unfold edU edB;rw[ay8,aqQ,show x.length+1-(i+1)=x.length-i by omega,List.append_assoc];rfl
theorem awV (x y:Str){k:Nat}(hk:k<=y.length):((edU x y false i k).map aF).set i (D.sl (some 3) (((edP x y false i k).map dI).set k (dI (ed x y false i k))))=(edU x y false i (k+1)).map aF:=by
 have h1:((edP x y false i k).map dI).set k (dI (ed x y false i k))=(edP x y false i (k+1)).map dI:=by rw[←List.map_set,ayO hk]
 rw[h1];have h2:(edU x y false i k).set i (edP x y false i (k+1))=edU x y false i (k+1):=by rw[ax6];rfl
 rw[←h2,List.map_set]
theorem aw1 (x y:Str)(i k:Nat):min (min (ed x y false i (k+1)+1) (ed x y false (i+1) k+1)) (ed x y false i k+if chr x i=chr y k then 0 else 1)=ed x y false (i+1) (k+1):=by
 rw[aCG];unfold edV;rw[ed];simp[nE]
theorem adI (x y:Str)(hx:x.length<=40)(hy:y.length<=40):Fk 397 [dS x,dS y,dB false] (.own (gN (edB x y (x.length+1)))):=by
 refine fE good [] func397 ntmps397 fun _ _=> ?_;have hz:=arO x y;have hz2:=axC x y (i:=0) (by omega);simp[go_sem,hz,hz2];iterate 3 refine ai ?_
 refine wl good (fun(i:Nat)=>[(0,.val (dS x)),(1,.val (dS y)),(2,.val (dB false)),(7,.own (gN (edB x y i))),(16,.val (dI (x.length+1))),(17,.val (dI i))]) (fun(i:Nat)=>x.length+1-i) (fun(i:Nat)=>(i<=x.length+1)) (0) (by omega) ?_;rintro i h1;simp[go_sem];apply gw<;>intro a
 ·have hb1:=aA6 x y (i:=i) (by omega);have hb2:=axZ x y (i:=i) (by omega);have hb3:=alV (x:=x) (y:=y) (tr:=false) i 0;have hb4:=awR (x:=x) (y:=y) (tr:=false) (i:=i) (k:=0) (by omega);simp[go_sem,hb1,hb2,hb3,hb4];iterate 3 refine ai ?_
  refine wl good (fun(k:Nat)=>[(0,.val (dS x)),(1,.val (dS y)),(2,.val (dB false)),(7,.own (gN (edU x y false i k))),(8,.val (dI i)),(16,.val (dI (x.length+1))),(17,.val (dI i)),(31,.val (dI (y.length+1))),(32,.val (dI k))]) (fun(k:Nat)=>y.length+1-k) (fun(k:Nat)=>(k<=y.length+1)) (0) (by omega) ?_;rintro k h2;simp[go_sem];apply gw<;>intro b
  ·have hn:=alV (x:=x) (y:=y) (tr:=false) i k;have hp:=aBT (x:=x) (y:=y) (tr:=false) (i:=i) (k:=k) (by omega);have hput:=awV x y (i:=i) (k:=k) (by omega);simp[go_sem];apply gw<;>intro c
   ·have he:ed x y false i k=k:=by rw[show i=0 by omega,ed]
    rw[he]at hput;simp[go_sem,hn,hp,hput];refine ai ?_;refine nx (k+1) (by omega)
   ·simp[go_sem];apply gw<;>intro d
    ·have he:ed x y false i k=i:=by obtain⟨j,rfl⟩:∃j,i=j+1:=⟨i-1,by omega⟩;rw[show k=0 by omega,ed]
     rw[he]at hput;simp[go_sem,hn,hp,hput];refine ai ?_;refine nx (k+1) (by omega)
    ·obtain⟨i,rfl⟩:∃j,i=j+1:=⟨i-1,by omega⟩;obtain⟨k,rfl⟩:∃j,k=j+1:=⟨k-1,by omega⟩;have e1:((i+1:Nat):Int)-1=i:=by omega
     have e2:((k+1:Nat):Int)-1=k:=by omega
     have hcx:=rM (s:=x) (i:=i) (by omega);have hcy:=rM (s:=y) (i:=k) (by omega);have ho:=azK (x:=x) (y:=y) (tr:=false) (i:=i+1) (k:=k+1) (j:=i) (by omega);have r1:=V7 (x:=x) (y:=y) (tr:=false) (i:=i) (k:=y.length+1) (j:=k+1) (by omega);have r2:=V7 (x:=x) (y:=y) (tr:=false) (i:=i) (k:=y.length+1) (j:=k) (by omega);have r3:=azH (x:=x) (y:=y) (tr:=false) (i:=i+1) (k:=k+1) (j:=k) (by omega);have l1:=akG (x:=x) (y:=y) (tr:=false) i (k+1);have l2:=akG (x:=x) (y:=y) (tr:=false) i k;have l3:=akG (x:=x) (y:=y) (tr:=false) (i+1) k;have hst:=aw1 x y i k;simp[go_sem];refine wdr good ?_;simp[go_sem,hcx,hcy];iterate 2 refine ai ?_
     apply gw<;>intro f
     ·rw[if_pos f,Int.add_zero]at hst;have hs2:min (min (ed x y false i (k+1)) (ed x y false (i+1) k)+1) (ed x y false i k)=ed x y false (i+1) (k+1):=by omega
      simp[go_sem];refine wdt good 36 ?_;simp[go_sem,hn,hp,ho,r1,r2,r3,hs2,hput];iterate 11 refine ai ?_
      refine wdr good ?_;simp[go_sem];refine ai ?_;refine nx (k+1+1) (by omega)
     ·rw[if_neg f]at hst;have hs2:min (ed x y false i (k+1)) (min (ed x y false (i+1) k) (ed x y false i k))+1=ed x y false (i+1) (k+1):=by omega
      simp[go_sem];refine wdt good 36 ?_;simp[go_sem,hn,hp,ho,r1,r2,r3,hs2,hput];iterate 11 refine ai ?_
      refine wdr good ?_;simp[go_sem];refine ai ?_;refine nx (k+1+1) (by omega)
  ·simp at b;have hk:edU x y false i k=edB x y (i+1):=by rw[show k=y.length+1 by omega];exact axL x y (by omega)
   simp[go_sem,hk];refine ai ?_;refine nx (i+1) (by omega)
 ·simp at a;have hi:edB x y i=edB x y (x.length+1):=by rw[show i=x.length+1 by omega]
  simp[go_sem,hi]
variable {x y:Str}
theorem aDR (hx:x.length<=40)(hy:y.length<=40):jW x y=ed x y false x.length y.length:=by rw[SL,if_pos (by simp[xP];omega)]
theorem auC (x y:Str):(edB x y (x.length+1))[x.length]?=some (edR x y false x.length (y.length+1)):=by
 unfold edB;rw[Nat.sub_self,List.replicate_zero,List.append_nil];exact amB (by omega)
theorem aEI (h:40<x.length\/40<y.length):jW x y= -1:=by
 unfold jW;rw[if_neg];simp only[xP,Bool.and_eq_true,decide_eq_true_eq];omega
theorem ay1 (x y:Str)(hx:x.length<=1048576)(hy:y.length<=1048576):Fk 384 [dS x,dS y,dB false] (.val (dI (jW x y))):=by
 refine fE good [] func384 ntmps384 fun _ _=> ?_;simp[go_sem];apply gv<;>intro a
 ·have a':=a;have hn:=aEI (x:=x) (y:=y) (.inl (by omega));simp[go_sem,a,hn]
 ·have a':=a;simp at a';simp[go_sem,a];apply gw<;>intro b
  ·have hn:=aEI (x:=x) (y:=y) (.inr (by omega));simp[go_sem,hn]
  ·simp at b;have hf:=aDR (x:=x) (y:=y) (by omega) (by omega);have h1:=auC x y;have h2:=V7 (x:=x) (y:=y) (tr:=false) (i:=x.length) (k:=y.length+1) (j:=y.length) (by omega);simp[go_sem];refine ck (adI x y (by omega) (by omega)) ?_;simp[go_sem,h1,h2,hf]
theorem FW (x y:Str)(hx:x.length<=1048576)(hy:y.length<=1048576):Fk 346 [dS x,dS y] (.val (dI (jW x y))):=by
 refine fE good [] func346 ntmps346 fun _ _=> ?_;simp[go_sem];refine ck (ay1 x y hx hy) ?_;simp[go_sem]
theorem PU (x y:Str)(hx:x.length<=1048576)(hy:y.length<=1048576):Fk 296 [dS x,dS y] (.val (dI (oI x y))):=by
 refine fE good [] func296 ntmps296 fun _ _=> ?_;have hb:=aa6 x y;have hed:oI x y=if jW x y<0 then 0 else if max (x.length:Int) y.length=0 then 1000 else(1000*(max (x.length:Int) y.length-jW x y)).tdiv (max (x.length:Int) y.length):=rfl
 obtain⟨M,hM⟩:∃M,max (x.length:Int) y.length=M:=⟨_,rfl⟩;have hMb:0<=M/\M<=1048576:=by omega
 rw[hM]at hed;simp[go_sem];refine ck (FW x y hx hy) ?_;simp[go_sem,hM];apply gw<;>intro a
 ·rw[if_pos (by omega)]at hed;simp[go_sem,hed]
 ·simp at a;rw[if_neg (by omega)]at hed;simp[go_sem];apply gw<;>intro b
  ·rw[if_pos (by omega)]at hed;simp[go_sem,hed]
  ·rw[if_neg (by omega)]at hed;have hq:=BO (a:=1000*(M-jW x y)) (b:=M) (by omega) (by omega);simp[go_sem,hed,hq];iterate 2 refine ai ?_
   omega
theorem zF (x y:Str)(hx:x.length<=65536)(hy:y.length<=65536):Fk 225 [dS x,dS y] (.val (dI (jJ x y))):=by
 refine fE good [] func225 ntmps225 fun _ _=> ?_;have h1:=AY x;have h2:=AY y;simp[go_sem];refine ck (sI x hx) ?_;simp[go_sem];refine ck (sI y hy) ?_;simp[go_sem];apply gv<;>intro a
 ·have a':=a;have ht:jJ x y=0:=if_pos (.inl (by simpa using a));simp[go_sem,a,ht]
 ·have a':=a;simp[go_sem,a];apply gw<;>intro b
  ·have ht:jJ x y=0:=if_pos (.inr (by simpa using b));simp[go_sem,ht]
  ·have ht:jJ x y=oI (normal x) (normal y):=if_neg (by rintro(h|h);(exact a (by simpa using h));(exact b (by simpa using h)));simp[go_sem];refine ck (PU (normal x) (normal y) (by omega) (by omega)) ?_;simp[go_sem,ht]
end Go.Proofs.YtemiopbofamgcaaGreatDoor
end
section
namespace Go.Proofs.YtemiopbofamgcaaGreatDoor
open Go.Dv Go.Pl Go.RowKit Go.Lib Go.Sort Go.Proofs.Tryz
theorem yX (l:List Str)(hl:1<=l.length/\l.length<=262144):bK prog 350 [bE l] (fun r=>r= .own (vZ l)):=by
 intro w ow vs t ht hL hnew hsz ha;obtain⟨a,cap,hv,hcap,hc⟩:=amG (ha 0 _ rfl)
 obtain rfl:vs= #[.slice a l.length cap]:=by
  apply Array.ext
  ·simpa using hsz
  ·intro i hi h2;obtain rfl:i=0:=by simpa using h2
   simpa[Array.getD_eq_getD_getElem?,hi]using hv
 rcases hc with rfl|⟨b,off,rfl,_,h2⟩
 ·simp at hl
 ·refine(YY l ⟨b,off,none⟩ cap w hl.2 (.inr ⟨rfl,h2⟩)).mono ?_;rintro e w' ⟨v,rfl,h1,_,h3⟩;obtain⟨ow',h4,h5⟩:=Y4 (ow:=ow) (t:=t) h3 h1;exact⟨_,ow',_,rfl,rfl,h4,rfl,h5⟩
theorem xV (l:List Str)(hl:1<=l.length/\l.length<=262144:=by first|assumption|omega):FK prog 351 [.one (.bool false)] 0 (vZ l) (fun r d=>r= .tup []/\d=vZ (kS l)):=by
 intro w ow vs t lab ht hL hnew hsz hm hargs hV;simp only[V,R]at hV;obtain⟨a,cap,hv,hc1,hc2,h4⟩:=hV;rw[List.length_map]at hv hc1;have hv:vs.getD 0 undef= .slice a l.length cap:=by simpa using hv
 obtain rfl:vs= #[.slice a l.length cap]:=by
  apply Array.ext
  ·simpa using hsz
  ·intro i hi h2;obtain rfl:i=0:=by simpa using h2
   simpa[Array.getD_eq_getD_getElem?,hi]using hv
 rcases h4 with⟨_,h4,_⟩|⟨h4,_⟩|⟨b,off,s,C,e',fz,rfl,hb,_,h5,hrow⟩
 ·have:l=[]:=by simpa using h4
  rw[this]at hl;simp at hl
 ·cases h4
 obtain⟨hob,rfl,hU,rfl,hC,i,hi,his⟩:=h5 _ rfl;have hr:=(Rs.iff hb).1 hrow
 have hget:∀(j:Nat) (x:Str),l[j]?=some x->s=1/\C[j]?=some (Value.string ⟨x.toArray⟩):=fun j x hx=>by
  obtain⟨hw,C',e2,fz',cs,g1,g2,g3⟩:=hr j (dS x) (by rw[List.getElem?_map,hx];rfl);have hs1:s=1:=hw.symm;subst hs1;rw[hb]at g1;obtain⟨rfl,rfl,rfl⟩:C=C'/\_=e2/\fz=fz':=by simpa using g1
  simp only[R]at g3;obtain⟨rfl,_⟩:=g3;have:=g2 0 (by simp[D.w]);exact⟨rfl,by simpa using this⟩
 have hs1:s=1:=(hget 0 _ (List.getElem?_eq_getElem (by omega))).1;subst hs1;have hCl:l.length<=C.size:=by omega
 have hlt:=Go.Dv.lt_of_heap hb
 have hH:Holds encStr w b 0 l.toArray:=fun j hj=>by
  have hj':j<l.length:=by simpa using hj
  have h1:=(hget j _ (List.getElem?_eq_getElem hj')).2;refine⟨?_,?_⟩
  ·rw[cell_of_row w b (0+j) C _ fz hb,Nat.zero_add,h1,V3];rw[getElem!_pos l.toArray j hj];simp
  ·have:=hU j (by omega);simp only[World.frozen?,hb,Nat.zero_add];simp only[Bool.and_eq_false_iff,decide_eq_false_iff_not];omega
 refine(Tryz.slices_Sort_string b 0 cap l w hH hlt (by omega)).mono ?_;rintro e w2 ⟨h1,n,os,rfl⟩
 have hold:∀b2,b2<w.heap.size->(grow (putRow encStr (Go.Sort.ahead w n) b 0 (l.mergeSort fun x y=>decide (x<=y)).toArray) os).heap[b2]?=(w.heap.modify b (onCells (putCells encStr 0 (kS l).toArray)))[b2]?:=fun b2 hb2=>by
  show((w.heap.modify b (onCells (putCells encStr 0 (kS l).toArray)))++os)[b2]?=_;rw[Array.getElem?_append_left (by simpa using hb2)]
 have hnb:=hold b hlt;rw[Array.getElem?_modify,if_pos rfl,hb]at hnb;refine⟨_,ow,.tup [],_,h1,⟨rfl,rfl⟩,rfl,rfl,rfl,by simp[grow,putRow,mapBlock,Go.Sort.ahead],fun b2 hb2 hno=>⟨?_,rfl⟩,fun b2 hb2=>hnew b2 (by simp[grow,putRow,mapBlock,Go.Sort.ahead]at hb2;omega),?_,rfl,fun s a=>⟨#[],rfl,rfl,fun k x hx=>by simp at hx⟩⟩
 ·rw[hold b2 hb2,Array.getElem?_modify,if_neg (fun e=>hno [] (by rw[←e,hob];rfl))]
 ·simp only[V,R];rw[List.length_map,lG];refine⟨_,_,rfl,by omega,hc2,.inr (.inr ⟨b,0,1,_,_,fz,rfl,hnb,(by intro h;cases h),fun t' ht'=> ?_,?_⟩)⟩
  ·obtain rfl:=Option.some.inj ht';exact⟨hob,rfl,by simpa[putCells]using hU,rfl,by simpa[putCells]using hC,i,hi,his⟩
  ·rw[Rs.iff hnb];intro j x hx;rw[List.getElem?_map,Option.map_eq_some_iff]at hx;obtain⟨y,hy,rfl⟩:=hx;have hj:j<l.length:=by have:=aS hy;rw[lG]at this;exact this
   refine⟨rfl,_,_,_,[.string ⟨y.toArray⟩],hnb,fun k hk=> ?_,by simp[R,Value.oneCell']⟩;obtain rfl:k=0:=by simpa[D.w]using hk
   have hjC:C[j]?=some C[j]:=Array.getElem?_eq_getElem (by omega);simp only[putCells,Nat.zero_add,Nat.mul_one,Nat.add_zero,Array.getElem?_mapIdx,hjC,Option.map_some];have hjs:j<(kS l).toArray.size:=by simpa[lG]using hj
   rw[if_pos ⟨Nat.zero_le _,hjs⟩,Nat.sub_zero,getElem!_pos (kS l).toArray j hjs];rw[List.getElem?_eq_getElem (by simpa using hjs)]at hy;simp[V3,Option.some.inj hy]
end Go.Proofs.YtemiopbofamgcaaGreatDoor
end
section
namespace Go.Proofs.YtemiopbofamgcaaGreatDoor
open Go.Dv Go.Pl Go.Proofs.Tryz
theorem VA (n d:Int)(hn:0<=n/\n<=1000000000)(hd:0<=d/\d<=1000000000):Fk 317 [dI n,dI d] (.val (dI (ratio n d))):=by
 refine fE good [] func317 ntmps317 fun _ _=> ?_;simp[go_sem];apply gw<;>intro h1
 ·simp[go_sem];grind[ratio]
 ·simp[go_sem];iterate 3 refine ai ?_
  grind[ratio]
theorem E9 (l w:L1)(hl:l.length<=1048576:=by first|assumption|omega|(simp;omega)|grind)(hw:w.length<=1048576:=by first|assumption|omega|(simp;omega)|grind):Fk 246 [nInts l,nInts w] (.val (dI (iZ l w))):=by
 refine fE good [] func246 ntmps246 fun _ _=> ?_;simp[go_sem];apply gw<;>intro e
 ·simp[go_sem];simp[iZ];omega
 ·simp[go_sem];refine wl good (fun((i,s,t):(Nat)×(Int)×(Int))=>[(0,.val (nInts l)),(1,.val (nInts w)),(5,.val (dI s)),(6,.val (dI t)),(7,.val (dI i))]) (fun(i,s,t)=>l.length-i) (fun(i,s,t)=>(i<=l.length)/\((List.range i).all (lS l w)=true)/\(s=oF l w i)/\(t=lX w i)) ((0,0,0)) ⟨(by omega),rfl,rfl,rfl⟩ ?_;rintro⟨i,s,t⟩ ⟨h1,h2,h3,h4⟩;simp[go_sem];apply gw<;>intro a
  ·have hl1:=aD (l:=l) (i:=i) (by omega);have hw1:=aD (l:=w) (i:=i) (by omega);have hb:∀j<i,lS l w j=true:=fun j hj=>List.all_eq_true.1 h2 j (List.mem_range.2 hj);have hN:=tY i hb;have hD:=uN i hb;simp[go_sem,hl1];refine ck (aG _ _ _) ?_;simp[go_sem];apply gv<;>intro e
   ·have e':=e;simp at e';have hn:=gP a (P:=lS l w) (by simp[lS];omega);simp[go_sem,e];all_goals simp[iZ,hn]
   ·have e':=e;simp at e';simp[go_sem,hw1,e];refine ck (aG _ _ _) ?_;simp[go_sem];apply gw<;>intro f
    ·simp at f;have hn:=gP a (P:=lS l w) (by simp[lS];omega);simp[go_sem];all_goals simp[iZ,hn]
    ·simp at f;have hc:lS l w i=true:=by simp[lS];omega
     have hp1:0<=at1 l i*at1 w i:=Int.mul_nonneg (by omega) (by omega);have hp2:at1 l i*at1 w i<=1000*1000:=Int.mul_le_mul (by omega) (by omega) (by omega) (by omega);simp[go_sem];refine wdt good 11 ?_;simp[go_sem,hl1,hw1];iterate 4 refine ai ?_
     refine nx (i+1,s+at1 l i*at1 w i,t+at1 w i) ⟨(by omega),(iO h2 hc),(by rw[h3,oF,oF,aA]),(by rw[h4,lX,lX,aA])⟩
  ·simp at a;have hi:l.length=i:=by omega
   subst hi;have hb:∀j<l.length,lS l w j=true:=fun j hj=>List.all_eq_true.1 h2 j (List.mem_range.2 hj);have hN:=tY l.length hb;have hD:=uN l.length hb;simp[go_sem];apply gw<;>intro b
   ·simp[go_sem];all_goals simp[iZ,←h4,b]
   ·simp[go_sem];iterate 2 refine ai ?_
    all_goals(rw[iZ,if_pos ⟨by omega,h2⟩,←h4,if_neg b,←h3])
theorem O1 (s:Sco)(f:L1)(hs:s.weights.length<=1048576:=by first|assumption|omega|(simp;omega)|grind)(hf:f.length<=1048576:=by first|assumption|omega|(simp;omega)|grind):Fk 167 [yH s,nInts f] (.val (dI (fK s f))):=by
 refine fE good [] func167 ntmps167 fun _ _=> ?_;simp[go_sem];refine ck (iX _) ?_;simp[go_sem];apply gv<;>intro e
 ·have e':=e;simp at e';simp[go_sem,e];grind[fK]
 ·have e':=e;simp at e';simp[go_sem,e];refine ck (iE _) ?_;simp[go_sem];apply gw<;>intro b
  ·simp at b;simp[go_sem];grind[fK]
  ·simp at b;simp[go_sem];refine ck (E9 _ _) ?_;simp[go_sem];grind[fK]
theorem N8 (t:Tst)(f:L1)(hf:f.length<=1048576:=by first|assumption|omega|(simp;omega)|grind):Fk 361 [qP t,nInts f] (.val (dB (jI f t))):=by
 refine fE good [] func361 ntmps361 fun _ _=> ?_;simp[go_sem];refine wdt good 20 ?_;simp[go_sem];refine cd (iE _) ?_;simp[go_sem];apply gv<;>intro e
 ·have e':=e;simp[go_sem,e];refine cd (aG _ _ _) ?_;simp[go_sem];apply gv<;>intro g
  ·have g':=g;simp at g';have h6:f.length=6:=by simp only[mP,Bool.and_eq_true,decide_eq_true_eq]at e;exact e.2
   have hx:=aD (l:=f) (i:=t.feature.toNat) (by omega);simp[go_sem,g,hx];refine ai ?_;all_goals(simp only[jI];rw[e',show inR t.feature 0 5=true by simp;omega];simp)
  ·have g':=g;simp at g';simp[go_sem,g];all_goals(simp only[jI];rw[e',show inR t.feature 0 5=false by simp;omega];simp)
 ·have e':=e;simp[go_sem,e];all_goals simp[jI,e']
theorem P6 (r:List Tst)(f:L1)(hr:r.length<=1048576)(hf:f.length<=1048576:=by first|assumption|omega|(simp;omega)|grind):Fk 311 [nH r,nInts f] (.val (dB (lQ f r))):=by
 refine fE good [] func311 ntmps311 fun _ _=> ?_;simp[go_sem];refine wl good (fun(i:Nat)=>[(1,.val (nInts f)),(2,.own (.bx true (nH r))),(5,.val (dI i))]) (fun(i:Nat)=>(r).length-i) (fun(i:Nat)=>(i<=(r).length)/\(((r).take i).all (jI f)=true)) (0) ⟨(by omega),rfl⟩ ?_;rintro i ⟨h1,h2⟩;simp[go_sem];apply gw<;>intro a
 ·obtain⟨c,hc⟩:=aC (l:=r) (i:=i) (by omega);simp[go_sem,hc];refine ck (N8 _ _) ?_;simp[go_sem];apply gw<;>intro b
  ·simp at b;have hn:=bI hc (P:=(jI f)) (by first|assumption|(simp[*];done)|grind|(simp;omega));simp[go_sem];grind[lQ]
  ·simp at b;simp[go_sem];refine ai ?_;refine nx (i+1) ⟨(by omega),(aL hc h2 (by first|assumption|(simp[*];done)|grind|(simp;omega)))⟩
 ·simp at a;have hf:=cO h2 a;simp[go_sem];refine ck (iE _) ?_;simp[go_sem];grind[lQ]
theorem OC (rs:List (List Tst))(f:L1)(hs:rs.length<=1048576:=by first|assumption|omega|(simp;omega)|grind)(hr:∀l∈rs,l.length<=1048576:=by first|assumption|omega|(simp;omega)|grind)(hf:f.length<=1048576:=by first|assumption|omega|(simp;omega)|grind):Fk 247 [fZ rs,nInts f] (.val (dI (mR rs f))):=by
 refine fE good [] func247 ntmps247 fun _ _=> ?_;simp[go_sem];refine wl good (fun(i:Nat)=>[(1,.val (nInts f)),(2,.own (.bx true (fZ rs))),(5,.val (dI i))]) (fun(i:Nat)=>rs.length-i) (fun(i:Nat)=>(i<=rs.length)/\((rs.take i).any (lQ f)=false)) (0) ⟨(by omega),rfl⟩ ?_;rintro i ⟨h1,h2⟩;simp[go_sem];apply gv<;>intro a
 ·have a':=a;simp[go_sem,a];refine ck (kH _) ?_;simp[go_sem];apply gw<;>intro b
  ·obtain⟨c,hc⟩:=aC (l:=rs) (i:=i) (by omega);simp[go_sem,hc];refine ck (P6 c f (hr c (List.mem_of_getElem? hc))) ?_;simp[go_sem];apply gw<;>intro e
   ·have hx:ix (lQ f) rs=i:=vH hc h2 e;simp[go_sem];grind[mR]
   ·simp[go_sem];refine ai ?_;refine nx (i+1) ⟨(by omega),(eF hc h2 e)⟩
  ·simp[go_sem];grind[mR]
 ·have a':=a;simp at a';have hx:=kV (jU h2 (by omega));simp[go_sem,a];grind[mR]
theorem NR (rs:List (List Tst))(f:L1)(hs:rs.length<=1048576:=by first|assumption|omega|(simp;omega)|grind)(hr:∀l∈rs,l.length<=1048576:=by first|assumption|omega|(simp;omega)|grind)(hf:f.length<=1048576:=by first|assumption|omega|(simp;omega)|grind):Fk 168 [fZ rs,nInts f] (.val (dB (decide (0<=mR rs f)))):=by
 refine fE good [] func168 ntmps168 fun _ _=> ?_;simp[go_sem];refine ck (OC _ _) ?_;simp[go_sem]
theorem MI (rs:List (List Tst))(s:Sco)(f:L1)(hs:rs.length<=1048576)(hr:∀l∈rs,l.length<=1048576)(hw:s.weights.length<=1048576)(hf:f.length<=1048576):Fk 98 [fZ rs,yH s,nInts f] (.val (dI (cK rs s f))):=by
 refine fE good [] func98 ntmps98 fun _ _=> ?_;simp[go_sem];refine ck (kH _) ?_;simp[go_sem];apply gv<;>intro e
 ·have e':=e;simp at e';simp[go_sem,e];grind[cK]
 ·have e':=e;simp at e';simp[go_sem,e];refine ck (iX _) ?_;simp[go_sem];apply gv<;>intro g
  ·have g':=g;simp at g';simp[go_sem,g];grind[cK]
  ·have g':=g;simp at g';simp[go_sem,g];refine ck (iE _) ?_;simp[go_sem];apply gw<;>intro b
   ·simp at b;simp[go_sem];grind[cK]
   ·simp at b;have hp:=M8 s f hf;have hb:0<=s.bias/\s.bias<=1000:=by simp only[fC,Bool.and_eq_true,decide_eq_true_eq]at g';exact g'.2
    simp[go_sem];refine wdt good 6 ?_;simp[go_sem];refine cd (O1 _ _) ?_;simp[go_sem];refine ai ?_;refine ck (NR _ _) ?_;simp[go_sem];apply gw<;>intro d
    ·simp[go_sem];grind[cK]
    ·simp at d;simp[go_sem];grind[cK]
theorem Y9 (x y:Str)(hx:x.length<=1048576)(hy:y.length<=1048576):Fk 363 [dS x,dS y] (.val (dB (decide (x.length<=40)&&decide (y.length<=40)))):=by
 refine fE good [] func363 ntmps363 fun _ _=> ?_;simp[go_sem];apply gv<;>intro e
 ·have e':=e;simp[go_sem,e];grind
 ·have e':=e;simp at e';simp[go_sem,e];omega
theorem VE (s:Str)(hs:s.length<=65536):Fk 253 [dS s] (.val (dS (dG s))):=by
 refine fE good [] func253 ntmps253 fun _ _=> ?_;simp[go_sem];refine wl good (fun((i,o,l):(Nat)×(Str)×(Int))=>[(0,.val (dS s)),(3,.own (oBs o)),(4,.val (dI l)),(5,.val (dI i))]) (fun(i,o,l)=>s.length-i) (fun(i,o,l)=>(i<=s.length)/\((o,l)=(s.take i).foldl mV ([],0))/\(o.length<=4/\(o=[]↔i=0))/\((s.take i).all (fun c=>decide (aB c≠ -2))=true)) ((0,[],0)) ⟨(by omega),rfl,(by simp),rfl⟩ ?_;rintro⟨i,o,l⟩ ⟨h1,h2,h3,h4⟩;simp[go_sem];apply gw<;>intro a
 ·obtain⟨c,hc⟩:=aC (l:=s) (i:=i) (by omega);have hm:=bB mV ([],0) hc;rw[←h2]at hm;have hcl:=OJ c;simp[go_sem,hc];refine ck (PI _) ?_;simp[go_sem];apply gw<;>intro b
  ·have hn:=bI hc (P:=fun c=>decide (aB c≠ -2)) (by simp[b]);have hr:dG s=[]:=if_pos (.inr hn);simp[go_sem,hr]
  ·simp[go_sem];apply gw<;>intro d
   ·have ht:s.take 1=[c]:=by subst d;simpa using aU hc
    have hf:nM [c]=[cB c]:=rfl;have ho:o=[]:=h3.2.2 d;have hb0:({data:= #[cB c]}:ByteArray)[0]'(by show 0<1;omega)=cB c:=rfl;simp[go_sem,ht];refine ai ?_;refine ck (nZ [c]) ?_;have hu:mV (o,l) c=([cB c],aB c):=if_pos ho;simp[go_sem,hf,hb0,ho];refine ai ?_;refine nx (i+1,[cB c],aB c) ⟨(by omega),(by rw[hm,hu]),(by simp),(aL hc h4 (by simp[b]))⟩
   ·have ho:o≠[]:=fun h=>d (h3.2.1 h);have hsx:mV (o,l) c=(if aB c>0/\aB c≠l/\o.length<4 then o++[UInt8.ofNat (48+aB c).toNat]else o,if 0<=aB c then aB c else l):=if_neg ho;simp[go_sem];apply gv<;>intro e
    ·have e':=e;have hu8:IntKind.u8.wrap (48+aB c)=max (48+aB c) 0 % 256:=by simp[IntKind.wrap,IntKind.bits,IntKind.signed];omega
     simp[go_sem,e];apply gv<;>intro f
     ·have f':=f;simp[go_sem,f];apply gw<;>intro g
      ·have hp:mV (o,l) c=(o++[UInt8.ofNat (48+aB c).toNat],aB c):=by rw[hsx,if_pos ⟨by omega,by simpa using f,by omega⟩,if_pos (by omega)]
       simp[go_sem,hu8];iterate 2 refine ai ?_
       apply gw<;>intro k
       ·simp[go_sem];refine ai ?_;refine nx (i+1,o++[UInt8.ofNat (48+aB c).toNat],aB c) ⟨(by omega),(by rw[hm,hp]),(by simp;omega),(aL hc h4 (by simp[b]))⟩
       ·simp at k;exfalso;omega
      ·simp at g;have hp:mV (o,l) c=(o,aB c):=by rw[hsx,if_neg (by rintro⟨_,_,h⟩;omega),if_pos (by omega)]
       simp[go_sem];apply gw<;>intro k
       ·simp[go_sem];refine ai ?_;refine nx (i+1,o,aB c) ⟨(by omega),(by rw[hm,hp]),(by simp[ho];omega),(aL hc h4 (by simp[b]))⟩
       ·simp at k;exfalso;omega
     ·have f':=f;have hp:mV (o,l) c=(o,aB c):=by rw[hsx,if_neg (by rintro⟨_,h,_⟩;exact h (by simpa using f')),if_pos (by omega)]
      simp[go_sem,f];apply gw<;>intro k
      ·simp[go_sem];refine ai ?_;refine nx (i+1,o,aB c) ⟨(by omega),(by rw[hm,hp]),(by simp[ho];omega),(aL hc h4 (by simp[b]))⟩ (h3:=by simp[go_sem,hc,e,f])
      ·simp at k;exfalso;omega
    ·have e':=e;simp at e';have hp:mV (o,l) c=(o,if 0<=aB c then aB c else l):=by rw[hsx,if_neg (by rintro⟨h,_⟩;exact e (by simpa using h))]
     simp[go_sem,e];apply gw<;>intro k
     ·simp[go_sem];refine ai ?_;refine nx (i+1,o,aB c) ⟨(by omega),(by rw[hm,hp,if_pos (by omega)]),(by simp[ho];omega),(aL hc h4 (by simp[b]))⟩
     ·simp at k;simp[go_sem];refine ai ?_;refine nx (i+1,o,l) ⟨(by omega),(by rw[hm,hp,if_neg (by omega)]),(by simp[ho];omega),(aL hc h4 (by simp[b]))⟩
 ·simp at a;have hi:s.length=i:=by omega
  have hf:=cO h4 a;rw[aK a]at h2;simp[go_sem];apply gw<;>intro b
  ·have hr:dG s=[]:=if_pos (.inl (by have:=h3.2.1 (by simpa using b);exact List.eq_nil_of_length_eq_zero (by omega)));simp[go_sem,hr]
  ·have hs0:s≠[]:=fun h=>b (by have:=h3.2.2 (by subst h;simpa using hi.symm);simpa using this);have hr:dG s=VM o:=by rw[dG,if_neg (by rw[hf];simp[hs0]),←h2]
   simp[go_sem];refine wl good (fun(q:Str)=>[(3,.own (oBs q))]) (fun(q:Str)=>4-q.length) (fun(q:Str)=>(q.length<=4)/\(VM q=VM o)) (o) ⟨(h3.1),(rfl)⟩ ?_;rintro q ⟨h5,h6⟩;simp[go_sem];apply gw<;>intro g
   ·have hp:VM (q++[48])=VM q:=by simp only[VM,List.length_append,List.length_singleton];rw[List.append_assoc];congr 1;rw[show 4-q.length=(4-(q.length+1))+1 by omega,List.replicate_succ];rfl
    simp[go_sem];refine ai ?_;refine nx (q++[48]) ⟨(by simp;omega),(by rw[hp,h6])⟩
   ·simp at g;have hq:VM q=q:=by simp[VM,show 4-q.length=0 by omega]
    simp[go_sem];all_goals(rw[hr,←h6,hq])
theorem ZO {l:List Str}{x y:Str}{b:Bool}(h:y∈dP l x b):y∈l\/y=x:=by
 unfold dP at h;split at h
 ·exact .inl h
 ·rcases List.mem_append.1 h with h|h
  ·rcases List.mem_append.1 h with h|h
   ·exact .inl (List.mem_of_mem_take h)
   ·exact .inr (by simpa using h)
  ·exact .inl (List.mem_of_mem_drop h)
theorem CU (s:Str):(tokens s).length<=2*s.length+1/\∀x∈tokens s,x.length<=2*s.length:=by
 have hc:=afT 32 (normal s);have hn:=yG s
 have key:∀(L:List Str) (t:List Str),(∀x∈L,x.length<=2*s.length)->(∀x∈t,x.length<=2*s.length)->(L.foldl oH t).length<=t.length+L.length/\∀x∈L.foldl oH t,x.length<=2*s.length:=by
  intro L
  induction L with
  |nil=>intro t _ ht;exact⟨by simp,ht⟩
  |cons y L ih=>
   intro t hL ht;have h1:=ah0 t y
   have h2:∀x∈oH t y,x.length<=2*s.length:=fun x hx=>by
    unfold oH at hx;split at hx
    ·rcases ZO hx with h|rfl
     ·exact ht x h
     ·exact hL _ (by simp)
    ·exact ht x hx
   have:=ih (oH t y) (fun x hx=>hL x (List.mem_cons_of_mem _ hx)) h2;refine⟨?_,this.2⟩;have:=this.1;simp only[List.foldl_cons,List.length_cons];omega
 have:=key (ZE 32 (normal s)) [] (fun x hx=>by have:=hc.2 x hx;omega) (by simp);unfold tokens;refine⟨?_,this.2⟩;have:=this.1;simp at this;omega
theorem yS (s:Str)(hs:s.length<=4096):Fk 172 [dS s] (.val (bE (fP s))):=by
 refine fE good [] func172 ntmps172 fun _ _=> ?_;have ht:=CU s;simp[go_sem];refine ck (xL _) ?_;generalize hcs:tokens s=L at ht|-
 simp[go_sem];refine wlc good [3] (fun((i,o):(Nat)×(List Str))=>[(3,.val (bE o)),(4,.val (bE L)),(5,.val (dI i))]) (fun(i,o)=>(L).length-i) (fun(i,o)=>(i<=(L).length)/\(o=(L.take i).foldl nY [])/\(o.length<=i)) ((0,[])) ⟨(by omega),rfl,(by simp)⟩ ?_;rintro⟨i,o⟩ ⟨h1,h2,h3⟩;simp[go_sem];apply gw<;>intro a
 ·obtain⟨c,hc⟩:=aC (l:=L) (i:=i) (by omega);have hm:=bB nY [] hc;rw[←h2]at hm;have hl:=ht.2 c (AR hc);simp[go_sem,hc];refine ck (VE c (by omega)) ?_;simp[go_sem];apply gw<;>intro b
  ·have hu:nY o c=dP o (dG c) false:=if_pos b;have hp:=kN o (dG c) false;simp[go_sem];refine ck (pV o (dG c) false) ?_;simp[go_sem];refine ai ?_;refine nxc (i+1,dP o (dG c) false) [3] ⟨(by omega),(by rw[hm,hu]),(by omega)⟩
  ·have hu:nY o c=o:=if_neg (by simp[b]);simp[go_sem];refine ai ?_;refine nxc (i+1,o) [3] ⟨(by omega),(by rw[hm,hu]),(by omega)⟩
 ·simp at a;rw[aK a]at h2;simp[go_sem];simp[fP,hcs,←h2]
theorem yF (l:List Str)(hl:l.length<=1048576)(hs:∀x∈l,x.length<=1048576):Fk 365 [bE l] (.val (dB (jP l))):=by
 refine fE good [200001] func365 ntmps365 fun _ _=> ?_;simp[go_sem];refine wl good (fun(i:Nat)=>[(0,.val (bE l)),(3,.val (dI i))]) (fun(i:Nat)=>(l).length-i) (fun(i:Nat)=>(i<=(l).length)/\((l.take i).all J2=true)/\(adj ltL (l.take i)=true)) (0) ⟨(by omega),rfl,rfl⟩ ?_;rintro i ⟨h1,h2,h3⟩;simp[go_sem];apply gw<;>intro a
 ·obtain⟨c,hc⟩:=aC (l:=l) (i:=i) (by omega);simp[go_sem];refine GY good (fun(_:Unit)=>[(0,.val (bE l)),(3,.val (dI i))]) (fun(_:Unit)=>(c≠[])/\(adj ltL (l.take (i+1))=true)) ?_ ?_
  ·simp[go_sem];refine wdr good ?_;simp[go_sem,hc];apply gv<;>intro e
   ·have e':=e;have hn:=bI hc (P:=J2) (by simp[J2,e]);simp[go_sem,e];grind[jP]
   ·have e':=e;simp[go_sem,e];apply gv<;>intro f
    ·have f':=f;obtain⟨p,hp⟩:=aC (l:=l) (i:=i-1) (by omega);have hi1:i-1+1=i:=by omega
     simp[go_sem,hc,f,hp];iterate 2 refine ai ?_
     apply gw<;>intro b
     ·simp at b;have hn:=zW hp (by rw[hi1];exact hc) (R:=ltL) (by simpa using b);simp[go_sem];grind[jP]
     ·simp at b;simp[go_sem];refine jn (()) ⟨(by simpa using e),(by have:=pQ (i:=i-1) (by rw[hi1];exact h3) hp (by rw[hi1];exact hc) (R:=ltL) (by simpa using b);rwa [hi1]at this)⟩
    ·have f':=f;simp at f';simp[go_sem,f];refine jn (()) ⟨(by simpa using e),(by obtain rfl:i=0:=(by omega);exact mU)⟩
  rintro⟨⟩ ⟨h5,h4⟩;have hcl:=hs c (AR hc);simp[go_sem];refine wl good (fun(j:Nat)=>[(0,.val (bE l)),(3,.val (dI i)),(4,.val (dI j))]) (fun(j:Nat)=>(c).length-j) (fun(j:Nat)=>(j<=(c).length)/\((c.take j).all nU=true)/\(0<j->nM c=c)) (0) ⟨(by omega),rfl,(by omega)⟩ ?_;rintro j ⟨h1j,h2j,h3j⟩;simp[go_sem,hc];apply gw<;>intro aj
  ·obtain⟨cj,hcj⟩:=aC (l:=c) (i:=j) (by omega);simp[go_sem];refine wdr good ?_;simp[go_sem,hc,hcj];refine cd (GM _) ?_;simp[go_sem];apply gv<;>intro e
   ·have e':=e;simp at e';have hn:=bI hc (P:=J2) (by have:=bI hcj (P:=nU) (by simpa using e);simp[J2,this]);simp[go_sem,e];grind[jP]
   ·have e':=e;simp at e';simp[go_sem,hc,e];refine cd (nZ _) ?_;simp[go_sem,hc];apply gw<;>intro b
    ·have hn:=bI hc (P:=J2) (by simp[J2,b]);simp[go_sem];grind[jP]
    ·simp[go_sem];refine ai ?_;refine nx (j+1) ⟨(by omega),(aL hcj h2j (by simpa using e)),(fun _=>by simpa using b)⟩
  ·simp at aj;have hw:=cO h2j aj;have hpos:0<c.length:=List.length_pos_iff.2 h5;simp[go_sem];refine ai ?_;refine nx (i+1) ⟨(by omega),(aL hc h2 (by simp[J2,hw,h5,h3j (by omega)])),(h4)⟩
 ·simp at a;have hf:=cO h2 a;rw[aK a]at h3;simp[go_sem];grind[jP]
theorem Y3 (l m:List Str)(hl:l.length<=262144)(hs:∀x∈l,x.length<=1048576)(hm:m.length<=262144)(ht:∀x∈m,x.length<=1048576):Fk 316 [bE l,bE m] (.val (dB (nG l m))):=by
 refine fE good [] func316 ntmps316 fun _ _=> ?_;simp[go_sem];refine ck (yF l (by omega) hs) ?_;simp[go_sem];apply gv<;>intro e
 ·have e':=e;simp[go_sem,e];refine ck (yF m (by omega) ht) ?_;simp[go_sem];grind[nG]
 ·have e':=e;simp[go_sem,e];grind[nG]
theorem ajG (l m:List Str):(common l m).length<=l.length:=by
 have:=wV (yT m) (fun t x=>by unfold yT;split;(exact kN _ _ _);omega) l [];simpa[common]using this
theorem aoB (l m:List Str):(QP l m).length<=l.length+m.length:=by
 have h1:=wV oC (fun t x=>kN _ _ _) l [];have h2:=wV oC (fun t x=>kN _ _ _) m (l.foldl oC []);unfold QP;simp at h1;omega
theorem UV (l m:List Str)(hl:l.length<=262144)(hs:∀x∈l,x.length<=1048576)(hm:m.length<=262144)(ht:∀x∈m,x.length<=1048576):Fk 250 [bE l,bE m] (.val (dI (rZ l m))):=by
 refine fE good [] func250 ntmps250 fun _ _=> ?_;simp[go_sem];refine ck (Y3 l m hl hs hm ht) ?_;simp[go_sem];apply gw<;>intro e
 ·simp at e;simp[go_sem];grind[rZ]
 ·simp at e;have h1:=ajG l m;have h2:=aoB l m;simp[go_sem];refine ck (H8 l m hl hm) ?_;simp[go_sem];refine ck (JY l m hl hm) ?_;simp[go_sem];refine ck (VA ((common l m).length:Int) ((QP l m).length:Int) (by omega) (by omega)) ?_;simp[go_sem];grind[rZ]
theorem FN (l m:List Str)(hl:l.length<=262144)(hs:∀x∈l,x.length<=1048576)(hm:m.length<=262144)(ht:∀x∈m,x.length<=1048576):Fk 170 [bE l,bE m] (.val (dI (lM l m))):=by
 refine fE good [] func170 ntmps170 fun _ _=> ?_;simp[go_sem];apply gv<;>intro e
 ·have e':=e;simp[go_sem,e];grind[lM]
 ·have e':=e;simp[go_sem,e];apply gw<;>intro f
  ·simp[go_sem];grind[lM]
  ·simp[go_sem];refine ck (UV l m hl hs hm ht) ?_;simp[go_sem];grind[lM]
theorem U8 (x y:Str)(tr:Bool)(hx:x.length<=4096)(hy:y.length<=4096):Fk 364 [dS x,dS y,dB tr] (.own (gN (JO x y tr))):=by
 refine fE good [200003] func364 ntmps364 fun _ _=> ?_;simp[go_sem];refine wl good (fun((i,T):(Nat)×(L2))=>[(0,.val (dS x)),(1,.val (dS y)),(2,.val (dB tr)),(7,.own (gN T)),(8,.val (dI i))]) (fun(i,T)=>(x.length+1)-i) (fun(i,T)=>(i<=(x.length+1))/\(T=loopN i ([]) ((fun i T=>T++[XE x y tr i T])))/\(T.length=i)/\(TV (y.length+1) T)) ((0,[])) ⟨(by simp),(rfl),(rfl),((fun i hi=>by simp at hi))⟩ ?_;rintro⟨i,T⟩ ⟨h1,h2,h3,h4⟩;simp[go_sem];apply gw<;>intro a
 ·have hs:=aA i ([]) ((fun i T=>T++[XE x y tr i T]));rw[←h2]at hs;simp[go_sem];iterate 3 refine ai ?_
  refine wl good (fun((j,r):(Nat)×(L1))=>[(0,.val (dS x)),(1,.val (dS y)),(2,.val (dB tr)),(7,.own (gN T)),(8,.val (dI i)),(9,.own (aF r)),(10,.val (dI j))]) (fun(j,r)=>(y.length+1)-j) (fun(j,r)=>(j<=(y.length+1))/\(r=loopN j ((List.replicate (y.length+1) 0)) ((xJ x y tr T i)))/\(adA (y.length+1) j i r)) ((0,(List.replicate (y.length+1) 0))) ⟨(by simp),(rfl),(⟨by simp,by omega⟩)⟩ ?_;rintro⟨j,r⟩ ⟨h1j,h2j,h3j⟩;simp[go_sem];apply gw<;>intro aj
  ·have hsj:=aA j ((List.replicate (y.length+1) 0)) ((xJ x y tr T i));rw[←h2j]at hsj;have hrl:=h3j.1;have hrj:=aD (l:=r) (i:=j) (by omega);simp[go_sem];refine GY good (fun(_:Unit)=>[(0,.val (dS x)),(1,.val (dS y)),(2,.val (dB tr)),(7,.own (gN T)),(8,.val (dI i)),(9,.own (aF (r.set j (edOne x y T i r j)))),(10,.val (dI j))]) (fun(_:Unit)=>True) ?_ ?_
   ·simp[go_sem];apply gw<;>intro b
    ·have hv:edOne x y T i r j=j:=if_pos (by simpa using b);simp[go_sem,hrj];refine jn (()) trivial (h3:=by simp[go_sem,hrj,hrl,hv])
    ·simp[go_sem];apply gw<;>intro d
     ·have hv:edOne x y T i r j=i:=by rw[edOne,if_neg (by simpa using b),if_pos (by simpa using d)]
      simp[go_sem,hrj];refine jn (()) trivial (h3:=by simp[go_sem,hrj,hrl,hv])
     ·have hcx:=rM (s:=x) (i:=i-1) (by omega);have hcy:=rM (s:=y) (i:=j-1) (by omega);obtain⟨q,hq,hqj,hb1,hb2⟩:=uV h4 (i:=i-1) (j:=j-1) (by omega) (by omega);obtain⟨q',hq',hqk,hb3,hb4⟩:=uV h4 (i:=i-1) (j:=j) (by omega) (by omega);obtain rfl:q=q':=by rw[hq]at hq';exact Option.some.inj hq'
      simp[go_sem];refine wdt good 9 ?_;simp[go_sem,hcx,hcy];iterate 4 refine ai ?_
      apply gw<;>intro f
      ·have hv:edOne x y T i r j=at2 T (i-1) (j-1):=by rw[edOne,if_neg (by simpa using b),if_neg (by simpa using d),if_pos f]
       simp[go_sem,hrj,hq,hqj];iterate 4 refine ai ?_
       refine jn (()) trivial (h3:=by simp[go_sem,hrj,hrl,hcx,hcy,hv,hq,hqj])
      ·have hr1:=aD (l:=r) (i:=j-1) (by omega);have hb5:=h3j.2 (j-1) (by omega);have hv:edOne x y T i r j=1+min (min (at2 T (i-1) j) (at1 r (j-1))) (at2 T (i-1) (j-1)):=by rw[edOne,if_neg (by simpa using b),if_neg (by simpa using d),if_neg f]
       simp[go_sem];refine wdt good 27 ?_;simp[go_sem,hrj,hq,hqj,hqk,hr1];iterate 9 refine ai ?_
       refine jn (()) trivial (h3:=by simp[go_sem,hrj,hrl,hcx,hcy,hv,hq,hqj,hqk,hr1])
   rintro⟨⟩ -
   have hve:0<=edOne x y T i r j/\edOne x y T i r j<=i+j:=az6 h3 h4 h3j (by omega) (by omega);have hok:=OW h3j (by omega) hve.1 hve.2;have hat:at1 (r.set j (edOne x y T i r j)) j=edOne x y T i r j:=by rw[qA _ (by omega),if_pos rfl]
   have hsw:∀h:nE x y tr i j=false,xJ x y tr T i j r=r.set j (edOne x y T i r j):=fun h=>by rw[xJ,abP,if_neg (by simp[h])]
   generalize hr':r.set j (edOne x y T i r j)=r' at hok hat hsw|-
   have hes:xJ x y tr T i j r=abP x y tr T i j r':=by rw[xJ,hr']
   have hok1:=hok.1;simp[go_sem];refine wdr good ?_;simp[go_sem];apply gv<;>intro e
   ·have e':=e;simp[go_sem,e];apply gv<;>intro f
    ·have f':=f;simp[go_sem,f];apply gv<;>intro g
     ·have g':=g;have hx1:=rM (s:=x) (i:=i-1) (by omega);have hy2:=rM (s:=y) (i:=j-2) (by omega);have hx2:=rM (s:=x) (i:=i-2) (by omega);have hy1:=rM (s:=y) (i:=j-1) (by omega);have hj2:((j:Int)-2).toNat=j-2:=by omega
      have hi2:((i:Int)-2).toNat=i-2:=by omega
      simp[go_sem,g,hx1,hy2,hj2];iterate 4 refine ai ?_
      apply gv<;>intro k
      ·have k':=k;simp[go_sem,hx2,hy1,hi2,k];iterate 4 refine ai ?_
       apply gw<;>intro m
       ·have hw:nE x y tr i j=true:=by simp[nE,e,k,m];omega
        obtain⟨q,hq,hqj,hb1,hb2⟩:=uV h4 (i:=i-2) (j:=j-2) (by omega) (by omega);have hrj2:=aD (l:=r') (i:=j) (by omega);have hst:xJ x y tr T i j r=r'.set j (min (at1 r' j) (at2 T (i-2) (j-2)+1)):=by rw[hes,abP,if_pos hw]
        have hok2:=OW (k:=j) (v:=min (at1 r' j) (at2 T (i-2) (j-2)+1)) ⟨hok.1,fun j' hj'=>hok.2 j' (by omega)⟩ (by omega) (by omega) (by omega);simp[go_sem];refine wdt good 18 ?_;simp[go_sem,hj2,hi2,hq,hqj,hrj2];iterate 6 refine ai ?_
        refine nx (j+1,r'.set j (min (at1 r' j) (at2 T (i-2) (j-2)+1))) ⟨(by omega),(by rw[hsj,hst]),(hok2)⟩ (h3:=by simp[go_sem,hrj,hrl,e,f,g,hx1,hy2,hx2,hy1,hj2,hi2,k,hq,hqj,hrj2,hok1])
       ·have hw:nE x y tr i j=false:=by simp[nE,m]
        simp[go_sem];refine ai ?_;refine nx (j+1,r') ⟨(by omega),(by rw[hsj,hsw hw]),(hok)⟩ (h3:=by simp[go_sem,hrj,hrl,e,f,g,hx1,hy2,hx2,hy1,hj2,hi2,k])
      ·have k':=k;have hw:nE x y tr i j=false:=by simp[nE,k]
       simp[go_sem,k];refine ai ?_;refine nx (j+1,r') ⟨(by omega),(by rw[hsj,hsw hw]),(hok)⟩ (h3:=by simp[go_sem,hrj,hrl,e,f,g,hx1,hy2,hx2,hy1,hj2,hi2,k])
     ·have g':=g;simp at g';have hw:nE x y tr i j=false:=by simp[nE];omega
      simp[go_sem,g];refine ai ?_;refine nx (j+1,r') ⟨(by omega),(by rw[hsj,hsw hw]),(hok)⟩ (h3:=by simp[go_sem,hrj,hrl,e,f,g])
    ·have f':=f;simp at f';have hw:nE x y tr i j=false:=by simp[nE];omega
     simp[go_sem,f];refine ai ?_;refine nx (j+1,r') ⟨(by omega),(by rw[hsj,hsw hw]),(hok)⟩ (h3:=by simp[go_sem,hrj,hrl,e,f])
   ·have e':=e;have hw:nE x y tr i j=false:=by simp[nE,e']
    simp[go_sem,e];refine ai ?_;refine nx (j+1,r') ⟨(by omega),(by rw[hsj,hsw hw]),(hok)⟩ (h3:=by simp[go_sem,hrj,hrl,e])
  ·simp at aj;have hij:(y.length+1)=j:=by omega
   subst hij;simp[go_sem];iterate 2 refine ai ?_
   refine nx (i+1,T++[r]) ⟨(by omega),(by rw[hs,XE,h2j]),(by simp[h3]),(YJ h4 (by rw[h3];exact h3j))⟩
 ·simp at a;have hi:(x.length+1)=i:=by omega
  subst hi;simp[go_sem];exact congrArg _ h2
theorem IP (x y:Str)(hx:x.length<=1048576)(hy:y.length<=1048576):Fk 315 [dS x,dS y] (.val (dI (jW x y))):=by
 refine fE good [] func315 ntmps315 fun _ _=> ?_;simp[go_sem];refine ck (Y9 x y hx hy) ?_;simp[go_sem];apply gw<;>intro e
 ·simp at e;have hr:jW x y= -1:=if_neg (by simp only[xP];simp;omega);simp[go_sem,hr]
 ·simp at e;have hf:xP x y=true:=by simp only[xP];simp;omega
  have hr:jW x y=at2 (JO x y false) x.length y.length:=if_pos hf;have h1:=ZI x y false;obtain⟨q,hq,hqj,hb1,hb2⟩:=uV h1.2 (i:=x.length) (j:=y.length) (by omega) (by omega);simp[go_sem];refine ck (U8 x y false (by omega) (by omega)) ?_;simp[go_sem,hq,hqj,hr]
theorem QE (x y:Str)(hx:x.length<=1048576)(hy:y.length<=1048576):Fk 249 [dS x,dS y] (.val (dI (oI x y))):=by
 refine fE good [] func249 ntmps249 fun _ _=> ?_;have hd:=aa6 x y;simp[go_sem];refine ck (IP x y hx hy) ?_;simp[go_sem];apply gw<;>intro b
 ·have hr:oI x y=0:=if_pos b;simp[go_sem,hr]
 ·simp at b;simp[go_sem];apply gw<;>intro d
  ·have hr:oI x y=1000:=by rw[oI,if_neg (by omega),if_pos d]
   simp[go_sem,hr]
  ·have hr:oI x y=(1000*(max (x.length:Int) y.length-jW x y)).tdiv (max (x.length:Int) y.length):=by rw[oI,if_neg (by omega),if_neg d]
   have hq:=BO (a:=1000*(max (x.length:Int) y.length-jW x y)) (b:=max (x.length:Int) y.length) (by omega) (by omega);simp[go_sem,hq];iterate 3 refine ai ?_
   all_goals(first|exact hr.symm|simp[hr])
theorem II (x y:Str)(hx:x.length<=65536)(hy:y.length<=65536):Fk 169 [dS x,dS y] (.val (dI (jJ x y))):=by
 refine fE good [] func169 ntmps169 fun _ _=> ?_;have h1:=yG x;have h2:=yG y;simp[go_sem];refine ck (rP x hx) ?_;simp[go_sem];refine ck (rP y hy) ?_;simp[go_sem];apply gv<;>intro e
 ·have e':=e;simp[go_sem,e];grind[jJ]
 ·have e':=e;simp[go_sem,e];apply gw<;>intro f
  ·simp[go_sem];grind[jJ]
  ·simp[go_sem];refine ck (QE (normal x) (normal y) (by omega) (by omega)) ?_;simp[go_sem];grind[jJ]
theorem QU (n:Int)(hn: -9000000000000000000<=n/\n<=9000000000000000000):Fk 321 [dI n] (.val (dS (oP n))):=by
 refine fE good [13] func321 ntmps321 fun _ _=> ?_;simp[go_sem];apply gw<;>intro e
 ·have hr:oP n=[48]:=if_pos e;simp[go_sem,hr]
 ·simp[go_sem];refine wl good (fun((k,s):(Int)×(Str))=>[(0,.val (dI k)),(3,.val (dS s)),(4,.val (dB (decide (n<0))))]) (fun(k,s)=>k.natAbs) (fun(k,s)=>(iP k.natAbs++s=iP n.natAbs)/\(k.natAbs<=n.natAbs)) ((n,[])) ⟨(by simp),(by simp)⟩ ?_;rintro⟨k,s⟩ ⟨h1,h2⟩;have hlen:s.length<=19:=by have h3:=congrArg List.length h1;have h4:=MF n.natAbs 19 (by rw[show(10:Nat)^19=10000000000000000000 by rfl];omega);simp only[List.length_append]at h3;omega
  simp[go_sem];apply gw<;>intro a
  ·have ht:(k.tmod 10).natAbs=k.natAbs % 10:=Int.natAbs_tmod k 10;have hq:(k.tdiv 10).natAbs=k.natAbs/10:=Int.natAbs_tdiv k 10;have hqi:=BO (a:=k) (b:=10) (by omega) (by omega);have hdec:=nP (m:=k.natAbs) (by omega);generalize hT:k.tmod 10=t at ht|-
   generalize hQ:k.tdiv 10=q at hq hqi|-
   simp[go_sem,hT];refine GY good (fun(_:Unit)=>[(0,.val (dI k)),(3,.val (dS s)),(4,.val (dB (decide (n<0)))),(5,.val (dI (k.natAbs % 10:Nat)))]) (fun(_:Unit)=>True) ?_ ?_
   ·simp[go_sem];apply gw<;>intro b
    ·have hj: -t=(k.natAbs:Int) % 10:=by omega
     simp[go_sem,hj];refine ai ?_;refine jn (()) trivial
    ·simp at b;have hj:t=(k.natAbs:Int) % 10:=by omega
     simp[go_sem,hj];refine jn (()) trivial
   rintro⟨⟩ -
   obtain⟨c,hc⟩:∃c:UInt8,c=UInt8.ofNat (48+k.natAbs % 10):=⟨_,rfl⟩;have hu8:(48+(k.natAbs:Int) % 10) % 256=(c.toNat:Int):=by rw[hc,UInt8.toNat_ofNat'];omega
   have hu9:IntKind.u8.wrap (48+(k.natAbs:Int) % 10)=(c.toNat:Int):=by rw[←hu8];simp[IntKind.wrap,IntKind.bits,IntKind.signed]
   simp[go_sem,hQ,hqi,hu9];iterate 2 refine ai ?_
   refine nx (q,c::s) ⟨(by rw[hq,←h1,hdec,hc];simp),(by omega)⟩
  ·have hk:k=0:=by omega
   rw[hk]at h1;have hs:s=iP n.natAbs:=by simpa[nJ]using h1
   simp[go_sem];apply gw<;>intro b
   ·have hr:oP n=45::s:=by rw[oP,if_neg e,if_pos (by omega),hs];rfl
    simp[go_sem,hr];omega
   ·simp at b;have hr:oP n=s:=by rw[oP,if_neg e,if_neg (by omega),hs];rfl
    simp[go_sem,hr]
theorem aBD {i:Nat}(h:i<=11):(10:Int)^i<=100000000000:=by
 have h1:(10:Nat)^i<=10^11:=Nat.pow_le_pow_right (by omega) h;have h2:((10^i:Nat):Int)<=((10^11:Nat):Int):=by exact_mod_cast h1
 simpa using h2
theorem Q9 (s:Str)(hs:s.length<=1048576):Fk 255 [dS s] (.tup [.val (dI (if gV s=true then fD s else 0)),.val (dB (gV s))]):=by
 refine fE good [5] func255 ntmps255 fun _ _=> ?_;simp[go_sem];refine amP good (fun((v,d):(Int)×(Int))=>[(0,.val (dS s)),(4,.val (dI v)),(5,.val (dI d))]) (fun(v,d)=>((v,d)=kX s)/\(0<=v/\v<=100000000000)/\(0<=d/\d<=11)) ?_ ?_
 ·simp[go_sem];refine wl good (fun((i,v,d):(Nat)×(Int)×(Int))=>[(0,.val (dS s)),(4,.val (dI v)),(5,.val (dI d)),(6,.val (dI i))]) (fun(i,v,d)=>s.length-i) (fun(i,v,d)=>(i<=s.length/\i<=11)/\((v,d)=(s.take i).foldl zH (0,0))/\(0<=v/\v<10^i)/\(0<=d/\d<=i)) ((0,0,0)) ⟨(by simp),(rfl),(by simp),(by simp)⟩ ?_;rintro⟨i,v,d⟩ ⟨h1,h2,h3,h4⟩;have hp11:(10:Int)^i<=100000000000:=aBD (by omega);simp[go_sem];apply gv<;>intro a
  ·have a':=a;simp[go_sem,a];apply gw<;>intro b
   ·obtain⟨c,hc⟩:=aC (l:=s) (i:=i) (by omega);have hm:=bB zH (0,0) hc;rw[←h2]at hm;simp[go_sem,hc];apply gv<;>intro e
    ·have e':=e;simp[go_sem,hc,e];apply gw<;>intro f
     ·have hu:zH (v,d) c=(v*10+(c.toNat-48),d+1):=if_pos ⟨by omega,by omega⟩;have hw:IntKind.i64.wrap ((c.toNat:Int)-48)=c.toNat-48:=by simp[IntKind.wrap,IntKind.bits,IntKind.signed];omega
      have hps:(10:Int)^(i+1)=10^i*10:=Int.pow_succ 10 i;simp[go_sem,hc,hw];iterate 5 refine ai ?_
      refine nx (i+1,v*10+(c.toNat-48),d+1) ⟨(by omega),(by rw[hm,hu]),(by rw[hps];omega),(by omega)⟩
     ·simp at f;have hu:zH (v,d) c=(v,d):=if_neg (by omega);have hps:(10:Int)^(i+1)=10^i*10:=Int.pow_succ 10 i;simp[go_sem];refine ai ?_;refine nx (i+1,v,d) ⟨(by omega),(by rw[hm,hu]),(by rw[hps];omega),(by omega)⟩
    ·have e':=e;simp at e';have hu:zH (v,d) c=(v,d):=if_neg (by omega);have hps:(10:Int)^(i+1)=10^i*10:=Int.pow_succ 10 i;simp[go_sem,e];refine ai ?_;refine nx (i+1,v,d) ⟨(by omega),(by rw[hm,hu]),(by rw[hps];omega),(by omega)⟩
   ·simp at b;simp[go_sem];refine jn (v,d) ⟨(by rw[h2,kX,show i=11 by omega]),(by omega),(by omega)⟩
  ·have a':=a;simp at a';simp[go_sem,a];refine jn (v,d) ⟨(by rw[h2,kX,List.take_of_length_le (show s.length<=i by omega),List.take_of_length_le (show s.length<=11 by omega)]),(by omega),(by omega)⟩
 rintro⟨v,d⟩ ⟨h5,h6,h7⟩;have hv:(kX s).1=v:=by rw[←h5]
 have hd:(kX s).2=d:=by rw[←h5]
 refine GY good (fun(z:Int)=>[(0,.val (dS s)),(4,.val (dI z)),(5,.val (dI d))]) (fun(z:Int)=>(z=fD s)/\(-100000000000<=z/\z<=100000000000)) ?_ ?_
 ·simp[go_sem];apply gv<;>intro e
  ·have e':=e;obtain⟨c,hc⟩:=aC (l:=s) (i:=0) (by simpa using e);have hcz:∀h,(⟨s.toArray⟩:ByteArray)[0]'h=c:=fun h=>by have:=asC s 0;rw[hc]at this;exact Option.some.inj ((getElem?_pos (⟨s.toArray⟩:ByteArray) 0 h).symm.trans this)
   simp[go_sem,e,hcz];apply gw<;>intro f
   ·have hpv:fD s= -v:=by rw[fD,if_pos (by rw[hc];congr 1;exact UInt8.toNat_inj.1 (by show c.toNat=45;omega)),hv]
    simp[go_sem];refine ai ?_;refine jn (-v) ⟨(hpv.symm),(by omega)⟩
   ·have hpv:fD s=v:=by rw[fD,if_neg (by rw[hc];intro h;have:=Option.some.inj h;subst this;exact f rfl),hv]
    simp[go_sem];refine jn (v) ⟨(hpv.symm),(by omega)⟩
  ·have e':=e;simp at e';have hpv:fD s=v:=by rw[fD,if_neg (by rw[show s=[]from List.eq_nil_of_length_eq_zero (by simpa using e)];simp),hv]
   simp[go_sem,e];refine jn (v) ⟨(hpv.symm),(by omega)⟩
 rintro z ⟨h8,h9⟩;simp[go_sem];apply gv<;>intro e
 ·have e':=e;have hb:gV s=false:=by simp only[gV,hd];rw[decide_eq_false (by omega)];rfl
  simp[go_sem,e];all_goals simp[hb]
 ·have e':=e;simp at e';simp[go_sem,e];apply gv<;>intro g
  ·have g':=g;have hb:gV s=false:=by simp only[gV,hd];rw[decide_eq_false (p:=s.length<=10) (by omega)];simp
   simp[go_sem,g];all_goals simp[hb]
  ·have g':=g;simp at g';simp[go_sem,g];refine ck (QU z (by omega)) ?_;simp[go_sem];apply gw<;>intro b
   ·have hb:gV s=false:=by simp only[gV,hd,←h8];rw[decide_eq_false (p:=oP z=s) b];simp
    simp[go_sem];all_goals simp[hb]
   ·have hb:gV s=true:=by simp only[gV,hd,←h8];simp[b];omega
    simp[go_sem];all_goals simp[hb,h8]
end Go.Proofs.YtemiopbofamgcaaGreatDoor
end
