/- Lemmas and walks that the law leans on, part 5. No condition. -/
import Derived.Test.YtnglphdfhegnmaaGreatDoorV4
set_option linter.unusedVariables false
set_option linter.unusedSimpArgs false
set_option linter.unusedSectionVars false
set_option maxRecDepth 10000
set_option maxHeartbeats 1000000
section
namespace Go.Proofs.YtnglphdfhegnmaaGreatDoor
open Go.Dv Go.Pl Go.Proofs.Tryz
theorem EE (a b:List Int)(ha:a.length<=1048576)(hb:b.length<=1048576):Fk 270 [nInts a,nInts b] (.val (dB (fU a b))):=by
 refine fE good [] func270 ntmps270 fun w0 ow0=> ?_;simp[go_sem];refine ck (oK a ha) ?_;simp[go_sem];refine gv (fun e=> ?_) (fun e=> ?_)
 ·have e':=e;simp[go_sem,e];refine ck (oK b hb) ?_;simp[go_sem];refine gv (fun f=> ?_) (fun f=> ?_)
  ·have f':=f;simp[go_sem,f];grind[fU]
  ·have f':=f;simp[go_sem,f];grind[fU]
 ·have e':=e;simp[go_sem,e];grind[fU]
theorem ae5 {i k:Nat}{f:Nat->Nat->Bool}{m:List (List Int)}(h:f i k=true):set2 m i k 1=pV f i k m:=by unfold pV;rw[if_pos h]
theorem CV (p q:List Int)(hp:p.length<=1048576)(hq:q.length<=1048576)(h:fU p q=true):Fk 215 [nInts p,nInts q] (.own (aD (uT p q))):=by
 refine fE good [] func215 ntmps215 fun w0 ow0=> ?_;obtain⟨hpp,hqq,hlen⟩:=M9 h;have hpl:=isPart_len hpp;have hz:List.replicate p.length (aD (List.replicate p.length 0))=(zeros p.length).map aD:=by simp[zeros]
 have hmat:=RV (q:=q) hpl;have hlab:=aj5 (q:=q) hpl;simp[go_sem];refine ck (EE p q hp hq) ?_;simp[go_sem,h];refine ck (kX p.length (by omega)) ?_;simp[go_sem,hz];refine wl good (fun(x':(Nat)×(List (List Int)))=>match x' with|(i,m)=>[(0,.val (nInts p)),(1,.val (nInts q)),(5,.own (eB m)),(16,.val (dI p.length)),(17,.val (dI i))]) (fun(x':(Nat)×(List (List Int)))=>match x' with|(i,m)=>p.length-i) (fun(x':(Nat)×(List (List Int)))=>match x' with|(i,m)=>(i<=p.length)/\(m=loopN i (zeros p.length) (P8 p.length (rU p q)))/\(sq2 p.length m)) ((0,zeros p.length)) ⟨(by omega),(rfl),(jD _)⟩ ?_ (h0:=by simp[go_sem,h,hz]);rintro⟨i,m⟩ ⟨h1,h2,h3⟩;simp[go_sem];refine gw (fun a=> ?_) (fun a=> ?_)
 ·have hs:=aA i (zeros p.length) (P8 p.length (rU p q));rw[←h2]at hs;have gp:=aF (l:=p) (i:=i) (by omega);have gq:=aF (l:=q) (i:=i) (by omega);simp[go_sem];refine wl good (fun(x':(Nat)×(List (List Int)))=>match x' with|(k,w)=>[(0,.val (nInts p)),(1,.val (nInts q)),(5,.own (eB w)),(6,.val (dI i)),(16,.val (dI p.length)),(17,.val (dI i)),(21,.val (dI p.length)),(22,.val (dI k))]) (fun(x':(Nat)×(List (List Int)))=>match x' with|(k,w)=>p.length-k) (fun(x':(Nat)×(List (List Int)))=>match x' with|(k,w)=>(k<=p.length)/\(w=loopN k m (pV (rU p q) i))/\(sq2 p.length w)) ((0,m)) ⟨(by omega),(rfl),(h3)⟩ ?_;rintro⟨k,w⟩ ⟨h4,h5,h6⟩;simp[go_sem];refine gw (fun b=> ?_) (fun b=> ?_)
  ·have hs2:=aA k m (pV (rU p q) i);rw[←h5]at hs2;have kp:=aF (l:=p) (i:=k) (by omega);have kq:=aF (l:=q) (i:=k) (by omega);have hrw:=(kN h6 (i:=i) (by omega)).1;have hgw:=CR h6 (i:=i) (k:=k) (by omega) (by omega);have hset:=zZ w i k 1;simp[go_sem];refine wdr good ?_;simp[go_sem];refine gv (fun e=> ?_) (fun e=> ?_)
   ·have e':=e;simp[go_sem,gp,kp,e];refine gv (fun f=> ?_) (fun f=> ?_)
    ·have f':=f;have ho:=ae5 (m:=w) (show rU p q i k=true by simp only[rU,Bool.and_eq_true,Bool.or_eq_true,decide_eq_true_eq];exact⟨by omega,.inl f⟩);simp[go_sem,hrw,hgw,hset,f];refine ai ?_;refine nx (k+1,set2 w i k 1) ⟨(by omega),(by rw[hs2,ho]),(oC h6 (by omega) 1)⟩
    ·have f':=f;simp[go_sem,gq,kq,f];refine gw (fun g=> ?_) (fun g=> ?_)
     ·have ho:=ae5 (m:=w) (show rU p q i k=true by simp only[rU,Bool.and_eq_true,Bool.or_eq_true,decide_eq_true_eq];exact⟨by omega,.inr g⟩);simp[go_sem,hrw,hgw,hset];refine ai ?_;refine nx (k+1,set2 w i k 1) ⟨(by omega),(by rw[hs2,ho]),(oC h6 (by omega) 1)⟩
     ·have ho:pV (rU p q) i k w=w:=if_neg (by simp only[rU,Bool.and_eq_true,Bool.or_eq_true,decide_eq_true_eq];omega);simp[go_sem];refine ai ?_;refine nx (k+1,w) ⟨(by omega),(by rw[hs2,ho]),(h6)⟩
   ·have e':=e;have ho:pV (rU p q) i k w=w:=if_neg (by simp only[rU,Bool.and_eq_true,Bool.or_eq_true,decide_eq_true_eq];omega);simp[go_sem,e];refine ai ?_;refine nx (k+1,w) ⟨(by omega),(by rw[hs2,ho]),(h6)⟩ (h3:=by simp[go_sem,h,hz,gp,gq,kp,kq,hrw,hgw,hset,e])
  ·simp at b;obtain rfl:k=p.length:=by omega
   simp[go_sem];refine ai ?_;refine nx (i+1,w) ⟨(by omega),(by rw[hs,h5];rfl),(h6)⟩
 ·simp at a;obtain rfl:i=p.length:=by omega
  have hfin:F8 p q=m:=h2.symm;rw[hfin]at hmat hlab;simp[go_sem];refine ck (jK m hmat) ?_;simp[go_sem,hlab]
theorem JN (m:List (List Int))(l:List Con)(hl:l.length<=1048576)(hm:aI m=true)(hc:aK m.length l=true):Fk 158 [aL m,bG l] (.own (aD (aN m l))):=by
 refine fE good [] func158 ntmps158 fun w0 ow0=> ?_;have hn8:=aP hm;have hpl:=CQ hm;have hml:=iB hc;have hpp:=BK hpl hn8.1 hn8.2;have hmp:=BK hml hn8.1 hn8.2;have hpair:fU (iR m) (aV m.length l)=true:=by simp only[fU,Bool.and_eq_true,decide_eq_true_eq];exact⟨⟨hpp,hmp⟩,by rw[hpl.1,hml.1]⟩
 have hx:=(yU hm hc).1;simp[go_sem];refine ck (bV m (by omega) (nM hm)) ?_;simp[go_sem,hm];refine ck (lZ m.length l) ?_;simp[go_sem,hc];refine ck (jK m hm) ?_;simp[go_sem];refine ck (oU m.length l (by omega) hl hc) ?_;have q1:=hpl.1;have q2:=hml.1;simp[go_sem];refine ck (CV (iR m) (aV m.length l) (by omega) (by omega) hpair) ?_;simp[go_sem,hx]
theorem apT {m:List (List Int)}(h:aI m=true)(l:List Int)(i k:Nat):0<=kV m l i k/\kV m l i k<=1000:=by
 have:=cB h i k;rw[ZX];split<;>omega
theorem dY (m:List (List Int))(l:List Int)(hm:aI m=true)(hl:l.length=m.length):Fk 163 [aL m,nInts l] (.val (dI (aQ m l))):=by
 refine fE good [] func163 ntmps163 fun w0 ow0=> ?_;have hn8:=aP hm;simp[go_sem];refine wl good (fun(x':(Nat)×(Int))=>match x' with|(i,s)=>[(0,.val (aL m)),(1,.val (nInts l)),(5,.val (dI s)),(9,.val (dI l.length)),(10,.val (dI i))]) (fun(x':(Nat)×(Int))=>match x' with|(i,s)=>l.length-i) (fun(x':(Nat)×(Int))=>match x' with|(i,s)=>(i<=l.length)/\(s=loopN i 0 (pU m l))/\(0<=s/\s<=8000*i)) ((0,0)) ⟨(by omega),(rfl),(by omega)⟩ ?_;rintro⟨i,s⟩ ⟨h1,h2,h3⟩;simp[go_sem];refine gw (fun a=> ?_) (fun a=> ?_)
 ·have hs:=aA i 0 (pU m l);rw[←h2]at hs;simp[go_sem];refine wl good (fun(x':(Nat)×(Int))=>match x' with|(k,t)=>[(0,.val (aL m)),(1,.val (nInts l)),(5,.val (dI t)),(6,.val (dI i)),(9,.val (dI l.length)),(10,.val (dI i)),(13,.val (dI i)),(14,.val (dI k))]) (fun(x':(Nat)×(Int))=>match x' with|(k,t)=>i-k) (fun(x':(Nat)×(Int))=>match x' with|(k,t)=>(k<=i)/\(t=loopN k s (fun k s=>s+kV m l i k))/\(s<=t/\t<=s+1000*k)) ((0,s)) ⟨(by omega),(rfl),(by omega)⟩ ?_;rintro⟨k,t⟩ ⟨h4,h5,h6⟩;simp[go_sem];refine gw (fun b=> ?_) (fun b=> ?_)
  ·have hs2:=aA k s (fun k s=>s+kV m l i k);rw[←h5]at hs2;have gi:=aF (l:=l) (i:=i) (by omega);have gk:=aF (l:=l) (i:=k) (by omega);obtain⟨r,hr,hw⟩:=eP hm (i:=i) (k:=k) (by omega) (by omega);have hc:=apT hm l i k;have hw2:=cB hm i k;have hcb:=ZX m l i k;simp[go_sem];refine wdr good ?_;simp[go_sem,gi,gk];refine gw (fun e=> ?_) (fun e=> ?_)
   ·rw[if_pos e]at hcb;have hcs:=hcb.symm;simp[go_sem,hr,hw,hcs];iterate 3 refine ai ?_
    refine nx (k+1,t+kV m l i k) ⟨(by omega),(hs2.symm),(by omega)⟩
   ·rw[if_neg e]at hcb;have hcs:=hcb.symm;simp[go_sem,hr,hw,hcs];iterate 2 refine ai ?_
    refine nx (k+1,t+kV m l i k) ⟨(by omega),(hs2.symm),(by omega)⟩
  ·simp at b;obtain rfl:k=i:=by omega
   simp[go_sem];refine ai ?_;refine nx (k+1,t) ⟨(by omega),(by rw[hs,h5];rfl),(by omega)⟩
 ·simp at a;obtain rfl:i=l.length:=by omega
  have hfin:aQ m l=s:=h2.symm;simp[go_sem,hfin]
theorem MP (l:List Int)(x:Int):ix (fun y=>decide (x=y)) l=place l x:=by
 unfold place;congr 1;funext y;simp[eq_comm]
theorem vU (l:List Con)(items:List Int)(hl:l.length<=1048576)(hi:items.length<=1048576):Fk 161 [bG l,nInts items] (.own (yK (bZ l items))):=by
 refine fE good [] func161 ntmps161 fun w0 ow0=> ?_;simp[go_sem];refine wl good (fun(x':(Nat)×(List Con))=>match x' with|(i,o)=>[(1,.val (nInts items)),(5,.own (yK o)),(10,.val (bG l)),(11,.val (dI l.length)),(12,.val (dI i))]) (fun(x':(Nat)×(List Con))=>match x' with|(i,o)=>l.length-i) (fun(x':(Nat)×(List Con))=>match x' with|(i,o)=>(i<=l.length)/\(o=(l.take i).filterMap (pX items))/\(o.length<=i)) ((0,[])) ⟨(by omega),(by simp),(by simp)⟩ ?_;rintro⟨i,o⟩ ⟨h1,h2,h3⟩;simp[go_sem];refine gw (fun a=> ?_) (fun a=> ?_)
 ·obtain⟨c,hc⟩:=aC (l:=l) (i:=i) (by omega);have hm:=rE (pX items) hc;rw[←h2]at hm;have e1:=MP items c.a;have e2:=MP items c.b;have b1:=ar1 (fun y=>decide (y=c.a)) items;have b2:=ar1 (fun y=>decide (y=c.b)) items;simp[go_sem,hc];refine wdt good 8 ?_;simp[go_sem];refine cd (dK items c.a) ?_;simp[go_sem];refine cd (dK items c.b) ?_;simp[go_sem,e1,e2];refine gv (fun e=> ?_) (fun e=> ?_)
  ·have e':=e;simp[go_sem,e];refine gw (fun f=> ?_) (fun f=> ?_)
   ·have hr:pX items c=some ⟨place items c.a,place items c.b,c.same⟩:=if_pos ⟨e,f⟩;rw[hr]at hm;simp[go_sem];iterate 2 refine ai ?_
    refine nx (i+1,o++[⟨place items c.a,place items c.b,c.same⟩]) ⟨(by omega),(by rw[hm];rfl),(by simp;omega)⟩
   ·simp at f;have hr:pX items c=none:=if_neg (by omega);rw[hr]at hm;simp[go_sem];refine ai ?_;refine nx (i+1,o) ⟨(by omega),(by rw[hm];simp),(by omega)⟩
  ·have e':=e;simp at e';have hr:pX items c=none:=if_neg (by omega);rw[hr]at hm;simp[go_sem,e];refine ai ?_;refine nx (i+1,o) ⟨(by omega),(by rw[hm];simp),(by omega)⟩
 ·simp at a;rw[aO a]at h2;have hfin:bZ l items=o:=h2.symm;simp[go_sem,hfin]
def adN (m:List (List Int))(items:List Int)(i k:Nat):Int:=at2 m (at1 items i).toNat (at1 items k).toNat
theorem MZ (m:List (List Int))(items:List Int)(hm:aI m=true)(hs:GK m.length items)(hl:items.length<=1048576):Fk 160 [aL m,nInts items] (.own (eB (dZ m items))):=by
 refine fE good [] func160 ntmps160 fun w0 ow0=> ?_;have hz:List.replicate items.length (aD (List.replicate items.length 0))=(zeros items.length).map aD:=by simp[zeros]
 simp[go_sem];refine ck (kX items.length (by omega)) ?_;simp[go_sem,hz];refine wl good (fun(x':(Nat)×(List (List Int)))=>match x' with|(i,q)=>[(0,.val (aL m)),(1,.val (nInts items)),(5,.own (eB q)),(13,.val (nInts items)),(14,.val (dI items.length)),(15,.val (dI i))]) (fun(x':(Nat)×(List (List Int)))=>match x' with|(i,q)=>items.length-i) (fun(x':(Nat)×(List (List Int)))=>match x' with|(i,q)=>(i<=items.length)/\(q=loopN i (zeros items.length) (OU items.length (adN m items)))/\(sq2 items.length q)) ((0,zeros items.length)) ⟨(by omega),(rfl),(jD _)⟩ ?_ (h0:=by simp[go_sem,hz]);rintro⟨i,q⟩ ⟨h1,h2,h3⟩;simp[go_sem];refine gw (fun a=> ?_) (fun a=> ?_)
 ·have hs1:=aA i (zeros items.length) (OU items.length (adN m items));rw[←h2]at hs1;have gi:=aF (l:=items) (i:=i) (by omega);have si:=hs.1 _ (List.mem_of_getElem? gi);simp[go_sem,gi];refine wl good (fun(x':(Nat)×(List (List Int)))=>match x' with|(k,w)=>[(0,.val (aL m)),(1,.val (nInts items)),(5,.own (eB w)),(6,.val (dI i)),(7,.val (dI (at1 items i))),(13,.val (nInts items)),(14,.val (dI items.length)),(15,.val (dI i)),(20,.val (nInts items)),(21,.val (dI items.length)),(22,.val (dI k))]) (fun(x':(Nat)×(List (List Int)))=>match x' with|(k,w)=>items.length-k) (fun(x':(Nat)×(List (List Int)))=>match x' with|(k,w)=>(k<=items.length)/\(w=loopN k q (CY (adN m items) i))/\(sq2 items.length w)) ((0,q)) ⟨(by omega),(rfl),(h3)⟩ ?_;rintro⟨k,w⟩ ⟨h4,h5,h6⟩;simp[go_sem];refine gw (fun b=> ?_) (fun b=> ?_)
  ·have hs2:=aA k q (CY (adN m items) i);rw[←h5]at hs2;have gk:=aF (l:=items) (i:=k) (by omega);have sk:=hs.1 _ (List.mem_of_getElem? gk);have hrw:=(kN h6 (i:=i) (by omega)).1;have hgw:=CR h6 (i:=i) (k:=k) (by omega) (by omega);obtain⟨r,hr,hv⟩:=eP hm (i:=(at1 items i).toNat) (k:=(at1 items k).toNat) (by omega) (by omega);have hv2:r[(at1 items k).toNat]?=some (adN m items i k):=hv;have hset:(w.map aD).set i (D.sl (some 3) (((gat w i).map dI).set k (dI (adN m items i k))))=(CY (adN m items) i k w).map aD:=zZ w i k (adN m items i k);have p1:=si.1;have p2:=sk.1;simp[go_sem,gk];refine wdt good 13 ?_;simp[go_sem,hrw,hgw,hr,hv2,hset,p1,p2];refine ai ?_;refine nx (k+1,CY (adN m items) i k w) ⟨(by omega),(hs2.symm),(oC h6 (by omega) _)⟩
  ·simp at b;obtain rfl:k=items.length:=by omega
   simp[go_sem];refine ai ?_;refine nx (i+1,w) ⟨(by omega),(by rw[hs1,h5];rfl),(h6)⟩
 ·simp at a;obtain rfl:i=items.length:=by omega
  have hfin:dZ m items=q:=by rw[←aqY,h2];rfl
  simp[go_sem,hfin]
theorem rW (m:List (List Int))(l:List Int)(hm:aI m=true)(hl:l.length<=1048576):Fk 223 [aL m,nInts l] (.val (dI (mV m l))):=by
 refine fE good [] func223 ntmps223 fun w0 ow0=> ?_;simp[go_sem];refine ck (bV m (by have:=aP hm;omega) (nM hm)) ?_;simp[go_sem,hm];refine ck (oK l hl) ?_;simp[go_sem];refine gv (fun e=> ?_) (fun e=> ?_)
 ·have e':=e;simp at e';have hp:mV m l= -1:=if_neg (by simp[e']);simp[go_sem,e,hp]
 ·have e':=e;simp at e';simp[go_sem,e];refine gw (fun f=> ?_) (fun f=> ?_)
  ·have hp:mV m l= -1:=if_neg (by omega);simp[go_sem,hp]
  ·have hll:l.length=m.length:=by omega
   have hp:mV m l=aQ m l:=if_pos ⟨hm,e',hll⟩;simp[go_sem];refine ck (dY m l hm hll) ?_;simp[go_sem,hp]
theorem UU (c:Con)(l:List Int)(hl:l.length<=1048576):Fk 277 [aeQ c,.bx false (nInts l)] (.val (dB (!oH l c))):=by
 refine fE good [] func277 ntmps277 fun w0 ow0=> ?_;simp[go_sem];refine wdt good 30 ?_;simp[go_sem];refine cd (iA c.a l.length) ?_;simp[go_sem];refine gv (fun e=> ?_) (fun e=> ?_)
 ·have e':=e;simp at e';simp[go_sem,e];grind[oH]
 ·have e':=e;simp at e';simp[go_sem,e];refine cd (iA c.b l.length) ?_;simp[go_sem];refine gv (fun f=> ?_) (fun f=> ?_)
  ·have f':=f;simp at f';simp[go_sem,f];grind[oH]
  ·have f':=f;simp at f';have ha:0<=c.a:=by omega
   have hb:0<=c.b:=by omega
   have q1:=aF (l:=l) (i:=c.a.toNat) (by omega);have q2:=aF (l:=l) (i:=c.b.toNat) (by omega);simp[go_sem,e',f',q1,q2];grind[oH]
theorem tX (l:List Int)(cs:List Con)(hl:l.length<=1048576:=by first|assumption|omega|(simp;omega)|grind)(hc:cs.length<=1048576:=by first|assumption|omega|(simp;omega)|grind):Fk 220 [nInts l,bG cs] (.val (dB (gN cs l))):=by
 refine fE good [] func220 ntmps220 fun w0 ow0=> ?_;have hx:(!(cs.any fun c=> !oH l c))=gN cs l:=by rw[acM];simp[gN]
 simp[go_sem];intro b;refine ckB (ZZ cs (fun c=> !oH l c) 277 b (nInts l) (OI _) aDC aCU (fun c _=>UU c l hl) hc) ?_;simp[go_sem,hx]
end Go.Proofs.YtnglphdfhegnmaaGreatDoor
end
section
namespace Go.Proofs.YtnglphdfhegnmaaGreatDoor
open Go.Dv Go.Pl Go.RowKit Go.Proofs.Tryz
abbrev aeR (t:Tri):D:= .agg [.agg [dI t.a,dI t.b],.agg [dI t.a,dI t.c],.agg [dI t.b,dI t.c]]
structure AV (n:Nat) (t:Tri):Prop where
 a:0<=t.a
 b:t.a<t.b
 c:t.b<t.c
 n:t.c<(n:Int)
theorem VG {t:Tri}{n i:Nat}(h:AV n t)(hi:i<3):∃x y:Nat,x<n/\y<n/\[D.agg [dI t.a,dI t.b],D.agg [dI t.a,dI t.c],D.agg [dI t.b,dI t.c]][i]?=some (D.agg [dI x,dI y]):=by
 obtain⟨h1,h2,h3,h4⟩:=h;obtain⟨a,ha⟩:=Int.eq_ofNat_of_zero_le h1;obtain⟨b,hb⟩:=Int.eq_ofNat_of_zero_le (show 0<=t.b by omega);obtain⟨c,hc⟩:=Int.eq_ofNat_of_zero_le (show 0<=t.c by omega);rw[ha,hb,hc];have:i=0\/i=1\/i=2:=by omega
 rcases this with rfl|rfl|rfl
 ·exact⟨a,b,by omega,by omega,rfl⟩
 ·exact⟨a,c,by omega,by omega,rfl⟩
 ·exact⟨b,c,by omega,by omega,rfl⟩
theorem av2 (a b c d:Int)(w:World):Calls prog 226 #[.agg #[.int .i64 a,.int .i64 b,.int .i64 c,.int .i64 d]] w fun e w'=>e= .returned (.agg #[.int .i64 a,.int .i64 b,.int .i64 a,.int .i64 c,.int .i64 b,.int .i64 c])/\Below w.heap.size w w':=by
 go_enter func226,ntmps226
 go_wp2
 refine bodyPost_ret (v:= .agg #[.int .i64 a,.int .i64 b,.int .i64 a,.int .i64 c,.int .i64 b,.int .i64 c]) ?_ rfl ⟨rfl,((Below.refl _ w).alloc (Nat.le_refl _) _).alloc (by simp) _⟩;have z:=Tryz.sizeOf229;have g:=Tryz.isAgg229;simp[results,Tryz.f226,loadVar,asAddr]
 go_simp
theorem vQ (t:Tri):bR prog 226 [af9 t] (fun r=>r= .val (aeR t)):=by
 intro w ow vs tt ht hL hnew hvs hargs;have h0:=hargs 0 _ rfl
 have hv:vs= #[.agg #[.int .i64 t.a,.int .i64 t.b,.int .i64 t.c,.int .i64 t.w]]:=by
  simp only[D.fz,D.fzs,V]at h0;obtain⟨cs,h1,h2⟩:=h0;have h3:=R.yH (cs':=[.int .i64 t.a,.int .i64 t.b,.int .i64 t.c,.int .i64 t.w]) rfl h2;apply Array.ext
  ·simpa using hvs
  ·intro i h4 h5;obtain rfl:i=0:=by simpa using h5
   simp[Array.getD_eq_getD_getElem?,h4]at h1;simp[h1];apply Array.toList_inj.1;exact h3
 subst hv;refine(av2 t.a t.b t.c t.w w).mono ?_;rintro e w' ⟨rfl,hB⟩;refine⟨_,fun b=>if b<w.heap.size then ow b else none,_,rfl,rfl,⟨hB.os,hB.tape,hB.output,hB.size,fun b hb=>⟨hB.block b hb,if_pos hb⟩,fun b hb=>if_neg (by have:=hB.size;omega)⟩,rfl,fun s a=> ?_⟩;exact⟨_,rfl,R.flat rfl⟩
theorem YS (t:Tri)(m:List (List Int))(hm:aI m=true)(ht:AV m.length t):bR prog 282 [af9 t,aL m] (fun r=>∃b:Bool,r= .val (dB b)):=by
 refine fE good [] func282 ntmps282 fun w0 ow0=> ?_;simp[go_sem];refine ck (vQ t) ?_;simp[go_sem];refine wl good (fun(x':(Nat)×(Int)×(Int))=>match x' with|(i,p,q)=>[(1,.val (aL m)),(5,.val (dI p)),(6,.val (dI q)),(11,.val (aeR t)),(12,.val (dI i))]) (fun(x':(Nat)×(Int)×(Int))=>match x' with|(i,p,q)=>3-i) (fun(x':(Nat)×(Int)×(Int))=>match x' with|(i,p,q)=>(i<=3)/\(0<=p/\p<=i)/\(0<=q/\q<=i)) ((0,0,0)) ⟨(by omega),(by omega),(by omega)⟩ ?_;rintro⟨i,p,q⟩ ⟨h1,h2,h3⟩;simp[go_sem];refine gw (fun a=> ?_) (fun a=> ?_)
 ·obtain⟨x,y,hx,hy,hp⟩:=VG ht (show i<3 by omega);obtain⟨r,hr,hw⟩:=eP hm hx hy;simp[go_sem,hp];refine ai ?_;refine wdt good 9 ?_;simp[go_sem,hr,hw];refine gw (fun b=> ?_) (fun b=> ?_)
  ·simp[go_sem];iterate 2 refine ai ?_
   refine nx (i+1,p+1,q) ⟨(by first|omega|(simp;omega)|grind),(by first|omega|(simp;omega)|grind),(by first|omega|(simp;omega)|grind)⟩
  ·simp at b;simp[go_sem];refine gw (fun c=> ?_) (fun c=> ?_)
   ·simp[go_sem];iterate 2 refine ai ?_
    refine nx (i+1,p,q+1) ⟨(by first|omega|(simp;omega)|grind),(by first|omega|(simp;omega)|grind),(by first|omega|(simp;omega)|grind)⟩
   ·simp at c;simp[go_sem];refine ai ?_;refine nx (i+1,p,q) ⟨(by first|omega|(simp;omega)|grind),(by first|omega|(simp;omega)|grind),(by first|omega|(simp;omega)|grind)⟩
 ·simp at a;simp[go_sem];refine gv (fun g1=> ?_) (fun g1=> ?_)
  ·have g1':=g1;simp[go_sem,g1]
  ·have g1':=g1;simp[go_sem,g1]
theorem anU (t:Tri)(n:Nat)(hn:n<=1048576):bR prog 321 [af9 t,dI n] (fun r=>∃b:Bool,r= .val (dB b)):=by
 refine fE good [] func321 ntmps321 fun w0 ow0=> ?_;simp[go_sem];refine ck (iA t.a n) ?_;simp[go_sem];refine gv (fun e=> ?_) (fun e=> ?_)
 ·have e':=e;simp at e';simp[go_sem,e];refine ck (iA t.b n) ?_;simp[go_sem];refine gv (fun f=> ?_) (fun f=> ?_)
  ·have f':=f;simp at f';simp[go_sem,f];refine ck (iA t.c n) ?_;simp[go_sem];refine gv (fun g=> ?_) (fun g=> ?_)
   ·have g':=g;simp at g';simp[go_sem,g];refine gv (fun h=> ?_) (fun h=> ?_)
    ·have h':=h;simp[go_sem,h]
    ·have h':=h;simp at h';simp[go_sem,h]
   ·have g':=g;simp at g';simp[go_sem,g]
  ·have f':=f;simp at f';simp[go_sem,f]
 ·have e':=e;simp at e';simp[go_sem,e]
end Go.Proofs.YtnglphdfhegnmaaGreatDoor
end
section
namespace Go.Proofs.YtnglphdfhegnmaaGreatDoor
open Go.Dv Go.Pl Go.Proofs.Tryz
theorem U0 {x:Int}(h: -1000<=x/\x<=1000):0<=rJ x/\rJ x<=1000:=by unfold rJ;split<;>omega
theorem IC (m:List (List Int))(hm:aI m=true):bR prog 225 [aL m] (fun r=>∃l:List Tri,r= .own (qE l)/\l.length<=512/\∀t∈l,AV m.length t/\0<=t.w/\t.w<=1000):=by
 refine fE good [] func225 ntmps225 fun w0 ow0=> ?_;have hn8:=aP hm;simp[go_sem];refine ck (bV m (by omega) (nM hm)) ?_;simp[go_sem,hm];refine wl good (fun(x':(Nat)×(List Tri))=>match x' with|(i,o)=>[(0,.val (aL m)),(3,.own (qE o)),(12,.val (dI m.length)),(13,.val (dI i))]) (fun(x':(Nat)×(List Tri))=>match x' with|(i,o)=>m.length-i) (fun(x':(Nat)×(List Tri))=>match x' with|(i,o)=>(i<=m.length)/\(o.length<=64*i)/\(∀t∈o,AV m.length t/\0<=t.w/\t.w<=1000)) ((0,[])) ⟨(by omega),(by simp),(by simp)⟩ ?_;rintro⟨i,o⟩ ⟨h1,h2,h3⟩;simp[go_sem];refine gw (fun a=> ?_) (fun a=> ?_)
 ·simp[go_sem];refine ai ?_;refine wl good (fun(x':(Nat)×(List Tri))=>match x' with|(j,p)=>[(0,.val (aL m)),(3,.own (qE p)),(4,.val (dI i)),(5,.val (dI j)),(12,.val (dI m.length)),(13,.val (dI i))]) (fun(x':(Nat)×(List Tri))=>match x' with|(j,p)=>m.length-j) (fun(x':(Nat)×(List Tri))=>match x' with|(j,p)=>(i+1<=j/\j<=m.length)/\(p.length<=64*i+8*j)/\(∀t∈p,AV m.length t/\0<=t.w/\t.w<=1000)) ((i+1,o)) ⟨(by omega),(by omega),(h3)⟩ ?_;rintro⟨j,p⟩ ⟨h4,h5,h6⟩;simp[go_sem];refine gw (fun b=> ?_) (fun b=> ?_)
  ·simp[go_sem];refine ai ?_;refine wl good (fun(x':(Nat)×(List Tri))=>match x' with|(k,q)=>[(0,.val (aL m)),(3,.own (qE q)),(4,.val (dI i)),(5,.val (dI j)),(6,.val (dI k)),(12,.val (dI m.length)),(13,.val (dI i))]) (fun(x':(Nat)×(List Tri))=>match x' with|(k,q)=>m.length-k) (fun(x':(Nat)×(List Tri))=>match x' with|(k,q)=>(j+1<=k/\k<=m.length)/\(q.length<=64*i+8*j+k)/\(∀t∈q,AV m.length t/\0<=t.w/\t.w<=1000)) ((j+1,p)) ⟨(by omega),(by omega),(h6)⟩ ?_;rintro⟨k,q⟩ ⟨h7,h8,h9⟩;simp[go_sem];refine gw (fun c=> ?_) (fun c=> ?_)
   ·obtain⟨r1,e1,f1⟩:=eP hm (i:=i) (k:=j) (by omega) (by omega);obtain⟨r2,e2,f2⟩:=eP hm (i:=i) (k:=k) (by omega) (by omega);obtain⟨r3,e3,f3⟩:=eP hm (i:=j) (k:=k) (by omega) (by omega);have b1:=cB hm i j;have b2:=cB hm i k;have b3:=cB hm j k;rw[e1]at e2;obtain rfl:=Option.some.inj e2;simp[go_sem];refine wdf good [(28,[32,33,34,59,60]),(29,[7]),(30,[7,60])] [(0,.val (aL m)),(3,.own (qE q)),(4,.val (dI i)),(5,.val (dI j)),(6,.val (dI k)),(12,.val (dI m.length)),(13,.val (dI i))] [] (by simp[go_sem]) ?_;simp[go_sem,e1,f1];refine cd (kU (at2 m i j) (by omega)) ?_;simp[go_sem,e1,f2];refine cd (kU (at2 m i k) (by omega)) ?_;simp[go_sem,e3,f3];refine cd (kU (at2 m j k) (by omega)) ?_;obtain⟨w,hw⟩:∃w,w=min (rJ (at2 m i j)) (min (rJ (at2 m i k)) (rJ (at2 m j k))):=⟨_,rfl⟩;have a1:=U0 b1;have a2:=U0 b2;have a3:=U0 b3;have hw2:=hw.symm;have ht:AV m.length ⟨i,j,k,w⟩:=⟨by show(0:Int)<=i;omega,by show(i:Int)<j;omega,by show(j:Int)<k;omega,by show(k:Int)<m.length;omega⟩;simp[go_sem,hw2];refine bP (YS ⟨i,j,k,w⟩ m hm ht) (by simp[go_sem]) ?_;rintro r ⟨bb,rfl⟩;refine⟨by simp[go_sem],?_⟩;simp[go_sem];refine gw (fun d=> ?_) (fun d=> ?_)
    ·simp[go_sem];iterate 2 refine ai ?_
     refine nx (k+1,q++[⟨i,j,k,w⟩]) ⟨(by omega),(by simp;omega),(by intro t htm;rcases List.mem_append.1 htm with h|h;exact h9 t h;obtain rfl:=List.mem_singleton.1 h;exact⟨ht,by show 0<=w;omega,by show w<=1000;omega⟩)⟩
    ·simp[go_sem];refine ai ?_;refine nx (k+1,q) ⟨(by omega),(by omega),(h9)⟩
   ·simp at c;simp[go_sem];refine ai ?_;refine nx (j+1,q) ⟨(by omega),(by omega),(h9)⟩
  ·simp at b;simp[go_sem];refine ai ?_;refine nx (i+1,p) ⟨(by omega),(by omega),(h6)⟩
 ·simp at a;simp[go_sem];exact⟨o,rfl,by omega,h3⟩
theorem MO {m u:List (List Int)}{x y:Nat}(hu:sq2 m.length u)(hx:x<m.length)(hy:y<m.length):u[x]?=some (gat u x)/\(gat u x)[y]?=some (at2 u x y):=⟨(kN hu hx).1,CR hu hx hy⟩
def DJ (m u:List (List Int))(b:Int):Prop:=sq2 m.length u/\∀x y,x<m.length->y<m.length->0<=at2 u x y/\at2 u x y<=b
theorem agW {m u:List (List Int)}{b w:Int}{x y:Nat}(h:DJ m u b)(hx:x<m.length)(hy:y<m.length)(hw:0<=w/\w<=1000):DJ m (set2 u x y (at2 u x y+w)) (b+1000):=by
 refine⟨oC h.1 hx _,fun a c ha hc=> ?_⟩;rw[uW h.1 hx hy];have h1:=h.2 a c ha hc;have h2:=h.2 x y hx hy;split<;>omega
theorem tH {m u:List (List Int)}{b c:Int}(h:DJ m u b)(hb:b<=c):DJ m u c:=⟨h.1,fun x y hx hy=>by have:=h.2 x y hx hy;omega⟩
theorem mR (m:List (List Int))(hm:aI m=true):bR prog 165 [aL m] (fun r=>∃l:List Tri,r= .own (qE l)/\l.length<=512/\∀t∈l,AV m.length t/\1<=t.w/\t.w<=1000):=by
 refine fE good [] func165 ntmps165 fun w0 ow0=> ?_;have hn8:=aP hm;have hz:List.replicate m.length (aD (List.replicate m.length 0))=(zeros m.length).map aD:=by simp[zeros]
 simp[go_sem];refine ck (kX m.length (by omega)) ?_;simp[go_sem,hz];refine bP (IC m hm) (by simp[go_sem]) ?_;rintro r ⟨L,rfl,hL,hT⟩;refine⟨by simp[go_sem],?_⟩;simp[go_sem];refine wl good (fun(x':(Nat)×(List (List Int))×(List Tri))=>match x' with|(i,u,o)=>[(0,.val (aL m)),(3,.own (qE o)),(4,.own (eB u)),(15,.own (qE L)),(16,.val (dI L.length)),(17,.val (dI i))]) (fun(x':(Nat)×(List (List Int))×(List Tri))=>match x' with|(i,u,o)=>L.length-i) (fun(x':(Nat)×(List (List Int))×(List Tri))=>match x' with|(i,u,o)=>(i<=L.length)/\(DJ m u (3000*i))/\(o.length<=i)/\(∀t∈o,AV m.length t/\1<=t.w/\t.w<=1000)) ((0,zeros m.length,[])) ⟨(by omega),(⟨jD _,fun x y _ _=>by rw[AP];omega⟩),(by simp),(by simp)⟩ ?_ (h0:=by simp[go_sem,hz]);rintro⟨i,u,o⟩ ⟨h1,h2,h3,h4⟩;simp[go_sem];refine gw (fun a=> ?_) (fun a=> ?_)
 ·obtain⟨t,ht⟩:=aC (l:=L) (i:=i) (by omega);have hto:=hT t (List.mem_of_getElem? ht);simp[go_sem,ht];refine ck (vQ t) ?_;simp[go_sem];refine wl good (fun(x':(Nat)×(Int))=>match x' with|(k,w)=>[(0,.val (aL m)),(3,.own (qE o)),(4,.own (eB u)),(6,.own (.bx true (af9 ⟨t.a,t.b,t.c,w⟩))),(15,.own (qE L)),(16,.val (dI L.length)),(17,.val (dI i)),(22,.val (aeR t)),(23,.val (dI k))]) (fun(x':(Nat)×(Int))=>match x' with|(k,w)=>3-k) (fun(x':(Nat)×(Int))=>match x' with|(k,w)=>(k<=3)/\(-2000000<=w/\w<=1000)) ((0,t.w)) ⟨(by omega),(by omega)⟩ ?_;rintro⟨k,w⟩ ⟨h5,h6⟩;simp[go_sem];refine gw (fun b=> ?_) (fun b=> ?_)
  ·obtain⟨x,y,hx,hy,hp⟩:=VG hto.1 (show k<3 by omega);obtain⟨r,hr,hv⟩:=eP hm hx hy;obtain⟨q1,q2⟩:=MO h2.1 hx hy;have q3:=h2.2 x y hx hy;have b1:=cB hm x y;have a1:=U0 b1;simp[go_sem,hp];refine ai ?_;refine wdt good 24 ?_;simp[go_sem,hr,hv];refine cd (kU (at2 m x y) (by omega)) ?_;simp[go_sem,q1,q2];iterate 2 refine ai ?_
   refine nx (k+1,min w (rJ (at2 m x y)-at2 u x y)) ⟨(by omega),(by omega)⟩
  ·simp at b;have hu1:DJ m u (3000*((i+1:Nat):Int)):=tH h2 (by omega);simp[go_sem];refine gw (fun c=> ?_) (fun c=> ?_)
   ·simp[go_sem];refine ai ?_;refine nx (i+1,u,o) ⟨(by omega),(hu1),(by omega),(h4)⟩
   ·simp at c;have htw:AV m.length ⟨t.a,t.b,t.c,w⟩:=⟨hto.1.a,hto.1.b,hto.1.c,hto.1.n⟩;simp[go_sem];refine ck (vQ ⟨t.a,t.b,t.c,w⟩) ?_;simp[go_sem];refine wl good (fun(x':(Nat)×(List (List Int)))=>match x' with|(j,v)=>[(0,.val (aL m)),(3,.own (qE o)),(4,.own (eB v)),(6,.own (.bx true (af9 ⟨t.a,t.b,t.c,w⟩))),(15,.own (qE L)),(16,.val (dI L.length)),(17,.val (dI i)),(55,.val (aeR t)),(56,.val (dI j))]) (fun(x':(Nat)×(List (List Int)))=>match x' with|(j,v)=>3-j) (fun(x':(Nat)×(List (List Int)))=>match x' with|(j,v)=>(j<=3)/\(DJ m v (3000*i+1000*j))) ((0,u)) ⟨(by omega),(tH h2 (by omega))⟩ ?_;rintro⟨j,v⟩ ⟨h7,h8⟩;simp[go_sem];refine gw (fun b2=> ?_) (fun b2=> ?_)
    ·obtain⟨x,y,hx,hy,hp⟩:=VG hto.1 (show j<3 by omega);obtain⟨q1,q2⟩:=MO h8.1 hx hy;have q3:=h8.2 x y hx hy;have hset:=zZ v x y (at2 v x y+w);simp[go_sem,hp];refine ai ?_;refine wdt good 13 ?_;simp[go_sem,q1,q2,hset];iterate 2 refine ai ?_
     refine nx (j+1,set2 v x y (at2 v x y+w)) ⟨(by omega),(tH (agW h8 hx hy (by omega)) (by omega))⟩
    ·simp at b2;obtain rfl:j=3:=by omega
     simp[go_sem];iterate 2 refine ai ?_
     refine nx (i+1,v,o++[⟨t.a,t.b,t.c,w⟩]) ⟨(by omega),(tH h8 (by omega)),(by simp;omega),(by intro z hz;rcases List.mem_append.1 hz with h|h;exact h4 z h;obtain rfl:=List.mem_singleton.1 h;exact⟨htw,by show 1<=w;omega,by show w<=1000;omega⟩)⟩
 ·simp at a;simp[go_sem];exact⟨o,rfl,by omega,h4⟩
theorem O6 (m:List (List Int))(l:List Tri)(hm:aI m=true)(hl:l.length<=512)(hT:∀t∈l,AV m.length t/\1<=t.w/\t.w<=1000):bR prog 281 [aL m,xM l] (fun r=>∃b:Bool,r= .val (dB b)):=by
 refine fE good [] func281 ntmps281 fun w0 ow0=> ?_;have hn8:=aP hm;have hz:List.replicate m.length (aD (List.replicate m.length 0))=(zeros m.length).map aD:=by simp[zeros]
 simp[go_sem];refine ck (bV m (by omega) (nM hm)) ?_;simp[go_sem,hm];refine gw (fun a0=> ?_) (fun a0=> ?_)
 ·simp[go_sem]
 ·simp at a0;simp[go_sem];refine ck (kX m.length (by omega)) ?_;simp[go_sem,hz];refine wl good (fun(x':(Nat)×(List (List Int)))=>match x' with|(i,u)=>[(0,.val (aL m)),(5,.own (eB u)),(21,.val (xM l)),(22,.val (dI l.length)),(23,.val (dI i))]) (fun(x':(Nat)×(List (List Int)))=>match x' with|(i,u)=>l.length-i) (fun(x':(Nat)×(List (List Int)))=>match x' with|(i,u)=>(i<=l.length)/\(DJ m u (3000*i))) ((0,zeros m.length)) ⟨(by omega),(⟨jD _,fun x y _ _=>by rw[AP];omega⟩)⟩ ?_ (h0:=by simp[go_sem,hm,hz]);rintro⟨i,u⟩ ⟨h1,h2⟩;simp[go_sem];refine gw (fun a=> ?_) (fun a=> ?_)
  ·obtain⟨t,ht⟩:=aC (l:=l) (i:=i) (by omega);have hto:=hT t (List.mem_of_getElem? ht);simp[go_sem,ht];refine bP (anU t m.length (by omega)) (by simp[go_sem]) ?_;rintro r ⟨b1,rfl⟩;refine⟨by simp[go_sem],?_⟩;simp[go_sem];refine gv (fun e=> ?_) (fun e=> ?_)
   ·have e':=e;simp at e';simp[go_sem,e]
   ·have e':=e;simp at e';simp[go_sem,e];refine bP (YS t m hm hto.1) (by simp[go_sem]) ?_;rintro r ⟨b2,rfl⟩;refine⟨by simp[go_sem],?_⟩;simp[go_sem];refine gv (fun f=> ?_) (fun f=> ?_)
    ·have f':=f;simp at f';simp[go_sem,f]
    ·have f':=f;simp at f';simp[go_sem,f];refine ck (aG t.w 1 1000) ?_;simp[go_sem];refine gw (fun g=> ?_) (fun g=> ?_)
     ·simp at g;simp[go_sem]
     ·simp at g;simp[go_sem];refine ck (vQ t) ?_;simp[go_sem];refine wl good (fun(x':(Nat)×(List (List Int)))=>match x' with|(j,v)=>[(0,.val (aL m)),(5,.own (eB v)),(7,.own (.bx true (af9 t))),(21,.val (xM l)),(22,.val (dI l.length)),(23,.val (dI i)),(45,.val (aeR t)),(46,.val (dI j))]) (fun(x':(Nat)×(List (List Int)))=>match x' with|(j,v)=>3-j) (fun(x':(Nat)×(List (List Int)))=>match x' with|(j,v)=>(j<=3)/\(DJ m v (3000*i+1000*j))) ((0,u)) ⟨(by omega),(tH h2 (by omega))⟩ ?_;rintro⟨j,v⟩ ⟨h7,h8⟩;simp[go_sem];refine gw (fun c=> ?_) (fun c=> ?_)
      ·obtain⟨x,y,hx,hy,hp⟩:=VG hto.1 (show j<3 by omega);obtain⟨q1,q2⟩:=MO h8.1 hx hy;obtain⟨r,hr,hv⟩:=eP hm hx hy;have q3:=h8.2 x y hx hy;have hset:=zZ v x y (at2 v x y+t.w);have h9:=agW h8 hx hy (w:=t.w) (by omega);obtain⟨p1,p2⟩:=MO h9.1 hx hy;have b3:=cB hm x y;simp[go_sem,hp];refine ai ?_;refine wdt good 13 ?_;simp[go_sem,q1,q2,hset];refine ai ?_;refine wdr good ?_;simp[go_sem,p1,p2,hr,hv];refine cd (kU (at2 m x y) (by omega)) ?_;simp[go_sem];refine gw (fun d=> ?_) (fun d=> ?_)
       ·simp[go_sem]
       ·simp at d;simp[go_sem];refine ai ?_;refine nx (j+1,set2 v x y (at2 v x y+t.w)) ⟨(by omega),(tH h9 (by omega))⟩
      ·simp at c;obtain rfl:j=3:=by omega
       simp[go_sem];refine ai ?_;refine nx (i+1,v) ⟨(by omega),(tH h8 (by omega))⟩
  ·simp at a;simp[go_sem]
theorem IB (m:List (List Int))(l:List Tri)(hm:aI m=true)(hl:l.length<=512)(hT:∀t∈l,AV m.length t/\1<=t.w/\t.w<=1000):bR prog 224 [aL m,xM l] (fun r=>∃k:Int,r= .val (dI k)/\ -1<=k/\k<=512000):=by
 refine fE good [] func224 ntmps224 fun w0 ow0=> ?_;simp[go_sem];refine bP (O6 m l hm hl hT) (by simp[go_sem]) ?_;rintro r ⟨b1,rfl⟩;refine⟨by simp[go_sem],?_⟩;simp[go_sem];refine gw (fun a0=> ?_) (fun a0=> ?_)
 ·simp at a0;simp[go_sem]
 ·simp at a0;simp[go_sem];refine wl good (fun(x':(Nat)×(Int))=>match x' with|(i,s)=>[(5,.val (dI s)),(12,.val (xM l)),(13,.val (dI l.length)),(14,.val (dI i))]) (fun(x':(Nat)×(Int))=>match x' with|(i,s)=>l.length-i) (fun(x':(Nat)×(Int))=>match x' with|(i,s)=>(i<=l.length)/\(0<=s/\s<=1000*i)) ((0,0)) ⟨(by omega),(by omega)⟩ ?_;rintro⟨i,s⟩ ⟨h1,h2⟩;simp[go_sem];refine gw (fun a=> ?_) (fun a=> ?_)
  ·obtain⟨t,ht⟩:=aC (l:=l) (i:=i) (by omega);have hto:=hT t (List.mem_of_getElem? ht);simp[go_sem,ht];iterate 2 refine ai ?_
   refine nx (i+1,s+t.w) ⟨(by omega),(by omega)⟩
  ·simp at a;simp[go_sem];refine ai ?_;omega
theorem mK (m:List (List Int))(p:List Int)(l:List Tri)(hm:aI m=true)(hp:p.length<=1048576)(hl:l.length<=512)(hT:∀t∈l,AV m.length t/\1<=t.w/\t.w<=1000):bR prog 164 [aL m,nInts p,xM l] (fun r=>∃k:Int,r= .val (dI k)):=by
 refine fE good [] func164 ntmps164 fun w0 ow0=> ?_;have hpc:=rM m p;simp[go_sem];refine ck (rW m p hm hp) ?_;simp[go_sem];refine bP (IB m l hm hl hT) (by simp[go_sem]) ?_;rintro r ⟨k,rfl,hk1,hk2⟩;refine⟨by simp[go_sem],?_⟩;simp[go_sem];refine gv (fun e=> ?_) (fun e=> ?_)
 ·have e':=e;simp[go_sem,e]
 ·have e':=e;simp at e';simp[go_sem,e];refine gw (fun f=> ?_) (fun f=> ?_)
  ·simp[go_sem]
  ·simp at f;simp[go_sem];simp only[inI];omega
structure aAF (a b c d e:Nat):Prop where
 ab:¬a=b
 ac:¬a=c
 ad:¬a=d
 ae:¬a=e
 bc:¬b=c
 bd:¬b=d
 be:¬b=e
 cd:¬c=d
 ce:¬c=e
 de:¬d=e
theorem arJ (m:List (List Int))(cs:List Con)(l:List Int)(s:S20)(k:Int)(bc bm bl bf bn:Nat)(hA:aAF bc bm bl bf bn)(hm:aI m=true)(hl:l.length=m.length)(hc:cs.length<=1048576):FnW prog 274 [aD l] [(bc,some (bG cs)),(bm,some (aL m)),(bl,none),(bf,none),(bn,none)] [(bc,bG cs),(bm,aL m)] [(bl,dI s.cost),(bf,aD s.best),(bn,dI k)] (fun r ds'=>r= .tup []/\∃k',ds'=[dI (fV m cs l s).cost,aD (fV m cs l s).best,dI k']):=by
 refine fW good [10] func274 ntmps274 fun w0 ow0=> ?_;obtain⟨a1,a2,a3,a4,a5,a6,a7,a8,a9,a10⟩:=hA;have c1:=Ne.symm a1;have c2:=Ne.symm a2;have c3:=Ne.symm a3;have c4:=Ne.symm a4;have c5:=Ne.symm a5;have c6:=Ne.symm a6;have c7:=Ne.symm a7;have c8:=Ne.symm a8;have c9:=Ne.symm a9;have c0:=Ne.symm a10;have hn8:=aP hm;simp[go_sem];refine ck (tX l cs) ?_;simp[go_sem];refine gw (fun e=> ?_) (fun e=> ?_)
 ·simp at e;have hb:fV m cs l s=s:=if_neg (by simpa using e);simp[go_sem,c8,c9,c0,hb]
 ·simp at e;have hk:gN cs l=true:=by simpa using e
  have hbs:fV m cs l s=if s.cost<0\/aQ m l<s.cost then⟨l,aQ m l,1⟩else if aQ m l=s.cost then⟨s.best,s.cost,s.count+1⟩else s:=if_pos hk
  simp[go_sem];refine ck (dY m l hm hl) ?_;simp[go_sem];refine gv (fun f=> ?_) (fun f=> ?_)
  ·have f':=f;have hb:fV m cs l s=⟨l,aQ m l,1⟩:=by rw[hbs,if_pos (.inl f)]
   simp[go_sem,f];refine ck (iK l ⟨by omega,by omega⟩) ?_;simp[go_sem,a8,a9,a10,c8,c9,c0,hb]
  ·have f':=f;simp at f';simp[go_sem,f];refine gw (fun g=> ?_) (fun g=> ?_)
   ·have hb:fV m cs l s=⟨l,aQ m l,1⟩:=by rw[hbs,if_pos (.inr g)]
    simp[go_sem];refine ck (iK l ⟨by omega,by omega⟩) ?_;simp[go_sem,a8,a9,a10,c8,c9,c0,hb]
   ·simp at g;simp[go_sem];refine gw (fun h=> ?_) (fun h=> ?_)
    ·have hb:fV m cs l s=⟨s.best,s.cost,s.count+1⟩:=by rw[hbs,if_neg (by omega),if_pos h]
     simp[go_sem];refine wrw good [1] ?_;simp[go_sem,a9,a10,c8,c9,c0,hb]
    ·have hb:fV m cs l s=s:=by rw[hbs,if_neg (by omega),if_neg h]
     simp[go_sem,c8,c9,c0,hb]
abbrev UA (bc bm bl bf bk:Nat):D:= .one (.func (.func 274) #[] #[QB bc,QB bm,QB bl,QB bf,QB bk])
abbrev ad3 (bn bY bL bF:Nat):D:= .one (.func (.func 316) #[] #[QB bn,QB bY,QB bL,QB bF])
theorem xR {a:Nat}{l:List Nat}(h:∀b∈l,¬a=b)(hl:gY l):gY (a::l):=⟨fun b hb=>⟨h b hb,fun e=>h b hb e.symm⟩,hl⟩
def ae7 (m:List (List Int))(cs:List Con)(bn bY bL bF bc bm bl bf bk d:Nat):Prop:=∀(i nt:Nat) (I N:Int) (l:List Int) (s:S20) (k:Int),I=i->N=nt->i+d=m.length->nt<=i->l.length=m.length->
 FnW prog 316 [dI I,dI N] [(bn,some (dI m.length)),(bY,some (UA bc bm bl bf bk)),(bL,none),(bF,some (ad3 bn bY bL bF))] [(bn,dI m.length),(bY,UA bc bm bl bf bk),(bF,ad3 bn bY bL bF),(bc,bG cs),(bm,aL m)] [(bL,aD l),(bl,dI s.cost),(bf,aD s.best),(bk,dI k)]
  (fun r ds'=>r= .tup []/\∃l' k',(l'.length=m.length/\l'.take i=l.take i)/\ds'=[aD l',dI (jL (fV m cs) d (l.take i) nt s).cost,aD (jL (fV m cs) d (l.take i) nt s).best,dI k'])
theorem aqP (m:List (List Int))(cs:List Con)(bn bY bL bF bc bm bl bf bk:Nat)(hA:gY [bF,bL,bY,bn,bc,bm,bl,bf,bk])(hm:aI m=true)(hc:cs.length<=1048576)(N:Int)(l:List Int)(s:S20)(k:Int)(hl:l.length=m.length):FnW prog 316 [dI (m.length:Int),dI N] [(bn,some (dI m.length)),(bY,some (UA bc bm bl bf bk)),(bL,none),(bF,some (ad3 bn bY bL bF))] [(bn,dI m.length),(bY,UA bc bm bl bf bk),(bF,ad3 bn bY bL bF),(bc,bG cs),(bm,aL m)] [(bL,aD l),(bl,dI s.cost),(bf,aD s.best),(bk,dI k)] (fun r ds'=>r= .tup []/\∃k',ds'=[aD l,dI (fV m cs l s).cost,aD (fV m cs l s).best,dI k']):=by
 refine fW good [] func316 ntmps316 fun w0 ow0=> ?_;have hA2:=hA;simp[gY]at hA2;simp[go_sem];refine M4 (arJ m cs l s k bc bm bl bf bk ⟨by omega,by omega,by omega,by omega,by omega,by omega,by omega,by omega,by omega,by omega⟩ hm hl hc) rfl ?_;simp[go_sem,hA2];refine O4 ?_;rintro _ _ ⟨rfl,k',rfl⟩;simp[go_sem,hA2]
theorem amO {l l0:List Int}{i:Nat}{x:Int}(h:l.take i=l0.take i)(hi:i<l.length):(l.set i x).take (i+1)=l0.take i++[x]:=by
 have h1:(l.set i x)[i]?=some x:=by simp[hi]
 rw[aW h1,List.take_set_of_le (Nat.le_refl _),h]
def P7 (m:List (List Int))(cs:List Con)(d:Nat)(l:List Int)(nt:Nat)(x:Nat)(s:S20):S20:=jL (fV m cs) d (l++[(x:Int)]) (max nt (x+1)) s
theorem arB (m:List (List Int))(cs:List Con)(bn bY bL bF bc bm bl bf bk d:Nat)(hA:gY [bF,bL,bY,bn,bc,bm,bl,bf,bk])(hm:aI m=true)(IH:ae7 m cs bn bY bL bF bc bm bl bf bk d)(i nt:Nat)(l:List Int)(s:S20)(k:Int)(hi:i+d+1=m.length)(hnt:nt<=i)(hl:l.length=m.length):FnW prog 316 [dI (i:Int),dI (nt:Int)] [(bn,some (dI m.length)),(bY,some (UA bc bm bl bf bk)),(bL,none),(bF,some (ad3 bn bY bL bF))] [(bn,dI m.length),(bY,UA bc bm bl bf bk),(bF,ad3 bn bY bL bF),(bc,bG cs),(bm,aL m)] [(bL,aD l),(bl,dI s.cost),(bf,aD s.best),(bk,dI k)] (fun r ds'=>r= .tup []/\∃l' k',(l'.length=m.length/\l'.take i=l.take i)/\ds'=[aD l',dI (jL (fV m cs) (d+1) (l.take i) nt s).cost,aD (jL (fV m cs) (d+1) (l.take i) nt s).best,dI k']):=by
 refine fW good [] func316 ntmps316 fun w0 ow0=> ?_;have hA2:=hA;simp[gY]at hA2;have hn8:=aP hm;have hin:¬(i:Int)=(m.length:Int):=by omega
 simp[go_sem,hin];refine wl good (fun(x':(Nat)×(List Int)×(S20)×(Int))=>match x' with|(x,q,t,j)=>[(0,.val (dI i)),(1,.val (dI nt)),(2,.rp (dI m.length)),(3,.rp (UA bc bm bl bf bk)),(4,.rf (1000000+2*bL) [0]),(5,.rp (ad3 bn bY bL bF)),(8,.val (dI x)),(1000000+2*bn,.rp (dI m.length)),(1000000+2*bY,.rp (UA bc bm bl bf bk)),(1000000+2*bF,.rp (ad3 bn bY bL bF)),(1000000+2*bc,.rp (bG cs)),(1000000+2*bm,.rp (aL m)),(1000000+2*bL,.own (.bx true (aD q))),(1000000+2*bl,.own (.bx true (dI t.cost))),(1000000+2*bf,.own (.bx true (aD t.best))),(1000000+2*bk,.own (.bx true (dI j)))]) (fun(x':(Nat)×(List Int)×(S20)×(Int))=>match x' with|(x,q,t,j)=>nt+1-x) (fun(x':(Nat)×(List Int)×(S20)×(Int))=>match x' with|(x,q,t,j)=>(x<=nt+1)/\(t=loopN x s (P7 m cs d (l.take i) nt))/\(q.length=m.length)/\(q.take i=l.take i)) ((0,l,s,k)) ⟨(by omega),(rfl),(hl),(rfl)⟩ ?_ (h0:=by simp[go_sem,hA2,hin]);rintro⟨x,q,t,j⟩ ⟨h1,h2,h3,h4⟩;simp[go_sem];refine gw (fun a=> ?_) (fun a=> ?_)
 ·have hs:=aA x s (P7 m cs d (l.take i) nt);rw[←h2]at hs;have hgi:=aF (l:=q) (i:=i) (by omega);have hts:=amO (x:=(x:Int)) h4 (by omega);have hst:jL (fV m cs) d (l.take i++[(x:Int)]) (max nt (x+1)) t=P7 m cs d (l.take i) nt x t:=rfl;simp[go_sem,hA2,hgi];iterate 2 refine ai ?_
  refine M4 (IH (i+1) (max nt (x+1)) _ _ (q.set i (x:Int)) t j (by omega) (by omega) (by omega) (by omega) (by simp;omega)) rfl ?_;simp[go_sem,hA2];refine O4 ?_;rintro _ _ ⟨rfl,q2,j2,⟨e1,e2⟩,rfl⟩;rw[hts]at e2;have e3:q2.take i=l.take i:=by have:=congrArg (List.take i) e2;rw[List.take_left' (by simp;omega),List.take_take,Nat.min_eq_left (by omega)]at this;exact this
  simp[go_sem,hts,hst];refine ai ?_;refine nx (x+1,q2,P7 m cs d (l.take i) nt x t,j2) ⟨(by omega),(hs.symm),(e1),(e3)⟩ (h3:=by simp[go_sem,hA2,hin,hgi,hts,hst])
 ·simp at a;obtain rfl:x=nt+1:=by omega
  have hfin:jL (fV m cs) (d+1) (l.take i) nt s=t:=h2.symm;simp[go_sem,hA2,hfin];exact⟨q,⟨h3,h4⟩,rfl⟩
theorem alD {m:List (List Int)}{cs:List Con}{bn bY bL bF bc bm bl bf bk:Nat}(hA:gY [bF,bL,bY,bn,bc,bm,bl,bf,bk])(hm:aI m=true)(hc:cs.length<=1048576):∀d,ae7 m cs bn bY bL bF bc bm bl bf bk d
 |0=>fun i nt I N l s k hI hN hi hnt hl=>by
  obtain rfl:i=m.length:=by omega
  subst hI;refine(aqP m cs bn bY bL bF bc bm bl bf bk hA hm hc N l s k hl).mono ?_;rintro r ds' ⟨h1,k',h2⟩;have ht:l.take m.length=l:=by rw[←hl,List.take_length]
  exact⟨h1,l,k',⟨hl,rfl⟩,by rw[h2,ht];rfl⟩
 |d+1=>fun i nt I N l s k hI hN hi hnt hl=>by
  subst hI;subst hN;exact arB m cs bn bY bL bF bc bm bl bf bk d hA hm (alD hA hm hc d) i nt l s k (by omega) hnt hl
theorem av9 (m:List (List Int))(cs:List Con)(s:S20)(k:Int)(bc bm bl bf bk:Nat)(hA:gY [bc,bm,bl,bf,bk])(hm:aI m=true)(hc:cs.length<=1048576):FnW prog 273 [dI (m.length:Int),UA bc bm bl bf bk] [] [(bc,bG cs),(bm,aL m)] [(bl,dI s.cost),(bf,aD s.best),(bk,dI k)] (fun r ds'=>r= .tup []/\∃k',ds'=[dI (jL (fV m cs) m.length [] 0 s).cost,aD (jL (fV m cs) m.length [] 0 s).best,dI k']):=by
 refine fW good [] func273 ntmps273 fun w0 ow0=> ?_;have hA2:=hA;simp[gY]at hA2;have hn8:=aP hm;simp[go_sem];refine ai ?_;refine aj7 (jG (dI m.length) (by simp[go_sem]) fun bn x1=> ?_);have n1:=jA.nr x1 (b':=bc) (d:=bG cs) (by simp[go_sem,hA2]);have n2:=jA.nr x1 (b':=bm) (d:=aL m) (by simp[go_sem,hA2]);have n3:=jA.ne x1 (b':=bl) (o:=true) (d:=dI s.cost) (by simp[go_sem]);have n4:=jA.ne x1 (b':=bf) (o:=true) (d:=aD s.best) (by simp[go_sem,hA2]);have n5:=jA.ne x1 (b':=bk) (o:=true) (d:=dI k) (by simp[go_sem,hA2]);have hB1:gY [bn,bc,bm,bl,bf,bk]:=xR (by simp[n1,n2,n3,n4,n5]) hA;have hB1':=hB1;simp[gY]at hB1';refine jG (UA bc bm bl bf bk) (by simp[go_sem]) fun bY x2=> ?_;have m0:=jA.ne x2 (b':=bn) (o:=true) (d:=dI m.length) (by simp[go_sem]);have m1:=jA.nr x2 (b':=bc) (d:=bG cs) (by simp[go_sem,hB1']);have m2:=jA.nr x2 (b':=bm) (d:=aL m) (by simp[go_sem,hB1']);have m3:=jA.ne x2 (b':=bl) (o:=true) (d:=dI s.cost) (by simp[go_sem,hB1']);have m4:=jA.ne x2 (b':=bf) (o:=true) (d:=aD s.best) (by simp[go_sem,hB1']);have m5:=jA.ne x2 (b':=bk) (o:=true) (d:=dI k) (by simp[go_sem,hB1']);have hB2:gY [bY,bn,bc,bm,bl,bf,bk]:=xR (by simp[m0,m1,m2,m3,m4,m5]) hB1;have hB2':=hB2;simp[gY]at hB2';refine jG (aD (List.replicate m.length 0)) (by simp[go_sem]) fun bL x3=> ?_;have p0:=jA.ne x3 (b':=bn) (o:=true) (d:=dI m.length) (by simp[go_sem,hB2']);have p9:=jA.ne x3 (b':=bY) (o:=true) (d:=UA bc bm bl bf bk) (by simp[go_sem]);have p1:=jA.nr x3 (b':=bc) (d:=bG cs) (by simp[go_sem,hB2']);have p2:=jA.nr x3 (b':=bm) (d:=aL m) (by simp[go_sem,hB2']);have p3:=jA.ne x3 (b':=bl) (o:=true) (d:=dI s.cost) (by simp[go_sem,hB2']);have p4:=jA.ne x3 (b':=bf) (o:=true) (d:=aD s.best) (by simp[go_sem,hB2']);have p5:=jA.ne x3 (b':=bk) (o:=true) (d:=dI k) (by simp[go_sem,hB2']);have hB3:gY [bL,bY,bn,bc,bm,bl,bf,bk]:=xR (by simp[p0,p1,p2,p3,p4,p5,p9]) hB2;have hB3':=hB3;simp[gY]at hB3';refine jG (.one .nilFunc) (by simp[go_sem]) fun bF x4=> ?_;have q0:=jA.ne x4 (b':=bn) (o:=true) (d:=dI m.length) (by simp[go_sem,hB3']);have q9:=jA.ne x4 (b':=bY) (o:=true) (d:=UA bc bm bl bf bk) (by simp[go_sem,hB3']);have q8:=jA.ne x4 (b':=bL) (o:=true) (d:=aD (List.replicate m.length 0)) (by simp[go_sem]);have q1:=jA.nr x4 (b':=bc) (d:=bG cs) (by simp[go_sem,hB3']);have q2:=jA.nr x4 (b':=bm) (d:=aL m) (by simp[go_sem,hB3']);have q3:=jA.ne x4 (b':=bl) (o:=true) (d:=dI s.cost) (by simp[go_sem,hB3']);have q4:=jA.ne x4 (b':=bf) (o:=true) (d:=aD s.best) (by simp[go_sem,hB3']);have q5:=jA.ne x4 (b':=bk) (o:=true) (d:=dI k) (by simp[go_sem,hB3']);have hB4:gY [bF,bL,bY,bn,bc,bm,bl,bf,bk]:=xR (by simp[q0,q1,q2,q3,q4,q5,q8,q9]) hB3;have hB4':=hB4;simp[gY]at hB4';refine P9 ?_;clear x1 x2 x3 x4 hA2 hB1' hB2' hB3';simp[go_sem];refine M4 (alD hB4 hm hc m.length 0 0 0 0 (List.replicate m.length 0) s k rfl rfl (by omega) (by omega) (by simp)) rfl ?_;simp[go_sem,hB4'];refine O4 ?_;rintro _ _ ⟨rfl,l2,k2,⟨e1,e2⟩,rfl⟩;simp[go_sem,hB4']
theorem ab1 (m:List (List Int))(cs:List Con)(hm:aI m=true)(hc:cs.length<=1048576):bR prog 218 [aL m,bG cs] (fun r=>∃k:Int,r= .tup [.val (nInts (oO m cs).best),.val (dI (oO m cs).cost),.val (dI k)]):=by
 refine fE good [] func218 ntmps218 fun w0 ow0=> ?_;have hn8:=aP hm;simp[go_sem];refine aj7 (jG (bG cs) (by simp[go_sem]) fun bc x1=> ?_);refine jG (aL m) (by simp[go_sem]) fun bm x2=> ?_;have m0:=jA.ne x2 (b':=bc) (o:=true) (d:=bG cs) (by simp[go_sem]);have hB2:gY [bm,bc]:=xR (by simp[m0]) ⟨by simp,trivial⟩;have hB2':=hB2;simp[gY]at hB2';refine jG (dI (-1)) (by simp[go_sem]) fun bl x3=> ?_;have p0:=jA.ne x3 (b':=bc) (o:=true) (d:=bG cs) (by simp[go_sem,hB2']);have p1:=jA.ne x3 (b':=bm) (o:=true) (d:=aL m) (by simp[go_sem]);have hB3:gY [bl,bm,bc]:=xR (by simp[p0,p1]) hB2;have hB3':=hB3;simp[gY]at hB3';refine jG (aD []) (by simp[go_sem]) fun bf x4=> ?_;have q0:=jA.ne x4 (b':=bc) (o:=true) (d:=bG cs) (by simp[go_sem,hB3']);have q1:=jA.ne x4 (b':=bm) (o:=true) (d:=aL m) (by simp[go_sem,hB3']);have q2:=jA.ne x4 (b':=bl) (o:=true) (d:=dI (-1)) (by simp[go_sem]);have hB4:gY [bf,bl,bm,bc]:=xR (by simp[q0,q1,q2]) hB3;have hB4':=hB4;simp[gY]at hB4';refine jG (dI 0) (by simp[go_sem]) fun bk x5=> ?_;have r0:=jA.ne x5 (b':=bc) (o:=true) (d:=bG cs) (by simp[go_sem,hB4']);have r1:=jA.ne x5 (b':=bm) (o:=true) (d:=aL m) (by simp[go_sem,hB4']);have r2:=jA.ne x5 (b':=bl) (o:=true) (d:=dI (-1)) (by simp[go_sem,hB4']);have r3:=jA.ne x5 (b':=bf) (o:=true) (d:=aD []) (by simp[go_sem]);have hB5:gY [bc,bm,bl,bf,bk]:=xR (by simp[hB4',r0.symm]) (xR (by simp[hB4',r1.symm]) (xR (by simp[hB4',r2.symm]) (xR (by simp[r3.symm]) ⟨by simp,trivial⟩)));have hB5':=hB5;simp[gY]at hB5';refine P9 ?_;clear x1 x2 x3 x4 x5 hB2' hB3' hB4';simp[go_sem];refine M4 (av9 m cs ⟨[], -1,0⟩ 0 bc bm bl bf bk hB5 hm hc) rfl ?_;simp[go_sem,hB5'];refine O4 ?_;rintro _ _ ⟨rfl,k2,rfl⟩;have hbe:jL (fV m cs) m.length [] 0 ⟨[], -1,0⟩=oO m cs:=rfl;simp[go_sem,hbe];refine eD good [] (agV (d:=aD (oO m cs).best) 7 (1000000+2*bf) (by simp[go_sem,hB5',hbe]) (by simp[go_sem,hB5',hbe]) (by decide)) ?_;simp[go_sem,hB5'];refine wdr good ?_;simp[go_sem,hB5']
theorem sU (n:Nat)(hn:n<=8:=by first|assumption|omega|(simp;omega)|grind):Fk 130 [dI n] (.own (LU (noLinks n))):=by
 refine fE good [] func130 ntmps130 fun w0 ow0=> ?_;simp[go_sem];refine wl good (fun(i:Nat)=>[(0,.val (dI n)),(3,.own (LU (List.replicate i (List.replicate n false)))),(4,.val (dI i))]) (fun(i:Nat)=>n-i) (fun(i:Nat)=>(i<=n)) (0) (by omega) ?_;rintro i h1;simp[go_sem];refine gw (fun a=> ?_) (fun a=> ?_)
 ·have hx:=List.replicate_succ' (n:=i) (a:=List.replicate n false);simp[go_sem];iterate 3 refine ai ?_
  refine nx (i+1) (by first|omega|(simp;omega)|grind) (h3:=by simp[go_sem,hx])
 ·simp at a;obtain rfl:n=i:=by omega
  simp[go_sem];all_goals(simp[noLinks];done)
theorem qY (n:Nat)(M:List (List Bool))(hn:n<=8:=by first|assumption|omega|(simp;omega)|grind)(hM:sqB n M:=by first|assumption|omega|(simp;omega)|grind):Fk 131 [dI n,Q6 M] (.own (aD (aeS n M).1)):=by
 refine fE good [] func131 ntmps131 fun w0 ow0=> ?_;simp[go_sem];refine wl good (fun(i:Nat)=>[(0,.val (dI n)),(1,.val (Q6 M)),(5,.own (aD (List.replicate i (-1)))),(6,.val (dI i))]) (fun(i:Nat)=>n-i) (fun(i:Nat)=>(i<=n)) (0) (by omega) ?_;rintro i h1;simp[go_sem];refine gw (fun a=> ?_) (fun a=> ?_)
 ·have hx:=List.replicate_succ' (n:=i) (a:=(-1:Int));simp[go_sem];iterate 2 refine ai ?_
  refine nx (i+1) (by first|omega|(simp;omega)|grind) (h3:=by simp[go_sem,hx])
 ·simp at a;obtain rfl:n=i:=by omega
  simp[go_sem];refine wl good (fun(x':(Nat)×(List Int×Int))=>match x' with|(i,s)=>[(0,.val (dI n)),(1,.val (Q6 M)),(5,.own (aD s.1)),(7,.val (dI s.2)),(8,.val (dI i))]) (fun(x':(Nat)×(List Int×Int))=>match x' with|(i,s)=>n-i) (fun(x':(Nat)×(List Int×Int))=>match x' with|(i,s)=>(i<=n)/\(s=loopN i ((List.replicate n (-1),0)) (yJ n M))/\(s.1.length=n/\0<=s.2/\s.2<=i)) ((0,(List.replicate n (-1),0))) ⟨(by omega),rfl,(by simp)⟩ ?_;rintro⟨i,s⟩ ⟨h1,h2,h3⟩;simp[go_sem];refine gw (fun a=> ?_) (fun a=> ?_)
  ·have hs:=aA i ((List.replicate n (-1),0)) (yJ n M);rw[←h2]at hs;have hg:=aF (l:=s.1) (i:=i) (by omega);simp[go_sem,hg];refine gw (fun b=> ?_) (fun b=> ?_)
   ·have hx:yJ n M i s=s:=if_pos b;simp[go_sem];refine ai ?_;refine nx (i+1,s) ⟨(by omega),(by rw[hs,hx]),(by omega)⟩
   ·simp at b;have hx:yJ n M i s=(spread n M s.2 (s.1.set i s.2),s.2+1):=if_neg (by omega);simp[go_sem,hg];refine wl good (fun(x':(Nat)×(List Int))=>match x' with|(a,o)=>[(0,.val (dI n)),(1,.val (Q6 M)),(5,.own (aD o)),(7,.val (dI s.2)),(8,.val (dI i)),(9,.val (dI a))]) (fun(x':(Nat)×(List Int))=>match x' with|(a,o)=>n-a) (fun(x':(Nat)×(List Int))=>match x' with|(a,o)=>(a<=n)/\(o=loopN a (s.1.set i s.2) (spS n M s.2))/\(o.length=n)) ((0,s.1.set i s.2)) ⟨(by omega),rfl,(by simp;omega)⟩ ?_;rintro⟨a,o⟩ ⟨h1a,h2a,h3a⟩;simp[go_sem];refine gw (fun aa=> ?_) (fun aa=> ?_)
    ·have hsa:=aA a (s.1.set i s.2) (spS n M s.2);rw[←h2a]at hsa;simp[go_sem];refine wl good (fun(x':(Nat)×(List Int))=>match x' with|(b,p)=>[(0,.val (dI n)),(1,.val (Q6 M)),(5,.own (aD p)),(7,.val (dI s.2)),(8,.val (dI i)),(9,.val (dI a)),(10,.val (dI b))]) (fun(x':(Nat)×(List Int))=>match x' with|(b,p)=>n-b) (fun(x':(Nat)×(List Int))=>match x' with|(b,p)=>(b<=n)/\(p=loopN b (o) (spA n M s.2))/\(p.length=n)) ((0,o)) ⟨(by omega),rfl,(by omega)⟩ ?_;rintro⟨b,p⟩ ⟨h1b,h2b,h3b⟩;simp[go_sem];refine gw (fun ab=> ?_) (fun ab=> ?_)
     ·have hsb:=aA b (o) (spA n M s.2);rw[←h2b]at hsb;simp[go_sem];refine wl good (fun(x':(Nat)×(List Int))=>match x' with|(c,q)=>[(0,.val (dI n)),(1,.val (Q6 M)),(5,.own (aD q)),(7,.val (dI s.2)),(8,.val (dI i)),(9,.val (dI a)),(10,.val (dI b)),(11,.val (dI c))]) (fun(x':(Nat)×(List Int))=>match x' with|(c,q)=>n-c) (fun(x':(Nat)×(List Int))=>match x' with|(c,q)=>(c<=n)/\(q=loopN c (p) (spB M s.2 b))/\(q.length=n)) ((0,p)) ⟨(by omega),rfl,(by omega)⟩ ?_;rintro⟨c,q⟩ ⟨h1c,h2c,h3c⟩;simp[go_sem];refine gw (fun ac=> ?_) (fun ac=> ?_)
      ·have hsc:=aA c (p) (spB M s.2 b);rw[←h2c]at hsc;have hq:=aF (l:=q) (i:=b) (by omega);obtain⟨r,hr,hrl⟩:=alH hM ab;obtain⟨y,hy⟩:=aC (l:=r) (i:=c) (by omega);have ey:=aqH hr hy;have hqc:=aF (l:=q) (i:=c) (by omega);simp[go_sem,hq];refine gv (fun e=> ?_) (fun e=> ?_)
       ·have e':=e;simp[go_sem,hr,hy,e];refine gw (fun f=> ?_) (fun f=> ?_)
        ·have hz:spB M s.2 b c q=q.set c s.2:=if_pos ⟨by simp_all,by simp_all⟩;simp[go_sem,hqc];refine ai ?_;refine nx (c+1,q.set c s.2) ⟨(by omega),(by rw[hsc,hz]),(by simp[h3c])⟩
        ·have hz:spB M s.2 b c q=q:=if_neg (by simp_all);simp[go_sem];refine ai ?_;refine nx (c+1,q) ⟨(by omega),(by rw[hsc,hz]),(h3c)⟩
       ·have e':=e;have hz:spB M s.2 b c q=q:=if_neg (by simp_all);simp[go_sem,e];refine ai ?_;refine nx (c+1,q) ⟨(by omega),(by rw[hsc,hz]),(h3c)⟩
      ·simp at ac;have hic:n=c:=by omega
       subst hic;simp[go_sem];refine ai ?_;refine nx (b+1,q) ⟨(by omega),(by rw[hsb,spA,h2c]),(h3c)⟩
     ·simp at ab;have hib:n=b:=by omega
      subst hib;simp[go_sem];refine ai ?_;refine nx (a+1,p) ⟨(by omega),(by rw[hsa,spS,h2b]),(h3b)⟩
    ·simp at aa;have hia:n=a:=by omega
     subst hia;simp[go_sem];iterate 2 refine ai ?_
     refine nx (i+1,(o,s.2+1)) ⟨(by omega),(by rw[hs,hx,spread,h2a]),(by simp[h3a];omega)⟩
  ·simp at a;have hi:n=i:=by omega
   subst hi;simp[go_sem];subst h2;rfl
theorem oQ (n:Int)(l:List Con)(hn: -1048576<=n/\n<=1048576:=by first|assumption|omega|(simp;omega)|grind)(hs:l.length<=1048576:=by first|assumption|omega|(simp;omega)|grind):Fk 79 [dI n,bG l] (.own (aD (if aK n l=true then aV n.toNat l else[]))):=by
 refine fE good [] func79 ntmps79 fun w0 ow0=> ?_;simp[go_sem];refine ck (lN _ _) ?_;simp[go_sem];refine gw (fun e=> ?_) (fun e=> ?_)
 ·simp at e;simp[go_sem];simp[e]
 ·simp at e;obtain⟨h1,h2,h3,h4⟩:=fO e;obtain⟨n,rfl⟩:∃k:Nat,n=k:=⟨n.toNat,by omega⟩;simp[go_sem];refine ck (sU n) ?_;simp[go_sem];refine wl good (fun(x':(Nat)×(List (List Bool)))=>match x' with|(i,M)=>[(0,.val (dI n)),(1,.val (bG l)),(5,.own (LU M)),(6,.val (dI i))]) (fun(x':(Nat)×(List (List Bool)))=>match x' with|(i,M)=>(l).length-i) (fun(x':(Nat)×(List (List Bool)))=>match x' with|(i,M)=>(i<=(l).length)/\(M=(l.take i).foldl mustStep (noLinks n))/\(sqB n M)) ((0,(noLinks n))) ⟨(by simp),(rfl),(V4 n)⟩ ?_;rintro⟨i,M⟩ ⟨h1,h2,h3⟩;simp[go_sem];refine gw (fun a=> ?_) (fun a=> ?_)
  ·obtain⟨c,hc⟩:=aC (l:=l) (i:=i) (by omega);have hm:=bC mustStep (noLinks n) hc;rw[←h2]at hm;have hb:=h4 c (List.mem_of_getElem? hc);simp[go_sem,hc];refine gw (fun b=> ?_) (fun b=> ?_)
   ·obtain⟨r,hr,hrl,hrc⟩:=NT (a:=c.a.toNat) (b:=c.b.toNat) h3 (by omega) (by omega);obtain⟨q,hq,hql,hqc⟩:=NT (a:=c.b.toNat) (b:=c.a.toNat) h3 (by omega) (by omega);have hne:c.a.toNat≠c.b.toNat:=by omega
    have hne2:¬c.b.toNat=c.a.toNat:=by omega
    have hz1:=MV (k:=c.b.toNat) (v:=true) hr;have hz2:=MV (M:=M.set c.a.toNat (r.set c.b.toNat true)) (i:=c.b.toNat) (k:=c.a.toNat) (v:=true) (r:=q) (by simp[hne,hq]);simp[go_sem];refine wdt good 14 ?_;simp[go_sem,hc,hr,hrc];iterate 2 refine ai ?_
    refine wdt good 14 ?_;simp[go_sem,hc,hq,hqc,hne];iterate 3 refine ai ?_
    refine nx (i+1,(M.set c.a.toNat (r.set c.b.toNat true)).set c.b.toNat (q.set c.a.toNat true)) ⟨(by omega),(by rw[hm,mustStep,if_pos b,hz1,hz2]),(by rw[←hz2,←hz1];exact sqB_set (sqB_set h3))⟩
   ·simp[go_sem];refine ai ?_;refine nx (i+1,M) ⟨(by omega),(by rw[hm,mustStep,if_neg (by simp[b])]),(h3)⟩
  ·simp at a;rw[aO a]at h2;subst h2;simp[go_sem];refine ck (qY n _) ?_;simp[go_sem];simp[e,aV,gM]
theorem wR (m:List (List Int))(hs:m.length<=1048576:=by first|assumption|omega|(simp;omega)|grind):Fk 126 [aL m] (.own (aD (if aI m=true then iR m else[]))):=by
 refine fE good [] func126 ntmps126 fun w0 ow0=> ?_;simp[go_sem];refine ck (aY _) ?_;simp[go_sem];refine gw (fun e=> ?_) (fun e=> ?_)
 ·simp at e;simp[go_sem];simp[e]
 ·simp at e;have hml:=aP e;simp[go_sem];refine ck (sU m.length) ?_;simp[go_sem];refine wl good (fun(x':(Nat)×(List (List Bool)))=>match x' with|(i,M)=>[(0,.val (aL m)),(3,.own (LU M)),(4,.val (dI i))]) (fun(x':(Nat)×(List (List Bool)))=>match x' with|(i,M)=>m.length-i) (fun(x':(Nat)×(List (List Bool)))=>match x' with|(i,M)=>(i<=m.length)/\(M=loopN i (noLinks m.length) ((fun i M=>loopN m.length M (posRow m i))))/\(sqB m.length M)) ((0,noLinks m.length)) ⟨(by simp),(rfl),(V4 _)⟩ ?_;rintro⟨i,M⟩ ⟨h1,h2,h3⟩;simp[go_sem];refine gw (fun a=> ?_) (fun a=> ?_)
  ·have hs:=aA i (noLinks m.length) ((fun i M=>loopN m.length M (posRow m i)));rw[←h2]at hs;simp[go_sem];refine wl good (fun(x':(Nat)×(List (List Bool)))=>match x' with|(k,L)=>[(0,.val (aL m)),(3,.own (LU L)),(4,.val (dI i)),(5,.val (dI k))]) (fun(x':(Nat)×(List (List Bool)))=>match x' with|(k,L)=>m.length-k) (fun(x':(Nat)×(List (List Bool)))=>match x' with|(k,L)=>(k<=m.length)/\(L=loopN k (M) (posRow m i))/\(sqB m.length L)) ((0,M)) ⟨(by simp),(rfl),(h3)⟩ ?_;rintro⟨k,L⟩ ⟨h1k,h2k,h3k⟩;simp[go_sem];refine gw (fun ak=> ?_) (fun ak=> ?_)
   ·have hsk:=aA k (M) (posRow m i);rw[←h2k]at hsk;obtain⟨r,hr,hrl,hrc⟩:=NT (a:=i) (b:=k) h3k (by omega) (by omega);obtain⟨q,hq,hqc⟩:=eP e (i:=i) (k:=k) (by omega) (by omega);have hz1:=MV (k:=k) (v:=decide (at2 m i k>0)) hr;have hsq:=sqB_set (i:=i) (k:=k) (v:=decide (at2 m i k>0)) h3k;rw[hz1]at hsq;simp[go_sem];refine wdt good 14 ?_;simp[go_sem,hr,hrc,hq,hqc];refine ai ?_;refine nx (k+1,L.set i (r.set k (decide (at2 m i k>0)))) ⟨(by omega),(by rw[hsk,posRow,hz1]),(hsq)⟩
   ·simp at ak;have hik:m.length=k:=by omega
    subst hik;simp[go_sem];refine ai ?_;refine nx (i+1,L) ⟨(by omega),(by rw[hs];exact h2k),(h3k)⟩
  ·simp at a;have hi:m.length=i:=by omega
   subst hi;simp[go_sem];refine ck (qY m.length _) ?_;simp[go_sem];simp[e,iR,OZ,←h2]
theorem afB {n:Int}{l:List Con}{C:List Int}(hC:(if aK n l=true then aV n.toNat l else[])=C)(b:0<C.length):aK n l=true:=by
 cases h:aK n l with
 |true=>rfl
 |false=>subst hC;simp[h]at b
theorem acV {n:Int}{l:List Con}{C:List Int}(hC:(if aK n l=true then aV n.toNat l else[])=C)(b:¬0<C.length):¬aK n l=true:=by
 intro h;have:=fO h;subst hC;rw[if_pos h,aV,GG]at b;omega
theorem afV {n:Int}{l:List Con}(e:¬aK n l=true):¬aK n.toNat l=true:=by
 intro h;by_cases h0:0<=n
 ·rw[show(n.toNat:Int)=n by omega]at h;exact e h
 ·have:=fO h;omega
theorem ZF {n:Int}{l:List Con}{C:List Int}(hC:(if aK n l=true then aV n.toNat l else[])=C)(e:aK n.toNat l=true):aV n.toNat l=C:=by
 by_cases h0:0<=n
 ·rw[show(n.toNat:Int)=n by omega]at e;rw[if_pos e]at hC;exact hC
 ·have:=fO e;omega
theorem GL (n:Int)(l:List Con)(hn: -1048576<=n/\n<=1048576:=by first|assumption|omega|(simp;omega)|grind)(hs:l.length<=1048576:=by first|assumption|omega|(simp;omega)|grind):Fk 124 [dI n,bG l] (.val (dI (nJ n.toNat l))):=by
 refine fE good [] func124 ntmps124 fun w0 ow0=> ?_;simp[go_sem];refine ck (oQ n l) ?_;generalize hC:(if aK n l=true then aV n.toNat l else[])=C;have hCl:C.length<=8:=by subst hC;split;(next e=>rw[aV,GG];have:=fO e;omega);simp
 simp[go_sem];refine wl good (fun(i:Nat)=>[(0,.val (dI n)),(1,.val (bG l)),(5,.own (aD C)),(6,.val (dI i))]) (fun(i:Nat)=>l.length-i) (fun(i:Nat)=>(i<=l.length)/\((l.take i).any (wY C)=false)) (0) ⟨(by omega),rfl⟩ ?_;rintro i ⟨h1,h2⟩;simp[go_sem];refine gv (fun a=> ?_) (fun a=> ?_)
 ·have a':=a;simp[go_sem,a];refine gw (fun b=> ?_) (fun b=> ?_)
  ·have e:=afB hC b;obtain⟨h3,h4,h5,h6⟩:=fO e;rw[if_pos e]at hC;have hCn:C.length=n.toNat:=by subst hC;exact GG _ _
   obtain⟨c,hc⟩:=aC (l:=l) (i:=i) (by omega);have hb:=h6 c (List.mem_of_getElem? hc);have ha1:=aF (l:=C) (i:=c.a.toNat) (by omega);have hb1:=aF (l:=C) (i:=c.b.toNat) (by omega);simp[go_sem];refine wdr good ?_;simp[go_sem,hc];refine gv (fun f=> ?_) (fun f=> ?_)
   ·have f':=f;simp at f';simp[go_sem,hc,ha1,hb1,f];iterate 2 refine ai ?_
    refine gw (fun g=> ?_) (fun g=> ?_)
    ·have hx:ix (wY C) l=i:=vH hc h2 (by simp[wY,g];simpa using f);simp[go_sem];simp[nJ,show(n.toNat:Int)=n by omega,e,hC,hx]
    ·simp[go_sem];refine ai ?_;refine nx (i+1) ⟨(by omega),(eX hc h2 (by simp[wY,g]))⟩
   ·have f':=f;simp at f';simp[go_sem,f];refine ai ?_;refine nx (i+1) ⟨(by omega),(eX hc h2 (by simp[wY];simp_all))⟩
  ·simp at b;have e:=acV hC (by simp[b]);have e2:=afV e;simp[go_sem];rw[nJ,if_neg e2]
 ·have a':=a;simp at a';have hx:=lX (j5 h2 (by omega));simp[go_sem,a];have h:=fun e=>ZF hC e;unfold nJ;split<;>simp_all
theorem uG (n:Int)(l:List Con)(hn: -1048576<=n/\n<=1048576:=by first|assumption|omega|(simp;omega)|grind)(hs:l.length<=1048576:=by first|assumption|omega|(simp;omega)|grind):Fk 72 [dI n,bG l] (.val (dB (aK n l&&decide (nJ n.toNat l<0)))):=by
 refine fE good [] func72 ntmps72 fun w0 ow0=> ?_;simp[go_sem];refine ck (lN _ _) ?_;simp[go_sem];refine gv (fun e=> ?_) (fun e=> ?_)
 ·have e':=e;simp[go_sem,e];refine ck (GL _ _) ?_;simp[go_sem,e]
 ·have e':=e;simp[go_sem,e]
theorem TT (a b:List Int)(ha:a.length<=1048576:=by first|assumption|omega|(simp;omega)|grind)(hb:b.length<=1048576:=by first|assumption|omega|(simp;omega)|grind):Fk 192 [nInts a,nInts b] (.val (dB (fU a b))):=by
 refine fE good [] func192 ntmps192 fun w0 ow0=> ?_;simp[go_sem];refine ck (fK _) ?_;simp[go_sem];refine gv (fun e=> ?_) (fun e=> ?_)
 ·have e':=e;simp[go_sem,e];refine ck (fK _) ?_;simp[go_sem];refine gv (fun f=> ?_) (fun f=> ?_)
  ·have f':=f;simp[go_sem,f];grind[fU]
  ·have f':=f;simp[go_sem,f];grind[fU]
 ·have e':=e;simp[go_sem,e];grind[fU]
theorem BM (p q:List Int)(ha:p.length<=1048576)(hb:q.length<=1048576):Fk 125 [nInts p,nInts q] (.own (aD (aeJ p q))):=by
 refine fE good [] func125 ntmps125 fun w0 ow0=> ?_;simp[go_sem];refine ck (TT _ _) ?_;simp[go_sem];refine gw (fun e=> ?_) (fun e=> ?_)
 ·simp at e;simp[go_sem];simp[aeJ,e]
 ·simp at e;obtain⟨h1,h2,h3⟩:=M9 e;have h4:=isPart_len h1;simp[go_sem];refine ck (sU p.length) ?_;simp[go_sem];refine wl good (fun(x':(Nat)×(List (List Bool)))=>match x' with|(i,M)=>[(0,.val (nInts p)),(1,.val (nInts q)),(5,.own (LU M)),(6,.val (dI i))]) (fun(x':(Nat)×(List (List Bool)))=>match x' with|(i,M)=>p.length-i) (fun(x':(Nat)×(List (List Bool)))=>match x' with|(i,M)=>(i<=p.length)/\(M=loopN i (noLinks p.length) ((fun i M=>loopN p.length M (vM p q i))))/\(sqB p.length M)) ((0,noLinks p.length)) ⟨(by simp),(rfl),(V4 _)⟩ ?_;rintro⟨i,M⟩ ⟨h1,h2,h3⟩;simp[go_sem];refine gw (fun a=> ?_) (fun a=> ?_)
  ·have hs:=aA i (noLinks p.length) ((fun i M=>loopN p.length M (vM p q i)));rw[←h2]at hs;simp[go_sem];refine wl good (fun(x':(Nat)×(List (List Bool)))=>match x' with|(k,L)=>[(0,.val (nInts p)),(1,.val (nInts q)),(5,.own (LU L)),(6,.val (dI i)),(7,.val (dI k))]) (fun(x':(Nat)×(List (List Bool)))=>match x' with|(k,L)=>p.length-k) (fun(x':(Nat)×(List (List Bool)))=>match x' with|(k,L)=>(k<=p.length)/\(L=loopN k (M) (vM p q i))/\(sqB p.length L)) ((0,M)) ⟨(by simp),(rfl),(h3)⟩ ?_;rintro⟨k,L⟩ ⟨h1k,h2k,h3k⟩;simp[go_sem];refine gw (fun ak=> ?_) (fun ak=> ?_)
   ·have hsk:=aA k (M) (vM p q i);rw[←h2k]at hsk;obtain⟨r,hr,hrl,hrc⟩:=NT (a:=i) (b:=k) h3k (by omega) (by omega);have ha1:=aF (l:=p) (i:=i) (by omega);have ha2:=aF (l:=p) (i:=k) (by omega);have hb1:=aF (l:=q) (i:=i) (by omega);have hb2:=aF (l:=q) (i:=k) (by omega);have hz1:=fun v=>MV (k:=k) (v:=v) hr;have hsq:=fun v=>sqB_set (i:=i) (k:=k) (v:=v) h3k;simp[go_sem];refine wdt good 26 ?_;simp[go_sem,hr,ha1,ha2];refine gv (fun e=> ?_) (fun e=> ?_)
    ·have e':=e;have hj:vM p q i k L=L.set i (r.set k true):=by rw[vM,hz1];simp[e]
     simp[go_sem,hr,hrc,e];refine ai ?_;refine nx (k+1,L.set i (r.set k true)) ⟨(by omega),(by rw[hsk,hj]),(by rw[←hz1];exact hsq _)⟩
    ·have e':=e;have hj:vM p q i k L=L.set i (r.set k (decide (at1 q i=at1 q k))):=by rw[vM,hz1];simp[e]
     simp[go_sem,hr,hrc,hb1,hb2,e];refine ai ?_;refine nx (k+1,L.set i (r.set k (decide (at1 q i=at1 q k)))) ⟨(by omega),(by rw[hsk,hj]),(by rw[←hz1];exact hsq _)⟩
   ·simp at ak;have hik:p.length=k:=by omega
    subst hik;simp[go_sem];refine ai ?_;refine nx (i+1,L) ⟨(by omega),(by rw[hs];exact h2k),(h3k)⟩
  ·simp at a;have hi:p.length=i:=by omega
   subst hi;simp[go_sem];refine ck (qY p.length _) ?_;simp[go_sem];simp[aeJ,e,uT,IP,←h2]
theorem ad4 (m:List (List Int)):(iR m).length=m.length:=GG _ _
theorem acD (n:Nat)(l:List Con):(aV n l).length=n:=GG _ _
theorem JO (m:List (List Int))(cs:List Con)(hm:m.length<=1048576)(hc:cs.length<=1048576):Fk 73 [aL m,bG cs] (.own (aD (aN m cs))):=by
 refine fE good [] func73 ntmps73 fun w0 ow0=> ?_;simp[go_sem];refine ck (aY _) ?_;simp[go_sem];refine gv (fun e=> ?_) (fun e=> ?_)
 ·have e':=e;simp at e';simp[go_sem,e];grind[aN]
 ·have e':=e;simp at e';simp[go_sem,e];refine ck (lN _ _) ?_;simp[go_sem];refine gw (fun f=> ?_) (fun f=> ?_)
  ·simp at f;simp[go_sem];grind[aN]
  ·simp at f;have hml:=aP (m:=m) (by simpa using e);simp[go_sem,e',f];refine ck (wR _) ?_;simp[go_sem,e'];refine ck (oQ _ _) ?_;simp[go_sem,f];refine ck (BM (iR m) (aV m.length cs) (by rw[ad4];omega) (by rw[acD];omega)) ?_;simp[go_sem];all_goals(simp only[aN,e',f];simp)
theorem wD (l:List Con)(items:List Int)(hs:l.length<=1048576)(hi:items.length<=1048576):Fk 75 [bG l,nInts items] (.own (yK (bZ l items))):=by
 refine fE good [] func75 ntmps75 fun w0 ow0=> ?_;simp[go_sem];refine wl good (fun(x':(Nat)×(List Con))=>match x' with|(i,out)=>[(0,.val (bG l)),(1,.val (nInts items)),(5,.own (yK out)),(6,.val (dI i))]) (fun(x':(Nat)×(List Con))=>match x' with|(i,out)=>(l).length-i) (fun(x':(Nat)×(List Con))=>match x' with|(i,out)=>(i<=(l).length)/\(out=(l.take i).filterMap (pX items))/\(out.length<=i)) ((0,[])) ⟨(by omega),rfl,(by simp)⟩ ?_;rintro⟨i,out⟩ ⟨h1,h2,h3⟩;simp[go_sem];refine gw (fun a=> ?_) (fun a=> ?_)
 ·obtain⟨c,hc⟩:=aC (l:=l) (i:=i) (by omega);have hm:=rE (pX items) hc;rw[←h2]at hm;simp[go_sem,hc];refine ck (mF _ _) ?_;simp[go_sem,hc];refine ck (mF _ _) ?_;simp[go_sem];refine gv (fun e=> ?_) (fun e=> ?_)
  ·have e':=e;simp[go_sem,e];refine gw (fun b=> ?_) (fun b=> ?_)
   ·have hv:pX items c=some ⟨place items c.a,place items c.b,c.same⟩:=if_pos ⟨by unfold place;omega,by unfold place;omega⟩;simp[go_sem,hc];iterate 2 refine ai ?_
    refine nx (i+1,out++[⟨place items c.a,place items c.b,c.same⟩]) ⟨(by omega),(by rw[hm,hv];rfl),(by simp;omega)⟩
   ·simp at b;have hv:pX items c=none:=if_neg (by rintro⟨h1,h2⟩;unfold place at h1 h2;omega);simp[go_sem];refine ai ?_;refine nx (i+1,out) ⟨(by omega),(by rw[hm,hv];simp),(by omega)⟩
  ·have e':=e;simp at e';have hv:pX items c=none:=if_neg (by rintro⟨h1,h2⟩;unfold place at h1 h2;omega);simp[go_sem,e];refine ai ?_;refine nx (i+1,out) ⟨(by omega),(by rw[hm,hv];simp),(by omega)⟩
 ·simp at a;rw[aO a]at h2;simp[go_sem];grind[bZ]
theorem lF (l:List Int)(hs:l.length<=1048576):Fk 81 [nInts l] (.own (aD (canon l))):=by
 refine fE good [] func81 ntmps81 fun w0 ow0=> ?_;simp[go_sem];refine wl good (fun(x':(Nat)×(List Int×List Int))=>match x' with|(i,s)=>[(0,.val (nInts l)),(3,.own (aD s.1)),(4,.own (aD s.2)),(5,.val (dI i))]) (fun(x':(Nat)×(List Int×List Int))=>match x' with|(i,s)=>(l).length-i) (fun(x':(Nat)×(List Int×List Int))=>match x' with|(i,s)=>(i<=(l).length)/\(s=(l.take i).foldl dL ([],[]))/\(s.1.length<=i/\s.2.length<=i)) ((0,([],[]))) ⟨(by omega),rfl,(by simp)⟩ ?_;rintro⟨i,s⟩ ⟨h1,h2,h3⟩;simp[go_sem];refine gw (fun a=> ?_) (fun a=> ?_)
 ·obtain⟨c,hc⟩:=aC (l:=l) (i:=i) (by omega);have hm:=bC dL ([],[]) hc;rw[←h2]at hm;simp[go_sem];refine wl good (fun(x':(Nat)×(Int))=>match x' with|(j,t)=>[(0,.val (nInts l)),(3,.own (aD s.1)),(4,.own (aD s.2)),(5,.val (dI i)),(6,.val (dI t)),(7,.val (dI j))]) (fun(x':(Nat)×(Int))=>match x' with|(j,t)=>s.2.length-j) (fun(x':(Nat)×(Int))=>match x' with|(j,t)=>(j<=s.2.length)/\(t=loopN j (-1) ((fun j a=>if at1 s.2 j=c then(j:Int)else a)))/\(-1<=t/\t<=j)) ((0, -1)) ⟨(by omega),rfl,(by omega)⟩ ?_;rintro⟨j,t⟩ ⟨h1j,h2j,h3j⟩;simp[go_sem];refine gw (fun aj=> ?_) (fun aj=> ?_)
  ·have hsj:=aA j (-1) ((fun j a=>if at1 s.2 j=c then(j:Int)else a));rw[←h2j]at hsj;have hj:=aF (l:=s.2) (i:=j) (by omega);simp[go_sem];refine wdr good ?_;simp[go_sem,hc,hj];refine gw (fun b=> ?_) (fun b=> ?_)
   ·simp[go_sem];refine ai ?_;refine nx (j+1,(j:Int)) ⟨(by omega),(by rw[hsj,if_pos b]),(by omega)⟩
   ·simp[go_sem];refine ai ?_;refine nx (j+1,t) ⟨(by omega),(by rw[hsj,if_neg b]),(by omega)⟩
  ·simp at aj;have hij:s.2.length=j:=by omega
   subst hij;simp[go_sem];refine gw (fun b=> ?_) (fun b=> ?_)
   ·have hx:dL s c=(s.1++[(s.2.length:Int)],s.2++[c]):=if_pos (by rw[lQ,←h2j];exact b);simp[go_sem,hc];iterate 3 refine ai ?_
    refine nx (i+1,(s.1++[(s.2.length:Int)],s.2++[c])) ⟨(by omega),(by rw[hm,hx]),(by simp;omega)⟩
   ·simp at b;have hx:dL s c=(s.1++[t],s.2):=by rw[dL,if_neg (by rw[lQ,←h2j];omega),lQ,←h2j]
    simp[go_sem];iterate 2 refine ai ?_
    refine nx (i+1,(s.1++[t],s.2)) ⟨(by omega),(by rw[hm,hx]),(by simp;omega)⟩
 ·simp at a;rw[aO a]at h2;simp[go_sem];grind[canon]
theorem r9 (l:List Int)(x y:Int)(hs:l.length<=1048576)(hx: -1048576<=x/\x<=1048576)(hy: -1048576<=y/\y<=1048576):Fk 133 [nInts l,dI x,dI y] (.tup [.own (aD (jW l x y)),.val (dB (oJ l x y))]):=by
 refine fE good [] func133 ntmps133 fun w0 ow0=> ?_;simp[go_sem];refine ai ?_;refine wl good (fun(x':(Nat)×(Int))=>match x' with|(i,t)=>[(0,.val (nInts l)),(1,.val (dI x)),(2,.val (dI y)),(8,.own (aD l)),(9,.val (dI t)),(10,.val (dI i))]) (fun(x':(Nat)×(Int))=>match x' with|(i,t)=>l.length-i) (fun(x':(Nat)×(Int))=>match x' with|(i,t)=>(i<=l.length)/\(t=loopN i ((-1)) ((fun i t=>max t (at1 l i))))) ((0,(-1))) ⟨(by omega),rfl⟩ ?_;rintro⟨i,t⟩ ⟨h1,h2⟩;simp[go_sem];refine gw (fun a=> ?_) (fun a=> ?_)
 ·have hs:=aA i ((-1)) ((fun i t=>max t (at1 l i)));rw[←h2]at hs;have hg:=aF a;simp[go_sem,hg];refine ai ?_;refine nx (i+1,max t (at1 l i)) ⟨(by first|omega|(simp;omega)|grind),(by first|omega|(simp;omega)|grind)⟩
 ·simp at a;have hi:l.length=i:=by omega
  subst hi;have ht:rV l=t:=h2.symm;simp[go_sem];refine ck (fK l hs) ?_;simp[go_sem];refine gv (fun a=> ?_) (fun a=> ?_)
  ·have a':=a;simp at a';have ho:oJ l x y=false:=by simp only[oJ];rw[a'];simp
   simp[go_sem,a];simp[jW,ho]
  ·have a':=a;simp at a';have htl:=adY a';simp[go_sem,a];refine ai ?_;refine ck (aH _ _ _) ?_;simp[go_sem];refine gv (fun b=> ?_) (fun b=> ?_)
   ·have b':=b;simp at b';have ho:oJ l x y=false:=by simp only[oJ];rw[show inR x 0 ((l.length:Int)-1)=false by simp at b|-;omega];simp
    simp[go_sem,b];simp[jW,ho]
   ·have b':=b;simp at b';simp[go_sem,b];refine ai ?_;refine ck (aH _ _ _) ?_;simp[go_sem];refine gw (fun d=> ?_) (fun d=> ?_)
    ·simp at d;have ho:oJ l x y=false:=by simp only[oJ,ht];rw[show inR y 0 (t+1)=false by simp at d|-;omega];simp
     simp[go_sem];simp[jW,ho]
    ·simp at d;have hxb:0<=x/\x<=(l.length:Int)-1:=by simp at b;omega
     have hyb:0<=y/\y<=t+1:=by omega
     have ho:oJ l x y=true:=by simp only[oJ,ht];rw[a'];simp;omega
     have hg:=aF (l:=l) (i:=x.toNat) (by omega);have hx0:=hxb.1;simp[go_sem,hg,hx0];refine ckz (lF (l.set x.toNat y) (by simp;omega)) ?_;simp[go_sem];simp[jW,ho]
theorem QH (m:List (List Int))(l:List Int)(x y:Int)(hm:m.length<=1048576)(hs:l.length<=1048576)(hx: -1048576<=x/\x<=1048576)(hy: -1048576<=y/\y<=1048576):Fk 195 [aL m,nInts l,dI x,dI y] (.val (dI (z8 m l x y))):=by
 refine fE good [] func195 ntmps195 fun w0 ow0=> ?_;have hml:=JC l x y;have hp1:=rM m l;have hp2:=rM m (jW l x y);have e1:(if aI m=true/\bJ l=true/\l.length=m.length then aQ m l else -1)=mV m l:=rfl;have e2:(if aI m=true/\bJ (jW l x y)=true/\(jW l x y).length=m.length then aQ m (jW l x y)else -1)=mV m (jW l x y):=rfl;simp[go_sem];refine ck (r9 l x y hs hx hy) ?_;simp[go_sem];refine ck ((e1▸gJ m l hm hs)) ?_;simp[go_sem];refine gv (fun a=> ?_) (fun a=> ?_)
 ·have a':=a;simp at a';have hg:z8 m l x y=0:=if_neg (by simp[a']);simp[go_sem,a,hg]
 ·have a':=a;simp at a';simp[go_sem,a];refine gw (fun b=> ?_) (fun b=> ?_)
  ·have hg:z8 m l x y=0:=if_neg (by omega);simp[go_sem,hg]
  ·simp at b;simp[go_sem];refine ck ((e2▸gJ m (jW l x y) hm (by omega))) ?_;have hg:z8 m l x y=mV m l-mV m (jW l x y):=if_pos ⟨a',by omega⟩;simp[go_sem,hg];simp only[inI];omega
abbrev OQ (b:Mov):D:= .agg [dI b.item,dI b.block,dI b.gain]
theorem ag5 (m:List (List Int))(cs:List Con)(l:List Int)(i k:Nat)(b:Mov)(h:0<=b.gain/\b.gain<=2000000):0<=(oZ m cs l i k b).gain/\(oZ m cs l i k b).gain<=2000000:=by
 have:=ad9 m l i k;unfold oZ;split
 ·rename_i h2;simp only;omega
 ·exact h
theorem Q9 (m:List (List Int))(cs:List Con)(l:List Int)(hm:m.length<=1048576)(hcs:cs.length<=1048576)(hs:l.length<=1048575):Fk 132 [aL m,bG cs,nInts l] (.tup [.val (OQ (gD m cs l)),.val (dB (decide (0<(gD m cs l).gain)))]):=by
 refine fE good [] func132 ntmps132 fun w0 ow0=> ?_;have hp:=rM m l;have e1:(if aI m=true/\bJ l=true/\l.length=m.length then aQ m l else -1)=mV m l:=rfl;have hkp:(cs.all (oH l)&&bJ l)=keepP cs l:=rfl;have hcm:adX m cs l=(decide (0<=mV m l)&&keepP cs l):=rfl;simp[go_sem];refine ck ((e1▸gJ m l hm (by omega))) ?_;simp[go_sem];refine gv (fun a=> ?_) (fun a=> ?_)
 ·have a':=a;have hb:gD m cs l=⟨0,0,0⟩:=if_neg (by rw[hcm,decide_eq_false (by omega)];simp);simp[go_sem,a,hb]
 ·have a':=a;simp at a';simp[go_sem,a];refine ck ((hkp▸kK l cs (by omega) hcs)) ?_;simp[go_sem];refine gw (fun d=> ?_) (fun d=> ?_)
  ·simp at d;have hb:gD m cs l=⟨0,0,0⟩:=if_neg (by rw[hcm,d];simp);simp[go_sem,hb]
  ·simp at d;have hb:gD m cs l=loopN l.length ⟨0,0,0⟩ (VX m cs l):=if_pos (by rw[hcm,decide_eq_true (by omega),d];rfl);simp[go_sem];refine wl good (fun(x':(Nat)×(Mov))=>match x' with|(i,b)=>[(0,.val (aL m)),(1,.val (bG cs)),(2,.val (nInts l)),(6,.own (.bx true (OQ ⟨0,0,0⟩))),(8,.own (.bx true (OQ b))),(9,.val (dI i))]) (fun(x':(Nat)×(Mov))=>match x' with|(i,b)=>l.length-i) (fun(x':(Nat)×(Mov))=>match x' with|(i,b)=>(i<=l.length)/\(b=loopN i (⟨0,0,0⟩) (VX m cs l))/\(0<=b.gain/\b.gain<=2000000)) ((0,⟨0,0,0⟩)) ⟨(by omega),(rfl),(by simp)⟩ ?_;rintro⟨i,b⟩ ⟨h1,h2,h3⟩;simp[go_sem];refine gw (fun a=> ?_) (fun a=> ?_)
   ·have hs:=aA i (⟨0,0,0⟩) (VX m cs l);rw[←h2]at hs;simp[go_sem];refine wl good (fun(x':(Nat)×(Mov))=>match x' with|(k,c)=>[(0,.val (aL m)),(1,.val (bG cs)),(2,.val (nInts l)),(6,.own (.bx true (OQ ⟨0,0,0⟩))),(8,.own (.bx true (OQ c))),(9,.val (dI i)),(10,.val (dI k))]) (fun(x':(Nat)×(Mov))=>match x' with|(k,c)=>(l.length+1)-k) (fun(x':(Nat)×(Mov))=>match x' with|(k,c)=>(k<=(l.length+1))/\(c=loopN k (b) (oZ m cs l i))/\(0<=c.gain/\c.gain<=2000000)) ((0,b)) ⟨(by omega),(rfl),(h3)⟩ ?_;rintro⟨k,c⟩ ⟨h1k,h2k,h3k⟩;simp[go_sem];refine gw (fun ak=> ?_) (fun ak=> ?_)
    ·have hsk:=aA k (b) (oZ m cs l i);rw[←h2k]at hsk;have hml:=JC l i k;have hgl:=ad9 m l i k;have hkp2:(cs.all (oH (jW l i k))&&bJ (jW l i k))=keepP cs (jW l i k):=rfl;have hst:=ag5 m cs l i k c h3k;simp[go_sem];refine ck (r9 l i k (by omega) (by omega) (by omega)) ?_;simp[go_sem];refine ck (QH m l i k hm (by omega) (by omega) (by omega)) ?_;simp[go_sem];refine gv (fun e=> ?_) (fun e=> ?_)
     ·have e':=e;simp[go_sem,e];refine gv (fun f=> ?_) (fun f=> ?_)
      ·have f':=f;simp[go_sem,f];refine ck ((hkp2▸kK (jW l i k) cs (by omega) hcs)) ?_;simp[go_sem];refine gw (fun g=> ?_) (fun g=> ?_)
       ·have hu:oZ m cs l i k c=⟨i,k,z8 m l i k⟩:=if_pos ⟨by simpa using e,by omega,by simpa using g⟩;rw[hu]at hst;simp[go_sem];refine ai ?_;refine nx (k+1,⟨i,k,z8 m l i k⟩) ⟨(by omega),(by rw[hsk,hu]),(hst)⟩
       ·have hu:oZ m cs l i k c=c:=if_neg (by simp[g]);simp[go_sem];refine ai ?_;refine nx (k+1,c) ⟨(by omega),(by rw[hsk,hu]),(h3k)⟩
      ·have f':=f;simp at f';have hu:oZ m cs l i k c=c:=if_neg (by omega);simp[go_sem,f];refine ai ?_;refine nx (k+1,c) ⟨(by omega),(by rw[hsk,hu]),(h3k)⟩
     ·have e':=e;have hu:oZ m cs l i k c=c:=if_neg (by simp[e]);simp[go_sem,e];refine ai ?_;refine nx (k+1,c) ⟨(by omega),(by rw[hsk,hu]),(h3k)⟩
    ·simp at ak;have hik:(l.length+1)=k:=by omega
     subst hik;simp[go_sem];refine ai ?_;refine nx (i+1,c) ⟨(by omega),(by rw[hs,VX,←h2k]),(h3k)⟩
   ·simp at a;have hi:l.length=i:=by omega
    subst hi;have hbb:gD m cs l=b:=by rw[hb,h2]
    simp[go_sem];refine eD good [] (aR 8) ?_;simp[go_sem];refine wdf good [(4,[6,66]),(5,[69,7])] [(6,.own (.bx true (OQ ⟨0,0,0⟩))),(8,.val (.bx false (OQ b)))] [] (by simp[go_sem]) ?_;simp[go_sem,hbb]
theorem anJ (m:List (List Int))(cs:List Con)(l:List Int):0<=(gD m cs l).item/\(gD m cs l).item<=l.length/\0<=(gD m cs l).block/\(gD m cs l).block<=l.length:=by
 unfold gD;split
 ·refine loopN_inv (n:=l.length) (fun _ (b:Mov)=>0<=b.item/\b.item<=l.length/\0<=b.block/\b.block<=l.length) (by simp) fun i b hi hb=> ?_;refine loopN_inv (n:=l.length+1) (fun _ (b:Mov)=>0<=b.item/\b.item<=l.length/\0<=b.block/\b.block<=l.length) hb fun k c hk hc=> ?_;unfold oZ;split
  ·simp only;omega
  ·exact hc
 ·simp
theorem zJ (m:List (List Int))(cs:List Con)(l:List Int)(hm:m.length<=1048576)(hcs:cs.length<=1048576)(hs:l.length<=1048575):bR prog 80 [aL m,bG cs,nInts l] (fun r'=>∃k:Int,r'= .tup [.own (aD (jV m cs 100 l)),.val (dI k)]):=by
 refine fE good [] func80 ntmps80 fun w0 ow0=> ?_;simp[go_sem];refine ai ?_;refine wl good (fun(x':(Nat)×(List Int))=>match x' with|(k,x)=>[(0,.val (aL m)),(1,.val (bG cs)),(8,.own (aD x)),(9,.val (dI k))]) (fun(x':(Nat)×(List Int))=>match x' with|(k,x)=>100-k) (fun(x':(Nat)×(List Int))=>match x' with|(k,x)=>(k<=100)/\(x.length=l.length)/\(jV m cs (100-k) x=jV m cs 100 l)) ((0,l)) ⟨(by omega),(rfl),(rfl)⟩ ?_;rintro⟨k,x⟩ ⟨h1,h2,h3⟩;simp[go_sem];refine gw (fun a=> ?_) (fun a=> ?_)
 ·have hbl:=anJ m cs x;have hml:=JC x (gD m cs x).item (gD m cs x).block;have hgo:jV m cs (100-k) x=if 0<(gD m cs x).gain then jV m cs (100-(k+1)) (jW x (gD m cs x).item (gD m cs x).block)else x:=by rw[show 100-k=(100-(k+1))+1 by omega,jV]
  simp[go_sem];refine ck (Q9 m cs x hm hcs (by omega)) ?_;simp[go_sem];refine gw (fun b=> ?_) (fun b=> ?_)
  ·simp at b;rw[if_neg (by simpa using b)]at hgo;simp[go_sem];simp[←h3,hgo]
  ·rw[if_pos (by simpa using b)]at hgo;simp[go_sem];refine ck (r9 x (gD m cs x).item (gD m cs x).block (by omega) (by omega) (by omega)) ?_;simp[go_sem];refine ai ?_;refine nx (k+1,jW x (gD m cs x).item (gD m cs x).block) ⟨(by omega),(by omega),(by rw[←hgo,h3])⟩
 ·simp at a;obtain rfl:k=100:=by omega
  have hgo:jV m cs (100-100) x=x:=rfl;simp[go_sem];simp[←h3,hgo]
theorem KD (l:List Int)(x y:Int)(hl:1<=l.length/\l.length<=1048576)(hx:0<=x/\x<(l.length:Int)):Fk 279 [nInts l,dI x,dI y] (.own (aD (canon (l.set x.toNat y)))):=by
 refine fE good [] func279 ntmps279 fun w0 ow0=> ?_;have hg:=aF (l:=l) (i:=x.toNat) (by omega);have hx0:=hx.1;simp[go_sem];refine ck (iK l hl) ?_;simp[go_sem,hg,hx0];refine ckz (lH (l.set x.toNat y) (by simp;omega)) ?_;simp[go_sem]
theorem anT {l:List Int}(h:1<=l.length)(h0: -1<=at1 l 0):at1 l 0=loopN 1 (-1) (fun i t=>max t (at1 l i)):=by
 rw[aA,loopN_zero];omega
theorem EK (l:List Int)(hl:1<=l.length/\l.length<=1048576)(h0: -1<=at1 l 0):Fk 349 [nInts l] (.val (dI (rV l))):=by
 refine fE good [] func349 ntmps349 fun w0 ow0=> ?_;have hg:=aF (l:=l) (i:=0) (by omega);have hn:¬(l.length:Int)<1:=by omega
 have hb:=anT hl.1 h0;simp[go_sem,hg,hn];refine wl good (fun(x':(Nat)×(Int))=>match x' with|(i,t)=>[(0,.val (nInts l)),(3,.val (dI t)),(4,.val (dI i))]) (fun(x':(Nat)×(Int))=>match x' with|(i,t)=>l.length-i) (fun(x':(Nat)×(Int))=>match x' with|(i,t)=>(1<=i/\i<=l.length)/\(t=loopN i (-1) (fun i t=>max t (at1 l i)))) ((1,at1 l 0)) ⟨(by omega),(hb)⟩ ?_;rintro⟨i,t⟩ ⟨h1,h2⟩;simp[go_sem];refine gw (fun a=> ?_) (fun a=> ?_)
 ·have hgi:=aF (l:=l) (i:=i) (by omega);have hs:=aA i (-1) (fun i t=>max t (at1 l i));rw[←h2]at hs;simp[go_sem,hgi];refine ai ?_;refine nx (i+1,max t (at1 l i)) ⟨(by omega),(hs.symm)⟩
 ·simp at a;obtain rfl:i=l.length:=by omega
  have hfin:rV l=t:=h2.symm;simp[go_sem,hfin]
theorem LF (l:List Int)(hp:bJ l=true):Fk 320 [nInts l] (.val (dI (rV l+1))):=by
 refine fE good [] func320 ntmps320 fun w0 ow0=> ?_;have hpl:=isPart_len hp;have ht:=adY hp;have h0:=(isPart_iff.1 hp).1 0 (by omega);simp[go_sem];refine ck (EK l ⟨by omega,by omega⟩ (by omega)) ?_;simp[go_sem];simp only[inI];omega
theorem TJ (m:List (List Int))(cs:List Con)(l:List Int)(hm:aI m=true)(hp:bJ l=true)(hl:l.length=m.length)(hc:cs.length<=1048576):Fk 319 [aL m,bG cs,nInts l] (.val (dB (gN cs l))):=by
 refine fE good [] func319 ntmps319 fun w0 ow0=> ?_;have hpc:=AA hm hp hl;have h0:=d9 hm l;have hn8:=aP hm;simp[go_sem];refine ck (rW m l hm (by omega)) ?_;simp[go_sem,hpc,h0];refine ck (tX l cs) ?_;simp[go_sem]
theorem aDM {m:List (List Int)}{l:List Int}(hm:aI m=true)(hp:bJ l=true)(hl:l.length=m.length)(i k:Nat): -1000000<=mvGain m l i k/\mvGain m l i k<=1000000:=by
 have h1:=rM m l;have h3:=d9 hm l;have h4:=d9 hm (canon (l.set i k));have hc:(canon (l.set i k)).length=l.length:=by rw[jI];simp
 have h2:=rM m (canon (l.set i k));rw[AA hm hp hl]at h1;rw[AA hm (MC (by simp;exact isPart_len hp)) (by omega)]at h2;unfold mvGain;omega
theorem aeN {m:List (List Int)}{cs:List Con}{l:List Int}{i k:Nat}{b:Mov}(hg:mvGain m l i k<=1000000)(h:0<=b.gain/\b.gain<=1000000):0<=(xG m cs l i k b).gain/\(xG m cs l i k b).gain<=1000000:=by
 unfold xG;split
 ·next hh=>exact⟨by show 0<=mvGain m l i k;omega,hg⟩
 ·exact h
theorem Q8 (m:List (List Int))(cs:List Con)(l:List Int)(hm:aI m=true)(hp:bJ l=true)(hl:l.length=m.length)(hk:gN cs l=true)(hc:cs.length<=1048576):Fk 278 [aL m,bG cs,nInts l] (.tup [.val (OQ (mvBest m cs l)),.val (dB (decide (0<(mvBest m cs l).gain)))]):=by
 refine fE good [] func278 ntmps278 fun w0 ow0=> ?_;have hn8:=aP hm;have ht:=afC hp;simp[go_sem];refine ck (TJ m cs l hm hp hl hc) ?_;simp[go_sem,hk];refine ck (dY m l hm hl) ?_;simp[go_sem];refine wl good (fun(x':(Nat)×(Mov))=>match x' with|(i,b)=>[(0,.val (aL m)),(1,.val (bG cs)),(2,.val (nInts l)),(6,.own (.bx true (OQ ⟨0,0,0⟩))),(8,.own (.bx true (OQ b))),(9,.val (dI (aQ m l))),(24,.val (dI l.length)),(25,.val (dI i))]) (fun(x':(Nat)×(Mov))=>match x' with|(i,b)=>l.length-i) (fun(x':(Nat)×(Mov))=>match x' with|(i,b)=>(i<=l.length)/\(b=loopN i (⟨0,0,0⟩) (ak2 m cs l))/\(0<=b.gain/\b.gain<=1000000)) ((0,⟨0,0,0⟩)) ⟨(by omega),(rfl),(by simp)⟩ ?_;rintro⟨i,b⟩ ⟨h1,h2,h3⟩;simp[go_sem];refine gw (fun a=> ?_) (fun a=> ?_)
 ·have hs:=aA i (⟨0,0,0⟩) (ak2 m cs l);rw[←h2]at hs;simp[go_sem];refine wl good (fun(x':(Nat)×(Mov))=>match x' with|(k,c)=>[(0,.val (aL m)),(1,.val (bG cs)),(2,.val (nInts l)),(6,.own (.bx true (OQ ⟨0,0,0⟩))),(8,.own (.bx true (OQ c))),(9,.val (dI (aQ m l))),(10,.val (dI i)),(11,.val (dI k)),(24,.val (dI l.length)),(25,.val (dI i))]) (fun(x':(Nat)×(Mov))=>match x' with|(k,c)=>(rV l+2).toNat-k) (fun(x':(Nat)×(Mov))=>match x' with|(k,c)=>(k<=(rV l+2).toNat)/\(c=loopN k b (xG m cs l i))/\(0<=c.gain/\c.gain<=1000000)) ((0,b)) ⟨(by omega),(rfl),(h3)⟩ ?_;rintro⟨k,c⟩ ⟨h4,h5,h6⟩;simp[go_sem];refine ck (LF l hp) ?_;simp[go_sem];refine gw (fun e=> ?_) (fun e=> ?_)
  ·have hs2:=aA k b (xG m cs l i);rw[←h5]at hs2;have hcl:(canon (l.set i k)).length=l.length:=by rw[jI];simp
   have hgl:=aDM hm hp hl i k;have hst:=aeN (cs:=cs) (k:=k) (i:=i) hgl.2 h6;have hmg:aQ m l-aQ m (canon (l.set i k))=mvGain m l i k:=rfl;simp[go_sem];refine ck (KD l i k (by omega) (by omega)) ?_;simp[go_sem];refine ck (dY m (canon (l.set i k)) hm (by omega)) ?_;simp[go_sem,hmg];refine ai ?_;refine gv (fun f=> ?_) (fun f=> ?_)
   ·have f':=f;simp[go_sem,f];refine ck (tX (canon (l.set i k)) cs (by omega) hc) ?_;simp[go_sem];refine gw (fun g=> ?_) (fun g=> ?_)
    ·have hu:xG m cs l i k c=⟨i,k,mvGain m l i k⟩:=if_pos ⟨f,g⟩;rw[hu]at hst;simp[go_sem];refine ai ?_;refine nx (k+1,⟨i,k,mvGain m l i k⟩) ⟨(by omega),(by rw[hs2,hu]),(hst)⟩
    ·have hu:xG m cs l i k c=c:=if_neg (by simp[g]);simp[go_sem];refine ai ?_;refine nx (k+1,c) ⟨(by omega),(by rw[hs2,hu]),(h6)⟩
   ·have f':=f;simp at f';have hu:xG m cs l i k c=c:=if_neg (by omega);simp[go_sem,f];refine ai ?_;refine nx (k+1,c) ⟨(by omega),(by rw[hs2,hu]),(h6)⟩
  ·simp at e;obtain rfl:k=(rV l+2).toNat:=by omega
   simp[go_sem];refine ai ?_;refine nx (i+1,c) ⟨(by omega),(by rw[hs,h5];rfl),(h6)⟩
 ·simp at a;have hi:l.length=i:=by omega
  subst hi;have hfin:mvBest m cs l=b:=h2.symm;simp[go_sem];refine wdf good [(4,[6,57]),(5,[60,7])] [(6,.own (.bx true (OQ ⟨0,0,0⟩))),(8,.own (.bx true (OQ b)))] [] (by simp[go_sem]) ?_;simp[go_sem,hfin]
theorem zS (m:List (List Int))(cs:List Con)(l:List Int)(hm:aI m=true)(hp:bJ l=true)(hl:l.length=m.length)(hk:gN cs l=true)(hc:cs.length<=1048576):bR prog 221 [aL m,bG cs,nInts l] (fun r=>∃k:Int,r= .tup [.own (aD (jV m cs 100 l)),.val (dI k)]):=by
 refine fE good [] func221 ntmps221 fun w0 ow0=> ?_;have hn8:=aP hm;simp[go_sem];refine ck (iK l ⟨by omega,by omega⟩) ?_;simp[go_sem];refine wl good (fun(x':(Nat)×(List Int))=>match x' with|(i,o)=>[(0,.val (aL m)),(1,.val (bG cs)),(8,.own (aD o)),(14,.val (dI i))]) (fun(x':(Nat)×(List Int))=>match x' with|(i,o)=>100-i) (fun(x':(Nat)×(List Int))=>match x' with|(i,o)=>(i<=100)/\(jV m cs 100 l=jV m cs (100-i) o)/\(bJ o=true)/\(o.length=m.length)/\(gN cs o=true)) ((0,l)) ⟨(by omega),(rfl),(hp),(hl),(hk)⟩ ?_;rintro⟨i,o⟩ ⟨h1,h2,h3,h4,h5⟩;simp[go_sem];refine gw (fun a=> ?_) (fun a=> ?_)
 ·have hst:=aiM hm h3 h4 h5 (99-i);rw[show 99-i+1=100-i by omega]at hst;have hbo:=(Z8 (m:=m) (cs:=cs) (l:=o)).2;simp[go_sem];refine ck (Q8 m cs o hm h3 h4 h5 hc) ?_;simp[go_sem];refine gw (fun b=> ?_) (fun b=> ?_)
  ·simp at b;have hfin:jV m cs 100 l=o:=by rw[h2,hst];exact if_neg (by simpa using b)
   simp[go_sem,hfin]
  ·have hb2:0<(mvBest m cs o).gain:=by simpa using b
   have hbb:=hbo hb2;rw[if_pos hb2]at hst;simp[go_sem];refine ck (KD o (mvBest m cs o).item (mvBest m cs o).block ⟨by omega,by omega⟩ ⟨hbb.1,hbb.2.1⟩) ?_;simp[go_sem];refine ai ?_;refine nx (i+1,canon (o.set (mvBest m cs o).item.toNat (mvBest m cs o).block)) ⟨(by omega),(by rw[h2,hst,show 100-(i+1)=99-i by omega]),(MC (by simp;omega)),(by rw[jI];simp;omega),(hbb.2.2.2.2)⟩
 ·simp at a;obtain rfl:i=100:=by omega
  have hfin:jV m cs 100 l=o:=by rw[h2];rfl
  simp[go_sem,hfin]
theorem w9 (l:List Int)(x:Int)(hl:l.length<=1048576):Fk 347 [nInts l,dI x] (.val (dB (l.any fun y=>decide (x=y)))):=by
 refine fE good [] func347 ntmps347 fun w0 ow0=> ?_;have hq:decide (0<=ix (fun y=>decide (x=y)) l)=l.any (fun y=>decide (x=y)):=by rw[Bool.eq_iff_iff,decide_eq_true_eq];exact eH
 simp[go_sem];refine ck (dK l x) ?_;simp[go_sem,hq]
theorem TY (n:Int)(l:List Int)(hn:1<=n/\n<=8)(ho:wW n l=true)(hl:l.length<=1048576):Fk 317 [dI n,nInts l] (.val (dB true)):=by
 refine fE good [] func317 ntmps317 fun w0 ow0=> ?_;have hon:=ho;simp only[wW,Bool.and_eq_true,List.all_eq_true,decide_eq_true_eq]at hon;obtain⟨⟨⟨o1,o2⟩,o3⟩,o4⟩:=hon;subst o4;have o5:=o3.1;have o6:=o3.2;simp[go_sem];refine ck (aG l.length 1 8) ?_;simp[go_sem,o5,o6];refine wl good (fun(i:Nat)=>[(0,.val (dI l.length)),(1,.val (nInts l)),(16,.val (nInts l)),(17,.val (dI l.length)),(18,.val (dI i))]) (fun(i:Nat)=>l.length-i) (fun(i:Nat)=>(i<=l.length)) (0) (by omega) ?_;rintro i h1;simp[go_sem];refine gw (fun a=> ?_) (fun a=> ?_)
 ·obtain⟨c,hc⟩:=aC (l:=l) (i:=i) (by omega);have hcn:=o1 c (List.mem_of_getElem? hc);have hno:((l.take i).any fun y=>decide (c=y))=false:=by rw[List.any_eq_false];intro y hy;simp only[decide_eq_true_eq];rintro rfl;obtain⟨j,hj⟩:=List.getElem?_of_mem hy;have hji:=aS hj;simp at hji;rw[List.getElem?_take,if_pos (by omega)]at hj;have e1:=WN hj;have e2:=WN hc;have:=acU o2 (i:=j) (k:=i) (by omega) (by omega) (by rw[e1,e2]);omega
  simp[go_sem,hc];refine ck (iA c l.length) ?_;have htk:List.take i (List.map dI l)=(l.take i).map dI:=by rw[List.map_take]
  have hmin:min i l.length=i:=by omega
  simp[go_sem,hcn];refine ai ?_;refine ckz (w9 (l.take i) c (by simp;omega)) ?_;simp[go_sem,hno];refine ai ?_;refine nx (i+1) (by omega)
 ·simp at a;simp[go_sem]
theorem afT (n:Nat)(v:Int):D.iH (List.replicate n (dI v))=true:=by
 induction n with
 |zero=>rfl
 |succ n ih=>rw[List.replicate_succ];simp only[D.iH,Bool.and_eq_true];exact⟨rfl,ih⟩
theorem alX {m:List (List Int)}{p:Nat}{v:Int}{l q:List Int}{k:Nat}(h:pvB m p k (at1 q k)=false):gstep (pvB m p) v k q=q:=if_neg (by simp[h])
theorem pv_set {m:List (List Int)}{p:Nat}{v:Int}{l q:List Int}{k:Nat}(h:pvB m p k (at1 q k)=true):gstep (pvB m p) v k q=q.set k v:=if_pos h
theorem BP (m:List (List Int))(o:List Int)(hm:aI m=true)(ho:wW m.length o=true):Fk 276 [aL m,nInts o] (.own (aD (eF m o))):=by
 refine fE good [] func276 ntmps276 fun w0 ow0=> ?_;have hml:=aP hm;have hoo:=NJ ho;have hpe:=arM hm ho;simp[go_sem];refine ck (bV m (by omega) (nM hm)) ?_;simp[go_sem,hm];refine ck (TY m.length o ⟨by omega,by omega⟩ ho (by omega)) ?_;have hao:D.iH (List.replicate m.length (dI (-1)))=true:=afT m.length (-1);simp[go_sem];refine ck ((aAP (-1) m.length hml)) ?_;simp[go_sem,hao];refine wl good (fun(x':(Nat)×(List Int))=>match x' with|(i,l)=>[(0,.val (aL m)),(1,.val (nInts o)),(5,.own (aD l)),(24,.val (nInts o)),(25,.val (dI o.length)),(26,.val (dI i))]) (fun(x':(Nat)×(List Int))=>match x' with|(i,l)=>o.length-i) (fun(x':(Nat)×(List Int))=>match x' with|(i,l)=>(i<=o.length)/\(l=loopN i (List.replicate m.length (-1)) (TB m o))/\(l.length=m.length)) ((0,List.replicate m.length (-1))) ⟨(by omega),(rfl),(by simp)⟩ ?_;rintro⟨i,l⟩ ⟨h1,h2,h3⟩;simp[go_sem];refine gw (fun a=> ?_) (fun a=> ?_)
 ·have hoi:=hoo.2.2.2.2 i a;have hg:=aF a;have hgl:=aF (l:=l) (i:=(at1 o i).toNat) (by omega);have hs:=aA i (List.replicate m.length (-1)) (TB m o);rw[←h2]at hs;simp[go_sem,hg,hgl];refine ai ?_;refine gw (fun b=> ?_) (fun b=> ?_)
  ·have hu:TB m o i l=l:=if_pos b;simp[go_sem];refine ai ?_;refine nx (i+1,l) ⟨(by omega),(by rw[hs,hu]),(h3)⟩
  ·simp at b;have hu:TB m o i l=loopN m.length (l.set (at1 o i).toNat (at1 o i)) (gstep (pvB m (at1 o i).toNat) (at1 o i)):=if_neg (by omega);obtain⟨r,hr,hrl⟩:=sP hm (a:=(at1 o i).toNat) (by omega);have hrk:∀k<m.length,r[k]?=some (at2 m (at1 o i).toNat k):=fun k hk=>by obtain⟨r2,e1,e2⟩:=eP hm (i:=(at1 o i).toNat) (k:=k) (by omega) hk;rw[hr]at e1;rw[Option.some.inj e1];exact e2
   simp[go_sem,hgl,hr,hrl];refine ai ?_;refine wl good (fun(x':(Nat)×(List Int))=>match x' with|(k,q)=>[(0,.val (aL m)),(1,.val (nInts o)),(5,.own (aD q)),(7,.val (dI (at1 o i))),(24,.val (nInts o)),(25,.val (dI o.length)),(26,.val (dI i)),(42,.val (nInts r)),(43,.val (dI m.length)),(44,.val (dI k))]) (fun(x':(Nat)×(List Int))=>match x' with|(k,q)=>m.length-k) (fun(x':(Nat)×(List Int))=>match x' with|(k,q)=>(k<=m.length)/\(q=loopN k (l.set (at1 o i).toNat (at1 o i)) (gstep (pvB m (at1 o i).toNat) (at1 o i)))/\(q.length=m.length)) ((0,l.set (at1 o i).toNat (at1 o i))) ⟨(by omega),(rfl),(by simp[h3])⟩ ?_;rintro⟨k,q⟩ ⟨h1k,h2k,h3k⟩;simp[go_sem];refine gw (fun d=> ?_) (fun d=> ?_)
   ·have hgk:=aF (l:=q) (i:=k) (by omega);have hk:=hrk k d;have hsk:=aA k (l.set (at1 o i).toNat (at1 o i)) (gstep (pvB m (at1 o i).toNat) (at1 o i));rw[←h2k]at hsk;simp[go_sem,hk];refine gv (fun e=> ?_) (fun e=> ?_)
    ·have e':=e;simp[go_sem,hgk,e];refine gw (fun f=> ?_) (fun f=> ?_)
     ·simp[go_sem,hgk];refine ai ?_;refine nx (k+1,q.set k (at1 o i)) ⟨(by omega),(by rw[hsk];exact(pv_set (l:=l) (by simp[pvB,e,f])).symm),(by simp[h3k])⟩
     ·simp at f;simp[go_sem];refine ai ?_;refine nx (k+1,q) ⟨(by omega),(by rw[hsk];exact(alX (l:=l) (by simp[pvB,f])).symm),(h3k)⟩
    ·have e':=e;simp at e';simp[go_sem,e];refine ai ?_;refine nx (k+1,q) ⟨(by omega),(by rw[hsk];exact(alX (l:=l) (by simp[pvB,e])).symm),(h3k)⟩
   ·simp at d;obtain rfl:k=m.length:=by omega
    simp[go_sem];refine ai ?_;refine nx (i+1,q) ⟨(by omega),(by rw[hs,hu];exact h2k),(h3k)⟩
 ·simp at a;obtain rfl:i=o.length:=by omega
  have hp:canon l=eF m o:=by rw[h2];exact hpe
  simp[go_sem];refine ck (lH l (by omega)) ?_;simp[go_sem,hp]
theorem wrap_small {n:Nat}(h:n<9223372036854775808):IntKind.i64.wrap (n:Int)=n:=by
 simp[IntKind.wrap,IntKind.bits,IntKind.signed];omega
theorem IW (n:Nat):BitVec.ofInt 64 (n:Int)=BitVec.ofNat 64 n:=by
 apply BitVec.eq_of_toNat_eq;simp
theorem auB (s:Nat)(h:s<256):SH .and .i64 (s:Int) 1=((s % 2:Nat):Int):=by
 have e:(1:Int)=((1:Nat):Int):=rfl;show IntKind.i64.wrap ((((BitVec.ofInt 64 (s:Int))&&&(BitVec.ofInt 64 (1:Int))).toNat:Nat):Int)=_;rw[e,IW,IW,BitVec.toNat_and,BitVec.toNat_ofNat,BitVec.toNat_ofNat,Nat.mod_eq_of_lt (by omega),Nat.mod_eq_of_lt (by omega),Nat.and_one_is_mod,wrap_small (by omega)]
theorem ayJ (s t:Nat)(h:s<256)(h2:t<256):SH .or .i64 (s:Int) (t:Int)=((s|||t:Nat):Int):=by
 have h3:s|||t<2^8:=Nat.or_lt_two_pow (n:=8) h h2;show IntKind.i64.wrap ((((BitVec.ofInt 64 (s:Int))|||(BitVec.ofInt 64 (t:Int))).toNat:Nat):Int)=_;rw[IW,IW,BitVec.toNat_or,BitVec.toNat_ofNat,BitVec.toNat_ofNat,Nat.mod_eq_of_lt (by omega),Nat.mod_eq_of_lt (by omega),wrap_small (by omega)]
theorem arF {s:Nat}{x:Int}(hs:s<256)(hx:0<=x/\x<=7):(SH .and .i64 ((s:Int).fdiv (2^min x.toNat 64)) 1=1)=(s.testBit x.toNat=true):=by
 have e:(s:Int).fdiv (2^min x.toNat 64)=((s/2^x.toNat:Nat):Int):=by
  rw[Nat.min_eq_left (by omega)];have:((2:Int)^x.toNat)=((2^x.toNat:Nat):Int):=by simp
  rw[this];exact Int.ofNat_fdiv s (2^x.toNat)|>.symm
 have h1:s/2^x.toNat<=s:=Nat.div_le_self _ _;rw[e,auB _ (by omega),Nat.testBit_eq_decide_div_mod_eq,decide_eq_true_eq];exact propext ⟨fun h=>by omega,fun h=>by omega⟩
theorem awT {s:Nat}{x:Int}(hs:s<256)(hx:0<=x/\x<=7):SH .or .i64 (s:Int) (IntKind.i64.wrap (2^min x.toNat 64))=((s|||2^x.toNat:Nat):Int):=by
 have hpow:2^x.toNat<2^8:=Nat.pow_lt_pow_right (by omega) (by omega);have this:((2:Int)^x.toNat)=((2^x.toNat:Nat):Int):=by simp
 rw[Nat.min_eq_left (by omega),this,wrap_small (by omega),ayJ _ _ hs hpow]
theorem TV (n:Int)(l:List Int)(hn: -1048576<=n/\n<=1048576:=by first|assumption|omega|(simp;omega)|grind)(hl:l.length<=1048576:=by first|assumption|omega|(simp;omega)|grind):Fk 194 [dI n,nInts l] (.val (dB (wW n l))):=by
 refine fE good [] func194 ntmps194 fun w0 ow0=> ?_;simp[go_sem];refine wl good (fun(x':(Nat)×(Nat))=>match x' with|(i,s)=>[(0,.val (dI n)),(1,.val (nInts l)),(5,.val (dI s)),(6,.val (dI i))]) (fun(x':(Nat)×(Nat))=>match x' with|(i,s)=>l.length-i) (fun(x':(Nat)×(Nat))=>match x' with|(i,s)=>(i<=l.length)/\(am6 n l i s)) ((0,0)) ⟨(by omega),(amP n l)⟩ ?_;rintro⟨i,s⟩ ⟨h1,h2⟩;simp[go_sem];refine gw (fun a=> ?_) (fun a=> ?_)
 ·have hg:=aF a;simp[go_sem,hg];refine ai ?_;refine ck (aH _ _ _) ?_;simp[go_sem];refine gv (fun b=> ?_) (fun b=> ?_)
  ·have b':=b;simp at b';have ho:=VW h2 a (.inl (by simp at b;omega));simp[go_sem,b];simp[ho]
  ·have b':=b;simp at b';simp[go_sem,b];refine gv (fun d=> ?_) (fun d=> ?_)
   ·have d':=d;have ho:=VW h2 a (.inr (.inl (by omega)));simp[go_sem,d];simp[ho]
   ·have d':=d;simp at d';have hx:0<=at1 l i/\at1 l i<=7:=by simp at b;omega
    have hsb:=arF h2.2.1 hx;have hso:=awT h2.2.1 hx;simp[go_sem,hg,d,hsb];refine ai ?_;refine gw (fun e=> ?_) (fun e=> ?_)
    ·have ho:=VW h2 a (.inr (.inr e));simp[go_sem];simp[ho]
    ·have hst:=anK h2 a ⟨by omega,by omega⟩ (by omega) (by simpa using e);simp[go_sem,hg,hso];iterate 2 refine ai ?_
     refine nx (i+1,s|||2^(at1 l i).toNat) ⟨(by omega),(hst)⟩
 ·simp at a;obtain rfl:i=l.length:=by omega
  have ho:=aqB h2;simp[go_sem];refine ck (aH _ _ _) ?_;simp[go_sem];refine gv (fun f=> ?_) (fun f=> ?_)
  ·have f':=f;simp at f';simp[go_sem,f];simp[ho,f]
  ·have f':=f;simp at f';simp[go_sem,f];simp[ho,f]
theorem BS (m:List (List Int))(o:List Int)(hm:aI m=true)(ho:wW m.length o=true):Fk 128 [aL m,nInts o] (.own (aD (eF m o))):=by
 refine fE good [] func128 ntmps128 fun w0 ow0=> ?_;have hml:=aP hm;have hoo:=NJ ho;simp[go_sem];refine ck (aY m) ?_;simp[go_sem,hm];refine ck (TV m.length o) ?_;simp[go_sem,ho];refine wl good (fun(i:Nat)=>[(0,.val (aL m)),(1,.val (nInts o)),(5,.own (aD (List.replicate i (-1)))),(6,.val (dI i))]) (fun(i:Nat)=>m.length-i) (fun(i:Nat)=>(i<=m.length)) (0) (by omega) ?_;rintro i h1;simp[go_sem];refine gw (fun a=> ?_) (fun a=> ?_)
 ·have hx:=List.replicate_succ' (n:=i) (a:=(-1:Int));simp[go_sem];iterate 2 refine ai ?_
  refine nx (i+1) (by first|omega|(simp;omega)|grind) (h3:=by simp[go_sem,hx])
 ·simp at a;obtain rfl:i=m.length:=by omega
  simp[go_sem];refine wl good (fun(x':(Nat)×(List Int))=>match x' with|(i,l)=>[(0,.val (aL m)),(1,.val (nInts o)),(5,.own (aD l)),(7,.val (dI i))]) (fun(x':(Nat)×(List Int))=>match x' with|(i,l)=>o.length-i) (fun(x':(Nat)×(List Int))=>match x' with|(i,l)=>(i<=o.length)/\(l=loopN i (List.replicate m.length (-1)) (pivOne m o))/\(l.length=m.length)) ((0,List.replicate m.length (-1))) ⟨(by omega),(rfl),(by simp)⟩ ?_;rintro⟨i,l⟩ ⟨h1,h2,h3⟩;simp[go_sem];refine gw (fun a=> ?_) (fun a=> ?_)
  ·have hs:=aA i (List.replicate m.length (-1)) (pivOne m o);rw[←h2]at hs;have hoi:=hoo.2.2.2.2 i a;have hg:=aF a;have hgl:=aF (l:=l) (i:=(at1 o i).toNat) (by omega);simp[go_sem,hg,hgl];refine ai ?_;refine gw (fun b=> ?_) (fun b=> ?_)
   ·have hu:pivOne m o i l=l:=if_pos b;simp[go_sem];refine ai ?_;refine nx (i+1,l) ⟨(by omega),(by rw[hs,hu]),(h3)⟩
   ·simp at b;have hu:pivOne m o i l=loopN m.length l (pM m (at1 o i) i):=if_neg (by omega);simp[go_sem];refine wl good (fun(x':(Nat)×(List Int))=>match x' with|(k,q)=>[(0,.val (aL m)),(1,.val (nInts o)),(5,.own (aD q)),(7,.val (dI i)),(8,.val (dI (at1 o i))),(9,.val (dI k))]) (fun(x':(Nat)×(List Int))=>match x' with|(k,q)=>m.length-k) (fun(x':(Nat)×(List Int))=>match x' with|(k,q)=>(k<=m.length)/\(q=loopN k (l) (pM m (at1 o i) i))/\(q.length=m.length)) ((0,l)) ⟨(by omega),rfl,(by omega)⟩ ?_;rintro⟨k,q⟩ ⟨h1k,h2k,h3k⟩;simp[go_sem];refine gw (fun ak=> ?_) (fun ak=> ?_)
    ·have hsk:=aA k (l) (pM m (at1 o i) i);rw[←h2k]at hsk;have hgk:=aF (l:=q) (i:=k) (by omega);obtain⟨r,hr,hrk⟩:=eP hm (i:=(at1 o i).toNat) (k:=k) (by omega) ak;simp[go_sem,hgk];refine gv (fun e=> ?_) (fun e=> ?_)
     ·have e':=e;simp[go_sem,e];refine gv (fun f=> ?_) (fun f=> ?_)
      ·have f':=f;have hv:pM m (at1 o i) i k q=q.set k i:=if_pos ⟨e,.inl (by omega)⟩;have hk0:(at1 o i).toNat=k:=by omega
       have hgk2:q[(at1 o i).toNat]?=some (at1 q k):=by rw[hk0];exact hgk
       simp[go_sem,f,hgk2];iterate 2 refine ai ?_
       refine nx (k+1,q.set (at1 o i).toNat i) ⟨(by omega),(by rw[hsk,hv,hk0]),(by simp[h3k])⟩ (h3:=by simp[go_sem,hg,hgk,hr,hrk,h3k,e,f,hgk2])
      ·have f':=f;simp[go_sem,hr,hrk,f];refine ai ?_;refine gw (fun g=> ?_) (fun g=> ?_)
       ·have hv:pM m (at1 o i) i k q=q.set k i:=if_pos ⟨e,.inr g⟩;simp[go_sem,hgk];refine ai ?_;refine nx (k+1,q.set k i) ⟨(by omega),(by rw[hsk,hv]),(by simp[h3k])⟩
       ·simp at g;have hv:pM m (at1 o i) i k q=q:=if_neg (by omega);simp[go_sem];refine ai ?_;refine nx (k+1,q) ⟨(by omega),(by rw[hsk,hv]),(h3k)⟩
     ·have e':=e;simp at e';have hv:pM m (at1 o i) i k q=q:=if_neg (by omega);simp[go_sem,e];refine ai ?_;refine nx (k+1,q) ⟨(by omega),(by rw[hsk,hv]),(h3k)⟩
    ·simp at ak;have hik:m.length=k:=by omega
     subst hik;simp[go_sem];refine ai ?_;refine nx (i+1,q) ⟨(by omega),(by rw[hs,hu];exact h2k),(h3k)⟩
  ·simp at a;have hi:o.length=i:=by omega
   subst hi;have hp:eF m o=canon l:=by rw[eF,U4,←h2]
   simp[go_sem];refine ck (lF l (by omega)) ?_;simp[go_sem];simp[hp]
theorem asT (n s i:Nat):(List.range (i+1)).map (fun i=>(((s+i) % n:Nat):Int))=(List.range i).map (fun i=>(((s+i) % n:Nat):Int))++[(((s+i) % n:Nat):Int)]:=by simp[List.range_succ]
def ahB (n s i:Nat):List Int:=(List.range i).map fun i=>(((s+i) % n:Nat):Int)
theorem abH (n s:Nat):ahB n s 0=[]:=rfl
theorem abI (n s i:Nat):ahB n s (i+1)=ahB n s i++[(((s+i) % n:Nat):Int)]:=asT n s i
theorem ae3 (n s:Nat):ahB n s n=rot n s:=rfl
theorem agL (n s i:Nat):(ahB n s i).length=i:=by simp[ahB]
theorem aeB (n a b:Nat):((a:Int)+(b:Int)).tmod n=(((a+b) % n:Nat):Int):=by
 rw[←Int.natCast_add];exact(Int.ofNat_tmod _ _).symm
theorem OL (m:List (List Int))(hm:aI m=true):Fk 77 [aL m] (.tup [.val (nInts (fD m).1),.val (dI (fD m).2)]):=by
 refine fE good [] func77 ntmps77 fun w0 ow0=> ?_;have hml:=aP hm;simp[go_sem];refine wlc good [4] (fun(x':(Nat)×(List Int)×(Int))=>match x' with|(i,b,c)=>[(0,.val (aL m)),(4,.val (nInts b)),(5,.val (dI c)),(6,.val (dI i))]) (fun(x':(Nat)×(List Int)×(Int))=>match x' with|(i,b,c)=>m.length-i) (fun(x':(Nat)×(List Int)×(Int))=>match x' with|(i,b,c)=>(i<=m.length)/\((b,c)=loopN i ([], -1) (o7 m))) ((0,[], -1)) ⟨(by omega),rfl⟩ ?_;rintro⟨i,b,c⟩ ⟨h1,h2⟩;simp[go_sem];refine gv (fun a=> ?_) (fun a=> ?_)
 ·have a':=a;simp[go_sem,a];refine ck (aY m) ?_;have hs:=aA i ([], -1) (o7 m);rw[←h2]at hs;have hz:=abH m.length i;simp[go_sem,hm];refine wl good (fun(k:Nat)=>[(0,.val (aL m)),(4,.val (nInts b)),(5,.val (dI c)),(6,.val (dI i)),(7,.own (aD (ahB m.length i k))),(8,.val (dI k))]) (fun(k:Nat)=>m.length-k) (fun(k:Nat)=>(k<=m.length)) (0) (by omega) ?_ (h0:=by simp[go_sem,hm,hz]);rintro k h1k;simp[go_sem];refine gw (fun d=> ?_) (fun d=> ?_)
  ·have hrl:=agL m.length i k;have hrs:=abI m.length i k;have htm:=aeB m.length i k;have hne:¬m=[]:=by intro e;rw[e]at hml;simp at hml
   simp[go_sem,htm,hne];iterate 3 refine ai ?_
   refine nx (k+1) (by first|omega|(simp;omega)|grind) (h3:=by simp[go_sem,hrs,htm,hne])
  ·simp at d;obtain rfl:k=m.length:=by omega
   rw[ae3];have hpl:=MG m (rot m.length i);simp[go_sem];refine ck (BS m (rot m.length i) hm (ak9 hml a)) ?_;simp[go_sem];refine ck (DY m (eF m (rot m.length i)) hm hpl) ?_;simp[go_sem];refine gv (fun e=> ?_) (fun e=> ?_)
   ·have e':=e;have hu:o7 m i (b,c)=(eF m (rot m.length i),aQ m (eF m (rot m.length i))):=if_pos (.inl e);simp[go_sem,e];refine ai ?_;refine nxc (i+1,eF m (rot m.length i),aQ m (eF m (rot m.length i))) [4] ⟨(by omega),(by rw[hs,hu])⟩
   ·have e':=e;simp at e';simp[go_sem,e];refine gw (fun f=> ?_) (fun f=> ?_)
    ·have hu:o7 m i (b,c)=(eF m (rot m.length i),aQ m (eF m (rot m.length i))):=if_pos (.inr f);simp[go_sem];refine ai ?_;refine nxc (i+1,eF m (rot m.length i),aQ m (eF m (rot m.length i))) [4] ⟨(by omega),(by rw[hs,hu])⟩
    ·simp at f;have hu:o7 m i (b,c)=(b,c):=if_neg (by simp only;omega);simp[go_sem];refine ai ?_;refine nxc (i+1,b,c) [4] ⟨(by omega),(by rw[hs,hu])⟩
 ·have a':=a;simp at a';obtain rfl:i=m.length:=by omega
  have hb:fD m=(b,c):=h2.symm;simp[go_sem,a];simp[hb]
def ajA:Nat->List Int->D
 |0,_=> .one (.slice none 0 0)
 |_+1,b=>nInts b
theorem aoE (b:List Int):ajA 0 b= .one (.slice none 0 0):=rfl
theorem amC (i:Nat)(b:List Int):ajA (i+1) b=nInts b:=rfl
theorem aq1 {m:List (List Int)}{i:Nat}{b:List Int}{c:Int}(h2:(b,c)=loopN i ([], -1) (o7 m))(hc:0<=c):ajA i b=nInts b:=by
 cases i with
 |zero=>have e:(b,c)=(([]:List Int),(-1:Int)):=h2
        have:c= -1:=congrArg Prod.snd e;omega
 |succ j=>rfl
theorem PZ (m:List (List Int))(hm:aI m=true):Fk 219 [aL m] (.tup [.val (nInts (fD m).1),.val (dI (fD m).2)]):=by
 refine fE good [] func219 ntmps219 fun w0 ow0=> ?_;have hml:=aP hm;simp[go_sem];refine ck (bV m (by omega) (nM hm)) ?_;have hf0:=aoE [];simp[go_sem,hm];refine wlc good [4] (fun(x':(Nat)×(List Int)×(Int))=>match x' with|(i,b,c)=>[(0,.val (aL m)),(4,.val (ajA i b)),(5,.val (dI c)),(15,.val (dI m.length)),(16,.val (dI i))]) (fun(x':(Nat)×(List Int)×(Int))=>match x' with|(i,b,c)=>m.length-i) (fun(x':(Nat)×(List Int)×(Int))=>match x' with|(i,b,c)=>(i<=m.length)/\((b,c)=loopN i ([], -1) (o7 m))) ((0,[], -1)) ⟨(by omega),(rfl)⟩ ?_ (h0:=by simp[go_sem,hm,hf0]);rintro⟨i,b,c⟩ ⟨h1,h2⟩;simp[go_sem];refine gw (fun a=> ?_) (fun a=> ?_)
 ·have hs:=aA i ([], -1) (o7 m);rw[←h2]at hs;have hf1:=amC i;have hi0:0<=c->ajA i b=nInts b:=aq1 h2;have hz:=abH m.length i;simp[go_sem];refine wl good (fun(k:Nat)=>[(0,.val (aL m)),(4,.val (ajA i b)),(5,.val (dI c)),(6,.val (dI i)),(7,.own (aD (ahB m.length i k))),(15,.val (dI m.length)),(16,.val (dI i)),(20,.val (dI m.length)),(21,.val (dI k))]) (fun(k:Nat)=>m.length-k) (fun(k:Nat)=>(k<=m.length)) (0) (by omega) ?_ (h0:=by simp[go_sem,hm,hf0,hf1,hz]);rintro k h1k;simp[go_sem];refine gw (fun d=> ?_) (fun d=> ?_)
  ·have hrl:=agL m.length i k;have hrs:=abI m.length i k;have htm:=aeB m.length i k;have hne:¬m=[]:=by intro e;rw[e]at hml;simp at hml
   simp[go_sem,htm,hne];iterate 3 refine ai ?_
   refine nx (k+1) (by first|omega|(simp;omega)|grind) (h3:=by simp[go_sem,hf0,hf1,hrs,htm,hne])
  ·simp at d;obtain rfl:k=m.length:=by omega
   rw[ae3];have hpl:=MG m (rot m.length i);simp[go_sem];refine ck (BP m (rot m.length i) hm (ak9 hml a)) ?_;simp[go_sem];refine ck (dY m (eF m (rot m.length i)) hm hpl) ?_;simp[go_sem];refine gv (fun e=> ?_) (fun e=> ?_)
   ·have e':=e;have hu:o7 m i (b,c)=(eF m (rot m.length i),aQ m (eF m (rot m.length i))):=if_pos (.inl e);simp[go_sem,e];refine ai ?_;refine nxc (i+1,eF m (rot m.length i),aQ m (eF m (rot m.length i))) [4] ⟨(by omega),(by rw[hs,hu])⟩ (h3:=by simp[go_sem,hf0,hf1,e])
   ·have e':=e;simp at e';simp[go_sem,e];refine gw (fun f=> ?_) (fun f=> ?_)
    ·have hu:o7 m i (b,c)=(eF m (rot m.length i),aQ m (eF m (rot m.length i))):=if_pos (.inr f);simp[go_sem];refine ai ?_;refine nxc (i+1,eF m (rot m.length i),aQ m (eF m (rot m.length i))) [4] ⟨(by omega),(by rw[hs,hu])⟩ (h3:=by simp[go_sem,hf0,hf1,e])
    ·simp at f;have hu:o7 m i (b,c)=(b,c):=if_neg (by simp only;omega);have hi1:=hi0 (by omega);simp[go_sem,hi1];refine ai ?_;refine nxc (i+1,b,c) [4] ⟨(by omega),(by rw[hs,hu])⟩ (h3:=by simp[go_sem,hf0,hf1,e,hi1])
 ·simp at a;obtain rfl:i=m.length:=by omega
  have hb:fD m=(b,c):=h2.symm;have hfm:ajA m.length b=nInts b:=by obtain⟨j,hj⟩:∃j,m.length=j+1:=⟨m.length-1,by omega⟩;rw[hj];rfl
  simp[go_sem,hfm];simp[hb]
def agN (s:List (List Int))(q:List Con):List Int:=if 6<s.length then jV s q 100 (eY s q)else(oO s q).best
theorem arS {m:List (List Int)}{cs:List Con}{items:List Int}(h:Part m cs items):agN (dZ m items) (bZ cs items)=partOf m cs items:=by
 unfold agN partOf;rw[h.len,MW h.mat (by rw[h.len];exact h.are)]
theorem af2 {s:List (List Int)}{q:List Con}(h:aX s.length q=true):gN q (eY s q)=true:=by
 unfold eY;split
 ·rename_i hk;unfold keepP at hk;simp only[Bool.and_eq_true]at hk;exact hk.1
 ·exact J2 h
theorem JM (s:List (List Int))(q:List Con)(hm:aI s=true)(hcS:aX s.length q=true)(hq:q.length<=1048576):Fk 159 [aL s,bG q] (.val (nInts (agN s q))):=by
 refine fE good [9,17] func159 ntmps159 fun w0 ow0=> ?_;have hml:=aP hm;have hare:=(dA.1 hcS).1;have hst:=LK hm hare;have hsk:=af2 hcS;have hsp:bJ (eY s q)=true:=isPart_iff.2 ⟨hst.2,by omega⟩;have hbp:=KN hm;have hbI:bJ (fD s).1=true:=isPart_iff.2 ⟨hbp.2.1,by omega⟩;have hkp:keepP q (fD s).1=gN q (fD s).1:=by unfold keepP gN;rw[hbI,Bool.and_true]
 simp[go_sem];refine gw (fun a=> ?_) (fun a=> ?_)
 ·have hpS:agN s q=(oO s q).best:=if_neg (by omega);simp[go_sem];refine bP (ab1 s q hm hq) (by simp[go_sem]) ?_;rintro r ⟨kk,rfl⟩;refine⟨by simp[go_sem],?_⟩;simp[go_sem,hpS]
 ·simp at a;have hpS:agN s q=jV s q 100 (eY s q):=if_pos (by omega);simp[go_sem];refine ck (PZ s hm) ?_;simp[go_sem];refine IG good (fun(_:Unit)=>[(0,.val (aL s)),(1,.val (bG q)),(8,.val (nInts (eY s q)))]) (fun(_:Unit)=>True) ?_ ?_
  ·simp[go_sem];refine ck (tX (fD s).1 q (by omega) hq) ?_;simp[go_sem];refine gw (fun d=> ?_) (fun d=> ?_)
   ·simp at d;have hs1:eY s q=aV s.length q:=if_neg (by rw[hkp,d];simp);simp[go_sem];refine ck (oU s.length q (by omega) hq hare) ?_;simp[go_sem];refine jnc (()) [8] trivial (h3:=by simp[go_sem,hpS,hs1])
   ·simp at d;have hs1:eY s q=(fD s).1:=if_pos (by rw[hkp];simpa using d);simp[go_sem];refine jnc (()) [8] trivial (h3:=by simp[go_sem,hpS,hs1])
  rintro⟨⟩ -
  simp[go_sem];refine bP (zS s q (eY s q) hm hsp hst.1 hsk hq) (by simp[go_sem]) ?_;rintro r ⟨kk,rfl⟩;refine⟨by simp[go_sem],?_⟩;simp[go_sem];refine eD good [] (aR 4) ?_;simp[go_sem,hpS]
abbrev sS (m:List (List Int))(cs:List Con)(s:S20):D:= .agg [aL m,bG cs,aD s.best,dI s.cost,dI s.count]
abbrev nS (m:List (List Int))(cs:List Con)(s:S20):D:= .bx false (.agg [aL m,bG cs,nInts s.best,dI s.cost,dI s.count])
def anH (l:List Int)(c:Con):Bool:=decide (c.b=(l.length:Int)-1)&&(decide (at1 l c.a.toNat=at1 l (l.length-1)) !=c.same)
theorem av3 (cs:List Con)(l:List Int):akB cs l=cs.any (anH l):=rfl
theorem X9 (m:List (List Int))(cs:List Con)(s:S20)(l:List Int)(hcs:∀c∈cs,0<=c.a/\c.a<c.b)(hl:1<=l.length/\l.length<=1048576)(hs:cs.length<=1048576):Fk 252 [nS m cs s,nInts l] (.val (dB (akB cs l))):=by
 refine fE good [] func252 ntmps252 fun w0 ow0=> ?_;have hbe:=av3 cs l;simp[go_sem];refine ai ?_;refine wl good (fun(i:Nat)=>[(0,.val (nS m cs s)),(1,.val (nInts l)),(5,.val (dI ((l.length:Int)-1))),(6,.val (dI i))]) (fun(i:Nat)=>(cs).length-i) (fun(i:Nat)=>(i<=(cs).length)/\(((cs).take i).any (anH l)=false)) (0) ⟨(by omega),rfl⟩ ?_;rintro i ⟨h1,h2⟩;simp[go_sem];refine gw (fun a=> ?_) (fun a=> ?_)
 ·obtain⟨c,hc⟩:=aC (l:=cs) (i:=i) (by omega);simp[go_sem];refine wdr good ?_;simp[go_sem,hc];refine gv (fun e=> ?_) (fun e=> ?_)
  ·have e':=e;have hcc:=hcs c (zK hc);have hga:=aF (l:=l) (i:=c.a.toNat) (by omega);have hgb:=aF (l:=l) (i:=l.length-1) (by omega);have hln:((l.length:Int)-1).toNat=l.length-1:=by omega
   simp[go_sem,hc,e,hga,hgb,hln];iterate 2 refine ai ?_
   refine gw (fun f=> ?_) (fun f=> ?_)
   ·simp at f;have hn:=alA hc (P:=(anH l)) (by simp[anH,e];simpa using f);simp[go_sem,hbe,hn]
   ·simp at f;simp[go_sem];refine ai ?_;refine nx (i+1) ⟨(by omega),(eX hc h2 (by simp[anH,e];simpa using f))⟩
  ·have e':=e;simp[go_sem,e];refine ai ?_;refine nx (i+1) ⟨(by omega),(eX hc h2 (by simp[anH,e]))⟩
 ·simp at a;have hf:=j5 h2 a;simp[go_sem,hbe,hf]
def azU (m:List (List Int))(cs:List Con)(d:Nat):Prop:=∀(l:List Int) (top cost:Int) (s:S20),l.length+d=m.length-> -1<=top/\top+1<=l.length->0<=cost/\cost<=8000*l.length->0<=s.count/\s.count+(9^d:Nat)<=4611686018427387904->
 zX prog 193 [.one (.bool false),nInts l,dI top,dI cost] 0 (.bx true (sS m cs s)) (fun r' d'=>r'= .tup []/\d'= .bx true (sS m cs (walk20 m cs d l top cost s)))
theorem au7 (m:List (List Int))(cs:List Con)(d:Nat)(l:List Int)(top cost:Int)(s:S20)(hm:aI m=true)(hcs:aK m.length cs=true)(hrec:∀e,d=e+1->azU m cs e)(hd:l.length+d=m.length)(ht: -1<=top/\top+1<=l.length)(hco:0<=cost/\cost<=8000*l.length)(hcn:0<=s.count/\s.count+(9^d:Nat)<=4611686018427387904):zX prog 193 [.one (.bool false),nInts l,dI top,dI cost] 0 (.bx true (sS m cs s)) (fun r' d'=>r'= .tup []/\d'= .bx true (sS m cs (walk20 m cs d l top cost s))):=by
 refine fMs good [42] func193 ntmps193 fun w0 ow0 v0=> ?_;have hml:=aP hm;have hco2:=fO hcs;have hcut:∀d l top cost s,K4 cost s->walk20 m cs d l top cost s=s:=fun d l top cost s h=>by cases d;(rw[walk20,if_pos h]);(rw[walk20_succ,if_pos h])
 refine IG good (fun(_:Unit)=>[(0,.own (.bx true (sS m cs s))),(1,.val (nInts l)),(2,.val (dI top)),(3,.val (dI cost))]) (fun(_:Unit)=>(¬K4 cost s)) ?_ ?_
 ·simp[go_sem];refine gv (fun a=> ?_) (fun a=> ?_)
  ·have a':=a;simp[go_sem,a];refine gw (fun b=> ?_) (fun b=> ?_)
   ·have hw:=hcut d l top cost s ⟨a,b⟩;simp[go_sem];simp[hw]
   ·simp at b;simp[go_sem];refine jn (()) (by unfold K4;omega)
  ·have a':=a;simp at a';simp[go_sem,a];refine jn (()) (by unfold K4;omega)
 rintro⟨⟩ h5;simp[go_sem];refine gw (fun e=> ?_) (fun e=> ?_)
 ·obtain rfl:d=0:=by omega
  have hw:walk20 m cs 0 l top cost s=LW l cost s:=by rw[walk20,if_neg h5]
  simp[go_sem];refine gv (fun f=> ?_) (fun f=> ?_)
  ·have f':=f;have hw2:LW l cost s=⟨l,cost,1⟩:=if_pos (.inl f);simp[go_sem,f];iterate 2 refine ai ?_
   simp[hw,hw2]
  ·have f':=f;simp at f';simp[go_sem,f];refine gw (fun g=> ?_) (fun g=> ?_)
   ·have hw2:LW l cost s=⟨l,cost,1⟩:=if_pos (.inr g);simp[go_sem];iterate 2 refine ai ?_
    simp[hw,hw2]
   ·simp at g;have hw2:LW l cost s=⟨s.best,s.cost,s.count+1⟩:=if_neg (by omega);simp[go_sem];refine ai ?_;simp[hw,hw2]
 ·obtain⟨d,rfl⟩:∃e,d=e+1:=⟨d-1,by omega⟩;have hwk:=hrec d rfl;have hw:walk20 m cs (d+1) l top cost s=loopN (top+2).toNat s (sV m cs d l top cost):=by rw[walk20_succ,if_neg h5]
  have hp9:=aCI d;have hps:9^(d+1)=9*9^d:=by rw[Nat.pow_succ,Nat.mul_comm]
  simp[go_sem];refine wl good (fun(x':(Nat)×(S20))=>match x' with|(k,x)=>[(0,.own (.bx true (sS m cs x))),(1,.val (nInts l)),(2,.val (dI top)),(3,.val (dI cost)),(8,.val (dI l.length)),(9,.val (dI k))]) (fun(x':(Nat)×(S20))=>match x' with|(k,x)=>(top+2).toNat-k) (fun(x':(Nat)×(S20))=>match x' with|(k,x)=>(k<=(top+2).toNat)/\(x=loopN k s (sV m cs d l top cost))/\(0<=x.count/\x.count<=s.count+(k*9^d:Nat))) ((0,s)) ⟨(by omega),(rfl),(by simp;omega)⟩ ?_;rintro⟨k,x⟩ ⟨h1,h2,h3⟩;simp[go_sem];refine ai ?_;refine gw (fun b=> ?_) (fun b=> ?_)
  ·have hs:=aA k s (sV m cs d l top cost);rw[←h2]at hs;have hbl:(l++[(k:Int)]).length=l.length+1:=by simp
   have hkm:k*9^d+9^d<=9*9^d:=by have:(k+1)*9^d<=9*9^d:=Nat.mul_le_mul_right _ (by omega);rw[Nat.add_mul,Nat.one_mul]at this;exact this
   have hk1:(k+1)*9^d=k*9^d+9^d:=by rw[Nat.add_mul,Nat.one_mul]
   simp[go_sem];iterate 2 refine ai ?_
   refine ckz (X9 m cs x (l++[(k:Int)]) (fun c hc=>⟨(hco2.2.2.2 c hc).1,(hco2.2.2.2 c hc).2.1⟩) (by omega) (by omega)) ?_;simp[go_sem];refine gw (fun f=> ?_) (fun f=> ?_)
   ·have hn:sV m cs d l top cost k x=x:=if_pos f;simp[go_sem];refine ai ?_;refine nx (k+1,x) ⟨(by omega),(by rw[hs,hn]),(by rw[hk1];omega)⟩
   ·have hn:sV m cs d l top cost k x=walk20 m cs d (l++[(k:Int)]) (max top k) (VO m l k l.length cost) x:=if_neg (by simp[f]);simp[go_sem];refine wl good (fun(x':(Nat)×(Int))=>match x' with|(i,c)=>[(0,.own (.bx true (sS m cs x))),(1,.val (nInts l)),(2,.val (dI top)),(3,.val (dI cost)),(8,.val (dI l.length)),(9,.val (dI k)),(10,.own (aD (l++[(k:Int)]))),(11,.val (dI c)),(12,.val (dI i))]) (fun(x':(Nat)×(Int))=>match x' with|(i,c)=>l.length-i) (fun(x':(Nat)×(Int))=>match x' with|(i,c)=>(i<=l.length)/\(c=loopN i cost (fun i s=>s+rZ m l k l.length i))/\(cost<=c/\c<=cost+1000*i)) ((0,cost)) ⟨(by omega),rfl,(by omega)⟩ ?_;rintro⟨i,c⟩ ⟨h1i,h2i,h3i⟩;simp[go_sem];refine gw (fun u=> ?_) (fun u=> ?_)
    ·have hsi:=aA i cost (fun i s=>s+rZ m l k l.length i);rw[←h2i]at hsi;obtain⟨r,hr,hrk⟩:=eP hm (i:=i) (k:=l.length) (by omega) (by omega);have hi:=aF u;have hmb:=cB hm i l.length;simp[go_sem,hr,hrk];refine gv (fun p=> ?_) (fun p=> ?_)
     ·have p':=p;simp[go_sem,hi,p];refine gw (fun q=> ?_) (fun q=> ?_)
      ·have hc:rZ m l k l.length i=at2 m i l.length:=if_pos ⟨p,q⟩;simp[go_sem,hr,hrk];refine ai ?_;refine gv (fun g=> ?_) (fun g=> ?_)
       ·have g':=g;exfalso;omega
       ·have g':=g;simp at g';simp[go_sem,g];refine ai ?_;refine nx (i+1,c+at2 m i l.length) ⟨(by omega),(by rw[hsi,hc]),(by omega)⟩
      ·simp[go_sem,hr,hrk];refine gv (fun g=> ?_) (fun g=> ?_)
       ·have g':=g;exfalso;omega
       ·have g':=g;simp at g';have hc:rZ m l k l.length i=0:=by rw[rZ,if_neg (by simp[q]),if_neg (by omega)]
        simp[go_sem,g];refine ai ?_;refine nx (i+1,c) ⟨(by omega),(by rw[hsi,hc];simp),(by omega)⟩
     ·have p':=p;simp at p';simp[go_sem,hr,hrk,p];refine gv (fun g=> ?_) (fun g=> ?_)
      ·have g':=g;simp[go_sem,hi,g];refine gw (fun q=> ?_) (fun q=> ?_)
       ·have hc:rZ m l k l.length i= - at2 m i l.length:=by rw[rZ,if_neg (by omega),if_pos ⟨g,q⟩]
        simp[go_sem,hr,hrk];iterate 2 refine ai ?_
        refine nx (i+1,c-at2 m i l.length) ⟨(by omega),(by rw[hsi,hc];omega),(by omega)⟩
       ·have hc:rZ m l k l.length i=0:=by rw[rZ,if_neg (by omega),if_neg (by simp[q])]
        simp[go_sem];refine ai ?_;refine nx (i+1,c) ⟨(by omega),(by rw[hsi,hc];simp),(by omega)⟩
      ·have g':=g;simp at g';have hc:rZ m l k l.length i=0:=by rw[rZ,if_neg (by omega),if_neg (by omega)]
       simp[go_sem,g];refine ai ?_;refine nx (i+1,c) ⟨(by omega),(by rw[hsi,hc];simp),(by omega)⟩
    ·simp at u;obtain rfl:i=l.length:=by omega
     have ha:VO m l k l.length cost=c:=h2i.symm;rw[ha]at hn;have hW:=agC (m:=m) (cs:=cs) d (l++[(k:Int)]) (max top k) c x (by omega);simp[go_sem];refine eD good [] (aR 10) ?_;have hcl:=hwk (l++[(k:Int)]) (max top k) c x (by omega) (by omega) (by omega) (by omega);rw[show nInts (l++[(k:Int)])=D.sl none (l.map dI++[dI k]) by simp]at hcl;simp[go_sem];refine dJ rfl (hcl) ?_;rintro r d ⟨rfl,rfl⟩;simp[go_sem];refine ai ?_;refine nx (k+1,walk20 m cs d (l++[(k:Int)]) (max top k) c x) ⟨(by omega),(by rw[hs,hn]),(by have:=hW.lo h3.1;have:=hW.hi h3.1;rw[hk1];omega)⟩
  ·simp at b;obtain rfl:k=(top+2).toNat:=by omega
   simp[go_sem];simp[hw,h2]
theorem DU (m:List (List Int))(cs:List Con)(hm:aI m=true)(hcs:aK m.length cs=true):∀d,azU m cs d
 |0=>fun l top cost s h1 h2 h3 h4=>au7 m cs 0 l top cost s hm hcs (fun e he=>by omega) h1 h2 h3 h4
 |d+1=>fun l top cost s h1 h2 h3 h4=>au7 m cs (d+1) l top cost s hm hcs (fun e he=>by obtain rfl:d=e:=(by omega);exact DU m cs hm hcs d) h1 h2 h3 h4
theorem YN (m:List (List Int))(cs:List Con)(hm:aI m=true:=by first|assumption|omega|(simp;omega)|grind)(hcs:aX m.length cs=true:=by first|assumption|omega|(simp;omega)|grind):Fk 127 [aL m,bG cs] (.tup [.own (sS m cs (TH m cs)),.val (dB true)]):=by
 refine fE good [] func127 ntmps127 fun w0 ow0=> ?_;have hml:=aP hm;have hc1:aK m.length cs=true:=by simp only[aX,Bool.and_eq_true]at hcs;exact hcs.1
 have hc2:nJ m.length cs<0:=by simp only[aX,Bool.and_eq_true,decide_eq_true_eq]at hcs;exact hcs.2
 have hco2:=fO hc1;simp[go_sem];refine ck (aY m) ?_;simp[go_sem,hm];refine ck (uG m.length cs) ?_;have hp9:(9^m.length:Nat)<=9^8:=Nat.pow_le_pow_right (by omega) hml.2;have hw:=DU m cs hm hc1 m.length [] (-1) 0 ⟨[], -1,0⟩ (by simp) (by simp) (by simp) ⟨by simp,by show(0:Int)+((9^m.length:Nat):Int)<=_;omega⟩;simp[go_sem,hc1,hc2];refine dJ rfl (hw) ?_;rintro r d ⟨rfl,rfl⟩;have hr:walk20 m cs m.length [] (-1) 0 ⟨[], -1,0⟩=TH m cs:=rfl;simp[go_sem,hr]
theorem EF (m:List (List Int))(cs:List Con)(hm:aI m=true)(hcs:aX m.length cs=true):Fk 76 [aL m,bG cs] (.tup [.val (nInts (TH m cs).best),.val (dI (TH m cs).cost),.val (dB true)]):=by
 refine fE good [] func76 ntmps76 fun w0 ow0=> ?_;simp[go_sem];refine ck (YN m cs) ?_;simp[go_sem];refine eD good [] (aR 7) ?_;simp[go_sem];refine wdr good ?_;simp[go_sem]
theorem al8 {l:List Tri}(h:∀t∈l,0<=t.w)(x y:Int):0<=qF l x y:=by
 have key:∀(l:List Tri) (s:Int),0<=s->(∀t∈l,0<=t.w)->0<=l.foldl (fun s t=>if x8 x y t=true then s+t.w else s) s:=by
  intro l
  induction l with
  |nil=>intro s hs _;exact hs
  |cons t l ih=>
   intro s hs h;have h1:=h t (by simp);rw[List.foldl_cons];exact ih _ (by split<;>omega) (fun t ht=>h t (List.mem_cons_of_mem _ ht))
 exact key l 0 (by omega) h
def ahN (m:List (List Int))(t:Tri):Bool:=nE m t.a t.b t.c&&inR t.w 1 1000
def amW (m:List (List Int))(l:List Tri)(x y:Nat):Bool:=decide (qF l x y<=rJ (at2 m x y))
def acN (m:List (List Int))(l:List Tri)(x:Nat):Bool:=(List.range m.length).all fun y=>decide (y<=x)||amW m l x y
def KF (m:List (List Int))(l:List Tri):Bool:=l.all (ahN m)&&(List.range m.length).all (acN m l)&&decide (l.length<=100)
theorem aAV {n x y:Nat}{P:Nat->Bool}(hx:x<y)(hy:y<n)(h:P y=false):(List.range n).all (fun y=>decide (y<=x)||P y)=false:=gZ hy (by simp[h];omega)
theorem PP (m:List (List Int))(l:List Tri)(hm:aI m=true)(hl:l.length<=1048576)(hw:∀t∈l, -1048576<=t.w/\t.w<=1048576):Fk 196 [aL m,xM l] (.val (dB (KF m l))):=by
 refine fE good [] func196 ntmps196 fun w0 ow0=> ?_;have hml:=aP hm;simp[go_sem];refine wl good (fun(i:Nat)=>[(0,.val (aL m)),(1,.val (xM l)),(5,.val (dI i))]) (fun(i:Nat)=>(l).length-i) (fun(i:Nat)=>(i<=(l).length)/\(((l).take i).all (ahN m)=true)) (0) ⟨(by omega),rfl⟩ ?_;rintro i ⟨h1,h2⟩;simp[go_sem];refine gw (fun a=> ?_) (fun a=> ?_)
 ·obtain⟨c,hc⟩:=aC (l:=l) (i:=i) (by omega);simp[go_sem];refine wdr good ?_;simp[go_sem,hc];refine cd (rR m c.a c.b c.c) ?_;simp[go_sem];refine gv (fun e=> ?_) (fun e=> ?_)
  ·have e':=e;simp at e';have hn:=bO hc (P:=(ahN m)) (by simp[ahN];simp at e;simp[e]);have hp:KF m l=false:=by simp only[KF];rw[hn];rfl
   simp[go_sem,e,hp]
  ·have e':=e;simp at e';simp[go_sem,hc,e];refine cd (aH c.w 1 1000) ?_;simp[go_sem];refine gw (fun f=> ?_) (fun f=> ?_)
   ·simp at f;have hn:=bO hc (P:=(ahN m)) (by simp only[ahN];rw[show inR c.w 1 1000=false by simp;omega];simp);have hp:KF m l=false:=by simp only[KF];rw[hn];rfl
    simp[go_sem,hp]
   ·simp at f;simp[go_sem];refine ai ?_;refine nx (i+1) ⟨(by omega),(aM hc h2 (by simp only[ahN];rw[show inR c.w 1 1000=true by simp;omega,e'];rfl))⟩
 ·simp at a;have hf:=dM h2 a;simp[go_sem];refine wl good (fun(x:Nat)=>[(0,.val (aL m)),(1,.val (xM l)),(6,.val (dI x))]) (fun(x:Nat)=>m.length-x) (fun(x:Nat)=>(x<=m.length)/\((List.range x).all (acN m l)=true)) (0) ⟨(by omega),rfl⟩ ?_;rintro x ⟨h1x,h2x⟩;simp[go_sem];refine gw (fun ax=> ?_) (fun ax=> ?_)
  ·simp[go_sem];refine ai ?_;refine wl good (fun(y:Nat)=>[(0,.val (aL m)),(1,.val (xM l)),(6,.val (dI x)),(7,.val (dI y))]) (fun(y:Nat)=>m.length-y) (fun(y:Nat)=>(x<y/\y<=m.length)/\(∀z<y,(decide (z<=x)||amW m l x z)=true)) (x+1) ⟨(by omega),(fun z hz=>by simp;omega)⟩ ?_;rintro y ⟨h3,h4⟩;simp[go_sem];refine gw (fun d=> ?_) (fun d=> ?_)
   ·obtain⟨r,hr,hrk⟩:=eP hm (i:=x) (k:=y) (by omega) (by omega);have hb:=cB hm x y;simp[go_sem];refine wdr good ?_;simp[go_sem];refine cd (aY m) ?_;simp[go_sem,hm];refine cd (pO l x y) ?_;simp[go_sem,hr,hrk];refine cd (iP (at2 m x y) (by omega)) ?_;simp[go_sem];refine gw (fun e=> ?_) (fun e=> ?_)
    ·have hu:amW m l x y=false:=by simp[amW];omega
     have hp:KF m l=false:=by simp only[KF];rw[gZ ax (aAV (by omega) d hu)];simp
     simp[go_sem,hp]
    ·simp at e;have hu:amW m l x y=true:=by simp[amW];omega
     simp[go_sem];refine ai ?_;refine nx (y+1) ⟨(by omega),(fun z hz=>by by_cases hzy:z=y;(subst hzy;rw[hu];simp);exact h4 z (by omega))⟩
   ·simp at d;have hrow:acN m l x=true:=by rw[acN,List.all_eq_true];intro z hz;exact h4 z (by have:=List.mem_range.1 hz;omega)
    simp[go_sem];refine ai ?_;refine nx (x+1) ⟨(by omega),(nD h2x hrow)⟩
  ·simp at ax;have hfx:=BC (n:=m.length) h2x (by omega) (by omega);simp[go_sem];refine ck (aY m) ?_;have hp:KF m l=decide (l.length<=100):=by simp only[KF];rw[hf,hfx];simp
   simp[go_sem,hm,hp];omega
def NB (m:List (List Int))(l:List Tri):Int:=if KF m l=true then l.foldl (fun s t=>s+t.w) 0 else -1
theorem afP {l:List Tri}(h:∀t∈l, -1048576<=t.w/\t.w<=1048576)(i:Nat): -(1048576*(i:Int))<=(l.take i).foldl (fun(s:Int) t=>s+t.w) (0:Int)/\(l.take i).foldl (fun(s:Int) t=>s+t.w) (0:Int)<=1048576*(i:Int):=by
 induction i with
 |zero=>rw[List.take_zero,List.foldl_nil];omega
 |succ i ih=>
  by_cases hi:i<l.length
  ·obtain⟨t,ht⟩:=aC hi;have h1:=h t (zK ht);have h2:=bC (fun(s:Int) (t:Tri)=>s+t.w) 0 ht;rw[h2];omega
  ·have e:l.take (i+1)=l.take i:=by rw[aO (by omega),aO (by omega)]
   rw[e];omega
theorem as4 {m:List (List Int)}{l:List Tri}(h:∀t∈l, -1048576<=t.w/\t.w<=1048576)(hl:l.length<=1048576): -1099511627777<=NB m l/\NB m l<=1099511627777:=by
 have:=afP h l.length;rw[List.take_length]at this;unfold NB;split<;>omega
theorem GD (m:List (List Int))(l:List Tri)(hm:aI m=true)(hl:l.length<=1048576)(hw:∀t∈l, -1048576<=t.w/\t.w<=1048576):Fk 134 [aL m,xM l] (.val (dI (NB m l))):=by
 refine fE good [] func134 ntmps134 fun w0 ow0=> ?_;simp[go_sem];refine ck (PP m l hm hl hw) ?_;simp[go_sem];refine gw (fun a=> ?_) (fun a=> ?_)
 ·simp at a;have hp:NB m l= -1:=if_neg (by simp[a]);simp[go_sem,hp]
 ·simp at a;have hp:NB m l=l.foldl (fun s t=>s+t.w) 0:=if_pos (by simpa using a);simp[go_sem];refine wl good (fun(x':(Nat)×(Int))=>match x' with|(i,s)=>[(1,.val (xM l)),(5,.val (dI s)),(6,.val (dI i))]) (fun(x':(Nat)×(Int))=>match x' with|(i,s)=>l.length-i) (fun(x':(Nat)×(Int))=>match x' with|(i,s)=>(i<=l.length)/\(s=(l.take i).foldl (fun s t=>s+t.w) 0)) ((0,0)) ⟨(by omega),(rfl)⟩ ?_;rintro⟨i,s⟩ ⟨h1,h2⟩;have hfb:=afP hw i;rw[←h2]at hfb;simp[go_sem];refine gw (fun b=> ?_) (fun b=> ?_)
  ·obtain⟨t,ht⟩:=aC b;have hwt:=hw t (zK ht);have hm2:=bC (fun(s:Int) (t:Tri)=>s+t.w) 0 ht;rw[←h2]at hm2;simp[go_sem,ht];iterate 2 refine ai ?_
   refine nx (i+1,s+t.w) ⟨(by omega),(hm2.symm)⟩
  ·simp at b;rw[aO b]at h2;simp[go_sem];simp[hp,h2]
def gw3 (m:List (List Int))(o:List Tri)(t:Tri):Int:=min (rJ (at2 m t.a.toNat t.b.toNat)-qF o t.a t.b) (min (rJ (at2 m t.a.toNat t.c.toNat)-qF o t.a t.c) (rJ (at2 m t.b.toNat t.c.toNat)-qF o t.b t.c))
def KC (m:List (List Int))(o:List Tri)(t:Tri):List Tri:=if 0<gw3 m o t then o++[⟨t.a,t.b,t.c,gw3 m o t⟩]else o
def ac2 (m:List (List Int)):List Tri:=(vX m).foldl (KC m) []
theorem ae4 {m:List (List Int)}(hm:aI m=true){o:List Tri}{t:Tri}{k:Nat}(h:C8 m k o)(ht:OC m.length t):C8 m (k+1) (KC m o t):=by
 unfold KC;split
 ·rename_i hpos;have z1:=al8 (fun t ht=>(h.2 t ht).2.2.2.2.1) t.a t.b;have v1:=DC (cB hm t.a.toNat t.b.toNat);have hle:gw3 m o t<=1000:=by unfold gw3;omega
  refine⟨by have:=h.1;simp;omega,fun t' ht'=> ?_⟩;rcases List.mem_append.1 ht' with h2|h2
  ·exact h.2 t' h2
  ·rw[List.mem_singleton.1 h2];unfold OC at ht|-;simp only;omega
 ·exact⟨by have:=h.1;omega,h.2⟩
theorem anZ {m:List (List Int)}(hm:aI m=true):C8 m 512 (ac2 m):=by
 have hb:=XI hm m.length;have h8:=aP hm
 have key:∀(L o:List Tri) (k:Nat),(∀t∈L,OC m.length t)->C8 m k o->C8 m (k+L.length) (L.foldl (KC m) o):=by
  intro L
  induction L with
  |nil=>intro o k _ h;exact h
  |cons t L ih=>
   intro o k hL h;have:=ih (KC m o t) (k+1) (fun t ht=>hL t (List.mem_cons_of_mem _ ht)) (ae4 hm h (hL t (by simp)));rw[List.foldl_cons,List.length_cons,show k+(L.length+1)=k+1+L.length by omega];exact this
 have h1:=key (vX m) [] 0 hb.2 ⟨by simp,by simp⟩;have hbl:(vX m).length<=64*m.length:=hb.1;exact⟨Nat.le_trans h1.1 (by omega),h1.2⟩
theorem EH (m:List (List Int))(hm:aI m=true):Fk 84 [aL m] (.own (qE (ac2 m))):=by
 refine fE good [] func84 ntmps84 fun w0 ow0=> ?_;have hml:=aP hm;have hb:=XI hm m.length;have hgr:ac2 m=(vX m).foldl (KC m) []:=rfl;have hL512:(vX m).length<=512:=Nat.le_trans hb.1 (by omega);have hLt:∀t∈vX m,OC m.length t:=hb.2;simp[go_sem];refine ck (EU m hm) ?_;clear hb;generalize vX m=L at*
 simp[go_sem];refine wl good (fun(x':(Nat)×(List Tri))=>match x' with|(i,o)=>[(0,.val (aL m)),(3,.own (qE o)),(4,.own (qE L)),(5,.val (dI i))]) (fun(x':(Nat)×(List Tri))=>match x' with|(i,o)=>L.length-i) (fun(x':(Nat)×(List Tri))=>match x' with|(i,o)=>(i<=L.length)/\(o=(L.take i).foldl (KC m) [])/\(C8 m i o)) ((0,[])) ⟨(by omega),(rfl),(⟨by simp,by simp⟩)⟩ ?_;rintro⟨i,o⟩ ⟨h1,h2,h3⟩;simp[go_sem];refine gw (fun a=> ?_) (fun a=> ?_)
 ·obtain⟨t,ht⟩:=aC a;have hk0:=hLt t (zK ht);have hok:=ae4 hm h3 hk0;have hk:=hk0;unfold OC at hk;have hm2:=bC (KC m) [] ht;rw[←h2]at hm2;obtain⟨r,hr,hrb⟩:=eP hm (i:=t.a.toNat) (k:=t.b.toNat) (by omega) (by omega);obtain⟨r',hr',hrc⟩:=eP hm (i:=t.a.toNat) (k:=t.c.toNat) (by omega) (by omega);obtain rfl:r=r':=by rw[hr]at hr';exact Option.some.inj hr'
  obtain⟨q,hq,hqc⟩:=eP hm (i:=t.b.toNat) (k:=t.c.toNat) (by omega) (by omega);have ha0:0<=t.a:=hk.1;have hb0:0<=t.b:=by omega
  have hc0:0<=t.c:=by omega
  have hol:=h3.1;have hwo:∀t∈o, -1000<=t.w/\t.w<=1000:=fun t ht=>by have:=h3.2 t ht;unfold OC at this;omega
  have hwo2:∀t∈o, -1048576<=t.w/\t.w<=1048576:=fun t ht=>by have:=hwo t ht;omega
  have u1:=X4 (by omega) hwo t.a t.b;have u2:=X4 (by omega) hwo t.a t.c;have u3:=X4 (by omega) hwo t.b t.c;have v1:=DC (cB hm t.a.toNat t.b.toNat);have v2:=DC (cB hm t.a.toNat t.c.toNat);have v3:=DC (cB hm t.b.toNat t.c.toNat);have hgw:min (rJ (at2 m t.a.toNat t.b.toNat)-qF o t.a t.b) (min (rJ (at2 m t.a.toNat t.c.toNat)-qF o t.a t.c) (rJ (at2 m t.b.toNat t.c.toNat)-qF o t.b t.c))=gw3 m o t:=rfl;simp[go_sem,ht];refine wdt good 52 ?_;simp[go_sem,hr,hrb,ha0,hb0];refine cd (iP (at2 m t.a.toNat t.b.toNat) (by have:=cB hm t.a.toNat t.b.toNat;omega)) ?_;simp[go_sem];refine cd (pO o t.a t.b (by omega) hwo2) ?_;simp[go_sem,hr,hrc,ha0,hc0];refine ai ?_;refine cd (iP (at2 m t.a.toNat t.c.toNat) (by have:=cB hm t.a.toNat t.c.toNat;omega)) ?_;simp[go_sem];refine cd (pO o t.a t.c (by omega) hwo2) ?_;simp[go_sem,hq,hqc,hb0,hc0];refine ai ?_;refine cd (iP (at2 m t.b.toNat t.c.toNat) (by have:=cB hm t.b.toNat t.c.toNat;omega)) ?_;simp[go_sem];refine cd (pO o t.b t.c (by omega) hwo2) ?_;simp[go_sem,hgw];refine ai ?_;refine gw (fun f=> ?_) (fun f=> ?_)
  ·have hu:KC m o t=o++[⟨t.a,t.b,t.c,gw3 m o t⟩]:=if_pos f;rw[hu]at hok;simp[go_sem];iterate 2 refine ai ?_
   refine nx (i+1,o++[⟨t.a,t.b,t.c,gw3 m o t⟩]) ⟨(by omega),(by rw[hm2,hu]),(hok)⟩
  ·simp at f;have hu:KC m o t=o:=if_neg (by omega);rw[hu]at hok;simp[go_sem];refine ai ?_;refine nx (i+1,o) ⟨(by omega),(by rw[hm2,hu]),(hok)⟩
 ·simp at a;rw[aO a]at h2;simp[go_sem];simp[hgr,←h2]
def aw4 (m:List (List Int))(x:List Int)(l:List Tri):Int:=if mV m x<0\/NB m l<0 then -1 else mV m x-NB m l
theorem D9 (m:List (List Int))(x:List Int)(l:List Tri)(hm:aI m=true)(hx:x.length<=1048576)(hl:l.length<=1048576)(hw:∀t∈l, -1048576<=t.w/\t.w<=1048576):Fk 83 [aL m,nInts x,xM l] (.val (dI (aw4 m x l))):=by
 refine fE good [] func83 ntmps83 fun w0 ow0=> ?_;have hml:=aP hm;have hp:=rM m x;have hq:=as4 (m:=m) hw hl;have e1:(if aI m=true/\bJ x=true/\x.length=m.length then aQ m x else -1)=mV m x:=rfl;simp[go_sem];refine ck ((e1▸gJ m x (by omega) hx)) ?_;simp[go_sem];refine ck (GD m l hm hl hw) ?_;simp[go_sem];refine gv (fun a=> ?_) (fun a=> ?_)
 ·have a':=a;simp[go_sem,a];grind[aw4]
 ·have a':=a;simp at a';simp[go_sem,a];refine gw (fun d=> ?_) (fun d=> ?_)
  ·simp[go_sem];grind[aw4]
  ·simp at d;have hg:aw4 m x l=mV m x-NB m l:=if_neg (by omega);simp[go_sem,hg];simp only[inI];omega
abbrev JX (l:List Int)(c:Int)(e:Bool)(g:Int):D:= .agg [aD l,dI c,dB e,dI g]
theorem TG (l:List Con)(items:List Int):(bZ l items).length<=l.length:=List.length_filterMap_le _ _
theorem FI (m:List (List Int))(cs:List Con)(hm:aI m=true)(hcs:cs.length<=1048576):bR prog 31 [aL m,bG cs] (fun r'=>∃(c:Int) (e:Bool) (g:Int),r'= .tup [.own (JX (iC m cs) c e g),.val (dB (aX m.length cs))]):=by
 refine fE good [22,23,29] func31 ntmps31 fun w0 ow0=> ?_;have hml:=aP hm;have ecs:(aK (m.length:Int) cs&&decide (nJ m.length cs<0))=aX m.length cs:=rfl;simp[go_sem];refine ck (aY m) ?_;simp[go_sem,hm];refine ck (uG m.length cs (by omega) hcs) ?_;simp[go_sem,ecs];refine gw (fun a=> ?_) (fun a=> ?_)
 ·simp at a;have hcA:iC m cs=[]:=if_neg (by simp[a]);simp[go_sem,hcA];omega
 ·simp at a;have hcc:aX m.length cs=true:=by simpa using a
  have hcA:iC m cs=iE m cs:=if_pos hcc;have hac:=(dA.1 hcc).1;have hsp:=yU hm hac;simp[go_sem];refine ck (JO m cs (by omega) hcs) ?_;simp[go_sem];refine ck (qC (aN m cs) (by omega) (.inr hsp.2.1)) ?_;have hbs:∀v,v<(blocksP (aN m cs)).length->GK m.length (gat (blocksP (aN m cs)) v)/\1<=(gat (blocksP (aN m cs)) v).length/\(gat (blocksP (aN m cs)) v).length<=m.length:=fun v hv=>by have:=JA (isPart_iff.1 hsp.2.1).1 hv;rwa [hsp.2.2]at this
  have hcl:iE m cs=canon (ZV m cs (blocksP (aN m cs))):=rfl;have hll:=RQ m cs (blocksP (aN m cs));have hbl:(blocksP (aN m cs)).length<=m.length:=Nat.le_trans (blocksI (isPart_iff.1 hsp.2.1).1 (Nat.le_refl _)).len (Nat.le_of_eq hsp.2.2);generalize hbsg:blocksP (aN m cs)=bs at hbs hcl hll hbl|-
  simp[go_sem];refine ai ?_;refine wl good (fun(x':(Nat)×(List Int)×(Bool))=>match x' with|(i,L,e)=>[(0,.val (aL m)),(1,.val (bG cs)),(4,.own (.bx true (JX [] 0 false 0))),(6,.own (eB bs)),(7,.own (aD L)),(8,.own (.bx true (JX [] 0 e 0))),(9,.val (dI i))]) (fun(x':(Nat)×(List Int)×(Bool))=>match x' with|(i,L,e)=>bs.length-i) (fun(x':(Nat)×(List Int)×(Bool))=>match x' with|(i,L,e)=>(i<=bs.length)/\(L=loopN i (List.replicate m.length 0) (vY m cs bs))) ((0,List.replicate m.length 0,true)) ⟨(by omega),(rfl)⟩ ?_;rintro⟨i,L,e⟩ ⟨h1,h2⟩;simp[go_sem];refine gw (fun b=> ?_) (fun b=> ?_)
  ·have hr:=XL b;have hsel:=hbs i b;have hpt:=abQ hm hcc hsel.1 hsel.2.1 hsel.2.2;have hok:=aaF hpt;have hLl:L.length=m.length:=by rw[h2,qL (G7 m cs bs)];simp
   generalize hit:gat bs i=items at hr hsel hpt hok|-
   have hsl:=hpt.len;simp[go_sem,hr];refine ck (NS m items hm hsel.1 (by omega)) ?_;simp[go_sem,hr];refine ck (wD cs items hcs (by omega)) ?_;have hmS:=hpt.mat;have hcS:aX (dZ m items).length (bZ cs items)=true:=by rw[hsl];exact hpt.con
   have hrl:(bZ cs items).length<=1048576:=by have:=TG cs items;omega
   have hst:=LK hmS (r:=bZ cs items) (by rw[hsl];exact hpt.are);have hsO:eY (dZ m items) (bZ cs items)=if keepP (bZ cs items) (fD (dZ m items)).1=true then(fD (dZ m items)).1 else aV (dZ m items).length (bZ cs items):=rfl
   have hpO:partOf m cs items=if 6<items.length then jV (dZ m items) (bZ cs items) 100 (eY (dZ m items) (bZ cs items))else(TH (dZ m items) (bZ cs items)).best:=rfl
   have hbp:=KN hmS;have hare:aK (dZ m items).length (bZ cs items)=true:=by rw[hsl];exact hpt.are
   generalize dZ m items=s at*
   generalize bZ cs items=q at*
   simp[go_sem];refine eD good [] (mG.trans (aR 10) (aR 11)) ?_;simp[go_sem];refine ck (EF s q hmS hcS) ?_;simp[go_sem];refine IG good (fun(e2:Bool)=>[(0,.val (aL m)),(1,.val (bG cs)),(4,.own (.bx true (JX [] 0 false 0))),(6,.own (eB bs)),(7,.own (aD L)),(8,.own (.bx true (JX [] 0 e2 0))),(9,.val (dI i)),(12,.val (nInts (partOf m cs items)))]) (fun(e2:Bool)=>True) ?_ ?_
   ·simp[go_sem,hr];refine gw (fun c=> ?_) (fun c=> ?_)
    ·simp[go_sem];refine ck (OL s hmS) ?_;simp[go_sem];refine IG good (fun(_:Unit)=>[(0,.val (aL m)),(1,.val (bG cs)),(4,.own (.bx true (JX [] 0 false 0))),(6,.own (eB bs)),(7,.own (aD L)),(8,.own (.bx true (JX [] 0 false 0))),(9,.val (dI i)),(10,.val (aL s)),(11,.val (bG q)),(15,.val (nInts (eY s q)))]) (fun(_:Unit)=>True) ?_ ?_
     ·simp[go_sem];refine ck (kK (fD s).1 q (by omega) hrl) ?_;have hkO:(q.all (oH (fD s).1)&&bJ (fD s).1)=keepP q (fD s).1:=rfl;simp[go_sem,hkO];refine gw (fun d=> ?_) (fun d=> ?_)
      ·simp at d;have hs1:eY s q=aV s.length q:=by rw[hsO];exact if_neg (by simpa using d)
       simp[go_sem];refine ck (oQ s.length q (by omega) hrl) ?_;have hs2:(if aK s.length q=true then aV s.length q else[])=aV s.length q:=if_pos hare;simp[go_sem,hs2];refine jnc (()) [15] trivial (h3:=by simp[go_sem,hm,ecs,hr,hkO,hs1,hs2])
      ·simp at d;have hs1:eY s q=(fD s).1:=by rw[hsO];exact if_pos (by simpa using d)
       simp[go_sem];refine jnc (()) [15] trivial (h3:=by simp[go_sem,hm,ecs,hr,hkO,hs1])
     rintro⟨⟩ -
     simp[go_sem];refine bP (zJ s q (eY s q) (by omega) hrl (by omega)) (by simp[go_sem]) ?_;rintro r ⟨kk,rfl⟩;refine⟨by simp[go_sem],?_⟩;have hp1:partOf m cs items=jV s q 100 (eY s q):=by rw[hpO];exact if_pos (by omega)
     simp[go_sem];refine jnc (false) [12] trivial (h3:=by simp[go_sem,hm,ecs,hr,hp1])
    ·simp at c;have hp1:partOf m cs items=(TH s q).best:=by rw[hpO];exact if_neg (by omega)
     simp[go_sem];refine jnc (e) [12] trivial (h3:=by simp[go_sem,hm,ecs,hr,hp1])
   rintro e2 -
   simp[go_sem];refine wl good (fun(x':(Nat)×(List Int))=>match x' with|(j,L')=>[(0,.val (aL m)),(1,.val (bG cs)),(4,.own (.bx true (JX [] 0 false 0))),(6,.own (eB bs)),(7,.own (aD L')),(8,.own (.bx true (JX [] 0 e2 0))),(9,.val (dI i)),(12,.val (nInts (partOf m cs items))),(17,.val (dI j))]) (fun(x':(Nat)×(List Int))=>match x' with|(j,L')=>items.length-j) (fun(x':(Nat)×(List Int))=>match x' with|(j,L')=>(j<=items.length)/\(L'=loopN j L (UK items (partOf m cs items) i))) ((0,L)) ⟨(by omega),(rfl)⟩ ?_;rintro⟨j,L'⟩ ⟨h5,h6⟩;simp[go_sem,hr];refine gw (fun f=> ?_) (fun f=> ?_)
   ·have hg:=aF f;have hgx:=hsel.1.1 _ (List.mem_of_getElem? hg);have hpl:j<(partOf m cs items).length:=by omega
    have hg2:=aF hpl;have hb2:=arV hok.2 j hpl;have hLl2:L'.length=m.length:=by rw[h6,qL fun k l=>by simp[UK]];exact hLl
    have hpu:UK items (partOf m cs items) i j L'=L'.set (at1 items j).toNat (i*8+at1 (partOf m cs items) j):=rfl;have hput:(L'.map dI).set (at1 items j).toNat (D.one (.int .i64 ((i:Int)*8+at1 (partOf m cs items) j)))=(UK items (partOf m cs items) i j L').map dI:=by rw[hpu,List.map_set]
    have hb1:=(hok.2 j hpl).1;have ha0:0<=at1 items j:=hgx.1;obtain⟨u,hu⟩:=aC (l:=L') (i:=(at1 items j).toNat) (by omega);generalize partOf m cs items=pp at*
    simp[go_sem];refine wdt good 16 ?_;simp[go_sem,hr,hg,hg2,hu,ha0,hput];iterate 3 refine ai ?_
    refine nx (j+1,UK items pp i j L') ⟨(by omega),(by rw[aA,←h6])⟩
   ·simp at f;obtain rfl:j=items.length:=by omega
    have hpA:vY m cs bs i L=L':=by rw[vY,hit,h6]
    simp[go_sem];refine ai ?_;refine nx (i+1,L',e2) ⟨(by omega),(by rw[aA,←h2,hpA])⟩
  ·simp at b;obtain rfl:i=bs.length:=by omega
   have hLc:canon L=iE m cs:=by rw[hcl,h2];rfl
   have hLl:L.length=m.length:=by rw[h2];exact hll
   have hcln:(iE m cs).length=m.length:=by rw[←hLc,jI,hLl]
   simp[go_sem];refine ck (lF L (by omega)) ?_;have hpc:(if aI m=true/\bJ (iE m cs)=true/\(iE m cs).length=m.length then aQ m (iE m cs)else -1)=mV m (iE m cs):=rfl;simp[go_sem,hLc];refine ck ((hpc▸gJ m (iE m cs) (by omega) (by omega))) ?_;generalize iE m cs=X at*
   simp[go_sem];refine gw (fun d=> ?_) (fun d=> ?_)
   ·simp at d;have hgr:=anZ hm;obtain rfl:e=false:=d;simp[go_sem];refine wdf good [(4,[128,129]),(7,[131,130,8,126,127])] [(0,.val (aL m)),(4,.own (.bx true (JX [] 0 false 0))),(8,.own (.bx true (JX X (mV m X) false 0)))] [] (by simp[go_sem]) ?_;simp[go_sem];refine cf (EH m hm) ?_;simp[go_sem];refine cd (D9 m X (ac2 m) hm (by omega) (by have:=hgr.1;omega) (fun t ht=>by have:=hgr.2 t ht;unfold OC at this;omega)) ?_;simp[go_sem];first|exact hcA|exact hcA.symm|exact⟨hcA.symm,hcc.symm⟩|simp[hcA,hcc]
   ·simp at d;obtain rfl:e=true:=d;simp[go_sem];first|exact hcA|exact hcA.symm|exact⟨hcA.symm,hcc.symm⟩|simp[hcA,hcc]
theorem E8 (m:List (List Int))(cs:List Con)(hm:aI m=true)(hcs:cs.length<=1048576):bR prog 98 [aL m,bG cs] (fun r'=>∃(c:Int) (e:Bool) (g:Int),r'= .tup [.own (JX (iC m cs) c e g),.val (dB (aX m.length cs))]):=by
 refine fE good [14] func98 ntmps98 fun w0 ow0=> ?_;have hml:=aP hm;simp[go_sem];refine ck (MF m cs (by omega) (nM hm) hcs) ?_;simp[go_sem,hm];refine gw (fun a=> ?_) (fun a=> ?_)
 ·simp at a;have hcA:iC m cs=[]:=if_neg (by simp[a]);have hcn:aX m.length cs=false:=by simpa using a
  simp[go_sem,hcA,hcn]
 ·simp at a;have hcc:aX m.length cs=true:=by simpa using a
  have hcA:iC m cs=iE m cs:=if_pos hcc;have hac:=(dA.1 hcc).1;have hsp:=yU hm hac;simp[go_sem,hcc];refine ai ?_;refine ck (JN m cs hcs hm hac) ?_;simp[go_sem];refine ck (FL (aN m cs) (by omega) (.inr hsp.2.1)) ?_;have hbs:∀v,v<(blocksP (aN m cs)).length->GK m.length (gat (blocksP (aN m cs)) v)/\1<=(gat (blocksP (aN m cs)) v).length/\(gat (blocksP (aN m cs)) v).length<=m.length:=fun v hv=>by have:=JA (isPart_iff.1 hsp.2.1).1 hv;rwa [hsp.2.2]at this
  have hcl:iE m cs=canon (ZV m cs (blocksP (aN m cs))):=rfl;have hll:=RQ m cs (blocksP (aN m cs));have hbl:(blocksP (aN m cs)).length<=m.length:=Nat.le_trans (blocksI (isPart_iff.1 hsp.2.1).1 (Nat.le_refl _)).len (Nat.le_of_eq hsp.2.2);generalize hbsg:blocksP (aN m cs)=bs at hbs hcl hll hbl|-
  simp[go_sem];refine wlc good [23] (fun(x':(Nat)×(List Int)×(Bool))=>match x' with|(i,L,e)=>[(0,.val (aL m)),(1,.val (bG cs)),(4,.own (.bx true (JX [] 0 false 0))),(6,.own (.bx true (JX L 0 e 0))),(23,.val (aL bs)),(24,.val (dI bs.length)),(25,.val (dI i))]) (fun(x':(Nat)×(List Int)×(Bool))=>match x' with|(i,L,e)=>bs.length-i) (fun(x':(Nat)×(List Int)×(Bool))=>match x' with|(i,L,e)=>(i<=bs.length)/\(L=loopN i (List.replicate m.length 0) (vY m cs bs))) ((0,List.replicate m.length 0,true)) ⟨(by omega),(rfl)⟩ ?_;rintro⟨i,L,e⟩ ⟨h1,h2⟩;simp[go_sem];refine gw (fun b=> ?_) (fun b=> ?_)
  ·have hr:=XL b;have hsel:=hbs i b;have hpt:=abQ hm hcc hsel.1 hsel.2.1 hsel.2.2;have hok:=aaF hpt;have hLl:L.length=m.length:=by rw[h2,qL (G7 m cs bs)];simp
   generalize hit:gat bs i=items at hr hsel hpt hok|-
   simp[go_sem,hr];refine wtc good 6 [32,35] ?_;simp[go_sem];refine ck (MZ m items hm hsel.1 (by omega)) ?_;simp[go_sem];refine ck (vU cs items hcs (by omega)) ?_;have hsl:=hpt.len;have hrl:(bZ cs items).length<=1048576:=by have:=TG cs items;omega
   have hpS:=arS hpt;simp[go_sem];refine ck (JM (dZ m items) (bZ cs items) hpt.mat (by rw[hsl];exact hpt.con) hrl) ?_;simp[go_sem,hpS];refine wl good (fun(x':(Nat)×(List Int))=>match x' with|(j,L')=>[(0,.val (aL m)),(1,.val (bG cs)),(4,.own (.bx true (JX [] 0 false 0))),(6,.own (.bx true (JX L' 0 e 0))),(7,.val (dI i)),(8,.val (nInts items)),(23,.val (aL bs)),(24,.val (dI bs.length)),(25,.val (dI i)),(36,.val (nInts (partOf m cs items))),(37,.val (dI (partOf m cs items).length)),(38,.val (dI j))]) (fun(x':(Nat)×(List Int))=>match x' with|(j,L')=>items.length-j) (fun(x':(Nat)×(List Int))=>match x' with|(j,L')=>(j<=items.length)/\(L'=loopN j L (UK items (partOf m cs items) i))) ((0,L)) ⟨(by omega),(rfl)⟩ ?_;rintro⟨j,L'⟩ ⟨h5,h6⟩;simp[go_sem];refine gw (fun f=> ?_) (fun f=> ?_)
   ·have hg:=aF (l:=items) (i:=j) (by omega);have hgx:=hsel.1.1 _ (List.mem_of_getElem? hg);have hpl:j<(partOf m cs items).length:=by omega
    have hg2:=aF hpl;have hb2:=arV hok.2 j hpl;have hLl2:L'.length=m.length:=by rw[h6,qL fun k l=>by simp[UK]];exact hLl
    have hpu:UK items (partOf m cs items) i j L'=L'.set (at1 items j).toNat (i*8+at1 (partOf m cs items) j):=rfl;have hput:(L'.map dI).set (at1 items j).toNat (D.one (.int .i64 ((i:Int)*8+at1 (partOf m cs items) j)))=(UK items (partOf m cs items) i j L').map dI:=by rw[hpu,List.map_set]
    have hb1:=(hok.2 j hpl).1;have ha0:0<=at1 items j:=hgx.1;obtain⟨u,hu⟩:=aC (l:=L') (i:=(at1 items j).toNat) (by omega);generalize partOf m cs items=pp at*
    simp[go_sem,hg2];refine wdt good 11 ?_;simp[go_sem,hg,hu,ha0,hput];iterate 3 refine ai ?_
    refine nx (j+1,UK items pp i j L') ⟨(by omega),(by rw[aA,←h6])⟩
   ·simp at f;obtain rfl:j=items.length:=by omega
    have hpA:vY m cs bs i L=L':=by rw[vY,hit,h6]
    simp[go_sem];refine gv (fun g2=> ?_) (fun g2=> ?_)
    ·have g2':=g2;simp[go_sem,g2];refine ai ?_;refine nxc (i+1,L',decide ((items.length:Int)<=6)) [23] ⟨(by omega),(by rw[aA,←h2,hpA])⟩
    ·have g2':=g2;simp[go_sem,g2];refine ai ?_;refine nxc (i+1,L',false) [23] ⟨(by omega),(by rw[aA,←h2,hpA])⟩
  ·simp at b;obtain rfl:i=bs.length:=by omega
   have hLc:canon L=iE m cs:=by rw[hcl,h2];rfl
   have hLl:L.length=m.length:=by rw[h2];exact hll
   have hcln:(iE m cs).length=m.length:=by rw[←hLc,jI,hLl]
   simp[go_sem];refine ck (lH L (by omega)) ?_;simp[go_sem,hLc];refine ck (dY m (iE m cs) hm hcln) ?_;generalize iE m cs=X at*
   simp[go_sem];refine gw (fun d=> ?_) (fun d=> ?_)
   ·simp at d;simp[go_sem];refine wdx good [0,3] (.st 1 (.st 2 (.st 4 (.st 5 (.st 6 (.st 7 OT.fin OT.no) OT.no) OT.no) OT.no) (.st 4 (.st 2 (.st 5 (.st 6 (.st 7 OT.fin OT.no) OT.no) OT.no) OT.no) OT.no)) (.st 4 (.st 1 (.st 2 (.st 5 (.st 6 (.st 7 OT.fin OT.no) OT.no) OT.no) OT.no) OT.no) OT.no)) ?_;simp[go_sem];refine⟨⟨?_,?_⟩,?_⟩
    ·repeat with_reducible refine ai ?_
     refine bP (mR m hm) (by simp[go_sem]) ?_;rintro r ⟨lT,rfl,hT1,hT2⟩;refine⟨by simp[go_sem],?_⟩;simp[go_sem];refine bP (mK m X lT hm (by omega) hT1 hT2) (by simp[go_sem]) ?_;rintro r ⟨gg,rfl⟩;refine⟨by simp[go_sem],?_⟩;simp[go_sem,hcc];grind
    ·repeat with_reducible refine ai ?_
     refine bP (mR m hm) (by simp[go_sem]) ?_;rintro r ⟨lT,rfl,hT1,hT2⟩;refine⟨by simp[go_sem],?_⟩;simp[go_sem];refine bP (mK m X lT hm (by omega) hT1 hT2) (by simp[go_sem]) ?_;rintro r ⟨gg,rfl⟩;refine⟨by simp[go_sem],?_⟩;simp[go_sem,hcc];grind
    ·repeat with_reducible refine ai ?_
     refine bP (mR m hm) (by simp[go_sem]) ?_;rintro r ⟨lT,rfl,hT1,hT2⟩;refine⟨by simp[go_sem],?_⟩;simp[go_sem];refine bP (mK m X lT hm (by omega) hT1 hT2) (by simp[go_sem]) ?_;rintro r ⟨gg,rfl⟩;refine⟨by simp[go_sem],?_⟩;simp[go_sem,hcc];grind
   ·simp at d;simp[go_sem,hcc];grind
end Go.Proofs.YtnglphdfhegnmaaGreatDoor
end
section
namespace Go.Proofs.YtnglphdfhegnmaaGreatDoor
open Go.Dv Go.Pl Go.RowKit Go.Proofs.Tryz
theorem BR (s:Str)(hs:s.length<=1048576)(ht:s.all qI=true):bR prog 202 [dS s,dS [124,59]] (fun r=>r= .val (dB (!s.all mP))):=
 uJ (u:= .bool (!s.all mP)) rfl fun w ow vs hL hsz ha=>by
  obtain rfl:=adK hsz ha;rw[←FP];refine(Tryz.strings_ContainsAny_laid ⟨s.toArray⟩ ⟨[124,59].toArray⟩ w (by simp[ByteArray.size];omega) (by decide) (fun j b hb=> ?_) (fun j b hb=> ?_))
  ·have hb':s[j]?=some b:=hb;have:=List.all_eq_true.1 ht b (List.mem_of_getElem? hb');simp[qI]at this;omega
  ·have hb':[124,59][j]?=some b:=hb;have:=List.mem_of_getElem? hb';simp at this;rcases this with rfl|rfl<;>decide
theorem WA (s:Str)(hs:s.length<=1048576:=by first|assumption|omega|(simp;omega)|grind):Fk 201 [dS s] (.val (dB (isText s))):=by
 refine fE good [] func201 ntmps201 fun w0 ow0=> ?_;simp[go_sem];refine wl good (fun(i:Nat)=>[(0,.val (dS s)),(5,.val (dI s.length)),(6,.val (dI i))]) (fun(i:Nat)=>(s).length-i) (fun(i:Nat)=>(i<=(s).length)/\(((s).take i).all qI=true)) (0) ⟨(by omega),rfl⟩ ?_;rintro i ⟨h1,h2⟩;simp[go_sem];refine gw (fun a=> ?_) (fun a=> ?_)
 ·obtain⟨c,hc⟩:=aC (l:=s) (i:=i) (by omega);simp[go_sem,hc];refine ck (aG c.toNat 32 126) ?_;simp[go_sem];refine gw (fun b=> ?_) (fun b=> ?_)
  ·simp at b;have hn:=bO hc (P:=qI) (by simp[qI];omega);simp[go_sem];grind[isText]
  ·simp at b;simp[go_sem];refine ai ?_;refine nx (i+1) ⟨(by omega),(aM hc h2 (by simp[qI];omega))⟩
 ·simp at a;have hf:=dM h2 a;simp[go_sem];grind[isText]
theorem aj2 {s:Str}(h:isText s=true):s.all qI=true:=by simp only[isText,Bool.and_eq_true]at h;exact h.1
theorem TM (s:Str)(hs:s.length<=1048576:=by first|assumption|omega|(simp;omega)|grind):Fk 147 [dS s] (.val (dB (fC s))):=by
 refine fE good [] func147 ntmps147 fun w0 ow0=> ?_;simp[go_sem];refine ck (WA _) ?_;simp[go_sem];refine gv (fun e=> ?_) (fun e=> ?_)
 ·have e':=e;simp[go_sem,e];refine ck (BR s hs (aj2 e)) ?_;simp[go_sem];simp[fC,e]
 ·have e':=e;simp[go_sem,e];simp[fC,e]
theorem AY (s:Str)(hs:s.length<=1048576):Fk 146 [dS s] (.val (dB (!fC s))):=by
 refine fE good [] func146 ntmps146 fun w0 ow0=> ?_;simp[go_sem];refine ck (TM _) ?_;simp[go_sem]
theorem akE (l:List Str)(hl:l.length<=1048576)(hs:∀f∈l,VY f):Fk 200 [bD l,.one (.func (.func 146) #[] #[])] (.val (dI (ix (fun f=> !fC f) l))):=by
 refine fE good [] func200 ntmps200 fun w0 ow0=> ?_;simp[go_sem];refine wl good (fun(i:Nat)=>[(0,.val (bD l)),(1,.val (.one (.func (.func 146) #[] #[]))),(7,.val (dI l.length)),(8,.val (dI i))]) (fun(i:Nat)=>(l).length-i) (fun(i:Nat)=>(i<=(l).length)/\(((l).take i).any (fun f=> !fC f)=false)) (0) ⟨(by omega),rfl⟩ ?_;rintro i ⟨h1,h2⟩;simp[go_sem];refine gw (fun a=> ?_) (fun a=> ?_)
 ·obtain⟨c,hc⟩:=aC (l:=l) (i:=i) (by omega);simp[go_sem,hc];refine ck (AY c (hs c (List.mem_of_getElem? hc))) ?_;simp[go_sem];refine gw (fun b=> ?_) (fun b=> ?_)
  ·simp at b;have hn:=vH hc h2 (by simp[b]);simp[go_sem,hn]
  ·simp at b;simp[go_sem];refine ai ?_;refine nx (i+1) ⟨(by omega),(eX hc h2 (by simp[b]))⟩
 ·simp at a;have hf:=j5 h2 a;have hx:=lX hf;simp[go_sem,hx]
theorem aoG (l:List Str)(hl:l.length<=1048576)(hs:∀f∈l,VY f):Fk 145 [bD l,.one (.func (.func 146) #[] #[])] (.val (dB (l.any fun f=> !fC f))):=by
 refine fE good [] func145 ntmps145 fun w0 ow0=> ?_;have hq:decide (0<=ix (fun f=> !fC f) l)=l.any fun f=> !fC f:=by rw[Bool.eq_iff_iff,decide_eq_true_eq];exact eH
 simp[go_sem];refine ck (akE l hl hs) ?_;simp[go_sem,hq]
theorem rX (r:Rec)(hs:u7 r:=by first|assumption|omega|(simp;omega)|grind):Fk 92 [tY r] (.val (dB (aJ r))):=by
 refine fE good [] func92 ntmps92 fun w0 ow0=> ?_;simp[go_sem];refine ck (aG _ _ _) ?_;simp[go_sem];refine gv (fun e=> ?_) (fun e=> ?_)
 ·have e':=e;simp at e';simp[go_sem,e];simp[aJ];omega
 ·have e':=e;simp at e';simp[go_sem,e];refine ck (aG _ _ _) ?_;simp[go_sem];refine gv (fun f=> ?_) (fun f=> ?_)
  ·have f':=f;simp at f';simp[go_sem,f];simp[aJ];omega
  ·have f':=f;simp at f';simp[go_sem,f];refine ck (aG _ _ _) ?_;simp[go_sem];refine gw (fun g=> ?_) (fun g=> ?_)
   ·simp at g;simp[go_sem];simp[aJ];omega
   ·simp at g;simp[go_sem];refine gv (fun k=> ?_) (fun k=> ?_)
    ·have k':=k;simp[go_sem,k];refine ck (aoG r.fields hs.1 hs.2) ?_;simp[go_sem];have h4:r.fields.length=4:=by omega
     all_goals(simp[aJ,h4,e',f',g];rw[List.not_all_eq_any_not])
    ·have k':=k;simp[go_sem,k];have h4:¬r.fields.length=4:=by omega
     all_goals simp[aJ,h4]
theorem adB {r:Rec}(h:aJ r=true):inI .i64 (eG r)/\inI .i64 (100*r.source):=by
 simp only[aJ,inR,Bool.and_eq_true,decide_eq_true_eq]at h;simp only[inI,eG];omega
theorem GQ (r:Rec)(hs:u7 r):Fk 229 [tY r] (.val (dB (!aJ r))):=by
 refine fE good [] func229 ntmps229 fun w0 ow0=> ?_;simp[go_sem];refine ck (rX _) ?_;simp[go_sem]
theorem aiB (l:List Rec)(hl:l.length<=1048576)(hs:∀r∈l,u7 r):Fk 283 [iG l,.one (.func (.func 229) #[] #[])] (.val (dI (ix (fun r=> !aJ r) l))):=by
 refine fE good [] func283 ntmps283 fun w0 ow0=> ?_;simp[go_sem];refine wl good (fun(i:Nat)=>[(0,.val (iG l)),(1,.val (.one (.func (.func 229) #[] #[]))),(7,.val (dI l.length)),(8,.val (dI i))]) (fun(i:Nat)=>(l).length-i) (fun(i:Nat)=>(i<=(l).length)/\(((l).take i).any (fun r=> !aJ r)=false)) (0) ⟨(by omega),rfl⟩ ?_;rintro i ⟨h1,h2⟩;simp[go_sem];refine gw (fun a=> ?_) (fun a=> ?_)
 ·obtain⟨c,hc⟩:=aC (l:=l) (i:=i) (by omega);simp[go_sem,hc];refine ck (GQ c (hs c (List.mem_of_getElem? hc))) ?_;simp[go_sem];refine gw (fun b=> ?_) (fun b=> ?_)
  ·simp at b;have hn:=vH hc h2 (by simp[b]);simp[go_sem,hn]
  ·simp at b;simp[go_sem];refine ai ?_;refine nx (i+1) ⟨(by omega),(eX hc h2 (by simp[b]))⟩
 ·simp at a;have hf:=j5 h2 a;have hx:=lX hf;simp[go_sem,hx]
theorem anD (l:List Rec)(hl:l.length<=1048576)(hs:∀r∈l,u7 r):Fk 228 [iG l,.one (.func (.func 229) #[] #[])] (.val (dB (l.any fun r=> !aJ r))):=by
 refine fE good [] func228 ntmps228 fun w0 ow0=> ?_;have hq:decide (0<=ix (fun r=> !aJ r) l)=l.any fun r=> !aJ r:=by rw[Bool.eq_iff_iff,decide_eq_true_eq];exact eH
 simp[go_sem];refine ck (aiB l hl hs) ?_;simp[go_sem,hq]
theorem ME (l:List Rec)(hl:l.length<=1048576)(hs:∀r∈l,u7 r):Fk 166 [iG l] (.val (dB (l.all aJ))):=by
 refine fE good [] func166 ntmps166 fun w0 ow0=> ?_;simp[go_sem];refine ck (anD l hl hs) ?_;have hn:=acM aJ l;simp[go_sem,hn]
theorem GX (s:Sto)(hs:s.recs.length<=1048576)(hr:∀r∈s.recs,u7 r)(hv:s.vers.length<=1048576):Fk 39 [xZ s] (.val (dB (cZ s))):=by
 refine fE good [] func39 ntmps39 fun w0 ow0=> ?_;simp[go_sem];refine wl good (fun(i:Nat)=>[(1,.own (.bx true (xZ s))),(6,.val (iG s.recs)),(7,.val (dI s.recs.length)),(8,.val (dI i))]) (fun(i:Nat)=>(s.recs).length-i) (fun(i:Nat)=>(i<=(s.recs).length)/\((s.recs.take i).all aJ=true)/\(adj (fun a b=>decide (eG a<eG b)) (s.recs.take i)=true)) (0) ⟨(by omega),rfl,rfl⟩ ?_;rintro i ⟨h1,h2,h3⟩;simp[go_sem];refine gw (fun a=> ?_) (fun a=> ?_)
 ·obtain⟨c,hc⟩:=aC (l:=s.recs) (i:=i) (by omega);simp[go_sem,hc];refine wdr good ?_;simp[go_sem];refine cd (rX c (hr c (List.mem_of_getElem? hc))) ?_;simp[go_sem];refine gv (fun e=> ?_) (fun e=> ?_)
  ·have e':=e;simp at e';have hn:=bO hc (P:=aJ) (by simpa using e);simp[go_sem,e];grind[cZ]
  ·have e':=e;simp at e';simp[go_sem,e];refine gv (fun f=> ?_) (fun f=> ?_)
   ·have f':=f;obtain⟨p,hp⟩:=aC (l:=s.recs) (i:=i-1) (by omega);have hi1:i-1+1=i:=by omega
    have hvp:aJ p=true:=List.all_eq_true.1 h2 p (by apply List.mem_of_getElem? (i:=i-1);rw[List.getElem?_take,if_pos (by omega)];exact hp);have hk1:inR p.source 0 3=true/\inR p.key 1 99=true:=by simp only[aJ,Bool.and_eq_true]at hvp;exact⟨hvp.1.1.1.2,hvp.1.1.2⟩
    have hk2:inR c.source 0 3=true/\inR c.key 1 99=true:=by simp only[aJ,Bool.and_eq_true]at e';exact⟨e'.1.1.1.2,e'.1.1.2⟩
    simp[go_sem,f,hp];iterate 2 refine ai ?_
    refine cd (tF p (adB hvp).1 (adB hvp).2) ?_;simp[go_sem];refine cd (tF c (adB e').1 (adB e').2) ?_;simp[go_sem];refine gw (fun b=> ?_) (fun b=> ?_)
    ·have hn:=ER hp (by rw[hi1];exact hc) (R:=fun a b=>decide (eG a<eG b)) (by simp;omega);simp[go_sem];grind[cZ]
    ·simp at b;simp[go_sem];refine ai ?_;refine nx (i+1) ⟨(by omega),(aM hc h2 (by simpa using e)),(by have:=uV (i:=i-1) (by rw[hi1];exact h3) hp (by rw[hi1];exact hc) (by simp;omega);rwa [hi1]at this)⟩
   ·have f':=f;simp at f';simp[go_sem,f];refine ai ?_;refine nx (i+1) ⟨(by omega),(aM hc h2 (by simpa using e)),(by obtain rfl:i=0:=(by omega);exact qK)⟩
 ·simp at a;have hf:=dM h2 a;rw[aO a]at h3;simp[go_sem];refine ck (aG _ _ _) ?_;simp[go_sem];refine gv (fun g1=> ?_) (fun g1=> ?_)
  ·have g1':=g1;simp at g1';simp[go_sem,g1];refine gv (fun g2=> ?_) (fun g2=> ?_)
   ·have g2':=g2;simp[go_sem,g2];refine ck (vF _) ?_;simp[go_sem];grind[cZ]
   ·have g2':=g2;simp at g2';simp[go_sem,g2];grind[cZ]
  ·have g1':=g1;simp at g1';simp[go_sem,g1];grind[cZ]
end Go.Proofs.YtnglphdfhegnmaaGreatDoor
end
section
namespace Go.Proofs.YtnglphdfhegnmaaGreatDoor
open Go.Dv Go.Pl Go.Proofs.Tryz
theorem AL (v:Ver):Fk 171 [dP v] (.val (dB v.same)):=by
 refine fE good [] func171 ntmps171 fun w0 ow0=> ?_;simp[go_sem]
theorem agP (l:List Ver)(p:Ver->Bool)(g:FuncId)(E:Dv.Enters prog g)(U:T (1000000+g)=⟨.no,0,.any 0⟩)(G:∀c∈l,bR prog g [dP c] (fun r=>r= .val (dB (p c))))(hl:l.length<=1048576):Fk 239 [aU l,.one (.func (.func g) #[] #[])] (.val (dI (ix p l))):=by
 refine fE good [] func239 ntmps239 fun w0 ow0=> ?_;simp[go_sem];refine wl good (fun(i:Nat)=>[(0,.val (aU l)),(1,.val (.one (.func (.func g) #[] #[]))),(7,.val (dI l.length)),(8,.val (dI i))]) (fun(i:Nat)=>(l).length-i) (fun(i:Nat)=>(i<=(l).length)/\(((l).take i).any p=false)) (0) ⟨(by omega),rfl⟩ ?_;rintro i ⟨h1,h2⟩;simp[go_sem];refine gw (fun a=> ?_) (fun a=> ?_)
 ·obtain⟨c,hc⟩:=aC (l:=l) (i:=i) (by omega);simp[go_sem,E,U,hc];refine ck ((G c (List.mem_of_getElem? hc))) ?_;simp[go_sem];refine gw (fun e=> ?_) (fun e=> ?_)
  ·have hn:=vH hc h2 (by simp[e]);simp[go_sem,hn]
  ·simp[go_sem];refine ai ?_;refine nx (i+1) ⟨(by omega),(eX hc h2 (by simp[e]))⟩
 ·simp at a;have hf:=j5 h2 a;have hx:=lX hf;simp[go_sem,hx]
theorem atE {α:Type}{p:α->Bool}{l:List α}(h:ix p l≠ -1):∃i:Nat,ix p l=i/\i<l.length/\(∀k c,k<i->l[k]?=some c->p c=false)/\∀c,l[i]?=some c->p c=true:=by
 unfold ix at h|-
 cases hf:l.findIdx? p with
 |none=>rw[hf]at h;exact absurd rfl h
 |some i=>
  rw[List.findIdx?_eq_some_iff_getElem]at hf;obtain⟨h1,h2,h3⟩:=hf;refine⟨i,rfl,h1,fun k c hk hc=> ?_,fun c hc=> ?_⟩
  ·have hkl:k<l.length:=by omega
   rw[List.getElem?_eq_getElem hkl]at hc;have:=h3 k hk;rw[Option.some.inj hc]at this;simpa using this
  ·rw[List.getElem?_eq_getElem h1]at hc;rw[Option.some.inj hc]at h2;exact h2
theorem ar2 {α:Type}{p:α->Bool}{l:List α}{i:Nat}(h:∀k c,k<i->l[k]?=some c->p c=true):(l.take i).filter p=l.take i:=by
 refine List.filter_eq_self.2 fun c hc=> ?_;obtain⟨k,hk,hkc⟩:=List.mem_iff_getElem.1 hc;have hk3:k<min i l.length:=by simpa using hk
 have hk4:k<l.length:=by omega
 exact h k c (by omega) (by rw[←hkc,List.getElem_take,List.getElem?_eq_getElem hk4])
theorem ZI {α:Type}{m:List α}{i:Nat}{c:α}(h:i<m.length):(m.set i c).take (i+1)=m.take i++[c]:=by
 rw[aW (c:=c) (by rw[List.getElem?_set_self h])];congr 1;rw[List.take_set_of_le (Nat.le_refl _)]
theorem az9 (l:List Ver)(p:Ver->Bool)(g:FuncId)(E:Dv.Enters prog g)(U:T (1000000+g)=⟨.no,0,.any 0⟩)(G:∀c∈l,bR prog g [dP c] (fun r=>r= .val (dB (p c))))(hl:l.length<=1048576):ZM prog 170 [.one (.bool false),.one (.func (.func g) #[] #[])] 0 (bN l) (fun res'=>res'= .val (aU (l.filter fun v=> !p v))):=by
 refine fT good [7,22,24] func170 ntmps170 fun w0 ow0=> ?_;simp[go_sem];refine ck (agP l p g E U G hl) ?_;simp[go_sem];refine gw (fun a=> ?_) (fun a=> ?_)
 ·have hfl:(l.filter fun v=> !p v)=l:=List.filter_eq_self.2 fun v hv=>by cases hpv:p v;rfl;exact absurd (eH.2 (List.any_eq_true.2 ⟨v,hv,hpv⟩)) (by omega)
  simp[go_sem];refine eD good [] (aR 4) ?_;simp[go_sem,hfl]
 ·obtain⟨i0,hi0,hil,hpre,hat⟩:=atE (p:=p) (l:=l) a;obtain⟨c0,hc0⟩:=aC (l:=l) (i:=i0) hil;have hpc0:=hat c0 hc0;have h40:l.take i0=(l.take (i0+1)).filter fun v=> !p v:=by rw[aW hc0,List.filter_append,ar2 (fun k c hk hc=>by rw[hpre k c hk hc];rfl)];simp[hpc0]
  simp[go_sem,hi0];refine ai ?_;refine wl good (fun(x':(Nat)×(Nat)×(List Ver))=>match x' with|(j,i,m)=>[(0,.own (bN m)),(1,.val (.one (.func (.func g) #[] #[]))),(5,.val (dI i)),(6,.val (dI j))]) (fun(x':(Nat)×(Nat)×(List Ver))=>match x' with|(j,i,m)=>l.length-j) (fun(x':(Nat)×(Nat)×(List Ver))=>match x' with|(j,i,m)=>(j<=l.length)/\(i<j)/\(m.length=l.length)/\(m.take i=(l.take j).filter fun v=> !p v)/\(∀k,j<=k->m[k]?=l[k]?)) ((i0+1,i0,l)) ⟨(by omega),(by omega),(rfl),(h40),(fun _ _=>rfl)⟩ ?_;rintro⟨j,i,m⟩ ⟨h1,h2,h3,h4,h5⟩;simp[go_sem,h3];refine gw (fun b=> ?_) (fun b=> ?_)
  ·obtain⟨c,hc⟩:=aC (l:=l) (i:=j) (by omega);have hm:=(h5 j (Nat.le_refl _)).trans hc;have hil2:i<m.length:=by omega
   simp[go_sem,E,U,hm];refine ck ((G c (List.mem_of_getElem? hc))) ?_;simp[go_sem];refine gw (fun d=> ?_) (fun d=> ?_)
   ·simp at d;obtain⟨m2,hm2⟩:∃m2,m.set i c=m2:=⟨_,rfl⟩;have hst:(m.map dP).set i (dP c)=m2.map dP:=by rw[←List.map_set,hm2]
    obtain⟨ci,hmi⟩:=aC (l:=m) (i:=i) hil2;simp[go_sem,hst,hmi];iterate 2 refine ai ?_
    refine nx (j+1,i+1,m2) ⟨(by omega),(by omega),(by rw[←hm2,List.length_set];exact h3),(by rw[←hm2,ZI hil2,h4,aW hc,List.filter_append];simp[d]),(fun k hk=>by rw[←hm2,List.getElem?_set_ne (by omega)];exact h5 k (by omega))⟩
   ·simp at d;simp[go_sem];refine ai ?_;refine nx (j+1,i,m) ⟨(by omega),(by omega),(h3),(by rw[h4,aW hc,List.filter_append];simp[d]),(fun k hk=>h5 k (by omega))⟩
  ·simp at b;have hjl:j=l.length:=by omega
   rw[hjl,List.take_length]at h4;have hil3:i<=m.length:=by omega
   simp[go_sem];refine aAI good 2 ?_;have hz:D.fzs (List.replicate (l.length-i) (D.any 4))=List.replicate (l.length-i) (D.any 4):=by rw[D.dG,List.map_replicate];rfl
   have hil4:i<=l.length:=by omega
   have hlm:min i l.length=i:=by omega
   have hr:(l.filter fun v=> !p v).map dP=(m.map dP).take i:=by rw[←h4,List.map_take]
   simp[go_sem,h3];refine ai ?_;refine eD good [] (aR 0) ?_;simp[go_sem,h3,hz,hlm,hr]
   skip
theorem wP (l:List Ver)(items:List Int)(hs:l.length<=1048576)(hi:items.length<=1048576):Fk 172 [aU l,nInts items] (.own (yK (vO l items))):=by
 refine fE good [] func172 ntmps172 fun w0 ow0=> ?_;simp[go_sem];refine wl good (fun(x':(Nat)×(List Con))=>match x' with|(i,out)=>[(1,.val (nInts items)),(5,.own (yK out)),(10,.val (aU l)),(11,.val (dI l.length)),(12,.val (dI i))]) (fun(x':(Nat)×(List Con))=>match x' with|(i,out)=>l.length-i) (fun(x':(Nat)×(List Con))=>match x' with|(i,out)=>(i<=l.length)/\(out=(l.take i).filterMap (xH items))/\(out.length<=i)) ((0,[])) ⟨(by omega),(rfl),(by simp)⟩ ?_;rintro⟨i,out⟩ ⟨h1,h2,h3⟩;simp[go_sem];refine gw (fun a=> ?_) (fun a=> ?_)
 ·obtain⟨c,hc⟩:=aC (l:=l) (i:=i) (by omega);have hm:=rE (xH items) hc;rw[←h2]at hm;have hpa:=MP items c.a;have hpb:=MP items c.b;simp[go_sem,hc];refine wdr good ?_;simp[go_sem];refine cd (dK items c.a hi) ?_;simp[go_sem,hpa];refine cd (dK items c.b hi) ?_;simp[go_sem,hpb];refine gv (fun e=> ?_) (fun e=> ?_)
  ·have e':=e;simp[go_sem,e];refine gw (fun b=> ?_) (fun b=> ?_)
   ·have hv:xH items c=some ⟨place items c.a,place items c.b,c.same⟩:=if_pos ⟨by omega,by omega⟩;simp[go_sem];iterate 2 refine ai ?_
    refine nx (i+1,out++[⟨place items c.a,place items c.b,c.same⟩]) ⟨(by omega),(by rw[hm,hv];rfl),(by simp;omega)⟩
   ·simp at b;have hv:xH items c=none:=if_neg (by rintro⟨h1,h2⟩;omega);simp[go_sem];refine ai ?_;refine nx (i+1,out) ⟨(by omega),(by rw[hm,hv];simp),(by omega)⟩
  ·have e':=e;simp at e';have hv:xH items c=none:=if_neg (by rintro⟨h1,h2⟩;omega);simp[go_sem,e];refine ai ?_;refine nx (i+1,out) ⟨(by omega),(by rw[hm,hv];simp),(by omega)⟩
 ·simp at a;rw[aO a]at h2;simp[go_sem];grind[vO]
theorem gS (l:List Ver):∀c∈l,bR prog 171 [dP c] (fun r=>r= .val (dB c.same)):=fun c _=>AL c
theorem EO (kept:List Ver)(items:List Int)(hk:kept.length<=8)(hkv:∀v∈kept,inT v.a/\inT v.b)(hi:items.length<=8)(hiv:∀x∈items,inT x):Fk 100 [aU kept,nInts items] (.own (yK (afW kept items))):=by
 refine fE good [] func100 ntmps100 fun w0 ow0=> ?_;simp[go_sem];refine ck (fZ kept (by omega)) ?_;have hap:(kept.filter fun v=> !v.same)=apart kept:=rfl;have hapl:(apart kept).length<=8:=Nat.le_trans (List.length_filter_le _ _) hk;simp[go_sem];refine wG rfl (az9 kept (fun v=>v.same) 171 aDG aCV (gS kept) (by omega)) ?_;simp[go_sem,hap];refine ck (wP (apart kept) items (by omega) (by omega)) ?_;simp[go_sem];refine ck (FT kept (by omega) hkv) ?_;obtain⟨o,ho⟩:∃o,dX kept=o:=⟨_,rfl⟩;have hol:o.length=400:=by rw[←ho];exact uC kept
 obtain⟨V,hV⟩:∃V,vO (apart kept) items=V:=⟨_,rfl⟩;have hVl:V.length<=8:=by rw[←hV];exact Nat.le_trans (List.length_filterMap_le _ _) hapl
 have hws:D.ws (o.map dI)=400:=by have:=mD o 400;rw[List.take_of_length_le (by rw[List.length_map];omega),hol]at this;simpa using this
 simp[go_sem,ho,hV,hws,hol];refine wl good (fun(x':(Nat)×(List Con))=>match x' with|(b,out)=>[(1,.val (nInts items)),(6,.own (yK out)),(7,.own (.bx true (.agg (o.map dI)))),(18,.val (nInts items)),(19,.val (dI items.length)),(20,.val (dI b))]) (fun(x':(Nat)×(List Con))=>match x' with|(b,out)=>items.length-b) (fun(x':(Nat)×(List Con))=>match x' with|(b,out)=>(b<=items.length)/\(out=V++qO o items b)/\(out.length<=8+b)) ((0,V)) ⟨(by omega),(by simp[qO]),(by omega)⟩ ?_;rintro⟨b,out⟩ ⟨h1,h2,h3⟩;simp[go_sem];refine gw (fun a=> ?_) (fun a=> ?_)
 ·have hb:=aF a;have hbi:=hiv _ (List.mem_of_getElem? hb);have hls:=Y4 o items b;obtain⟨y,hy⟩:∃y,at1 items b=y:=⟨_,rfl⟩;rw[hy]at hb hbi;have hoy:=akR hol hbi;have hwy:D.ws (List.take y.toNat (o.map dI))=y.toNat:=by rw[mD,hol];have:=hbi.1;have:=hbi.2;omega
  have hy0:=hbi.1;have hy1:=hbi.2;simp[go_sem];refine ai ?_;refine wl good (fun(k:Nat)=>[(1,.val (nInts items)),(6,.own (yK out)),(7,.own (.bx true (.agg (o.map dI)))),(8,.val (dI b)),(9,.val (dI ((k:Int)-1))),(18,.val (nInts items)),(19,.val (dI items.length)),(20,.val (dI b))]) (fun(k:Nat)=>k) (fun(k:Nat)=>(k<=b)/\(BV o items b=match xX (RS o items b) k with|some a=>[⟨a,b,true⟩]|none=>[])) (b) ⟨(Nat.le_refl _),(rfl)⟩ ?_;rintro k ⟨h4,h5⟩;simp[go_sem];refine gw (fun d=> ?_) (fun d=> ?_)
  ·obtain⟨q,rfl⟩:∃q,k=q+1:=⟨k-1,by omega⟩;have hq:=aF (l:=items) (i:=q) (by omega);have hqi:=hiv _ (List.mem_of_getElem? hq);obtain⟨x,hx⟩:∃x,at1 items q=x:=⟨_,rfl⟩;rw[hx]at hq hqi;have hox:=akR hol hqi;have hwx:D.ws (List.take x.toNat (o.map dI))=x.toNat:=by rw[mD,hol];have:=hqi.1;have:=hqi.2;omega
   have hx0:=hqi.1;have hx1:=hqi.2;have hq2:((q+1:Nat):Int)-1=q:=by omega
   have hox2:=(List.getElem?_eq_some_iff.1 hox).2;have hoy2:=(List.getElem?_eq_some_iff.1 hoy).2;have hpg:xX (RS o items b) (q+1)=if at1 o x.toNat=at1 o y.toNat then some q else xX (RS o items b) q:=by rw[xX,RS,hx,hy];simp
   simp[go_sem];refine wdr good ?_;simp[go_sem,hol,hq,hb,hox2,hoy2,hwx,hwy,hx0,hx1,hy0,hy1];refine gw (fun e=> ?_) (fun e=> ?_)
   ·simp[go_sem];iterate 2 refine ai ?_
    refine nx (b+1,out++[⟨q,b,true⟩]) ⟨(by omega),(by rw[hls,h5,hpg,if_pos e,h2,List.append_assoc]),(by simp;omega)⟩
   ·simp[go_sem];refine ai ?_;refine nx (q) ⟨(by omega),(by rw[h5,hpg,if_neg e])⟩
  ·simp at d;obtain rfl:k=0:=by omega
   rw[xX]at h5;simp[go_sem];refine ai ?_;refine nx (b+1,out) ⟨(by omega),(by rw[hls,h5,h2];simp),(by omega)⟩
 ·simp at a;rw[show b=items.length by omega]at h2;have hr:afW kept items=out:=by rw[h2,←hV,←ho];rfl
  simp[go_sem,hr]
def qR (x:Int):Bool:= !inR x 0 1000
theorem xY (x:Int):Fk 284 [dI x] (.val (dB (qR x))):=by
 refine fE good [] func284 ntmps284 fun w0 ow0=> ?_;simp[go_sem];refine ck (aG x 0 1000) ?_;simp[go_sem];grind[qR]
theorem agQ (l:List Int)(hl:l.length<=1048576):Fk 199 [nInts l,.one (.func (.func 284) #[] #[])] (.val (dI (ix qR l))):=by
 refine fE good [] func199 ntmps199 fun w0 ow0=> ?_;simp[go_sem];refine wl good (fun(i:Nat)=>[(0,.val (nInts l)),(1,.val (.one (.func (.func 284) #[] #[]))),(7,.val (dI l.length)),(8,.val (dI i))]) (fun(i:Nat)=>(l).length-i) (fun(i:Nat)=>(i<=(l).length)/\(((l).take i).any qR=false)) (0) ⟨(by omega),rfl⟩ ?_;rintro i ⟨h1,h2⟩;simp[go_sem];refine gw (fun a=> ?_) (fun a=> ?_)
 ·obtain⟨c,hc⟩:=aC (l:=l) (i:=i) (by omega);simp[go_sem,hc];refine ck (xY c) ?_;simp[go_sem];refine gw (fun b=> ?_) (fun b=> ?_)
  ·have hn:=vH hc h2 (by simp[b]);simp[go_sem,hn]
  ·simp[go_sem];refine ai ?_;refine nx (i+1) ⟨(by omega),(eX hc h2 (by simp[b]))⟩
 ·simp at a;have hf:=j5 h2 a;have hx:=lX hf;simp[go_sem,hx]
theorem ah3 (l:List Int)(hl:l.length<=1048576):Fk 142 [nInts l,.one (.func (.func 284) #[] #[])] (.val (dB (l.any qR))):=by
 refine fE good [] func142 ntmps142 fun w0 ow0=> ?_;have hq:decide (0<=ix qR l)=l.any qR:=by rw[Bool.eq_iff_iff,decide_eq_true_eq];exact eH
 simp[go_sem];refine ck (agQ l hl) ?_;simp[go_sem,hq]
theorem an8 (l:List Int):l.any qR= !(l.all wX):=by
 induction l with
 |nil=>rfl
 |cons x l ih=>rw[List.any_cons,List.all_cons,ih,qR,wX];simp
theorem iJ (l:List Int)(hl:l.length<=1048576:=by first|assumption|omega|(simp;omega)|grind):Fk 230 [nInts l] (.val (dB (mE l))):=by
 refine fE good [] func230 ntmps230 fun w0 ow0=> ?_;simp[go_sem];refine gv (fun e=> ?_) (fun e=> ?_)
 ·have e':=e;simp[go_sem,e];refine ck (ah3 l hl) ?_;simp[go_sem];rw[an8,mE,decide_eq_true (show l.length=6 by omega)];simp
 ·have e':=e;simp[go_sem,e];rw[mE,decide_eq_false (show¬l.length=6 by omega)];simp
theorem EN (l w:List Int)(hl:l.length<=1048576:=by first|assumption|omega|(simp;omega)|grind)(hw:w.length<=1048576:=by first|assumption|omega|(simp;omega)|grind):Fk 285 [nInts l,nInts w] (.val (dI (iT l w))):=by
 refine fE good [] func285 ntmps285 fun w0 ow0=> ?_;simp[go_sem];refine gw (fun e=> ?_) (fun e=> ?_)
 ·simp[go_sem];simp[iT];omega
 ·simp[go_sem];refine wl good (fun(x':(Nat)×(Int)×(Int))=>match x' with|(i,s,t)=>[(0,.val (nInts l)),(1,.val (nInts w)),(5,.val (dI s)),(6,.val (dI t)),(14,.val (nInts l)),(15,.val (dI l.length)),(16,.val (dI i))]) (fun(x':(Nat)×(Int)×(Int))=>match x' with|(i,s,t)=>l.length-i) (fun(x':(Nat)×(Int)×(Int))=>match x' with|(i,s,t)=>(i<=l.length)/\((List.range i).all (kR l w)=true)/\(s=nX l w i)/\(t=l5 w i)) ((0,0,0)) ⟨(by omega),rfl,rfl,rfl⟩ ?_;rintro⟨i,s,t⟩ ⟨h1,h2,h3,h4⟩;simp[go_sem];refine gw (fun a=> ?_) (fun a=> ?_)
  ·have hl1:=aF (l:=l) (i:=i) (by omega);have hw1:=aF (l:=w) (i:=i) (by omega);have hb:∀j<i,kR l w j=true:=fun j hj=>List.all_eq_true.1 h2 j (List.mem_range.2 hj);have hN:=sI i hb;have hD:=sF i hb;simp[go_sem,hl1];refine ck (aG (at1 l i) 0 1000) ?_;simp[go_sem];refine gv (fun e=> ?_) (fun e=> ?_)
   ·have e':=e;simp at e';have hn:=gZ a (P:=kR l w) (by simp[kR]at*;omega);simp[go_sem,e];all_goals simp[iT,hn]
   ·have e':=e;simp at e';simp[go_sem,hw1,e];refine ck (aG (at1 w i) 0 1000) ?_;simp[go_sem];refine gw (fun f=> ?_) (fun f=> ?_)
    ·simp at f;have hn:=gZ a (P:=kR l w) (by simp[kR]at*;omega);simp[go_sem];all_goals simp[iT,hn]
    ·simp at f;have hc:kR l w i=true:=by simp[kR]at*;omega
     have hp1:0<=at1 l i*at1 w i:=Int.mul_nonneg (by simp at*;omega) (by simp at*;omega);have hp2:at1 l i*at1 w i<=1000*1000:=Int.mul_le_mul (by simp at*;omega) (by simp at*;omega) (by simp at*;omega) (by omega);simp[go_sem,hw1];iterate 4 refine ai ?_
     refine nx (i+1,s+at1 l i*at1 w i,t+at1 w i) ⟨(by omega),(nD h2 hc),(by rw[h3,nX,nX,aA]),(by rw[h4,l5,l5,aA])⟩
  ·simp at a;have hi:l.length=i:=by omega
   subst hi;have hb:∀j<l.length,kR l w j=true:=fun j hj=>List.all_eq_true.1 h2 j (List.mem_range.2 hj);have hN:=sI l.length hb;have hD:=sF l.length hb;simp[go_sem];refine gw (fun b=> ?_) (fun b=> ?_)
   ·simp[go_sem];all_goals simp[iT,←h4,b]
   ·simp[go_sem];iterate 2 refine ai ?_
    all_goals(rw[iT,if_pos ⟨by omega,h2⟩,←h4,if_neg b,←h3])
theorem PT (s:Sco)(f:List Int)(hs:s.weights.length<=1048576:=by first|assumption|omega|(simp;omega)|grind)(hf:f.length<=1048576:=by first|assumption|omega|(simp;omega)|grind):Fk 231 [xK s,nInts f] (.val (dI (fP s f))):=by
 refine fE good [] func231 ntmps231 fun w0 ow0=> ?_;simp[go_sem];refine ck (iV s hs) ?_;simp[go_sem];refine gv (fun e=> ?_) (fun e=> ?_)
 ·have e':=e;simp at e';simp[go_sem,e];grind[fP]
 ·have e':=e;simp at e';simp[go_sem,e];refine ck (iJ f hf) ?_;simp[go_sem];refine gw (fun b=> ?_) (fun b=> ?_)
  ·simp at b;simp[go_sem];grind[fP]
  ·simp at b;simp[go_sem];refine ck (EN _ _) ?_;simp[go_sem];grind[fP]
theorem PY (t:Tst)(f:List Int)(hf:f.length<=1048576:=by first|assumption|omega|(simp;omega)|grind):Fk 352 [lJ t,nInts f] (.val (dB (jE f t))):=by
 refine fE good [] func352 ntmps352 fun w0 ow0=> ?_;simp[go_sem];refine wdt good 20 ?_;simp[go_sem];refine cd (iJ _) ?_;simp[go_sem];refine gv (fun e=> ?_) (fun e=> ?_)
 ·have e':=e;simp[go_sem,e];refine cd (yL _) ?_;simp[go_sem];refine gv (fun g=> ?_) (fun g=> ?_)
  ·have g':=g;simp at g';have h6:f.length=6:=by simp only[mE,Bool.and_eq_true,decide_eq_true_eq]at e;exact e.2
   have hx:=aF (l:=f) (i:=t.feature.toNat) (by omega);simp[go_sem,g,hx];refine ai ?_;all_goals(simp only[jE];rw[e',show inR t.feature 0 5=true by simp;omega];simp;by_cases hq:at1 f t.feature.toNat<t.threshold<;>simp[hq,Int.not_lt.symm]<;>omega)
  ·have g':=g;simp at g';simp[go_sem,g];all_goals(simp only[jE];rw[e',show inR t.feature 0 5=false by simp;omega];simp)
 ·have e':=e;simp[go_sem,e];all_goals simp[jE,e']
theorem JL (t:Tst)(f:List Int)(hf:f.length<=1048576):Fk 351 [lJ t,.bx false (nInts f)] (.val (dB (!jE f t))):=by
 refine fE good [] func351 ntmps351 fun w0 ow0=> ?_;simp[go_sem];refine ck (PY _ _) ?_;simp[go_sem]
theorem akH (l:List Tst)(p:Tst->Bool)(g:FuncId)(b:Nat)(d:D)(F:d.fz=d)(E:Dv.Enters prog g)(U:T (1000000+g)=⟨.no,0,.any 0⟩)(G:∀c∈l,bR prog g [lJ c,.bx false d] (fun r=>r= .val (dB (p c))))(hl:l.length<=1048576):rT prog 369 [D.sl none (l.map lJ),.one (.func (.func g) #[] #[.pointer (some ⟨b,0,none⟩)])] [(b,d)] (fun res'=>res'= .val (dI (ix p l))):=by
 refine fB good [] func369 ntmps369 fun w0 ow0=> ?_;simp[go_sem];refine wl good (fun(i:Nat)=>[(0,.val (D.sl none (l.map lJ))),(1,.val (.one (.func (.func g) #[] #[.pointer (some ⟨b,0,none⟩)]))),(7,.val (dI l.length)),(8,.val (dI i)),(1000000+2*b,.rp (d))]) (fun(i:Nat)=>(l).length-i) (fun(i:Nat)=>(i<=(l).length)/\(((l).take i).any p=false)) (0) ⟨(by omega),rfl⟩ ?_;rintro i ⟨h1,h2⟩;simp[go_sem];refine gw (fun a=> ?_) (fun a=> ?_)
 ·obtain⟨c,hc⟩:=aC (l:=l) (i:=i) (by omega);simp[go_sem,E,U,F,hc];refine ck ((G c (List.mem_of_getElem? hc))) ?_;simp[go_sem];refine gw (fun e=> ?_) (fun e=> ?_)
  ·have hn:=vH hc h2 (by simp[e]);simp[go_sem,hn]
  ·simp[go_sem];refine ai ?_;refine nx (i+1) ⟨(by omega),(eX hc h2 (by simp[e]))⟩
 ·simp at a;have hf:=j5 h2 a;have hx:=lX hf;simp[go_sem,hx]
theorem amS (l:List Tst)(p:Tst->Bool)(g:FuncId)(b:Nat)(d:D)(F:d.fz=d)(E:Dv.Enters prog g)(U:T (1000000+g)=⟨.no,0,.any 0⟩)(G:∀c∈l,bR prog g [lJ c,.bx false d] (fun r=>r= .val (dB (p c))))(hl:l.length<=1048576):rT prog 350 [D.sl none (l.map lJ),.one (.func (.func g) #[] #[.pointer (some ⟨b,0,none⟩)])] [(b,d)] (fun res'=>res'= .val (dB (l.any p))):=by
 refine fB good [] func350 ntmps350 fun w0 ow0=> ?_;have hq:decide (0<=ix p l)=l.any p:=by rw[Bool.eq_iff_iff,decide_eq_true_eq];exact eH
 simp[go_sem,F];refine ckB (akH l p g b d F E U G hl) ?_;simp[go_sem,hq]
theorem ajD (l:List (List Tst))(p:List Tst->Bool)(g:FuncId)(b:Nat)(d:D)(F:d.fz=d)(E:Dv.Enters prog g)(U:T (1000000+g)=⟨.no,0,.any 0⟩)(G:∀c∈l,bR prog g [mZ c,.bx false d] (fun r=>r= .val (dB (p c))))(hl:l.length<=1048576):rT prog 322 [.sl none (l.map mZ),.one (.func (.func g) #[] #[.pointer (some ⟨b,0,none⟩)])] [(b,d)] (fun res'=>res'= .val (dI (ix p l))):=by
 refine fB good [] func322 ntmps322 fun w0 ow0=> ?_;simp[go_sem];refine wl good (fun(i:Nat)=>[(0,.val (.sl none (l.map mZ))),(1,.val (.one (.func (.func g) #[] #[.pointer (some ⟨b,0,none⟩)]))),(7,.val (dI l.length)),(8,.val (dI i)),(1000000+2*b,.rp (d))]) (fun(i:Nat)=>(l).length-i) (fun(i:Nat)=>(i<=(l).length)/\(((l).take i).any p=false)) (0) ⟨(by omega),rfl⟩ ?_;rintro i ⟨h1,h2⟩;simp[go_sem];refine gw (fun a=> ?_) (fun a=> ?_)
 ·obtain⟨c,hc⟩:=aC (l:=l) (i:=i) (by omega);simp[go_sem,E,U,F,hc];refine ck ((G c (List.mem_of_getElem? hc))) ?_;simp[go_sem];refine gw (fun e=> ?_) (fun e=> ?_)
  ·have hn:=vH hc h2 (by simp[e]);simp[go_sem,hn]
  ·simp[go_sem];refine ai ?_;refine nx (i+1) ⟨(by omega),(eX hc h2 (by simp[e]))⟩
 ·simp at a;have hf:=j5 h2 a;have hx:=lX hf;simp[go_sem,hx]
theorem ND (r:List Tst)(f:List Int)(hr:r.length<=1048576:=by first|assumption|omega|(simp;omega)|grind)(hf:f.length<=1048576:=by first|assumption|omega|(simp;omega)|grind):Fk 324 [mZ r,nInts f] (.val (dB (kP f r))):=by
 refine fE good [] func324 ntmps324 fun w0 ow0=> ?_;simp[go_sem];refine ck (iJ f hf) ?_;simp[go_sem];refine gv (fun e=> ?_) (fun e=> ?_)
 ·have e':=e;simp[go_sem,e];intro b;refine ckB (amS r (fun t=> !jE f t) 351 b (nInts f) (OI _) aDD aC8 (fun t _=>JL t f hf) hr) ?_;simp[go_sem];all_goals simp[kP,e',acM]
 ·have e':=e;simp[go_sem,e];all_goals simp[kP,e']
theorem JQ (r:List Tst)(f:List Int)(hr:r.length<=1048576)(hf:f.length<=1048576):Fk 323 [mZ r,.bx false (nInts f)] (.val (dB (kP f r))):=by
 refine fE good [] func323 ntmps323 fun w0 ow0=> ?_;simp[go_sem];refine ck (ND _ _) ?_;simp[go_sem]
theorem O8 (rs:List (List Tst))(f:List Int)(hs:rs.length<=1048576:=by first|assumption|omega|(simp;omega)|grind)(hr:∀l∈rs,l.length<=1048576:=by first|assumption|omega|(simp;omega)|grind)(hf:f.length<=1048576:=by first|assumption|omega|(simp;omega)|grind):Fk 286 [gG rs,nInts f] (.val (dI (mJ rs f))):=by
 refine fE good [] func286 ntmps286 fun w0 ow0=> ?_;simp[go_sem];refine ck (jY rs hs hr) ?_;simp[go_sem];refine gw (fun a=> ?_) (fun a=> ?_)
 ·simp at a;simp[go_sem];grind[mJ]
 ·simp at a;simp[go_sem];intro b;refine ckB (ajD rs (kP f) 323 b (nInts f) (OI _) aCJ aCH (fun r hm=>JQ r f (hr r hm) hf) hs) ?_;simp[go_sem];grind[mJ]
theorem NK (rs:List (List Tst))(f:List Int)(hs:rs.length<=1048576:=by first|assumption|omega|(simp;omega)|grind)(hr:∀l∈rs,l.length<=1048576:=by first|assumption|omega|(simp;omega)|grind)(hf:f.length<=1048576:=by first|assumption|omega|(simp;omega)|grind):Fk 232 [gG rs,nInts f] (.val (dB (decide (0<=mJ rs f)))):=by
 refine fE good [] func232 ntmps232 fun w0 ow0=> ?_;simp[go_sem];refine ck (O8 _ _) ?_;simp[go_sem]
theorem LG (rs:List (List Tst))(s:Sco)(f:List Int)(hs:rs.length<=1048576)(hr:∀l∈rs,l.length<=1048576)(hw:s.weights.length<=1048576)(hf:f.length<=1048576):Fk 168 [gG rs,xK s,nInts f] (.val (dI (cO rs s f))):=by
 refine fE good [] func168 ntmps168 fun w0 ow0=> ?_;simp[go_sem];refine ck (jY rs hs hr) ?_;simp[go_sem];refine gv (fun e=> ?_) (fun e=> ?_)
 ·have e':=e;simp at e';simp[go_sem,e];grind[cO]
 ·have e':=e;simp at e';simp[go_sem,e];refine ck (iV s hw) ?_;simp[go_sem];refine gv (fun g=> ?_) (fun g=> ?_)
  ·have g':=g;simp at g';simp[go_sem,g];grind[cO]
  ·have g':=g;simp at g';simp[go_sem,g];refine ck (iJ f hf) ?_;simp[go_sem];refine gw (fun b=> ?_) (fun b=> ?_)
   ·simp at b;simp[go_sem];grind[cO]
   ·simp at b;have hp:=NL s f hf;have hb:0<=s.bias/\s.bias<=1000:=by simp only[fG,Bool.and_eq_true,decide_eq_true_eq]at g';exact g'.2
    simp[go_sem];refine wdt good 6 ?_;simp[go_sem];refine cd (PT _ _) ?_;simp[go_sem];refine ai ?_;refine ck (NK _ _) ?_;simp[go_sem];refine gw (fun d=> ?_) (fun d=> ?_)
    ·simp[go_sem];grind[cO]
    ·simp at d;simp[go_sem];grind[cO]
end Go.Proofs.YtnglphdfhegnmaaGreatDoor
end
section
namespace Go.Proofs.YtnglphdfhegnmaaGreatDoor
open Go.Dv Go.Pl Go.RowKit Go.Lib Go.Sort Go.Proofs.Tryz
theorem UX (x:Str):encStr x= .string ⟨x.toArray⟩:=by simp[encStr]
theorem amT {w:World}{os:Array Obj}{base:Nat}{e:TypeId}{v:Value}{n:Nat}{xs:List Value}(h:w.ownsRow base e 1 v n xs):(grow w os).ownsRow base e 1 v n xs:=by
 refine⟨h.1,h.2.imp_right ?_⟩;rintro⟨g,cap,cur,h1,h2,h3,h4⟩;exact⟨g,cap,cur,h1,h2,(by show(w.heap++os)[g]?=_;rw[Array.getElem?_append_left (Go.Dv.lt_of_heap h3)];exact h3),h4⟩
theorem ag7 {B:Nat}{w w':World}{os:Array Obj}(h:Below B w w')(hB:B<=w'.heap.size):Below B w (Go.Sort.grow w' os):=h.trans ⟨rfl,rfl,rfl,by simp[Go.Sort.grow],fun b hb=>by
 show(w'.heap++os)[b]?=_;rw[Array.getElem?_append_left (by omega)]⟩
theorem WP (l:List Str)(a:Addr)(cap:Nat)(w:World)(hl:l.length<=262144)(hc:l=[]\/(a.spot=none/\∀(j:Nat) x,l[j]?=some x->w.cell? ⟨a.block,a.off+j,none⟩=some (.string ⟨x.toArray⟩))):
  Calls prog 332 #[.slice (some a) l.length cap] w fun e w1=>∃v1,e= .returned v1/\w1.ownsRow w.heap.size 9 1 v1 l.length (l.map encStr)/\v1≠ .slice none 0 0/\Below w.heap.size w w1:=by
 rcases hc with rfl|⟨ha,hcell⟩
 ·exact Tryz.slices_Clone_string_zero a cap w
 ·have:=Tryz.slices_Clone_string a.block a.off l.length cap (l.map fun x=>(⟨x.toArray⟩:ByteArray)) w (by simp) (by omega) (fun j hj=>by
   have hj':j<l.length:=by simpa using hj
   rw[hcell j _ (List.getElem?_eq_getElem hj')];simp[List.getD,hj'])
  have hae:(⟨a.block,a.off,none⟩:Addr)=a:=by cases a;cases ha;rfl
  rw[hae]at this;refine this.mono fun e w1 ⟨v1,h1,h2,h4,h3⟩=>⟨v1,h1,?_,h4,h3⟩
  have he:(((l.map fun x=>(⟨x.toArray⟩:ByteArray)).take l.length).map Value.string)=l.map encStr:=by
   rw[List.take_of_length_le (by simp),List.map_map];exact List.map_congr_left fun x _=>(UX x).symm
  rwa [he]at h2
theorem anQ (l:List Str)(g c base:Nat)(w1:World)(hl:l.length<=262144)(h:w1.ownsRow base 9 1 (.slice (some ⟨g,0,none⟩) l.length c) l.length (l.map encStr))(hb:base<=w1.heap.size):
  Calls prog 333 #[.slice (some ⟨g,0,none⟩) l.length c] w1 fun e w2=>e= .returned (.tuple #[])/\w2.ownsRow base 9 1 (.slice (some ⟨g,0,none⟩) l.length c) l.length ((kL l).map encStr)/\Below base w1 w2:=by
 obtain⟨g',c',he,hbg,hlt,hn,hm,_,hH⟩:=holds_of_ownsRow h (by simp);obtain⟨rfl,rfl⟩:g=g'/\c=c':=by simpa using he
 refine(Tryz.slices_Sort_string g 0 c l w1 hH hlt (by omega)).mono ?_;rintro e w2 ⟨h1,n,os,rfl⟩;have hy:=ownsRow_putRow (q:=n) (ys:=kL l) (k:=l.length) h (lC l) (Nat.le_refl _);rw[List.take_of_length_le (by rw[lC];omega)]at hy;refine⟨h1,amT hy,?_⟩;exact ag7 (below_putRow (Below.refl _ _) hbg) (Nat.le_trans hb (below_putRow (Below.refl base w1) hbg).size)
theorem aoW (l:List Str)(g c base:Nat)(w1:World)(hl:l.length<=262144)(hk:(Lib.compact l).length<=l.length)(h:w1.ownsRow base 9 1 (.slice (some ⟨g,0,none⟩) l.length c) l.length (l.map encStr)):
  Calls prog 334 #[.slice (some ⟨g,0,none⟩) l.length c] w1 fun e w2=>e= .returned (.slice (some ⟨g,0,none⟩) (Lib.compact l).length c)/\w2.ownsRow base 9 1 (.slice (some ⟨g,0,none⟩) (Lib.compact l).length c) (Lib.compact l).length ((Lib.compact l).map encStr)/\Below base w1 w2:=by
 obtain⟨g',c',he,hbg,hlt,hn,hm,_,hH⟩:=holds_of_ownsRow h (by simp);obtain⟨rfl,rfl⟩:g=g'/\c=c':=by simpa using he
 refine(Tryz.slices_Compact_string g 0 c l w1 hH (by omega) hn).mono ?_;rintro e w2 ⟨h1,n,rfl⟩;have hy:=ownsRow_putRow (q:=n) (ys:=Lib.compact l++List.replicate (l.length-(Lib.compact l).length) []) (k:=(Lib.compact l).length) h (by simp;omega) hk;rw[List.take_left' rfl]at hy;exact⟨h1,hy,below_putRow (Below.refl _ _) hbg⟩
theorem abY:bR prog 211 [.one (.int .u64 0)] (fun r=>r= .val (dI 0)):=
 uJ (u:= .int .i64 0) rfl fun w ow vs hL hs ha=>by
  obtain rfl:=QD hs ha;have:=Tryz.bits_Len 0 w (by decide) (by decide);exact this.mono fun e w' h=>⟨h.1,h.2▸Below.refl _ _⟩
theorem ayD:Fk 374 [.one (.slice none 0 0),dI 0,dI 0] (.tup []):=by
 refine fE good [] func374 ntmps374 fun w0 ow0=> ?_;simp[go_sem];refine ai ?_;refine wl good (fun(i:Nat)=>[(0,.val (.one (.slice none 0 0))),(1,.val (dI 0)),(2,.val (dI 0)),(6,.val (dI 1))]) (fun(i:Nat)=>0) (fun(i:Nat)=>(i=1)) (1) (rfl) ?_;rintro i h1;simp[go_sem]
theorem awC (k:Int):Fk 362 [.one (.slice none 0 0),dI 0,dI 0,dI k] (.tup []):=by
 refine fE good [] func362 ntmps362 fun w0 ow0=> ?_;simp[go_sem];refine wl good (fun(i:Nat)=>[(0,.val (.one (.slice none 0 0))),(1,.val (dI 0)),(2,.val (dI 0)),(3,.val (dI k))]) (fun(i:Nat)=>0) (fun(i:Nat)=>(i=0)) (0) (rfl) ?_;rintro i h1;simp[go_sem];refine ai ?_;refine ck (ayD) ?_;simp[go_sem]
theorem aqS:Fk 333 [.one (.slice none 0 0)] (.tup []):=by
 refine fE good [] func333 ntmps333 fun w0 ow0=> ?_;simp[go_sem];refine ck (abY) ?_;simp[go_sem];refine ck (awC 0) ?_;simp[go_sem]
theorem aiC (cap:Nat)(w:World)(hs:Calls prog 333 #[.slice none 0 0] w fun e w'=>e= .returned (.tuple #[])/\Below w.heap.size w w'):Calls prog 290 #[.slice none 0 cap] w fun e w'=>e= .returned (.slice none 0 0)/\Below w.heap.size w w':=by
 have h1:=Tryz.slices_Clone_string_nil 0 cap w;have h3:=fun w2=>Tryz.slices_Compact_string_empty none 0 w2;go_enter func290,ntmps290
 go_wp2_with (first|(go_at_call 332;refine h1.mono ?_;rintro e w1 ⟨rfl,hw1⟩;obtain rfl:=hw1.symm)|(go_at_call 333;refine hs.mono ?_;rintro e w2 ⟨rfl,q2⟩)|(go_at_call 334;refine(h3 w2).mono ?_;rintro e w3 ⟨rfl,hw3⟩;obtain rfl:=hw3.symm))
 exact bodyPost_ret (v:= .slice none 0 0) (by simp[results,Tryz.f290,loadVar]) rfl ⟨rfl,q2⟩
theorem ai9 (l:List Str)(a:Addr)(cap:Nat)(w:World)(hl:l.length<=262144)(hc:l=[]\/(a.spot=none/\∀(j:Nat) x,l[j]?=some x->w.cell? ⟨a.block,a.off+j,none⟩=some (.string ⟨x.toArray⟩))):
  Calls prog 290 #[.slice (some a) l.length cap] w fun e w'=>∃v,e= .returned v/\w'.ownsRow w.heap.size 9 1 v (rO l).length ((rO l).map encStr)/\Below w.heap.size w w':=by
 have h1:=WP l a cap w hl hc;have h2:=fun g c w1=>anQ l g c w.heap.size w1 hl;have h3:=fun g c w1=>aoW (kL l) g c w.heap.size w1 (by rw[lC];exact hl) (by rw[lC];exact FD l);simp only[lC]at h3;go_enter func290,ntmps290
 go_wp2_with (first|(go_at_call 332;refine h1.mono ?_;rintro e w1 ⟨v1,rfl,k1,k2,k3⟩;obtain⟨g,c,rfl,k4,k5,_⟩:=holds_of_ownsRow k1 k2)|(go_at_call 333;refine(h2 g c w1 k1 k3.size).mono ?_;rintro e w2 ⟨rfl,q1,q2⟩)|(go_at_call 334;refine(h3 g c w2 q1).mono ?_;rintro e w3 ⟨rfl,r1,r2⟩))
 exact bodyPost_ret (v:= .slice (some ⟨g,0,none⟩) (Lib.compact (kL l)).length c) (by simp[results,Tryz.f290,loadVar]) rfl ⟨_,rfl,r1,(k3.trans q2).trans r2⟩
theorem XO {w w':World}{ow:Own}{t:Nat}(hB:Below w.heap.size w w'){v:Value}{l:List Str}(h:w'.ownsRow w.heap.size 9 1 v l.length (l.map encStr)):∃ow',After w ow w' ow'/\∀(s:St) (a:Act),SV prog w' ow' s a t (.own (oG l)) v:=by
 rcases h.2 with⟨rfl,h0⟩|⟨g,cap,cur,rfl,hg,hrow,hn,hm,hs,ht⟩
 ·obtain rfl:l=[]:=List.eq_nil_of_length_eq_zero h0;refine⟨fun b=>if b<w.heap.size then ow b else none,⟨hB.os,hB.tape,hB.output,hB.size,fun b hb=>⟨hB.block b hb,if_pos hb⟩,fun b hb=>if_neg (by have:=hB.size;omega)⟩,fun s a=> ?_⟩;exact acO
 ·have hlt:g<w'.heap.size:=Go.Dv.lt_of_heap hrow;refine⟨fun b=>if b=g then some [t]else if b<w.heap.size then ow b else none,⟨hB.os,hB.tape,hB.output,hB.size,fun b hb=>⟨hB.block b hb,?_⟩,fun b hb=> ?_⟩,fun s' a=> ?_⟩
  ·rw[if_neg (by omega),if_pos hb]
  ·have:=hB.size;rw[if_neg (by omega),if_neg (by omega)]
  ·simp only[SV,V,R];refine⟨some ⟨g,0,none⟩,cap,by simp,by simpa using hn,hm,.inr (.inr ⟨g,0,1,_,9,(0,0),rfl,hrow,(by intro h;cases h),fun t' ht'=> ?_,?_⟩)⟩
   ·obtain rfl:=Option.some.inj ht';obtain⟨_,i,zv,hi,hsz,_⟩:=(good 9).of (fun x h e=>by rw[e]at h;cases h);exact⟨by simp,rfl,unfz0 _,rfl,by simpa using hs,i,hi,hsz⟩
   ·rw[Rs.iff hrow];intro j x hx;rw[List.getElem?_map,Option.map_eq_some_iff]at hx;obtain⟨y,hy,rfl⟩:=hx
    have hc:cur[j]?=some (.string ⟨y.toArray⟩):=by
     have hj:=aS hy;have h1:(cur.toList.take (l.length*1))[j]?=some (encStr y):=by rw[ht,List.getElem?_map,hy];rfl
     rw[List.getElem?_take,if_pos (by omega)]at h1;rw[←Array.getElem?_toList,h1,UX]
    refine⟨rfl,_,_,_,[.string ⟨y.toArray⟩],hrow,fun k hk=> ?_,?_⟩
    ·obtain rfl:k=0:=by simpa[D.w]using hk
     simpa using hc
    ·simp[R,Value.oneCell']
theorem alG {w:World}{ow:Own}{l:List Str}{v:Value}(h:V prog w ow (D.fz (bD l)) [] v):∃a cap,v= .slice a l.length cap/\l.length<=cap/\(l=[]\/∃b off,a=some ⟨b,off,none⟩/\b<w.heap.size/\∀(j:Nat) x,l[j]?=some x->w.cell? ⟨b,off+j,none⟩=some (.string ⟨x.toArray⟩)):=by
 have hfz:D.fz (bD l)=bD l:=by simp[D.fz,D.EZ]
 rw[hfz]at h;simp only[V,R]at h;obtain⟨a,cap,h1,h2,h3,h4⟩:=h;have h1:v= .slice a (l.map dS).length cap:=by simpa using h1
 rw[List.length_map]at h1 h2;refine⟨a,cap,h1,h2,?_⟩;rcases h4 with h4|h4|⟨b,off,s,C,e,fz,ha,hh,hn,hs,hr⟩
 ·exact .inl (by simpa using h4.2.1)
 ·exact .inl (by simpa using h4.2)
 ·refine .inr ⟨b,off,ha,Go.Dv.lt_of_heap hh,fun j x hx=> ?_⟩;have:=(Rs.iff hh).1 hr j (dS x) (by rw[List.getElem?_map,hx];rfl);obtain⟨hw,C',e',fz',cs,g1,g2,g3⟩:=this;have hs1:s=1:=hw.symm;subst hs1;rw[hh]at g1;obtain⟨rfl,rfl,rfl⟩:C=C'/\e=e'/\fz=fz':=by simpa using g1
  simp only[R]at g3;obtain⟨rfl,_⟩:=g3;rw[cell_of_row w b (off+j) C e fz hh];have:=g2 0 (by simp[D.w]);simpa using this
theorem yN (l:List Str)(hl:l.length<=262144):bR prog 290 [bD l] (fun r=>r= .own (oG (rO l))):=by
 intro w ow vs t ht hL hnew hsz ha;obtain⟨a,cap,hv,hcap,hc⟩:=alG (ha 0 _ rfl)
 obtain rfl:vs= #[.slice a l.length cap]:=by
  apply Array.ext
  ·simpa using hsz
  ·intro i hi h2;obtain rfl:i=0:=by simpa using h2
   simpa[Array.getD_eq_getD_getElem?,hi]using hv
 cases a with
 |none=>
  obtain rfl:l=[]:=by
   rcases hc with h|⟨b,off,h,_⟩
   ·exact h
   ·cases h
  have he:rO []=[]:=List.eq_nil_of_length_eq_zero (by have:=FD [];simpa using this)
  have hsort:Calls prog 333 #[.slice none 0 0] w fun e w'=>e= .returned (.tuple #[])/\Below w.heap.size w w':=by
   refine(aqS w ow _ t ht hL hnew rfl fun i d hd=> ?_).mono ?_
   ·match i,hd with
    |0,hd=>obtain rfl:=Option.some.inj hd;simp[D.fz,V,R,Value.oneCell']
    |i+1,hd=>simp at hd
   ·rintro e w' ⟨v,ow',r,rfl,rfl,h3,_,h5⟩;have hv:=h5 (fun _=> .un) ⟨#[],[]⟩;obtain⟨us,rfl,hu,_⟩:=hv;have:us= #[]:=by apply Array.eq_empty_of_size_eq_zero;simpa using hu
    subst this;exact⟨rfl,⟨h3.os,h3.tape,h3.output,h3.size,fun b hb=>(h3.old b hb).1⟩⟩
  refine(aiC cap w hsort).mono ?_;rintro e w' ⟨rfl,hB⟩;refine⟨_,fun b=>if b<w.heap.size then ow b else none,_,rfl,rfl,⟨hB.os,hB.tape,hB.output,hB.size,fun b hb=>⟨hB.block b hb,if_pos hb⟩,fun b hb=>if_neg (by have:=hB.size;omega)⟩,rfl,fun s a=> ?_⟩;rw[he];exact acO
 |some a=>
  have hc':l=[]\/(a.spot=none/\∀(j:Nat) x,l[j]?=some x->w.cell? ⟨a.block,a.off+j,none⟩=some (.string ⟨x.toArray⟩)):=by
   rcases hc with h|⟨b,off,h,_,h2⟩
   ·exact .inl h
   ·cases h;exact .inr ⟨rfl,h2⟩
  refine(ai9 l a cap w hl hc').mono ?_;rintro e w' ⟨v,rfl,h1,h2⟩;obtain⟨ow',h3,h4⟩:=XO (ow:=ow) (t:=t) h2 h1;exact⟨_,ow',_,rfl,rfl,h3,rfl,h4⟩
end Go.Proofs.YtnglphdfhegnmaaGreatDoor
end
section
namespace Go.Proofs.YtnglphdfhegnmaaGreatDoor
open Go.Dv Go.Pl Go.RowKit Go.Proofs.Tryz
theorem D5 (c:UInt8):Fk 363 [dC c] (.val (dB (decide (97<=c.toNat)&&decide (c.toNat<=122)))):=by
 refine fE good [] func363 ntmps363 fun w0 ow0=> ?_;simp[go_sem];refine gv (fun e=> ?_) (fun e=> ?_)
 ·have e':=e;simp[go_sem,e];grind
 ·have e':=e;simp at e';simp[go_sem,e];omega
theorem pK (c:UInt8):Fk 339 [dC c] (.val (dB (decide (48<=c.toNat)&&decide (c.toNat<=57)))):=by
 refine fE good [] func339 ntmps339 fun w0 ow0=> ?_;simp[go_sem];refine gv (fun e=> ?_) (fun e=> ?_)
 ·have e':=e;simp[go_sem,e];grind
 ·have e':=e;simp at e';simp[go_sem,e];omega
theorem KV (c:UInt8):Fk 357 [dC c] (.val (dB (nN c))):=by
 refine fE good [] func357 ntmps357 fun w0 ow0=> ?_;simp[go_sem];refine ck (D5 _) ?_;simp[go_sem];refine gv (fun e=> ?_) (fun e=> ?_)
 ·have e':=e;simp at e';simp[go_sem,e];grind[nN]
 ·have e':=e;simp at e';simp[go_sem,e];refine gv (fun f=> ?_) (fun f=> ?_)
  ·have f':=f;simp[go_sem,f];refine gv (fun g1=> ?_) (fun g1=> ?_)
   ·have g1':=g1;simp[go_sem,g1];grind[nN]
   ·have g1':=g1;simp at g1';simp[go_sem,g1];refine ck (pK _) ?_;simp[go_sem];grind[nN]
  ·have f':=f;simp at f';simp[go_sem,f];refine ck (pK _) ?_;simp[go_sem];grind[nN]
theorem LB (c:UInt8):Fk 358 [dC c] (.val (dC (cK c))):=by
 refine fE good [] func358 ntmps358 fun w0 ow0=> ?_;simp[go_sem];refine gv (fun e=> ?_) (fun e=> ?_)
 ·have e':=e;simp[go_sem,e];refine gw (fun f=> ?_) (fun f=> ?_)
  ·have hu:=UV (c:=c) (by omega) (by omega);simp[go_sem,hu];simp only[inI];omega
  ·simp at f;have hu:=IQ (c:=c) (by omega);simp[go_sem,hu]
 ·have e':=e;simp at e';have hu:=IQ (c:=c) (by omega);simp[go_sem,e,hu]
theorem H6 (c:UInt8):Fk 356 [dC c] (.val (dC (EX c))):=by
 refine fE good [] func356 ntmps356 fun w0 ow0=> ?_;simp[go_sem];refine ck (KV _) ?_;simp[go_sem];refine gw (fun b=> ?_) (fun b=> ?_)
 ·have hu:EX c=c:=if_pos b;simp[go_sem,hu]
 ·have hu:EX c=32:=if_neg (by simpa using b);simp[go_sem,hu]
theorem aDA {s:Str}{i:Nat}{c:UInt8}{f:UInt8->UInt8}(h:s[i]?=some c):((s.take i).map f++s.drop i)[i]?=some c/\((s.take i).map f++s.drop i).set i (f c)=(s.take (i+1)).map f++s.drop (i+1):=by
 have hi:=aS h;have hl:((s.take i).map f).length=i:=by simp;omega
 have hd:s.drop i=c::s.drop (i+1):=by rw[List.drop_eq_getElem_cons hi];rw[List.getElem?_eq_getElem hi]at h;rw[Option.some.inj h]
 constructor
 ·rw[List.getElem?_append_right (by omega),hl,hd];simp
 ·rw[List.set_append_right _ _ (by omega),hl,hd,List.take_succ_eq_append_getElem hi];rw[List.getElem?_eq_getElem hi]at h;rw[Option.some.inj h];simp
def auN (f:UInt8->UInt8)(s:Str):Str:=s.map f
def ah6 (f:UInt8->UInt8)(s:Str)(i:Nat):Str:=(s.take i).map f++s.drop i
theorem aaB (s:Str)(f:UInt8->UInt8)(g:FuncId)(E:Dv.Enters prog g)(U:T (1000000+g)=⟨.no,0,.any 0⟩)(G:∀c∈s,bR prog g [dC c] (fun r=>r= .val (dC (f c))))(hs:s.length<=1048576):Fk 354 [dS s,.one (.func (.func g) #[] #[])] (.val (dS (auN f s))):=by
 refine fE good [] func354 ntmps354 fun w0 ow0=> ?_;have hm0:ah6 f s 0=s:=rfl;simp[go_sem];refine ai ?_;refine wl good (fun(i:Nat)=>[(0,.val (dS s)),(1,.val (.one (.func (.func g) #[] #[]))),(5,.own (oBs (ah6 f s i))),(10,.al 5 []),(11,.val (dI s.length)),(12,.val (dI i))]) (fun(i:Nat)=>s.length-i) (fun(i:Nat)=>(i<=s.length)) (0) (by omega) ?_ (h0:=by simp[go_sem,E,U,hm0]);rintro i h1;simp[go_sem];refine gw (fun a=> ?_) (fun a=> ?_)
 ·obtain⟨c,hc⟩:=aC (l:=s) (i:=i) (by omega);have hm:=aDA (f:=f) hc;have hc1:(ah6 f s i)[i]?=some c:=hm.1;have hc2:((ah6 f s i).map dU).set i (dC (f c))=(ah6 f s (i+1)).map dU:=by rw[←List.map_set (f:=dU)];exact congrArg _ hm.2
  simp[go_sem,E,U,hc1];refine ck ((G c (List.mem_of_getElem? hc))) ?_;simp[go_sem,hc1,hc2];refine ai ?_;refine nx (i+1) (by omega)
 ·simp at a;have hm:ah6 f s i=auN f s:=by have:i=List.length s:=(by omega);subst this;simp[ah6,auN]
  simp[go_sem,hm]
theorem aA3 {w:World}{ow:Own}{vs:Array Value}{u u' u2:Value}(hs:vs.size=3)(h:∀(i:Nat) (d:D),[D.one u,D.one u',D.one u2][i]?=some d->V prog w ow d.fz [] (vs.getD i undef)):vs= #[u,u',u2]:=by
 have h0:=DK (h 0 _ rfl);have h1:=DK (h 1 _ rfl);have h3:=DK (h 2 _ rfl);apply Array.ext
 ·simpa using hs
 ·intro i hi h2;have:i=0\/i=1\/i=2:=by simp at h2;omega
  rcases this with rfl|rfl|rfl
  ·simpa[Array.getD_eq_getD_getElem?,hi]using h0
  ·simpa[Array.getD_eq_getD_getElem?,hi]using h1
  ·simpa[Array.getD_eq_getD_getElem?,hi]using h3
def agK (s:Str):Str:=s.filter fun c=> !decide (c=39)
theorem EC (s:Str)(hs:s.length<=1048576):bR prog 355 [dS s,dS [39],dS []] (fun r=>r= .val (dS (agK s))):=
 uJ (u:= .string ⟨(agK s).toArray⟩) rfl fun w ow vs hL hsz ha=>by
  obtain rfl:=aA3 hsz ha;obtain⟨m,hm⟩:=(DR hL).2.2.2.1;have hc:Lib.countB ⟨s.toArray⟩ ⟨[39].toArray⟩=s.count 39:=Lib.count_one 39 s;refine(Tryz.strings_ReplaceAll ⟨s.toArray⟩ ⟨[39].toArray⟩ ⟨[].toArray⟩ m w (by simp[ByteArray.size];omega) hm (by simp[ByteArray.size]) (by rw[hc];simp[ByteArray.size];omega)).mono fun e w' ⟨h1,h2⟩=>⟨?_,h2⟩;rw[h1];show Ending.returned (.string ⟨(Lib.replaceAll s [39] []).toArray⟩)=_;rw[XQ];rfl
theorem ED (s:Str)(hs:s.length<=1048576:=by first|assumption|omega|(simp;omega)|grind):bR prog 353 [dS s,dS [32]] (fun r=>r= .val (dS (Z6 s))):=
 uJ (u:= .string ⟨(Z6 s).toArray⟩) rfl fun w ow vs hL hsz ha=>by
  obtain rfl:=adK hsz ha;rw[auF,←aqN];exact(Tryz.strings_TrimSuffix ⟨s.toArray⟩ ⟨[32].toArray⟩ w (by simp[ByteArray.size];omega)).mono fun e w' ⟨h1,h2⟩=>⟨h1,h2▸Below.refl _ _⟩
theorem ahK (x:Nat)(hx:x<=1114111)(w:World):Calls prog 336 #[.int .i32 x] w fun e w'=>e= .returned (.bool (isSp x))/\Below w.heap.size w w':=by
 go_enter func336,ntmps336
 go_wp2
 refine bodyPost_ret (v:= .bool (decide ((x:Int)=32))) (by simp[results,Tryz.f336,loadVar]) rfl ⟨?_,Below.refl _ _⟩;have:decide ((x:Int)=32)=isSp x:=by unfold isSp;rw[Bool.eq_iff_iff,decide_eq_true_eq,decide_eq_true_eq];omega
 rw[this]
theorem BG (s:Str)(hs:s.length<=1048576:=by first|assumption|omega|(simp;omega)|grind):Fk 327 [dS s] (.val (dS (nH s))):=by
 refine fE good [] func327 ntmps327 fun w0 ow0=> ?_;have hm:auN cK s=nH s:=rfl;simp[go_sem];refine ck (aaB s cK 358 aDI aCO (fun c _=>LB c) hs) ?_;simp[go_sem,hm]
theorem KY (s:Str)(hs:s.length<=1048576):Fk 326 [dS s] (.val (dS (oI s))):=by
 refine fE good [] func326 ntmps326 fun w0 ow0=> ?_;have hm:auN EX (agK s)=oI s:=asQ s;have hl:(agK s).length<=s.length:=List.length_filter_le _ _;simp[go_sem];refine ck (EC s hs) ?_;simp[go_sem];refine ck (aaB (agK s) EX 356 aDQ aC7 (fun c _=>H6 c) (by omega)) ?_;simp[go_sem,hm]
theorem BO (s:Str)(hs:s.length<=1048576):Fk 325 [dS s] (.val (dS (uD s))):=by
 refine fE good [] func325 ntmps325 fun w0 ow0=> ?_;simp[go_sem];refine wl good (fun(x':(Nat)×(Str))=>match x' with|(i,o)=>[(0,.val (dS s)),(3,.own (oBs o)),(5,.val (dS s)),(6,.val (dI s.length)),(7,.val (dI i))]) (fun(x':(Nat)×(Str))=>match x' with|(i,o)=>(s).length-i) (fun(x':(Nat)×(Str))=>match x' with|(i,o)=>(i<=(s).length)/\(o=(s.take i).foldl PK [])/\(o.length<=i)) ((0,[])) ⟨(by omega),rfl,(by simp)⟩ ?_;rintro⟨i,o⟩ ⟨h1,h2,h3⟩;simp[go_sem];refine gw (fun a=> ?_) (fun a=> ?_)
 ·obtain⟨c,hc⟩:=aC (l:=s) (i:=i) (by omega);have hm:=bC PK [] hc;rw[←h2]at hm;simp[go_sem,hc];refine gv (fun e=> ?_) (fun e=> ?_)
  ·have e':=e;have hu:PK o c=o++[c]:=if_pos (.inl (by rintro rfl;simp at e));simp[go_sem,hc,e];iterate 2 refine ai ?_
   refine nx (i+1,o++[c]) ⟨(by omega),(by rw[hm,hu]),(by simp;omega)⟩
  ·have e':=e;have hc32:c=32:=UInt8.toNat_inj.1 (show c.toNat=32 by omega);simp[go_sem,e];refine gv (fun f=> ?_) (fun f=> ?_)
   ·have f':=f;obtain⟨x,hx⟩:=aC (l:=o) (i:=o.length-1) (by omega);have hj:((o.length:Int)-1).toNat=o.length-1:=by omega
    have hg:o.getLast?=some x:=by rw[List.getLast?_eq_getElem?];exact hx
    simp[go_sem,f,hx,hj];iterate 2 refine ai ?_
    refine gw (fun b=> ?_) (fun b=> ?_)
    ·have hu:PK o c=o++[c]:=if_pos (.inr ⟨by rintro rfl;simp at f,by rw[hg];rintro h;cases h;simp at b⟩);simp[go_sem,hc,e];iterate 2 refine ai ?_
     refine nx (i+1,o++[c]) ⟨(by omega),(by rw[hm,hu]),(by simp;omega)⟩ (h3:=by simp[go_sem,hc,e,f,hx,hj])
    ·have hx32:x=32:=UInt8.toNat_inj.1 (show x.toNat=32 by omega);have hu:PK o c=o:=if_neg (by rw[hg,hc32,hx32];simp);simp[go_sem];refine ai ?_;refine nx (i+1,o) ⟨(by omega),(by rw[hm,hu]),(by omega)⟩
   ·have f':=f;simp at f';have ho:o=[]:=List.eq_nil_of_length_eq_zero (by omega);have hu:PK o c=o:=if_neg (by rw[ho,hc32];simp);simp[go_sem,f];refine ai ?_;refine nx (i+1,o) ⟨(by omega),(by rw[hm,hu]),(by omega)⟩
 ·simp at a;rw[aO a]at h2;have hce:=RU s;rw[←h2]at hce;simp[go_sem];refine ck (ED _) ?_;simp[go_sem,hce]
theorem qP (s:Str)(hs:s.length<=65536):Fk 287 [dS s] (.val (dS (normal s))):=by
 refine fE good [] func287 ntmps287 fun w0 ow0=> ?_;have h1:=AB s;have h2:=CG (nH s);have hn:uD (oI (nH s))=normal s:=rfl;simp[go_sem];refine ck (BG s (by omega)) ?_;simp[go_sem];refine ck (KY (nH s) (by omega)) ?_;simp[go_sem];refine ck (BO (oI (nH s)) (by omega)) ?_;simp[go_sem,hn]
end Go.Proofs.YtnglphdfhegnmaaGreatDoor
end
section
namespace Go.Proofs.YtnglphdfhegnmaaGreatDoor
open Go.Dv Go.Pl Go.RowKit Go.Lib Go.Proofs.Tryz
theorem ad1:∀(s o:Str) (c:UInt8),c∈s.foldl PK o->c∈o\/c∈s
 |[],o,c,h=> .inl h
 |d::s,o,c,h=>by
  rcases ad1 s (PK o d) c h with h|h
  ·unfold PK at h;split at h
   ·rcases List.mem_append.1 h with h|h
    ·exact .inl h
    ·exact .inr (by rw[List.mem_singleton.1 h];exact List.mem_cons_self)
   ·exact .inl h
  ·exact .inr (List.mem_cons_of_mem _ h)
theorem ao6 {s:Str}{c:UInt8}(h:c∈oI s):c.toNat<128:=by
 unfold oI at h;obtain⟨d,_,hd⟩:=List.mem_flatMap.1 h;unfold qW at hd;split at hd
 ·rename_i hw;rw[List.mem_singleton.1 hd];rcases hw with hw|hw
  ·unfold nN at hw;simp only[Bool.or_eq_true,Bool.and_eq_true,decide_eq_true_eq]at hw;omega
  ·omega
 ·split at hd
  ·rw[List.mem_singleton.1 hd];decide
  ·cases hd
theorem aj4 {s:Str}{c:UInt8}(h:c∈normal s):c.toNat<128:=by
 unfold normal at h;rw[RU]at h
 have h2:c∈(oI (nH s)).foldl PK []:=by
  unfold Z6 at h;split at h
  ·exact(List.dropLast_sublist _).subset h
  ·exact h
 rcases ad1 _ _ _ h2 with h3|h3
 ·cases h3
 ·exact ao6 h3
theorem AR (s:Str):(normal s).length<=2*s.length:=by
 have h1:=AB s;have h2:=CG (nH s);have h3:=P5 (oI (nH s));unfold normal;omega
theorem Z9 (s:Str):(DD s).length<=s.length+1:=Nat.le_trans (List.length_filter_le _ _) (H7 32 s []).1
theorem ao3 (s:Str)(hs:s.length<=1048576)(hA:∀c∈s,c.toNat<128):bR prog 335 [dS s,.one (.func (.func 336) #[] #[])] (fun r=>r= .own (oG (DD s))):=by
 intro w ow vs t ht hL hnew hsz ha;obtain rfl:=adK hsz ha;refine(Tryz.strings_FieldsFunc_grows 336 #[] aCD isSp ⟨s.toArray⟩ w (by simp[ByteArray.size];omega) (fun W x hx hb=>ahK x hx W)).mono ?_;rintro e w' ⟨A,rfl,_,h1,h2⟩;have hm:=map_encStr (Lib.goFieldsP isSp ⟨s.toArray⟩);rw[aaG hA]at hm;have hl:(Lib.goFieldsP isSp ⟨s.toArray⟩).length=(DD s).length:=by rw[←aaG hA,List.length_map]
 rw[←hm,hl]at h1;obtain⟨ow',h3,h4⟩:=XO (ow:=ow) (t:=t) h2 h1;exact⟨_,ow',_,by rw[hl],rfl,h3,rfl,h4⟩
theorem ZT (s:Str)(hs:s.length<=1048576)(hA:∀c∈s,c.toNat<128):Fk 291 [dS s] (.own (oG (DD s))):=by
 refine fE good [] func291 ntmps291 fun w0 ow0=> ?_;simp[go_sem];refine ck (ao3 s hs hA) ?_;simp[go_sem]
theorem xS (s:Str)(hs:s.length<=65536):Fk 235 [dS s] (.own (oG (tokens s))):=by
 refine fE good [] func235 ntmps235 fun w0 ow0=> ?_;have hn:=AR s;have hw:=Z9 (normal s);have ht:=JY s;simp[go_sem];refine ck (qP s hs) ?_;simp[go_sem];refine ck (ZT (normal s) (by omega) (fun c hc=>aj4 hc)) ?_;simp[go_sem];refine ck (yN (DD (normal s)) (by omega)) ?_;simp[go_sem,ht]
end Go.Proofs.YtnglphdfhegnmaaGreatDoor
end
section
namespace Go.Proofs.YtnglphdfhegnmaaGreatDoor
open Go.Dv Go.Pl Go.Proofs.Tryz
theorem DL (s:Str)(hs:s.length<=1048576):Fk 373 [dS s] (.val (dB (s.all zB))):=by
 refine fE good [] func373 ntmps373 fun w0 ow0=> ?_;simp[go_sem];refine wl good (fun(i:Nat)=>[(0,.val (dS s)),(5,.val (dI s.length)),(6,.val (dI i))]) (fun(i:Nat)=>(s).length-i) (fun(i:Nat)=>(i<=(s).length)/\(((s).take i).all zB=true)) (0) ⟨(by omega),rfl⟩ ?_;rintro i ⟨h1,h2⟩;simp[go_sem];refine gw (fun a=> ?_) (fun a=> ?_)
 ·obtain⟨c,hc⟩:=aC (l:=s) (i:=i) (by omega);simp[go_sem,hc];refine ck (D5 c) ?_;simp[go_sem];refine gv (fun e=> ?_) (fun e=> ?_)
  ·have e':=e;simp at e';simp[go_sem,hc,e];refine ck (pK c) ?_;simp[go_sem];refine gw (fun b=> ?_) (fun b=> ?_)
   ·simp at b;have hn:=bO hc (P:=zB) (by simp[zB]at*;omega);simp[go_sem,hn]
   ·simp at b;simp[go_sem];refine ai ?_;refine nx (i+1) ⟨(by omega),(aM hc h2 (by simp[zB]at*;omega))⟩
  ·have e':=e;simp at e';simp[go_sem,e];refine ai ?_;refine nx (i+1) ⟨(by omega),(aM hc h2 (by simp[zB]at*;omega))⟩
 ·simp at a;have hf:=dM h2 a;simp[go_sem,hf]
theorem awI {c:Str}(h:c≠[]):JE c=c.all zB:=by rw[axG];simp[h]
theorem wZ (l:List Str)(hl:l.length<=1048576)(hs:∀x∈l,x.length<=1048576):Fk 360 [bD l] (.val (dB (jM l))):=by
 refine fE good [] func360 ntmps360 fun w0 ow0=> ?_;simp[go_sem];refine wl good (fun(i:Nat)=>[(0,.val (bD l)),(5,.val (bD l)),(6,.val (dI l.length)),(7,.val (dI i))]) (fun(i:Nat)=>(l).length-i) (fun(i:Nat)=>(i<=(l).length)/\((l.take i).all JE=true)/\(adj ltL (l.take i)=true)) (0) ⟨(by omega),rfl,rfl⟩ ?_;rintro i ⟨h1,h2,h3⟩;simp[go_sem];refine gw (fun a=> ?_) (fun a=> ?_)
 ·obtain⟨c,hc⟩:=aC (l:=l) (i:=i) (by omega);simp[go_sem,hc];refine gv (fun e=> ?_) (fun e=> ?_)
  ·have e':=e;have hn:=bO hc (P:=JE) (by simp[JE,e]);simp[go_sem,e];grind[jM]
  ·have e':=e;have hne:c≠[]:=by simpa using e
   have hta:=awI hne;simp[go_sem,e];refine ck (DL c (hs c (zK hc))) ?_;simp[go_sem];refine gv (fun g=> ?_) (fun g=> ?_)
   ·have g':=g;simp at g';have hn:=bO hc (P:=JE) (by rw[hta];simpa using g);simp[go_sem,g];grind[jM]
   ·have g':=g;simp at g';simp[go_sem,g];refine gv (fun f=> ?_) (fun f=> ?_)
    ·have f':=f;obtain⟨p,hp⟩:=aC (l:=l) (i:=i-1) (by omega);have hi1:i-1+1=i:=by omega
     have hj1:((i:Int)-1).toNat=i-1:=by omega
     simp[go_sem,f,hp,hj1];iterate 2 refine ai ?_
     refine gw (fun b=> ?_) (fun b=> ?_)
     ·simp at b;have hn:=ER hp (by rw[hi1];exact hc) (R:=ltL) (by simpa using b);simp[go_sem];grind[jM]
     ·simp at b;simp[go_sem];refine ai ?_;refine nx (i+1) ⟨(by omega),(aM hc h2 (by rw[hta];simpa using g)),(by have:=uV (i:=i-1) (by rw[hi1];exact h3) hp (by rw[hi1];exact hc) (R:=ltL) (by simpa using b);rwa [hi1]at this)⟩
    ·have f':=f;simp at f';simp[go_sem,f];refine ai ?_;refine nx (i+1) ⟨(by omega),(aM hc h2 (by rw[hta];simpa using g)),(by obtain rfl:i=0:=(by omega);exact qK)⟩
 ·simp at a;have hf:=dM h2 a;rw[aO a]at h3;simp[go_sem];grind[jM]
theorem GI (a b:List Str)(ha:a.length<=1048576)(hsa:∀x∈a,x.length<=1048576)(hb:b.length<=1048576)(hsb:∀x∈b,x.length<=1048576):Fk 329 [bD a,bD b] (.val (dB (mY a b))):=by
 refine fE good [] func329 ntmps329 fun w0 ow0=> ?_;simp[go_sem];refine ck (wZ a ha hsa) ?_;simp[go_sem];refine gv (fun e=> ?_) (fun e=> ?_)
 ·have e':=e;simp[go_sem,e];refine ck (wZ b hb hsb) ?_;simp[go_sem];grind[mY]
 ·have e':=e;simp[go_sem,e];grind[mY]
theorem QS (n d:Int)(hn:0<=n/\n<=1000000000000)(hd:0<=d/\d<=1000000000):Fk 331 [dI n,dI d] (.val (dI (if d=0 then 1000 else n.tdiv d))):=by
 refine fE good [] func331 ntmps331 fun w0 ow0=> ?_;simp[go_sem];refine gw (fun b=> ?_) (fun b=> ?_)
 ·simp[go_sem];omega
 ·simp[go_sem];iterate 2 refine ai ?_
  omega
end Go.Proofs.YtnglphdfhegnmaaGreatDoor
end
section
namespace Go.Proofs.YtnglphdfhegnmaaGreatDoor
open Go.Dv Go.Pl Go.RowKit Go.Proofs.Tryz
theorem ao9:∀k<26,G5.getD k 0=codeOf (97+k):=by decide
theorem YX {w:World}(h:sG w){k:Nat}(hk:k<26):w.cell? ⟨0,k,none⟩=some (.int .i64 (codeOf (97+k))):=by
 have hv:=h.2.2.2.2;have hg:prog.globalNamed "loop.example/g01923/impl.soundCodes" =some 0:=by kernel_rfl
 rw[←ao9 k hk];simp only[World.var?,hg,Option.bind_some]at hv;have hl:k<G5.length:=hk;cases hh:w.heap[0]? with
 |none=>rw[hh]at hv;simp at hv
 |some o=>
  rw[hh]at hv;cases o with
  |cells cs e fz=>
   simp only[Option.bind_some]at hv;obtain rfl:=Option.some.inj hv;simp only[World.cell?,hh];simp[List.getD,hl]
  |_=>simp at hv
theorem aAN (c:UInt8)(w:World)(h:sG w):Calls prog 337 #[.int .u8 c.toNat] w fun e w'=>e= .returned (.int .i64 (aB c))/\Below w.heap.size w w':=by
 have hc:c.toNat<256:=c.toNat_lt;have hs:=UB c;by_cases h1:65<=c.toNat/\c.toNat<=90
 ·have hu:=UV h1.1 h1.2;have hcell:=YX h (k:=c.toNat-65) (by omega);rw[if_pos (by omega),hu]at hs;rw[show 97+(c.toNat-65)=c.toNat+32 by omega]at hcell;go_enter func337,ntmps337
  go_wp2
  all_goals first
   |(refine bodyPost_ret (v:= .int .i64 (aB c)) ?_ rfl ⟨rfl,Below.refl _ _⟩;simp[results,Tryz.f337,loadVar,hs];done)
   |(refine bodyPost_ret (v:= .int .i64 (-2)) ?_ rfl ⟨rfl,Below.refl _ _⟩;simp[results,Tryz.f337,loadVar];done)
   |(exfalso;rename_i h9;simp at h9;omega)
   |(exfalso;omega)
   |(exfalso;rename_i h8 h9;simp at h8 h9;omega)
 ·have hu:=IQ h1;rw[hu]at hs;by_cases h2:97<=c.toNat/\c.toNat<=122
  ·have hcell:=YX h (k:=c.toNat-97) (by omega);rw[if_pos h2]at hs;rw[show 97+(c.toNat-97)=c.toNat by omega]at hcell;go_enter func337,ntmps337
   go_wp2
   all_goals first
    |(refine bodyPost_ret (v:= .int .i64 (aB c)) ?_ rfl ⟨rfl,Below.refl _ _⟩;simp[results,Tryz.f337,loadVar,hs];done)
    |(refine bodyPost_ret (v:= .int .i64 (-2)) ?_ rfl ⟨rfl,Below.refl _ _⟩;simp[results,Tryz.f337,loadVar];done)
    |(exfalso;rename_i h9;simp at h9;omega)
    |(exfalso;omega)
    |(exfalso;rename_i h8 h9;simp at h8 h9;omega)
  ·rw[if_neg h2]at hs;go_enter func337,ntmps337
   go_wp2
   all_goals first
    |(refine bodyPost_ret (v:= .int .i64 (aB c)) ?_ rfl ⟨rfl,Below.refl _ _⟩;simp[results,Tryz.f337,loadVar,hs];done)
    |(refine bodyPost_ret (v:= .int .i64 (-2)) ?_ rfl ⟨rfl,Below.refl _ _⟩;simp[results,Tryz.f337,loadVar];done)
    |(exfalso;rename_i h9;simp at h9;omega)
    |(exfalso;omega)
    |(exfalso;rename_i h8 h9;simp at h8 h9;omega)
    |(exfalso;simp only[Bool.not_eq_eq_eq_not,Bool.not_false,decide_eq_true_eq]at*;omega)
theorem yV (c:UInt8):bR prog 337 [dC c] (fun r=>r= .val (dI (aB c))):=
 uJ (u:= .int .i64 (aB c)) rfl fun w ow vs hL hs ha=>by
  obtain rfl:=QD hs ha;exact aAN c w (DR hL)
end Go.Proofs.YtnglphdfhegnmaaGreatDoor
end
section
namespace Go.Proofs.YtnglphdfhegnmaaGreatDoor
open Go.Dv Go.Pl Go.Proofs.Tryz
def okC (c:UInt8):Bool:=decide (aB c≠ -2)
def ayT (c0:UInt8)(r:Str)(i:Nat):Str×Int:=(r.take (i-1)).foldl kG ([cK c0],aB c0)
theorem al5 (c0:UInt8)(r:Str){i:Nat}{c:UInt8}(hi:0<i)(h:(c0::r)[i]?=some c):ayT c0 r (i+1)=kG (ayT c0 r i) c:=by
 obtain⟨j,rfl⟩:∃j,i=j+1:=⟨i-1,by omega⟩;rw[List.getElem?_cons_succ]at h;exact bC kG _ h
theorem TL (s:Str)(hs:s.length<=65536):Fk 292 [dS s] (.val (dS (dH s))):=by
 refine fE good [] func292 ntmps292 fun w0 ow0=> ?_;simp[go_sem];refine gw (fun a=> ?_) (fun a=> ?_)
 ·have hx:dH s=[]:=if_pos (.inl (by simpa using a));simp[go_sem,hx]
 ·obtain⟨c0,r,rfl⟩:∃c r,s=c::r:=by cases s with|nil=>simp at a|cons c r=>exact⟨c,r,rfl⟩
  have hf:nH [c0]=[cK c0]:=rfl;have hrl:r.length<=65536:=by simp at hs;omega
  simp[go_sem];refine ck (BG [c0]) ?_;simp[go_sem,hf];refine ck (yV c0) ?_;simp[go_sem];refine wl good (fun(x':(Nat)×(Str)×(Int))=>match x' with|(i,o,p)=>[(0,.val (dS (c0::r))),(3,.own (oBs o)),(4,.val (dI p)),(16,.val (dS (c0::r))),(17,.val (dI (r.length+1))),(18,.val (dI i))]) (fun(x':(Nat)×(Str)×(Int))=>match x' with|(i,o,p)=>(r.length+1)-i) (fun(x':(Nat)×(Str)×(Int))=>match x' with|(i,o,p)=>(i<=r.length+1)/\(((c0::r).take i).all okC=true)/\((o,p)=ayT c0 r i)/\(1<=o.length/\o.length<=i+1)) ((0,[cK c0],aB c0)) ⟨(by omega),(rfl),(rfl),(by simp)⟩ ?_;rintro⟨i,o,p⟩ ⟨h1,h2,h3,h4⟩;simp[go_sem];refine gw (fun b=> ?_) (fun b=> ?_)
  ·obtain⟨c,hc⟩:=aC (l:=c0::r) (i:=i) (by simp;omega);have hle:=NC c;simp[go_sem,hc];refine ck (yV c) ?_;simp[go_sem];refine gw (fun d=> ?_) (fun d=> ?_)
   ·have hn:=bO hc (P:=okC) (by simp[okC,d]);have hx:=ai2 hn;simp[go_sem,hx]
   ·have hok:okC c=true:=by simp[okC,d]
    simp[go_sem];refine gv (fun e=> ?_) (fun e=> ?_)
    ·have e':=e;obtain rfl:i=0:=by omega
     simp[go_sem];refine ai ?_;refine nx (1,o,p) ⟨(by omega),(aM hc h2 hok),(h3),(by omega)⟩
    ·have e':=e;have hst:=al5 c0 r (by omega) hc;rw[←h3]at hst;simp[go_sem,e];refine gw (fun f=> ?_) (fun f=> ?_)
     ·have hs1:kG (o,p) c=(o,p):=by simp only[kG];rw[if_neg (by omega),if_neg (by omega)]
      simp[go_sem];refine ai ?_;refine nx (i+1,o,p) ⟨(by omega),(aM hc h2 hok),(by rw[hst,hs1]),(by omega)⟩
     ·simp at f;simp[go_sem];refine gv (fun g=> ?_) (fun g=> ?_)
      ·have g':=g;simp[go_sem,g];refine gw (fun k=> ?_) (fun k=> ?_)
       ·have hs1:kG (o,p) c=(o++[UInt8.ofNat (48+aB c).toNat],aB c):=by simp only[kG];rw[if_pos ⟨by omega,k⟩,if_pos (by omega)]
        have hu:((UInt8.ofNat (48+aB c).toNat).toNat:Int)=48+aB c:=by simp;omega
        have hw:IntKind.u8.wrap (48+aB c)=max (48+aB c) 0 % 256:=by simp[IntKind.wrap,IntKind.bits,IntKind.signed];omega
        simp[go_sem,hw];iterate 3 refine ai ?_
        refine nx (i+1,o++[UInt8.ofNat (48+aB c).toNat],aB c) ⟨(by omega),(aM hc h2 hok),(by rw[hst,hs1]),(by simp;omega)⟩
       ·have hs1:kG (o,p) c=(o,aB c):=by simp only[kG];rw[if_neg (by rintro⟨_,h⟩;exact h (by omega)),if_pos (by omega)]
        simp[go_sem];refine ai ?_;refine nx (i+1,o,aB c) ⟨(by omega),(aM hc h2 hok),(by rw[hst,hs1]),(by omega)⟩
      ·have g':=g;simp at g';have hs1:kG (o,p) c=(o,aB c):=by simp only[kG];rw[if_neg (by omega),if_pos (by omega)]
       simp[go_sem,g];refine ai ?_;refine nx (i+1,o,aB c) ⟨(by omega),(aM hc h2 hok),(by rw[hst,hs1]),(by omega)⟩
  ·simp at b;obtain rfl:i=r.length+1:=by omega
   rw[List.take_of_length_le (by simp)]at h2;have hse:=aiU c0 r h2;have ho:(r.foldl kG ([cK c0],aB c0)).1=o:=by have:=congrArg Prod.fst h3;simpa[ayT]using this.symm
   rw[ho]at hse;simp[go_sem,hse];refine ai ?_;omega
theorem am3 (s:Str):(tokens s).length<=2*s.length+1:=by
 rw[←JY];have h1:=FD (DD (normal s));have h2:=Z9 (normal s);have h3:=AR s;omega
def YH (l:List Str)(i:Nat):List Str:=afD (l.take i)
theorem ah5 {l:List Str}{i:Nat}{c:Str}(h:l[i]?=some c):YH l (i+1)=YH l i++if dH c=[]then[]else[dH c]:=by
 unfold YH afD;rw[aW h,List.map_append,List.filter_append];congr 1;by_cases hc:dH c=[]<;>simp[hc]
theorem yG (s:Str)(hs:s.length<=4096):Fk 236 [dS s] (.own (oG (fQ s))):=by
 refine fE good [] func236 ntmps236 fun w0 ow0=> ?_;have hk:=adV s;have ht:=am3 s;have hel:∀x∈tokens s,x.length<=65536:=fun x hx=>by have h1:=((LZ s).2 x).1 hx;have h2:=(H7 32 (normal s) []).2 x h1.1;have h3:=AR s;simp at h2;omega
 simp[go_sem];refine ck (xS s (by omega)) ?_;generalize tokens s=l at*
 simp[go_sem];refine wl good (fun(x':(Nat)×(List Str))=>match x' with|(i,o)=>[(3,.own (oG o)),(8,.own (oG l)),(9,.val (dI l.length)),(10,.val (dI i))]) (fun(x':(Nat)×(List Str))=>match x' with|(i,o)=>l.length-i) (fun(x':(Nat)×(List Str))=>match x' with|(i,o)=>(i<=l.length)/\(o=YH l i)/\(o.length<=i)) ((0,[])) ⟨(by omega),(rfl),(by simp)⟩ ?_;rintro⟨i,o⟩ ⟨h1,h2,h3⟩;simp[go_sem];refine gw (fun a=> ?_) (fun a=> ?_)
 ·obtain⟨c,hc⟩:=aC (l:=l) (i:=i) (by omega);have hst:=ah5 hc;simp[go_sem,hc];refine ck (TL c (hel c (List.mem_of_getElem? hc))) ?_;simp[go_sem];refine gw (fun b=> ?_) (fun b=> ?_)
  ·have hu:YH l (i+1)=o++[dH c]:=by rw[hst,if_neg b,h2]
   simp[go_sem];iterate 2 refine ai ?_
   refine nx (i+1,o++[dH c]) ⟨(by omega),(hu.symm),(by simp;omega)⟩
  ·have hu:YH l (i+1)=o:=by rw[hst,if_pos b,List.append_nil,h2]
   simp[go_sem];refine ai ?_;refine nx (i+1,o) ⟨(by omega),(hu.symm),(by omega)⟩
 ·simp at a;have ho:o=afD l:=by rw[h2,YH,List.take_of_length_le (by omega)]
  rw[←ho]at hk;simp[go_sem];refine ck (yN o (by omega)) ?_;simp[go_sem,hk]
end Go.Proofs.YtnglphdfhegnmaaGreatDoor
end
section
namespace Go.Proofs.YtnglphdfhegnmaaGreatDoor
open Go.Dv Go.Pl Go.RowKit Go.Proofs.Tryz
theorem TI (n:Int)(hn: -9223372036854775808<=n/\n<=9223372036854775807):bR prog 385 [dI n] (fun r=>r= .val (dS (oL n))):=
 uJ (u:= .string ⟨(oL n).toArray⟩) rfl fun w ow vs hL hs ha=>by
  obtain rfl:=QD hs ha;rw[←ax0];exact(Tryz.strconv_Itoa n hn.1 hn.2 w (DR hL).1).mono fun e w' ⟨h1,k,os,h2⟩=>⟨h1,h2▸below_grow⟩
theorem xU (s:Str)(v:Int)(hs:s.length<=1048576)(h:Lib.atoiAll s= .ok v):bR prog 364 [dS s] (fun r=>r= .tup [.val (dI v),.val (.one .nilIface)]):=by
 refine aqT (us:=[.int .i64 v,.nilIface]) (by simp[Value.oneCell']) fun w ow vs hL hsz ha=> ?_;obtain rfl:=QD hsz ha;refine(Tryz.strconv_Atoi_ok ⟨s.toArray⟩ (by simp[ByteArray.size];omega) v h w).mono fun e w' ⟨h1,h2⟩=>⟨h1,?_⟩;rcases h2 with rfl|⟨t,rfl⟩
 ·exact Below.refl _ _
 ·exact Lib.bytesWorld_below w _ t
theorem MI (s:Str)(hs:s.length<=1048576)(h:∀v,Lib.atoiAll s≠ .ok v):bR prog 364 [dS s] (fun r=>∃k tp p,r= .tup [.val (dI k),.val (.one (.iface tp p))]):=by
 have hsz:(⟨s.toArray⟩:ByteArray).size<=281474976710656:=by simp[ByteArray.size];omega
 have key:∀(w:World) (ow:Own) (vs:Array Value) (t:Nat),Laid w ow->vs.size=1->(∀(i:Nat) (d:D),[dS s][i]?=some d->V prog w ow d.fz [] (vs.getD i undef))->Calls prog 364 vs w fun e w'=>∃k tp p,e= .returned (.tuple #[.int .i64 k,.iface tp p])/\Below w.heap.size w w':=by
  intro w ow vs t hL h1 h2;obtain rfl:=QD h1 h2;obtain⟨_,⟨t1,p1,hv1⟩,⟨t2,p2,hv2⟩,_⟩:=DR hL;by_cases hr:Lib.atoiAll s= .range
  ·exact(Tryz.strconv_Atoi_range_var ⟨s.toArray⟩ hsz hr t2 p2 w hv2).mono fun e w' ⟨N,g1,_,_,g4⟩=>⟨_,_,_,g1,g4⟩
  ·exact(Tryz.strconv_Atoi_syntax_var ⟨s.toArray⟩ hsz h hr t1 p1 w hv1).mono fun e w' ⟨N,g1,_,_,g4⟩=>⟨_,_,_,g1,g4⟩
 intro w ow vs t ht hL hnew hvs hargs;refine(key w ow vs t hL hvs hargs).mono ?_;rintro e w' ⟨k,tp,p,rfl,hB⟩;refine⟨_,fun b=>if b<w.heap.size then ow b else none,_,rfl,⟨k,tp,p,rfl⟩,⟨hB.os,hB.tape,hB.output,hB.size,fun b hb=>⟨hB.block b hb,if_pos hb⟩,fun b hb=>if_neg (by have:=hB.size;omega)⟩,rfl,fun s a=> ?_⟩;refine⟨_,rfl,by simp,fun k x hx=> ?_⟩
 match k,hx with
 |0,hx=>obtain rfl:=Option.some.inj hx;simp[D.fz,V,R,Array.getD_eq_getD_getElem?,Value.oneCell']
 |1,hx=>obtain rfl:=Option.some.inj hx;simp[D.fz,V,R,Array.getD_eq_getD_getElem?,Value.oneCell']
def acS (s:Str):Int:=if gP s=true then fI s else 0
theorem U5 (s:Str):acS s=if gP s=true then fI s else 0:=rfl
theorem yD (n:Int)(hn: -9223372036854775808<=n/\n<=9223372036854775807):Fk 365 [dI n] (.val (dS (oL n))):=by
 refine fE good [] func365 ntmps365 fun w0 ow0=> ?_;simp[go_sem];refine ck (TI n hn) ?_;simp[go_sem]
theorem am7 (s:Str)(hs:s.length<=1048576)(hp:gP s=true):Fk 338 [dS s] (.tup [.val (dI (acS s)),.val (dB (gP s))]):=by
 refine fE good [] func338 ntmps338 fun w0 ow0=> ?_;have hv:=aoV hp;have hf:oL (fI s)=s:=by simp only[gP,Bool.and_eq_true,decide_eq_true_eq]at hp;exact hp.2
 have ha:Lib.atoiAll s= .ok (fI s):=(congrArg Lib.atoiAll hf.symm).trans (atZ hv);have hg:acS s=fI s:=by rw[U5,if_pos hp]
 simp[go_sem];refine ck (xU s (fI s) hs ha) ?_;simp[go_sem];refine ck (yD (fI s) (by omega)) ?_;simp[go_sem,hf];refine ck (aG (fI s) (-999999999) 999999999) ?_;simp[go_sem];refine gw (fun g=> ?_) (fun g=> ?_)
 ·simp at g;simp[go_sem];refine ai ?_;exfalso;omega
 ·simp at g;simp[go_sem];refine ai ?_;simp[hp]
theorem anG (s:Str)(v:Int)(hs:s.length<=1048576)(hp:gP s=false)(ha:Lib.atoiAll s= .ok v)(hv: -9223372036854775808<=v/\v<=9223372036854775807):Fk 338 [dS s] (.tup [.val (dI (acS s)),.val (dB (gP s))]):=by
 refine fE good [] func338 ntmps338 fun w0 ow0=> ?_;have hg:acS s=0:=by rw[U5,if_neg (by simp[hp])]
 simp[go_sem];refine ck (xU s v hs ha) ?_;simp[go_sem];refine ck (yD v hv) ?_;simp[go_sem];refine gv (fun e=> ?_) (fun e=> ?_)
 ·have e':=e;simp[go_sem,e];refine ai ?_;simp[hp]
 ·have e':=e;simp[go_sem,e];refine ck (aG v (-999999999) 999999999) ?_;simp[go_sem];refine gw (fun g=> ?_) (fun g=> ?_)
  ·simp at g;simp[go_sem];refine ai ?_;simp[hp]
  ·simp at g;simp[go_sem];have h2:=(aoQ (n:=v) (by omega)).1;all_goals(rw[e']at h2;rw[hp]at h2;cases h2)
theorem an4 (s:Str)(hs:s.length<=1048576)(hp:gP s=false)(ha:∀v,Lib.atoiAll s≠ .ok v):Fk 338 [dS s] (.tup [.val (dI (acS s)),.val (dB (gP s))]):=by
 refine fE good [] func338 ntmps338 fun w0 ow0=> ?_;have hg:acS s=0:=by rw[U5,if_neg (by simp[hp])]
 simp[go_sem];refine bP (MI s hs ha) (by simp[go_sem]) ?_;rintro r ⟨k,tp,p,rfl⟩;refine⟨by simp[go_sem],?_⟩;simp[go_sem];refine ai ?_;simp[hp]
theorem QW (s:Str)(hs:s.length<=1048576):Fk 338 [dS s] (.tup [.val (dI (acS s)),.val (dB (gP s))]):=by
 cases hp:gP s with
 |true=>rw[←hp];exact am7 s hs hp
 |false=>
  rw[←hp];by_cases ha:∃v,Lib.atoiAll s= .ok v
  ·obtain⟨v,ha⟩:=ha;exact anG s v hs hp ha (Lib.atoiAll_bounds ha)
  ·exact an4 s hs hp fun v h=>ha ⟨v,h⟩
theorem yC (s:Str)(hs:s.length<=1048576):Fk 293 [dS s] (.val (dI (dE s))):=by
 refine fE good [] func293 ntmps293 fun w0 ow0=> ?_;have hg:=U5 s;simp[go_sem];refine ck (QW s hs) ?_;simp[go_sem];refine gv (fun a=> ?_) (fun a=> ?_)
 ·have a':=a;have hgv:acS s=fI s:=by rw[hg,if_pos a]
  simp[go_sem,a,hgv];refine ck (aG (fI s) 1000 9999) ?_;simp[go_sem];refine gw (fun b=> ?_) (fun b=> ?_)
  ·simp at b;simp[go_sem];grind[dE]
  ·simp at b;simp[go_sem];grind[dE]
 ·have a':=a;simp[go_sem,a];grind[dE]
theorem OV (s:Str):0<=dE s/\dE s<=9999:=by
 unfold dE;split
 ·rename_i h;simp only[inR,decide_eq_true_eq]at h;omega
 ·omega
theorem aqJ (x y z:Int):max (x-y) (y-x)=max x y-min x y:=by omega
theorem JG (x y z:Int):Fk 294 [dI x,dI y,dI z] (.val (dI (gL x y z))):=by
 refine fE good [] func294 ntmps294 fun w0 ow0=> ?_;simp[go_sem];refine ck (aG x 0 9999) ?_;simp[go_sem];refine gv (fun e=> ?_) (fun e=> ?_)
 ·have e':=e;simp at e';simp[go_sem,e];all_goals(simp only[gL];rw[if_neg (by intro h;simp_all;omega)])
 ·have e':=e;simp at e';simp[go_sem,e];refine ck (aG y 0 9999) ?_;simp[go_sem];refine gv (fun f=> ?_) (fun f=> ?_)
  ·have f':=f;simp at f';simp[go_sem,f];all_goals(simp only[gL];rw[if_neg (by intro h;simp_all;omega)])
  ·have f':=f;simp at f';simp[go_sem,f];refine ck (aG z 1 9999) ?_;simp[go_sem];refine gw (fun g=> ?_) (fun g=> ?_)
   ·simp at g;simp[go_sem];all_goals(simp only[gL];rw[if_neg (by intro h;simp_all;omega)])
   ·simp at g;have hxy:inR x 0 9999=true/\inR y 0 9999=true/\inR z 1 9999=true:=by simp_all
    have hnc:=aqJ x y z;obtain⟨D,hD⟩:∃D,max x y-min x y=D:=⟨_,rfl⟩;have hns:gL x y z=if D>=z then 0 else(1000*(z-D)).tdiv z:=by rw[gL,if_pos hxy,hD]
    rw[hD]at hnc;have hb:0<=D/\D<=9999/\ -9999<=x-y/\x-y<=9999/\1<=z/\z<=9999:=by simp at hxy;omega
    clear hxy;have hm:(1000*max (z-D) 0).tdiv z=gL x y z:=by rw[hns];split;(rw[show max (z-D) 0=0 by omega];simp);(rw[show max (z-D) 0=z-D by omega])
    have hz0:¬z=0:=by omega
    have hq:=AC (a:=1000*max (z-D) 0) (b:=z) (by omega) (by omega);simp[go_sem,hnc,hm,hz0];iterate 4 refine ai ?_
    grind
theorem O7 (x y:Str)(hx:x.length<=1048576)(hy:y.length<=1048576):Fk 237 [dS x,dS y] (.val (dI (kY x y))):=by
 refine fE good [] func237 ntmps237 fun w0 ow0=> ?_;have hxp:=OV x;have hyp:=OV y;simp[go_sem];refine ck (yC x hx) ?_;simp[go_sem];refine ck (yC y hy) ?_;simp[go_sem];refine gv (fun e=> ?_) (fun e=> ?_)
 ·have e':=e;have hs:kY x y=0:=if_neg (by omega);simp[go_sem,e,hs]
 ·have e':=e;simp[go_sem,e];refine gw (fun f=> ?_) (fun f=> ?_)
  ·have hs:kY x y=0:=if_neg (by omega);simp[go_sem,hs]
  ·have hs:kY x y=gL (dE x) (dE y) 10:=if_pos (by omega);simp[go_sem];refine ck (JG _ _ _) ?_;simp[go_sem,hs]
theorem BF (s:Str)(hs:s.length<=1048576):Fk 295 [dS s] (.val (dS (digits s))):=by
 refine fE good [] func295 ntmps295 fun w0 ow0=> ?_;simp[go_sem];refine wl good (fun(x':(Nat)×(Str))=>match x' with|(i,o)=>[(0,.val (dS s)),(3,.own (oBs o)),(5,.val (dS s)),(6,.val (dI s.length)),(7,.val (dI i))]) (fun(x':(Nat)×(Str))=>match x' with|(i,o)=>(s).length-i) (fun(x':(Nat)×(Str))=>match x' with|(i,o)=>(i<=(s).length)/\(o=(s.take i).filter (fun c=>decide (48<=c.toNat/\c.toNat<=57)))/\(o.length<=i)) ((0,[])) ⟨(by omega),rfl,(by simp)⟩ ?_;rintro⟨i,o⟩ ⟨h1,h2,h3⟩;simp[go_sem];refine gw (fun a=> ?_) (fun a=> ?_)
 ·obtain⟨c,hc⟩:=aC (l:=s) (i:=i) (by omega);have hm:=qB (fun c:UInt8=>decide (48<=c.toNat/\c.toNat<=57)) hc;rw[←h2]at hm;simp[go_sem,hc];refine ck (pK c) ?_;simp[go_sem];refine gw (fun f=> ?_) (fun f=> ?_)
  ·simp at f;have hd:(decide (48<=c.toNat/\c.toNat<=57))=true:=by simp at f|-;omega
   simp[go_sem,hc];iterate 2 refine ai ?_
   refine nx (i+1,o++[c]) ⟨(by omega),(by rw[hm,hd];rfl),(by simp;omega)⟩
  ·simp at f;have hd:(decide (48<=c.toNat/\c.toNat<=57))=false:=by simp at f|-;omega
   simp[go_sem];refine ai ?_;refine nx (i+1,o) ⟨(by omega),(by rw[hm,hd];simp),(by omega)⟩
 ·simp at a;rw[aO a]at h2;simp[go_sem];grind[digits]
theorem uR (s p:Str)(hs:s.length<=1048576:=by first|assumption|omega|(simp;omega)|grind):bR prog 296 [dS s,dS p] (fun r=>r= .val (dB (p.isSuffixOf s))):=
 uJ (u:= .bool (p.isSuffixOf s)) rfl fun w ow vs hL hsz ha=>by
  obtain rfl:=adK hsz ha;exact(Tryz.strings_HasSuffix ⟨s.toArray⟩ ⟨p.toArray⟩ w (by simp[ByteArray.size];omega)).mono fun e w' ⟨h1,h2⟩=>⟨h1,h2▸Below.refl _ _⟩
theorem MJ (x y:Str)(hx:x.length<=1048576)(hy:y.length<=1048576):Fk 238 [dS x,dS y] (.val (dI (kJ x y))):=by
 refine fE good [5] func238 ntmps238 fun w0 ow0=> ?_;have hdx:(digits x).length<=x.length:=List.length_filter_le _ _;have hdy:(digits y).length<=y.length:=List.length_filter_le _ _;have hps:kJ x y=x9 (digits x) (digits y):=rfl;simp[go_sem];refine ck (BF x hx) ?_;simp[go_sem];refine ck (BF y hy) ?_;generalize digits x=p at*
 generalize digits y=q at*
 simp[go_sem];refine akL good (fun(n:Nat)=>[(5,.val (dS p)),(6,.val (dS q)),(7,.val (dI n))]) (fun(n:Nat)=>(shared p.reverse q.reverse=n)/\(n<=p.length/\n<=q.length)) ?_ ?_
 ·simp[go_sem];refine wl good (fun(n:Nat)=>[(5,.val (dS p)),(6,.val (dS q)),(7,.val (dI n))]) (fun(n:Nat)=>p.length-n) (fun(n:Nat)=>(n<=p.length/\n<=q.length)/\(shared p.reverse q.reverse=n+shared (p.reverse.drop n) (q.reverse.drop n))) (0) ⟨(by omega),(by simp)⟩ ?_;rintro n ⟨h1,h2⟩;simp[go_sem];refine wdr good ?_;simp[go_sem];refine gv (fun a=> ?_) (fun a=> ?_)
  ·have a':=a;simp[go_sem,a];refine gv (fun b=> ?_) (fun b=> ?_)
   ·have b':=b;have hk:((p.length:Int)-1-n).toNat=p.length-1-n:=by omega
    have hk2:((q.length:Int)-1-n).toNat=q.length-1-n:=by omega
    have hcx:=VE (s:=p) (i:=n) (by omega);have hcy:=VE (s:=q) (i:=n) (by omega);have hss:=SA (p:=p.reverse) (q:=q.reverse) (i:=n) (by simp;omega) (by simp;omega);simp[go_sem,b,hk,hk2,hcx,hcy];iterate 6 refine ai ?_
    refine gw (fun f=> ?_) (fun f=> ?_)
    ·simp[go_sem];refine ai ?_;refine nx (n+1) ⟨(by omega),(by rw[h2,hss,if_pos (by simpa using f)];omega)⟩
    ·simp[go_sem];refine jn (n) ⟨(by rw[h2,hss,if_neg (by simpa using f)];rfl),(h1)⟩
   ·have b':=b;simp at b';simp[go_sem,b];refine jn (n) ⟨(by rw[h2,CS (.inr (by simp;omega))];rfl),(h1)⟩
  ·have a':=a;simp at a';simp[go_sem,a];refine jn (n) ⟨(by rw[h2,CS (.inl (by simp;omega))];rfl),(h1)⟩
 rintro n ⟨h5,h6⟩;have hpe:=ahR p q;rw[h5,←hps]at hpe;refine IG good (fun(_:Unit)=>[(5,.val (dS p))]) (fun(_:Unit)=>(kJ x y=400)) ?_ ?_
 ·simp[go_sem];refine gv (fun a=> ?_) (fun a=> ?_)
  ·have a':=a;rw[if_pos (by omega)]at hpe;simp[go_sem,a,hpe]
  ·have a':=a;simp at a';simp[go_sem,a];refine gv (fun b=> ?_) (fun b=> ?_)
   ·have b':=b;rw[if_pos (by omega)]at hpe;simp[go_sem,b,hpe]
   ·have b':=b;simp at b';simp[go_sem,b];refine gw (fun d=> ?_) (fun d=> ?_)
    ·rw[if_pos (by omega)]at hpe;simp[go_sem,hpe]
    ·simp at d;rw[if_neg (by omega)]at hpe;simp[go_sem];refine gw (fun e=> ?_) (fun e=> ?_)
     ·rw[if_pos (by simpa using e)]at hpe;simp[go_sem,hpe]
     ·rw[if_neg (by simpa using e)]at hpe;simp[go_sem];refine gv (fun f=> ?_) (fun f=> ?_)
      ·have f':=f;rw[if_pos (.inl (by omega))]at hpe;simp[go_sem,f,hpe]
      ·have f':=f;simp at f';simp[go_sem,f];refine ck (uR p q) ?_;simp[go_sem];refine gv (fun g=> ?_) (fun g=> ?_)
       ·have g':=g;simp at g';rw[if_pos (.inr (.inl (by simpa using g)))]at hpe;simp[go_sem,g,hpe]
       ·have g':=g;simp[go_sem,g];refine ck (uR q p) ?_;simp[go_sem];refine gw (fun l=> ?_) (fun l=> ?_)
        ·simp at l;rw[if_pos (.inr (.inr (List.isSuffixOf_iff_suffix.2 l)))]at hpe;simp[go_sem,hpe]
        ·rw[if_neg (by rintro(h|h|h);(omega);(exact absurd (h.symm.trans g) (by simp));(exact absurd (h.symm.trans l) (by simp)))]at hpe;simp[go_sem];refine jn (()) (hpe)
 rintro⟨⟩ h7;simp[go_sem];omega
end Go.Proofs.YtnglphdfhegnmaaGreatDoor
end
section
namespace Go.Proofs.YtnglphdfhegnmaaGreatDoor
open Go.Dv Go.Pl Go.Proofs.Tryz
def edB (x y:Str)(i:Nat):List (List Int):=edT x y false i++List.replicate (x.length+1-i) []
theorem apL (x y:Str):List.replicate (x.length+1) (D.sl (some 3) [])=(edB x y 0).map aD:=by
 show _=(List.replicate (x.length+1) ([]:List Int)).map aD;rw[List.map_replicate];rfl
theorem avX (x y:Str){i:Nat}(h:i<=x.length+1):(edB x y i).length=x.length+1:=by simp[edB,tN];omega
theorem aA6 (x y:Str){i:Nat}(h:i<=x.length):(edB x y i)[i]?=some []:=by
 unfold edB;rw[List.getElem?_append_right (by rw[tN];omega),tN,List.getElem?_replicate,if_pos (by omega)]
theorem ax2 (x y:Str){i:Nat}(h:i<=x.length)(r:List Int):(edB x y i).set i r=edT x y false i++r::List.replicate (x.length-i) []:=by
 unfold edB;rw[List.set_append_right _ _ (by rw[tN];omega),tN,Nat.sub_self,show x.length+1-i=(x.length-i)+1 by omega,List.replicate_succ];rfl
theorem azC (x y:Str){i:Nat}(h:i<=x.length):((edB x y i).map aD).set i (D.sl (some 3) (List.replicate (y.length+1) (dI 0)))=(edU x y false i 0).map aD:=by
 have e:(D.sl (some 3) (List.replicate (y.length+1) (dI 0)))=aD (List.replicate (y.length+1) 0):=by rw[←List.map_replicate]
 rw[e,←List.map_set,ax2 x y h];rfl
theorem awX (x y:Str){i:Nat}(h:i<=x.length):edU x y false i (y.length+1)=edB x y (i+1):=by
 unfold edU edB;rw[av7,avP,show x.length+1-(i+1)=x.length-i by omega,List.append_assoc];rfl
theorem ay7 (x y:Str){i k:Nat}(hk:k<=y.length):((edU x y false i k).map aD).set i (D.sl (some 3) (((edP x y false i k).map dI).set k (dI (ed x y false i k))))=(edU x y false i (k+1)).map aD:=by
 have h1:((edP x y false i k).map dI).set k (dI (ed x y false i k))=(edP x y false i (k+1)).map dI:=by rw[←List.map_set,ax5 hk]
 rw[h1];have h2:(edU x y false i k).set i (edP x y false i (k+1))=edU x y false i (k+1):=by rw[axC];rfl
 rw[←h2,List.map_set]
theorem azD (x y:Str)(i k:Nat):min (min (ed x y false i (k+1)+1) (ed x y false (i+1) k+1)) (ed x y false i k+if chr x i=chr y k then 0 else 1)=ed x y false (i+1) (k+1):=by
 rw[aAB];unfold edV;rw[ed];simp[mX]
theorem abX (x y:Str)(hx:x.length<=40)(hy:y.length<=40):Fk 372 [dS x,dS y,dB false] (.own (eB (edB x y (x.length+1)))):=by
 refine fE good [] func372 ntmps372 fun w0 ow0=> ?_;have hz:=apL x y;have hz2:=avX x y (i:=0) (by omega);simp[go_sem,hz,hz2];iterate 3 refine ai ?_
 refine wl good (fun(i:Nat)=>[(0,.val (dS x)),(1,.val (dS y)),(2,.val (dB false)),(7,.own (eB (edB x y i))),(16,.val (dI (x.length+1))),(17,.val (dI i))]) (fun(i:Nat)=>x.length+1-i) (fun(i:Nat)=>(i<=x.length+1)) (0) (by omega) ?_;rintro i h1;simp[go_sem];refine gw (fun a=> ?_) (fun a=> ?_)
 ·have hb1:=aA6 x y (i:=i) (by omega);have hb2:=azC x y (i:=i) (by omega);have hb3:=ak7 (x:=x) (y:=y) (tr:=false) i 0;have hb4:=av8 (x:=x) (y:=y) (tr:=false) (i:=i) (k:=0) (by omega);simp[go_sem,hb1,hb2,hb3,hb4];iterate 3 refine ai ?_
  refine wl good (fun(k:Nat)=>[(0,.val (dS x)),(1,.val (dS y)),(2,.val (dB false)),(7,.own (eB (edU x y false i k))),(8,.val (dI i)),(16,.val (dI (x.length+1))),(17,.val (dI i)),(31,.val (dI (y.length+1))),(32,.val (dI k))]) (fun(k:Nat)=>y.length+1-k) (fun(k:Nat)=>(k<=y.length+1)) (0) (by omega) ?_;rintro k h2;simp[go_sem];refine gw (fun b=> ?_) (fun b=> ?_)
  ·have hn:=ak7 (x:=x) (y:=y) (tr:=false) i k;have hp:=aBU (x:=x) (y:=y) (tr:=false) (i:=i) (k:=k) (by omega);have hput:=ay7 x y (i:=i) (k:=k) (by omega);simp[go_sem];refine gw (fun c=> ?_) (fun c=> ?_)
   ·have he:ed x y false i k=k:=by rw[show i=0 by omega,ed]
    rw[he]at hput;simp[go_sem,hn,hp,hput];refine ai ?_;refine nx (k+1) (by omega)
   ·simp[go_sem];refine gw (fun d=> ?_) (fun d=> ?_)
    ·have he:ed x y false i k=i:=by obtain⟨j,rfl⟩:∃j,i=j+1:=⟨i-1,by omega⟩;rw[show k=0 by omega,ed]
     rw[he]at hput;simp[go_sem,hn,hp,hput];refine ai ?_;refine nx (k+1) (by omega)
    ·obtain⟨i,rfl⟩:∃j,i=j+1:=⟨i-1,by omega⟩;obtain⟨k,rfl⟩:∃j,k=j+1:=⟨k-1,by omega⟩;have e1:((i+1:Nat):Int)-1=i:=by omega
     have e2:((k+1:Nat):Int)-1=k:=by omega
     have hcx:=qN (s:=x) (i:=i) (by omega);have hcy:=qN (s:=y) (i:=k) (by omega);have ho:=ayM (x:=x) (y:=y) (tr:=false) (i:=i+1) (k:=k+1) (j:=i) (by omega);have r1:=U7 (x:=x) (y:=y) (tr:=false) (i:=i) (k:=y.length+1) (j:=k+1) (by omega);have r2:=U7 (x:=x) (y:=y) (tr:=false) (i:=i) (k:=y.length+1) (j:=k) (by omega);have r3:=awS (x:=x) (y:=y) (tr:=false) (i:=i+1) (k:=k+1) (j:=k) (by omega);have l1:=ajW (x:=x) (y:=y) (tr:=false) i (k+1);have l2:=ajW (x:=x) (y:=y) (tr:=false) i k;have l3:=ajW (x:=x) (y:=y) (tr:=false) (i+1) k;have hst:=azD x y i k;simp[go_sem];refine wdr good ?_;simp[go_sem,hcx,hcy];iterate 2 refine ai ?_
     refine gw (fun f=> ?_) (fun f=> ?_)
     ·rw[if_pos f,Int.add_zero]at hst;have hs2:min (min (ed x y false i (k+1)) (ed x y false (i+1) k)+1) (ed x y false i k)=ed x y false (i+1) (k+1):=by omega
      simp[go_sem];refine wdt good 36 ?_;simp[go_sem,hn,hp,ho,r1,r2,r3,hs2,hput];iterate 11 refine ai ?_
      refine wdr good ?_;simp[go_sem];refine ai ?_;refine nx (k+1+1) (by omega)
     ·rw[if_neg f]at hst;have hs2:min (ed x y false i (k+1)) (min (ed x y false (i+1) k) (ed x y false i k))+1=ed x y false (i+1) (k+1):=by omega
      simp[go_sem];refine wdt good 36 ?_;simp[go_sem,hn,hp,ho,r1,r2,r3,hs2,hput];iterate 11 refine ai ?_
      refine wdr good ?_;simp[go_sem];refine ai ?_;refine nx (k+1+1) (by omega)
  ·simp at b;have hk:edU x y false i k=edB x y (i+1):=by rw[show k=y.length+1 by omega];exact awX x y (by omega)
   simp[go_sem,hk];refine ai ?_;refine nx (i+1) (by omega)
 ·simp at a;have hi:edB x y i=edB x y (x.length+1):=by rw[show i=x.length+1 by omega]
  simp[go_sem,hi]
theorem aCE {x y:Str}(hx:x.length<=40)(hy:y.length<=40):jR x y=ed x y false x.length y.length:=by rw[QE,if_pos (by simp[xC];omega)]
theorem apM (x y:Str):(edB x y (x.length+1))[x.length]?=some (edR x y false x.length (y.length+1)):=by
 unfold edB;rw[Nat.sub_self,List.replicate_zero,List.append_nil];exact alT (by omega)
theorem aDL {x y:Str}(h:40<x.length\/40<y.length):jR x y= -1:=by
 unfold jR;rw[if_neg];simp only[xC,Bool.and_eq_true,decide_eq_true_eq];omega
theorem awM (x y:Str)(hx:x.length<=1048576)(hy:y.length<=1048576):Fk 359 [dS x,dS y,dB false] (.val (dI (jR x y))):=by
 refine fE good [] func359 ntmps359 fun w0 ow0=> ?_;simp[go_sem];refine gv (fun a=> ?_) (fun a=> ?_)
 ·have a':=a;have hn:=aDL (x:=x) (y:=y) (.inl (by omega));simp[go_sem,a,hn]
 ·have a':=a;simp at a';simp[go_sem,a];refine gw (fun b=> ?_) (fun b=> ?_)
  ·have hn:=aDL (x:=x) (y:=y) (.inr (by omega));simp[go_sem,hn]
  ·simp at b;have hf:=aCE (x:=x) (y:=y) (by omega) (by omega);have h1:=apM x y;have h2:=U7 (x:=x) (y:=y) (tr:=false) (i:=x.length) (k:=y.length+1) (j:=y.length) (by omega);simp[go_sem];refine ck (abX x y (by omega) (by omega)) ?_;simp[go_sem,h1,h2,hf]
theorem FN (x y:Str)(hx:x.length<=1048576)(hy:y.length<=1048576):Fk 328 [dS x,dS y] (.val (dI (jR x y))):=by
 refine fE good [] func328 ntmps328 fun w0 ow0=> ?_;simp[go_sem];refine ck (awM x y hx hy) ?_;simp[go_sem]
theorem OH (x y:Str)(hx:x.length<=1048576)(hy:y.length<=1048576):Fk 288 [dS x,dS y] (.val (dI (nR x y))):=by
 refine fE good [] func288 ntmps288 fun w0 ow0=> ?_;have hb:=aaX x y;have hed:nR x y=if jR x y<0 then 0 else if max (x.length:Int) y.length=0 then 1000 else(1000*(max (x.length:Int) y.length-jR x y)).tdiv (max (x.length:Int) y.length):=rfl
 obtain⟨M,hM⟩:∃M,max (x.length:Int) y.length=M:=⟨_,rfl⟩;have hMb:0<=M/\M<=1048576:=by omega
 rw[hM]at hed;simp[go_sem];refine ck (FN x y hx hy) ?_;simp[go_sem,hM];refine gw (fun a=> ?_) (fun a=> ?_)
 ·rw[if_pos (by omega)]at hed;simp[go_sem,hed]
 ·simp at a;rw[if_neg (by omega)]at hed;simp[go_sem];refine gw (fun b=> ?_) (fun b=> ?_)
  ·rw[if_pos (by omega)]at hed;simp[go_sem,hed]
  ·rw[if_neg (by omega)]at hed;have hq:=AC (a:=1000*(M-jR x y)) (b:=M) (by omega) (by omega);simp[go_sem,hed,hq];iterate 2 refine ai ?_
   omega
theorem yA (x y:Str)(hx:x.length<=65536)(hy:y.length<=65536):Fk 233 [dS x,dS y] (.val (dI (jJ x y))):=by
 refine fE good [] func233 ntmps233 fun w0 ow0=> ?_;have h1:=AR x;have h2:=AR y;simp[go_sem];refine ck (qP x hx) ?_;simp[go_sem];refine ck (qP y hy) ?_;simp[go_sem];refine gv (fun a=> ?_) (fun a=> ?_)
 ·have a':=a;have ht:jJ x y=0:=if_pos (.inl (by simpa using a));simp[go_sem,a,ht]
 ·have a':=a;simp[go_sem,a];refine gw (fun b=> ?_) (fun b=> ?_)
  ·have ht:jJ x y=0:=if_pos (.inr (by simpa using b));simp[go_sem,ht]
  ·have ht:jJ x y=nR (normal x) (normal y):=if_neg (by rintro(h|h);(exact a (by simpa using h));(exact b (by simpa using h)));simp[go_sem];refine ck (OH (normal x) (normal y) (by omega) (by omega)) ?_;simp[go_sem,ht]
end Go.Proofs.YtnglphdfhegnmaaGreatDoor
end
section
namespace Go.Proofs.YtnglphdfhegnmaaGreatDoor
open Go.Dv Go.Pl Go.RowKit Go.Lib Go.Sort Go.Proofs.Tryz
theorem yR (l:List Str)(hl:1<=l.length/\l.length<=262144):bR prog 332 [bD l] (fun r=>r= .own (oG l)):=by
 intro w ow vs t ht hL hnew hsz ha;obtain⟨a,cap,hv,hcap,hc⟩:=alG (ha 0 _ rfl)
 obtain rfl:vs= #[.slice a l.length cap]:=by
  apply Array.ext
  ·simpa using hsz
  ·intro i hi h2;obtain rfl:i=0:=by simpa using h2
   simpa[Array.getD_eq_getD_getElem?,hi]using hv
 rcases hc with rfl|⟨b,off,rfl,_,h2⟩
 ·simp at hl
 ·refine(WP l ⟨b,off,none⟩ cap w hl.2 (.inr ⟨rfl,h2⟩)).mono ?_;rintro e w' ⟨v,rfl,h1,_,h3⟩;obtain⟨ow',h4,h5⟩:=XO (ow:=ow) (t:=t) h3 h1;exact⟨_,ow',_,rfl,rfl,h4,rfl,h5⟩
theorem xW (l:List Str)(hl:1<=l.length/\l.length<=262144:=by first|assumption|omega):zX prog 333 [.one (.bool false)] 0 (oG l) (fun r d=>r= .tup []/\d=oG (kL l)):=by
 intro w ow vs t lab ht hL hnew hsz hm hargs hV;simp only[V,R]at hV;obtain⟨a,cap,hv,hc1,hc2,h4⟩:=hV;rw[List.length_map]at hv hc1;have hv:vs.getD 0 undef= .slice a l.length cap:=by simpa using hv
 obtain rfl:vs= #[.slice a l.length cap]:=by
  apply Array.ext
  ·simpa using hsz
  ·intro i hi h2;obtain rfl:i=0:=by simpa using h2
   simpa[Array.getD_eq_getD_getElem?,hi]using hv
 rcases h4 with⟨_,h4,_⟩|⟨h4,_⟩|⟨b,off,s,C,e',fz,rfl,hb,_,h5,hrow⟩
 ·have:l=[]:=by simpa using h4
  rw[this]at hl;simp at hl
 ·cases h4
 obtain⟨hob,rfl,hU,rfl,hC,i,hi,his⟩:=h5 _ rfl;have hr:=(Rs.iff hb).1 hrow
 have hget:∀(j:Nat) (x:Str),l[j]?=some x->s=1/\C[j]?=some (Value.string ⟨x.toArray⟩):=fun j x hx=>by
  obtain⟨hw,C',e2,fz',cs,g1,g2,g3⟩:=hr j (dS x) (by rw[List.getElem?_map,hx];rfl);have hs1:s=1:=hw.symm;subst hs1;rw[hb]at g1;obtain⟨rfl,rfl,rfl⟩:C=C'/\_=e2/\fz=fz':=by simpa using g1
  simp only[R]at g3;obtain⟨rfl,_⟩:=g3;have:=g2 0 (by simp[D.w]);exact⟨rfl,by simpa using this⟩
 have hs1:s=1:=(hget 0 _ (List.getElem?_eq_getElem (by omega))).1;subst hs1;have hCl:l.length<=C.size:=by omega
 have hlt:=Go.Dv.lt_of_heap hb
 have hH:Holds encStr w b 0 l.toArray:=fun j hj=>by
  have hj':j<l.length:=by simpa using hj
  have h1:=(hget j _ (List.getElem?_eq_getElem hj')).2;refine⟨?_,?_⟩
  ·rw[cell_of_row w b (0+j) C _ fz hb,Nat.zero_add,h1,UX];rw[getElem!_pos l.toArray j hj];simp
  ·have:=hU j (by omega);simp only[World.frozen?,hb,Nat.zero_add];simp only[Bool.and_eq_false_iff,decide_eq_false_iff_not];omega
 refine(Tryz.slices_Sort_string b 0 cap l w hH hlt (by omega)).mono ?_;rintro e w2 ⟨h1,n,os,rfl⟩
 have hold:∀b2,b2<w.heap.size->(grow (putRow encStr (Go.Sort.ahead w n) b 0 (l.mergeSort fun x y=>decide (x<=y)).toArray) os).heap[b2]?=(w.heap.modify b (onCells (putCells encStr 0 (kL l).toArray)))[b2]?:=fun b2 hb2=>by
  show((w.heap.modify b (onCells (putCells encStr 0 (kL l).toArray)))++os)[b2]?=_;rw[Array.getElem?_append_left (by simpa using hb2)]
 have hnb:=hold b hlt;rw[Array.getElem?_modify,if_pos rfl,hb]at hnb;refine⟨_,ow,.tup [],_,h1,⟨rfl,rfl⟩,rfl,rfl,rfl,by simp[grow,putRow,mapBlock,Go.Sort.ahead],fun b2 hb2 hno=>⟨?_,rfl⟩,fun b2 hb2=>hnew b2 (by simp[grow,putRow,mapBlock,Go.Sort.ahead]at hb2;omega),?_,rfl,fun s a=>⟨#[],rfl,rfl,fun k x hx=>by simp at hx⟩⟩
 ·rw[hold b2 hb2,Array.getElem?_modify,if_neg (fun e=>hno [] (by rw[←e,hob];rfl))]
 ·simp only[V,R];rw[List.length_map,lC];refine⟨_,_,rfl,by omega,hc2,.inr (.inr ⟨b,0,1,_,_,fz,rfl,hnb,(by intro h;cases h),fun t' ht'=> ?_,?_⟩)⟩
  ·obtain rfl:=Option.some.inj ht';exact⟨hob,rfl,by simpa[putCells]using hU,rfl,by simpa[putCells]using hC,i,hi,his⟩
  ·rw[Rs.iff hnb];intro j x hx;rw[List.getElem?_map,Option.map_eq_some_iff]at hx;obtain⟨y,hy,rfl⟩:=hx;have hj:j<l.length:=by have:=aS hy;rw[lC]at this;exact this
   refine⟨rfl,_,_,_,[.string ⟨y.toArray⟩],hnb,fun k hk=> ?_,by simp[R,Value.oneCell']⟩;obtain rfl:k=0:=by simpa[D.w]using hk
   have hjC:C[j]?=some C[j]:=Array.getElem?_eq_getElem (by omega);simp only[putCells,Nat.zero_add,Nat.mul_one,Nat.add_zero,Array.getElem?_mapIdx,hjC,Option.map_some];have hjs:j<(kL l).toArray.size:=by simpa[lC]using hj
   rw[if_pos ⟨Nat.zero_le _,hjs⟩,Nat.sub_zero,getElem!_pos (kL l).toArray j hjs];rw[List.getElem?_eq_getElem (by simpa using hjs)]at hy;simp[UX,Option.some.inj hy]
end Go.Proofs.YtnglphdfhegnmaaGreatDoor
end
section
namespace Go.Proofs.YtnglphdfhegnmaaGreatDoor
open Go.Dv Go.Pl Go.Proofs.Tryz
theorem UF (n d:Int)(hn:0<=n/\n<=1000000000)(hd:0<=d/\d<=1000000000):Fk 247 [dI n,dI d] (.val (dI (ratio n d))):=by
 refine fE good [] func247 ntmps247 fun w0 ow0=> ?_;simp[go_sem];refine gw (fun h1=> ?_) (fun h1=> ?_)
 ·simp[go_sem];grind[ratio]
 ·simp[go_sem];iterate 3 refine ai ?_
  grind[ratio]
theorem EM (l w:List Int)(hl:l.length<=1048576:=by first|assumption|omega|(simp;omega)|grind)(hw:w.length<=1048576:=by first|assumption|omega|(simp;omega)|grind):Fk 181 [nInts l,nInts w] (.val (dI (iT l w))):=by
 refine fE good [] func181 ntmps181 fun w0 ow0=> ?_;simp[go_sem];refine gw (fun e=> ?_) (fun e=> ?_)
 ·simp[go_sem];simp[iT];omega
 ·simp[go_sem];refine wl good (fun(x':(Nat)×(Int)×(Int))=>match x' with|(i,s,t)=>[(0,.val (nInts l)),(1,.val (nInts w)),(5,.val (dI s)),(6,.val (dI t)),(7,.val (dI i))]) (fun(x':(Nat)×(Int)×(Int))=>match x' with|(i,s,t)=>l.length-i) (fun(x':(Nat)×(Int)×(Int))=>match x' with|(i,s,t)=>(i<=l.length)/\((List.range i).all (kR l w)=true)/\(s=nX l w i)/\(t=l5 w i)) ((0,0,0)) ⟨(by omega),rfl,rfl,rfl⟩ ?_;rintro⟨i,s,t⟩ ⟨h1,h2,h3,h4⟩;simp[go_sem];refine gw (fun a=> ?_) (fun a=> ?_)
  ·have hl1:=aF (l:=l) (i:=i) (by omega);have hw1:=aF (l:=w) (i:=i) (by omega);have hb:∀j<i,kR l w j=true:=fun j hj=>List.all_eq_true.1 h2 j (List.mem_range.2 hj);have hN:=sI i hb;have hD:=sF i hb;simp[go_sem,hl1];refine ck (aH _ _ _) ?_;simp[go_sem];refine gv (fun e=> ?_) (fun e=> ?_)
   ·have e':=e;simp at e';have hn:=gZ a (P:=kR l w) (by simp[kR];omega);simp[go_sem,e];all_goals simp[iT,hn]
   ·have e':=e;simp at e';simp[go_sem,hw1,e];refine ck (aH _ _ _) ?_;simp[go_sem];refine gw (fun f=> ?_) (fun f=> ?_)
    ·simp at f;have hn:=gZ a (P:=kR l w) (by simp[kR];omega);simp[go_sem];all_goals simp[iT,hn]
    ·simp at f;have hc:kR l w i=true:=by simp[kR];omega
     have hp1:0<=at1 l i*at1 w i:=Int.mul_nonneg (by omega) (by omega);have hp2:at1 l i*at1 w i<=1000*1000:=Int.mul_le_mul (by omega) (by omega) (by omega) (by omega);simp[go_sem];refine wdt good 11 ?_;simp[go_sem,hl1,hw1];iterate 4 refine ai ?_
     refine nx (i+1,s+at1 l i*at1 w i,t+at1 w i) ⟨(by omega),(nD h2 hc),(by rw[h3,nX,nX,aA]),(by rw[h4,l5,l5,aA])⟩
  ·simp at a;have hi:l.length=i:=by omega
   subst hi;have hb:∀j<l.length,kR l w j=true:=fun j hj=>List.all_eq_true.1 h2 j (List.mem_range.2 hj);have hN:=sI l.length hb;have hD:=sF l.length hb;simp[go_sem];refine gw (fun b=> ?_) (fun b=> ?_)
   ·simp[go_sem];all_goals simp[iT,←h4,b]
   ·simp[go_sem];iterate 2 refine ai ?_
    all_goals(rw[iT,if_pos ⟨by omega,h2⟩,←h4,if_neg b,←h3])
theorem NV (s:Sco)(f:List Int)(hs:s.weights.length<=1048576:=by first|assumption|omega|(simp;omega)|grind)(hf:f.length<=1048576:=by first|assumption|omega|(simp;omega)|grind):Fk 113 [xK s,nInts f] (.val (dI (fP s f))):=by
 refine fE good [] func113 ntmps113 fun w0 ow0=> ?_;simp[go_sem];refine ck (iW _) ?_;simp[go_sem];refine gv (fun e=> ?_) (fun e=> ?_)
 ·have e':=e;simp at e';simp[go_sem,e];grind[fP]
 ·have e':=e;simp at e';simp[go_sem,e];refine ck (iL _) ?_;simp[go_sem];refine gw (fun b=> ?_) (fun b=> ?_)
  ·simp at b;simp[go_sem];grind[fP]
  ·simp at b;simp[go_sem];refine ck (EM _ _) ?_;simp[go_sem];grind[fP]
theorem N8 (t:Tst)(f:List Int)(hf:f.length<=1048576:=by first|assumption|omega|(simp;omega)|grind):Fk 298 [lJ t,nInts f] (.val (dB (jE f t))):=by
 refine fE good [] func298 ntmps298 fun w0 ow0=> ?_;simp[go_sem];refine wdt good 20 ?_;simp[go_sem];refine cd (iL _) ?_;simp[go_sem];refine gv (fun e=> ?_) (fun e=> ?_)
 ·have e':=e;simp[go_sem,e];refine cd (aH _ _ _) ?_;simp[go_sem];refine gv (fun g=> ?_) (fun g=> ?_)
  ·have g':=g;simp at g';have h6:f.length=6:=by simp only[mE,Bool.and_eq_true,decide_eq_true_eq]at e;exact e.2
   have hx:=aF (l:=f) (i:=t.feature.toNat) (by omega);simp[go_sem,g,hx];refine ai ?_;all_goals(simp only[jE];rw[e',show inR t.feature 0 5=true by simp;omega];simp)
  ·have g':=g;simp at g';simp[go_sem,g];all_goals(simp only[jE];rw[e',show inR t.feature 0 5=false by simp;omega];simp)
 ·have e':=e;simp[go_sem,e];all_goals simp[jE,e']
theorem PH (r:List Tst)(f:List Int)(hr:r.length<=1048576)(hf:f.length<=1048576:=by first|assumption|omega|(simp;omega)|grind):Fk 241 [mZ r,nInts f] (.val (dB (kP f r))):=by
 refine fE good [] func241 ntmps241 fun w0 ow0=> ?_;simp[go_sem];refine wl good (fun(i:Nat)=>[(1,.val (nInts f)),(2,.own (.bx true (mZ r))),(5,.val (dI i))]) (fun(i:Nat)=>(r).length-i) (fun(i:Nat)=>(i<=(r).length)/\(((r).take i).all (jE f)=true)) (0) ⟨(by omega),rfl⟩ ?_;rintro i ⟨h1,h2⟩;simp[go_sem];refine gw (fun a=> ?_) (fun a=> ?_)
 ·obtain⟨c,hc⟩:=aC (l:=r) (i:=i) (by omega);simp[go_sem,hc];refine ck (N8 _ _) ?_;simp[go_sem];refine gw (fun b=> ?_) (fun b=> ?_)
  ·simp at b;have hn:=bO hc (P:=(jE f)) (by first|assumption|(simp[*];done)|grind|(simp;omega));simp[go_sem];grind[kP]
  ·simp at b;simp[go_sem];refine ai ?_;refine nx (i+1) ⟨(by omega),(aM hc h2 (by first|assumption|(simp[*];done)|grind|(simp;omega)))⟩
 ·simp at a;have hf:=dM h2 a;simp[go_sem];refine ck (iL _) ?_;simp[go_sem];grind[kP]
theorem PU (rs:List (List Tst))(f:List Int)(hs:rs.length<=1048576:=by first|assumption|omega|(simp;omega)|grind)(hr:∀l∈rs,l.length<=1048576:=by first|assumption|omega|(simp;omega)|grind)(hf:f.length<=1048576:=by first|assumption|omega|(simp;omega)|grind):Fk 182 [gG rs,nInts f] (.val (dI (mJ rs f))):=by
 refine fE good [] func182 ntmps182 fun w0 ow0=> ?_;simp[go_sem];refine wl good (fun(i:Nat)=>[(1,.val (nInts f)),(2,.own (.bx true (gG rs))),(5,.val (dI i))]) (fun(i:Nat)=>rs.length-i) (fun(i:Nat)=>(i<=rs.length)/\((rs.take i).any (kP f)=false)) (0) ⟨(by omega),rfl⟩ ?_;rintro i ⟨h1,h2⟩;simp[go_sem];refine gv (fun a=> ?_) (fun a=> ?_)
 ·have a':=a;simp[go_sem,a];refine ck (j3 _) ?_;simp[go_sem];refine gw (fun b=> ?_) (fun b=> ?_)
  ·obtain⟨c,hc⟩:=aC (l:=rs) (i:=i) (by omega);simp[go_sem,hc];refine ck (PH c f (hr c (List.mem_of_getElem? hc))) ?_;simp[go_sem];refine gw (fun e=> ?_) (fun e=> ?_)
   ·have hx:ix (kP f) rs=i:=vH hc h2 e;simp[go_sem];grind[mJ]
   ·simp[go_sem];refine ai ?_;refine nx (i+1) ⟨(by omega),(eX hc h2 e)⟩
  ·simp[go_sem];grind[mJ]
 ·have a':=a;simp at a';have hx:=lX (j5 h2 (by omega));simp[go_sem,a];grind[mJ]
theorem NQ (rs:List (List Tst))(f:List Int)(hs:rs.length<=1048576:=by first|assumption|omega|(simp;omega)|grind)(hr:∀l∈rs,l.length<=1048576:=by first|assumption|omega|(simp;omega)|grind)(hf:f.length<=1048576:=by first|assumption|omega|(simp;omega)|grind):Fk 114 [gG rs,nInts f] (.val (dB (decide (0<=mJ rs f)))):=by
 refine fE good [] func114 ntmps114 fun w0 ow0=> ?_;simp[go_sem];refine ck (PU _ _) ?_;simp[go_sem]
theorem KI (rs:List (List Tst))(s:Sco)(f:List Int)(hs:rs.length<=1048576)(hr:∀l∈rs,l.length<=1048576)(hw:s.weights.length<=1048576)(hf:f.length<=1048576):Fk 67 [gG rs,xK s,nInts f] (.val (dI (cO rs s f))):=by
 refine fE good [] func67 ntmps67 fun w0 ow0=> ?_;simp[go_sem];refine ck (j3 _) ?_;simp[go_sem];refine gv (fun e=> ?_) (fun e=> ?_)
 ·have e':=e;simp at e';simp[go_sem,e];grind[cO]
 ·have e':=e;simp at e';simp[go_sem,e];refine ck (iW _) ?_;simp[go_sem];refine gv (fun g=> ?_) (fun g=> ?_)
  ·have g':=g;simp at g';simp[go_sem,g];grind[cO]
  ·have g':=g;simp at g';simp[go_sem,g];refine ck (iL _) ?_;simp[go_sem];refine gw (fun b=> ?_) (fun b=> ?_)
   ·simp at b;simp[go_sem];grind[cO]
   ·simp at b;have hp:=NL s f hf;have hb:0<=s.bias/\s.bias<=1000:=by simp only[fG,Bool.and_eq_true,decide_eq_true_eq]at g';exact g'.2
    simp[go_sem];refine wdt good 6 ?_;simp[go_sem];refine cd (NV _ _) ?_;simp[go_sem];refine ai ?_;refine ck (NQ _ _) ?_;simp[go_sem];refine gw (fun d=> ?_) (fun d=> ?_)
    ·simp[go_sem];grind[cO]
    ·simp at d;simp[go_sem];grind[cO]
theorem X5 (x y:Str)(hx:x.length<=1048576)(hy:y.length<=1048576):Fk 300 [dS x,dS y] (.val (dB (decide (x.length<=40)&&decide (y.length<=40)))):=by
 refine fE good [] func300 ntmps300 fun w0 ow0=> ?_;simp[go_sem];refine gv (fun e=> ?_) (fun e=> ?_)
 ·have e':=e;simp[go_sem,e];grind
 ·have e':=e;simp at e';simp[go_sem,e];omega
theorem UR (s:Str)(hs:s.length<=65536):Fk 188 [dS s] (.val (dS (dH s))):=by
 refine fE good [] func188 ntmps188 fun w0 ow0=> ?_;simp[go_sem];refine wl good (fun(x':(Nat)×(Str)×(Int))=>match x' with|(i,o,l)=>[(0,.val (dS s)),(3,.own (oBs o)),(4,.val (dI l)),(5,.val (dI i))]) (fun(x':(Nat)×(Str)×(Int))=>match x' with|(i,o,l)=>s.length-i) (fun(x':(Nat)×(Str)×(Int))=>match x' with|(i,o,l)=>(i<=s.length)/\((o,l)=(s.take i).foldl mO ([],0))/\(o.length<=4/\(o=[]↔i=0))/\((s.take i).all (fun c=>decide (aB c≠ -2))=true)) ((0,[],0)) ⟨(by omega),rfl,(by simp),rfl⟩ ?_;rintro⟨i,o,l⟩ ⟨h1,h2,h3,h4⟩;simp[go_sem];refine gw (fun a=> ?_) (fun a=> ?_)
 ·obtain⟨c,hc⟩:=aC (l:=s) (i:=i) (by omega);have hm:=bC mO ([],0) hc;rw[←h2]at hm;have hcl:=NC c;simp[go_sem,hc];refine ck (O5 _) ?_;simp[go_sem];refine gw (fun b=> ?_) (fun b=> ?_)
  ·have hn:=bO hc (P:=fun c=>decide (aB c≠ -2)) (by simp[b]);have hr:dH s=[]:=if_pos (.inr hn);simp[go_sem,hr]
  ·simp[go_sem];refine gw (fun d=> ?_) (fun d=> ?_)
   ·have ht:s.take 1=[c]:=by subst d;simpa using aW hc
    have hf:nH [c]=[cK c]:=rfl;have ho:o=[]:=h3.2.2 d;have hb0:({data:= #[cK c]}:ByteArray)[0]'(by show 0<1;omega)=cK c:=rfl;simp[go_sem,ht];refine ai ?_;refine ck (nY [c]) ?_;have hu:mO (o,l) c=([cK c],aB c):=if_pos ho;simp[go_sem,hf,hb0,ho];refine ai ?_;refine nx (i+1,[cK c],aB c) ⟨(by omega),(by rw[hm,hu]),(by simp),(aM hc h4 (by simp[b]))⟩
   ·have ho:o≠[]:=fun h=>d (h3.2.1 h);have hsx:mO (o,l) c=(if aB c>0/\aB c≠l/\o.length<4 then o++[UInt8.ofNat (48+aB c).toNat]else o,if 0<=aB c then aB c else l):=if_neg ho;simp[go_sem];refine gv (fun e=> ?_) (fun e=> ?_)
    ·have e':=e;have hu8:IntKind.u8.wrap (48+aB c)=max (48+aB c) 0 % 256:=by simp[IntKind.wrap,IntKind.bits,IntKind.signed];omega
     simp[go_sem,e];refine gv (fun f=> ?_) (fun f=> ?_)
     ·have f':=f;simp[go_sem,f];refine gw (fun g=> ?_) (fun g=> ?_)
      ·have hp:mO (o,l) c=(o++[UInt8.ofNat (48+aB c).toNat],aB c):=by rw[hsx,if_pos ⟨by omega,by simpa using f,by omega⟩,if_pos (by omega)]
       simp[go_sem,hu8];iterate 2 refine ai ?_
       refine gw (fun k=> ?_) (fun k=> ?_)
       ·simp[go_sem];refine ai ?_;refine nx (i+1,o++[UInt8.ofNat (48+aB c).toNat],aB c) ⟨(by omega),(by rw[hm,hp]),(by simp;omega),(aM hc h4 (by simp[b]))⟩
       ·simp at k;exfalso;omega
      ·simp at g;have hp:mO (o,l) c=(o,aB c):=by rw[hsx,if_neg (by rintro⟨_,_,h⟩;omega),if_pos (by omega)]
       simp[go_sem];refine gw (fun k=> ?_) (fun k=> ?_)
       ·simp[go_sem];refine ai ?_;refine nx (i+1,o,aB c) ⟨(by omega),(by rw[hm,hp]),(by simp[ho];omega),(aM hc h4 (by simp[b]))⟩
       ·simp at k;exfalso;omega
     ·have f':=f;have hp:mO (o,l) c=(o,aB c):=by rw[hsx,if_neg (by rintro⟨_,h,_⟩;exact h (by simpa using f')),if_pos (by omega)]
      simp[go_sem,f];refine gw (fun k=> ?_) (fun k=> ?_)
      ·simp[go_sem];refine ai ?_;refine nx (i+1,o,aB c) ⟨(by omega),(by rw[hm,hp]),(by simp[ho];omega),(aM hc h4 (by simp[b]))⟩ (h3:=by simp[go_sem,hc,e,f])
      ·simp at k;exfalso;omega
    ·have e':=e;simp at e';have hp:mO (o,l) c=(o,if 0<=aB c then aB c else l):=by rw[hsx,if_neg (by rintro⟨h,_⟩;exact e (by simpa using h))]
     simp[go_sem,e];refine gw (fun k=> ?_) (fun k=> ?_)
     ·simp[go_sem];refine ai ?_;refine nx (i+1,o,aB c) ⟨(by omega),(by rw[hm,hp,if_pos (by omega)]),(by simp[ho];omega),(aM hc h4 (by simp[b]))⟩
     ·simp at k;simp[go_sem];refine ai ?_;refine nx (i+1,o,l) ⟨(by omega),(by rw[hm,hp,if_neg (by omega)]),(by simp[ho];omega),(aM hc h4 (by simp[b]))⟩
 ·simp at a;have hi:s.length=i:=by omega
  have hf:=dM h4 a;rw[aO a]at h2;simp[go_sem];refine gw (fun b=> ?_) (fun b=> ?_)
  ·have hr:dH s=[]:=if_pos (.inl (by have:=h3.2.1 (by simpa using b);exact List.eq_nil_of_length_eq_zero (by omega)));simp[go_sem,hr]
  ·have hs0:s≠[]:=fun h=>b (by have:=h3.2.2 (by subst h;simpa using hi.symm);simpa using this);have hr:dH s=UJ o:=by rw[dH,if_neg (by rw[hf];simp[hs0]),←h2]
   simp[go_sem];refine wl good (fun(q:Str)=>[(3,.own (oBs q))]) (fun(q:Str)=>4-q.length) (fun(q:Str)=>(q.length<=4)/\(UJ q=UJ o)) (o) ⟨(h3.1),(rfl)⟩ ?_;rintro q ⟨h5,h6⟩;simp[go_sem];refine gw (fun g=> ?_) (fun g=> ?_)
   ·have hp:UJ (q++[48])=UJ q:=by simp only[UJ,List.length_append,List.length_singleton];rw[List.append_assoc];congr 1;rw[show 4-q.length=(4-(q.length+1))+1 by omega,List.replicate_succ];rfl
    simp[go_sem];refine ai ?_;refine nx (q++[48]) ⟨(by simp;omega),(by rw[hp,h6])⟩
   ·simp at g;have hq:UJ q=q:=by simp[UJ,show 4-q.length=0 by omega]
    simp[go_sem];all_goals(rw[hr,←h6,hq])
theorem WV {l:List Str}{x y:Str}{b:Bool}(h:y∈dQ l x b):y∈l\/y=x:=by
 unfold dQ at h;split at h
 ·exact .inl h
 ·rcases List.mem_append.1 h with h|h
  ·rcases List.mem_append.1 h with h|h
   ·exact .inl (List.mem_of_mem_take h)
   ·exact .inr (by simpa using h)
  ·exact .inl (List.mem_of_mem_drop h)
theorem BQ (s:Str):(tokens s).length<=2*s.length+1/\∀x∈tokens s,x.length<=2*s.length:=by
 have hc:=adU 32 (normal s);have hn:=xL s
 have key:∀(L:List Str) (t:List Str),(∀x∈L,x.length<=2*s.length)->(∀x∈t,x.length<=2*s.length)->(L.foldl nQ t).length<=t.length+L.length/\∀x∈L.foldl nQ t,x.length<=2*s.length:=by
  intro L
  induction L with
  |nil=>intro t _ ht;exact⟨by simp,ht⟩
  |cons y L ih=>
   intro t hL ht;have h1:=afZ t y
   have h2:∀x∈nQ t y,x.length<=2*s.length:=fun x hx=>by
    unfold nQ at hx;split at hx
    ·rcases WV hx with h|rfl
     ·exact ht x h
     ·exact hL _ (by simp)
    ·exact ht x hx
   have:=ih (nQ t y) (fun x hx=>hL x (List.mem_cons_of_mem _ hx)) h2;refine⟨?_,this.2⟩;have:=this.1;simp only[List.foldl_cons,List.length_cons];omega
 have:=key (VK 32 (normal s)) [] (fun x hx=>by have:=hc.2 x hx;omega) (by simp);unfold tokens;refine⟨?_,this.2⟩;have:=this.1;simp at this;omega
theorem yX (s:Str)(hs:s.length<=4096):Fk 118 [dS s] (.val (bD (fQ s))):=by
 refine fE good [] func118 ntmps118 fun w0 ow0=> ?_;have ht:=BQ s;simp[go_sem];refine ck (wQ _) ?_;generalize hcs:tokens s=L at ht|-
 simp[go_sem];refine wlc good [3] (fun(x':(Nat)×(List Str))=>match x' with|(i,o)=>[(3,.val (bD o)),(4,.val (bD L)),(5,.val (dI i))]) (fun(x':(Nat)×(List Str))=>match x' with|(i,o)=>(L).length-i) (fun(x':(Nat)×(List Str))=>match x' with|(i,o)=>(i<=(L).length)/\(o=(L.take i).foldl oF [])/\(o.length<=i)) ((0,[])) ⟨(by omega),rfl,(by simp)⟩ ?_;rintro⟨i,o⟩ ⟨h1,h2,h3⟩;simp[go_sem];refine gw (fun a=> ?_) (fun a=> ?_)
 ·obtain⟨c,hc⟩:=aC (l:=L) (i:=i) (by omega);have hm:=bC oF [] hc;rw[←h2]at hm;have hl:=ht.2 c (zK hc);simp[go_sem,hc];refine ck (UR c (by omega)) ?_;simp[go_sem];refine gw (fun b=> ?_) (fun b=> ?_)
  ·have hu:oF o c=dQ o (dH c) false:=if_pos b;have hp:=kI o (dH c) false;simp[go_sem];refine ck (pG o (dH c) false) ?_;simp[go_sem];refine ai ?_;refine nxc (i+1,dQ o (dH c) false) [3] ⟨(by omega),(by rw[hm,hu]),(by omega)⟩
  ·have hu:oF o c=o:=if_neg (by simp[b]);simp[go_sem];refine ai ?_;refine nxc (i+1,o) [3] ⟨(by omega),(by rw[hm,hu]),(by omega)⟩
 ·simp at a;rw[aO a]at h2;simp[go_sem];simp[fQ,hcs,←h2]
theorem xA (l:List Str)(hl:l.length<=1048576)(hs:∀x∈l,x.length<=1048576):Fk 302 [bD l] (.val (dB (jM l))):=by
 refine fE good [200001] func302 ntmps302 fun w0 ow0=> ?_;simp[go_sem];refine wl good (fun(i:Nat)=>[(0,.val (bD l)),(3,.val (dI i))]) (fun(i:Nat)=>(l).length-i) (fun(i:Nat)=>(i<=(l).length)/\((l.take i).all JE=true)/\(adj ltL (l.take i)=true)) (0) ⟨(by omega),rfl,rfl⟩ ?_;rintro i ⟨h1,h2,h3⟩;simp[go_sem];refine gw (fun a=> ?_) (fun a=> ?_)
 ·obtain⟨c,hc⟩:=aC (l:=l) (i:=i) (by omega);simp[go_sem];refine IG good (fun(_:Unit)=>[(0,.val (bD l)),(3,.val (dI i))]) (fun(_:Unit)=>(c≠[])/\(adj ltL (l.take (i+1))=true)) ?_ ?_
  ·simp[go_sem];refine wdr good ?_;simp[go_sem,hc];refine gv (fun e=> ?_) (fun e=> ?_)
   ·have e':=e;have hn:=bO hc (P:=JE) (by simp[JE,e]);simp[go_sem,e];grind[jM]
   ·have e':=e;simp[go_sem,e];refine gv (fun f=> ?_) (fun f=> ?_)
    ·have f':=f;obtain⟨p,hp⟩:=aC (l:=l) (i:=i-1) (by omega);have hi1:i-1+1=i:=by omega
     simp[go_sem,hc,f,hp];iterate 2 refine ai ?_
     refine gw (fun b=> ?_) (fun b=> ?_)
     ·simp at b;have hn:=ER hp (by rw[hi1];exact hc) (R:=ltL) (by simpa using b);simp[go_sem];grind[jM]
     ·simp at b;simp[go_sem];refine jn (()) ⟨(by simpa using e),(by have:=uV (i:=i-1) (by rw[hi1];exact h3) hp (by rw[hi1];exact hc) (R:=ltL) (by simpa using b);rwa [hi1]at this)⟩
    ·have f':=f;simp at f';simp[go_sem,f];refine jn (()) ⟨(by simpa using e),(by obtain rfl:i=0:=(by omega);exact qK)⟩
  rintro⟨⟩ ⟨h5,h4⟩;have hcl:=hs c (zK hc);simp[go_sem];refine wl good (fun(j:Nat)=>[(0,.val (bD l)),(3,.val (dI i)),(4,.val (dI j))]) (fun(j:Nat)=>(c).length-j) (fun(j:Nat)=>(j<=(c).length)/\((c.take j).all nN=true)/\(0<j->nH c=c)) (0) ⟨(by omega),rfl,(by omega)⟩ ?_;rintro j ⟨h1j,h2j,h3j⟩;simp[go_sem,hc];refine gw (fun aj=> ?_) (fun aj=> ?_)
  ·obtain⟨cj,hcj⟩:=aC (l:=c) (i:=j) (by omega);simp[go_sem];refine wdr good ?_;simp[go_sem,hc,hcj];refine cd (F9 _) ?_;simp[go_sem];refine gv (fun e=> ?_) (fun e=> ?_)
   ·have e':=e;simp at e';have hn:=bO hc (P:=JE) (by have:=bO hcj (P:=nN) (by simpa using e);simp[JE,this]);simp[go_sem,e];grind[jM]
   ·have e':=e;simp at e';simp[go_sem,hc,e];refine cd (nY _) ?_;simp[go_sem,hc];refine gw (fun b=> ?_) (fun b=> ?_)
    ·have hn:=bO hc (P:=JE) (by simp[JE,b]);simp[go_sem];grind[jM]
    ·simp[go_sem];refine ai ?_;refine nx (j+1) ⟨(by omega),(aM hcj h2j (by simpa using e)),(fun _=>by simpa using b)⟩
  ·simp at aj;have hw:=dM h2j aj;have hpos:0<c.length:=List.length_pos_iff.2 h5;simp[go_sem];refine ai ?_;refine nx (i+1) ⟨(by omega),(aM hc h2 (by simp[JE,hw,h5,h3j (by omega)])),(h4)⟩
 ·simp at a;have hf:=dM h2 a;rw[aO a]at h3;simp[go_sem];grind[jM]
theorem VM (l m:List Str)(hl:l.length<=262144)(hs:∀x∈l,x.length<=1048576)(hm:m.length<=262144)(ht:∀x∈m,x.length<=1048576):Fk 246 [bD l,bD m] (.val (dB (mY l m))):=by
 refine fE good [] func246 ntmps246 fun w0 ow0=> ?_;simp[go_sem];refine ck (xA l (by omega) hs) ?_;simp[go_sem];refine gv (fun e=> ?_) (fun e=> ?_)
 ·have e':=e;simp[go_sem,e];refine ck (xA m (by omega) ht) ?_;simp[go_sem];grind[mY]
 ·have e':=e;simp[go_sem,e];grind[mY]
theorem ahV (l m:List Str):(common l m).length<=l.length:=by
 have:=wI (yF m) (fun t x=>by unfold yF;split;(exact kI _ _ _);omega) l [];simpa[common]using this
theorem apC (l m:List Str):(NA l m).length<=l.length+m.length:=by
 have h1:=wI nZ (fun t x=>kI _ _ _) l [];have h2:=wI nZ (fun t x=>kI _ _ _) m (l.foldl nZ []);unfold NA;simp at h1;omega
theorem TZ (l m:List Str)(hl:l.length<=262144)(hs:∀x∈l,x.length<=1048576)(hm:m.length<=262144)(ht:∀x∈m,x.length<=1048576):Fk 185 [bD l,bD m] (.val (dI (rD l m))):=by
 refine fE good [] func185 ntmps185 fun w0 ow0=> ?_;simp[go_sem];refine ck (VM l m hl hs hm ht) ?_;simp[go_sem];refine gw (fun e=> ?_) (fun e=> ?_)
 ·simp at e;simp[go_sem];grind[rD]
 ·simp at e;have h1:=ahV l m;have h2:=apC l m;simp[go_sem];refine ck (FZ l m hl hm) ?_;simp[go_sem];refine ck (JS l m hl hm) ?_;simp[go_sem];refine ck (UF ((common l m).length:Int) ((NA l m).length:Int) (by omega) (by omega)) ?_;simp[go_sem];grind[rD]
theorem G6 (l m:List Str)(hl:l.length<=262144)(hs:∀x∈l,x.length<=1048576)(hm:m.length<=262144)(ht:∀x∈m,x.length<=1048576):Fk 116 [bD l,bD m] (.val (dI (lG l m))):=by
 refine fE good [] func116 ntmps116 fun w0 ow0=> ?_;simp[go_sem];refine gv (fun e=> ?_) (fun e=> ?_)
 ·have e':=e;simp[go_sem,e];grind[lG]
 ·have e':=e;simp[go_sem,e];refine gw (fun f=> ?_) (fun f=> ?_)
  ·simp[go_sem];grind[lG]
  ·simp[go_sem];refine ck (TZ l m hl hs hm ht) ?_;simp[go_sem];grind[lG]
theorem TR (x y:Str)(tr:Bool)(hx:x.length<=4096)(hy:y.length<=4096):Fk 301 [dS x,dS y,dB tr] (.own (eB (IM x y tr))):=by
 refine fE good [200003] func301 ntmps301 fun w0 ow0=> ?_;simp[go_sem];refine wl good (fun(x':(Nat)×(List (List Int)))=>match x' with|(i,T)=>[(0,.val (dS x)),(1,.val (dS y)),(2,.val (dB tr)),(7,.own (eB T)),(8,.val (dI i))]) (fun(x':(Nat)×(List (List Int)))=>match x' with|(i,T)=>(x.length+1)-i) (fun(x':(Nat)×(List (List Int)))=>match x' with|(i,T)=>(i<=(x.length+1))/\(T=loopN i ([]) ((fun i T=>T++[XD x y tr i T])))/\(T.length=i)/\(SK (y.length+1) T)) ((0,[])) ⟨(by simp),(rfl),(rfl),((fun i hi=>by simp at hi))⟩ ?_;rintro⟨i,T⟩ ⟨h1,h2,h3,h4⟩;simp[go_sem];refine gw (fun a=> ?_) (fun a=> ?_)
 ·have hs:=aA i ([]) ((fun i T=>T++[XD x y tr i T]));rw[←h2]at hs;simp[go_sem];iterate 3 refine ai ?_
  refine wl good (fun(x':(Nat)×(List Int))=>match x' with|(j,r)=>[(0,.val (dS x)),(1,.val (dS y)),(2,.val (dB tr)),(7,.own (eB T)),(8,.val (dI i)),(9,.own (aD r)),(10,.val (dI j))]) (fun(x':(Nat)×(List Int))=>match x' with|(j,r)=>(y.length+1)-j) (fun(x':(Nat)×(List Int))=>match x' with|(j,r)=>(j<=(y.length+1))/\(r=loopN j ((List.replicate (y.length+1) 0)) ((xO x y tr T i)))/\(acL (y.length+1) j i r)) ((0,(List.replicate (y.length+1) 0))) ⟨(by simp),(rfl),(⟨by simp,by omega⟩)⟩ ?_;rintro⟨j,r⟩ ⟨h1j,h2j,h3j⟩;simp[go_sem];refine gw (fun aj=> ?_) (fun aj=> ?_)
  ·have hsj:=aA j ((List.replicate (y.length+1) 0)) ((xO x y tr T i));rw[←h2j]at hsj;have hrl:=h3j.1;have hrj:=aF (l:=r) (i:=j) (by omega);simp[go_sem];refine IG good (fun(_:Unit)=>[(0,.val (dS x)),(1,.val (dS y)),(2,.val (dB tr)),(7,.own (eB T)),(8,.val (dI i)),(9,.own (aD (r.set j (edOne x y T i r j)))),(10,.val (dI j))]) (fun(_:Unit)=>True) ?_ ?_
   ·simp[go_sem];refine gw (fun b=> ?_) (fun b=> ?_)
    ·have hv:edOne x y T i r j=j:=if_pos (by simpa using b);simp[go_sem,hrj];refine jn (()) trivial (h3:=by simp[go_sem,hrj,hrl,hv])
    ·simp[go_sem];refine gw (fun d=> ?_) (fun d=> ?_)
     ·have hv:edOne x y T i r j=i:=by rw[edOne,if_neg (by simpa using b),if_pos (by simpa using d)]
      simp[go_sem,hrj];refine jn (()) trivial (h3:=by simp[go_sem,hrj,hrl,hv])
     ·have hcx:=qN (s:=x) (i:=i-1) (by omega);have hcy:=qN (s:=y) (i:=j-1) (by omega);obtain⟨q,hq,hqj,hb1,hb2⟩:=uI h4 (i:=i-1) (j:=j-1) (by omega) (by omega);obtain⟨q',hq',hqk,hb3,hb4⟩:=uI h4 (i:=i-1) (j:=j) (by omega) (by omega);obtain rfl:q=q':=by rw[hq]at hq';exact Option.some.inj hq'
      simp[go_sem];refine wdt good 9 ?_;simp[go_sem,hcx,hcy];iterate 4 refine ai ?_
      refine gw (fun f=> ?_) (fun f=> ?_)
      ·have hv:edOne x y T i r j=at2 T (i-1) (j-1):=by rw[edOne,if_neg (by simpa using b),if_neg (by simpa using d),if_pos f]
       simp[go_sem,hrj,hq,hqj];iterate 4 refine ai ?_
       refine jn (()) trivial (h3:=by simp[go_sem,hrj,hrl,hcx,hcy,hv,hq,hqj])
      ·have hr1:=aF (l:=r) (i:=j-1) (by omega);have hb5:=h3j.2 (j-1) (by omega);have hv:edOne x y T i r j=1+min (min (at2 T (i-1) j) (at1 r (j-1))) (at2 T (i-1) (j-1)):=by rw[edOne,if_neg (by simpa using b),if_neg (by simpa using d),if_neg f]
       simp[go_sem];refine wdt good 27 ?_;simp[go_sem,hrj,hq,hqj,hqk,hr1];iterate 9 refine ai ?_
       refine jn (()) trivial (h3:=by simp[go_sem,hrj,hrl,hcx,hcy,hv,hq,hqj,hqk,hr1])
   rintro⟨⟩ -
   have hve:0<=edOne x y T i r j/\edOne x y T i r j<=i+j:=azY h3 h4 h3j (by omega) (by omega);have hok:=MU h3j (by omega) hve.1 hve.2;have hat:at1 (r.set j (edOne x y T i r j)) j=edOne x y T i r j:=by rw[pQ _ (by omega),if_pos rfl]
   have hsw:∀h:mX x y tr i j=false,xO x y tr T i j r=r.set j (edOne x y T i r j):=fun h=>by rw[xO,aaS,if_neg (by simp[h])]
   generalize hr':r.set j (edOne x y T i r j)=r' at hok hat hsw|-
   have hes:xO x y tr T i j r=aaS x y tr T i j r':=by rw[xO,hr']
   have hok1:=hok.1;simp[go_sem];refine wdr good ?_;simp[go_sem];refine gv (fun e=> ?_) (fun e=> ?_)
   ·have e':=e;simp[go_sem,e];refine gv (fun f=> ?_) (fun f=> ?_)
    ·have f':=f;simp[go_sem,f];refine gv (fun g=> ?_) (fun g=> ?_)
     ·have g':=g;have hx1:=qN (s:=x) (i:=i-1) (by omega);have hy2:=qN (s:=y) (i:=j-2) (by omega);have hx2:=qN (s:=x) (i:=i-2) (by omega);have hy1:=qN (s:=y) (i:=j-1) (by omega);have hj2:((j:Int)-2).toNat=j-2:=by omega
      have hi2:((i:Int)-2).toNat=i-2:=by omega
      simp[go_sem,g,hx1,hy2,hj2];iterate 4 refine ai ?_
      refine gv (fun k=> ?_) (fun k=> ?_)
      ·have k':=k;simp[go_sem,hx2,hy1,hi2,k];iterate 4 refine ai ?_
       refine gw (fun m=> ?_) (fun m=> ?_)
       ·have hw:mX x y tr i j=true:=by simp[mX,e,k,m];omega
        obtain⟨q,hq,hqj,hb1,hb2⟩:=uI h4 (i:=i-2) (j:=j-2) (by omega) (by omega);have hrj2:=aF (l:=r') (i:=j) (by omega);have hst:xO x y tr T i j r=r'.set j (min (at1 r' j) (at2 T (i-2) (j-2)+1)):=by rw[hes,aaS,if_pos hw]
        have hok2:=MU (k:=j) (v:=min (at1 r' j) (at2 T (i-2) (j-2)+1)) ⟨hok.1,fun j' hj'=>hok.2 j' (by omega)⟩ (by omega) (by omega) (by omega);simp[go_sem];refine wdt good 18 ?_;simp[go_sem,hj2,hi2,hq,hqj,hrj2];iterate 6 refine ai ?_
        refine nx (j+1,r'.set j (min (at1 r' j) (at2 T (i-2) (j-2)+1))) ⟨(by omega),(by rw[hsj,hst]),(hok2)⟩ (h3:=by simp[go_sem,hrj,hrl,e,f,g,hx1,hy2,hx2,hy1,hj2,hi2,k,hq,hqj,hrj2,hok1])
       ·have hw:mX x y tr i j=false:=by simp[mX,m]
        simp[go_sem];refine ai ?_;refine nx (j+1,r') ⟨(by omega),(by rw[hsj,hsw hw]),(hok)⟩ (h3:=by simp[go_sem,hrj,hrl,e,f,g,hx1,hy2,hx2,hy1,hj2,hi2,k])
      ·have k':=k;have hw:mX x y tr i j=false:=by simp[mX,k]
       simp[go_sem,k];refine ai ?_;refine nx (j+1,r') ⟨(by omega),(by rw[hsj,hsw hw]),(hok)⟩ (h3:=by simp[go_sem,hrj,hrl,e,f,g,hx1,hy2,hx2,hy1,hj2,hi2,k])
     ·have g':=g;simp at g';have hw:mX x y tr i j=false:=by simp[mX];omega
      simp[go_sem,g];refine ai ?_;refine nx (j+1,r') ⟨(by omega),(by rw[hsj,hsw hw]),(hok)⟩ (h3:=by simp[go_sem,hrj,hrl,e,f,g])
    ·have f':=f;simp at f';have hw:mX x y tr i j=false:=by simp[mX];omega
     simp[go_sem,f];refine ai ?_;refine nx (j+1,r') ⟨(by omega),(by rw[hsj,hsw hw]),(hok)⟩ (h3:=by simp[go_sem,hrj,hrl,e,f])
   ·have e':=e;have hw:mX x y tr i j=false:=by simp[mX,e']
    simp[go_sem,e];refine ai ?_;refine nx (j+1,r') ⟨(by omega),(by rw[hsj,hsw hw]),(hok)⟩ (h3:=by simp[go_sem,hrj,hrl,e])
  ·simp at aj;have hij:(y.length+1)=j:=by omega
   subst hij;simp[go_sem];iterate 2 refine ai ?_
   refine nx (i+1,T++[r]) ⟨(by omega),(by rw[hs,XD,h2j]),(by simp[h3]),(XB h4 (by rw[h3];exact h3j))⟩
 ·simp at a;have hi:(x.length+1)=i:=by omega
  subst hi;simp[go_sem];exact congrArg _ h2
theorem FX (x y:Str)(hx:x.length<=1048576)(hy:y.length<=1048576):Fk 245 [dS x,dS y] (.val (dI (jR x y))):=by
 refine fE good [] func245 ntmps245 fun w0 ow0=> ?_;simp[go_sem];refine ck (X5 x y hx hy) ?_;simp[go_sem];refine gw (fun e=> ?_) (fun e=> ?_)
 ·simp at e;have hr:jR x y= -1:=if_neg (by simp only[xC];simp;omega);simp[go_sem,hr]
 ·simp at e;have hf:xC x y=true:=by simp only[xC];simp;omega
  have hr:jR x y=at2 (IM x y false) x.length y.length:=if_pos hf;have h1:=XW x y false;obtain⟨q,hq,hqj,hb1,hb2⟩:=uI h1.2 (i:=x.length) (j:=y.length) (by omega) (by omega);simp[go_sem];refine ck (TR x y false (by omega) (by omega)) ?_;simp[go_sem,hq,hqj,hr]
theorem M6 (x y:Str)(hx:x.length<=1048576)(hy:y.length<=1048576):Fk 184 [dS x,dS y] (.val (dI (nR x y))):=by
 refine fE good [] func184 ntmps184 fun w0 ow0=> ?_;have hd:=aaX x y;simp[go_sem];refine ck (FX x y hx hy) ?_;simp[go_sem];refine gw (fun b=> ?_) (fun b=> ?_)
 ·have hr:nR x y=0:=if_pos b;simp[go_sem,hr]
 ·simp at b;simp[go_sem];refine gw (fun d=> ?_) (fun d=> ?_)
  ·have hr:nR x y=1000:=by rw[nR,if_neg (by omega),if_pos d]
   simp[go_sem,hr]
  ·have hr:nR x y=(1000*(max (x.length:Int) y.length-jR x y)).tdiv (max (x.length:Int) y.length):=by rw[nR,if_neg (by omega),if_neg d]
   have hq:=AC (a:=1000*(max (x.length:Int) y.length-jR x y)) (b:=max (x.length:Int) y.length) (by omega) (by omega);simp[go_sem,hq];iterate 3 refine ai ?_
   all_goals(first|exact hr.symm|simp[hr])
theorem FC (x y:Str)(hx:x.length<=65536)(hy:y.length<=65536):Fk 115 [dS x,dS y] (.val (dI (jJ x y))):=by
 refine fE good [] func115 ntmps115 fun w0 ow0=> ?_;have h1:=xL x;have h2:=xL y;simp[go_sem];refine ck (rP x hx) ?_;simp[go_sem];refine ck (rP y hy) ?_;simp[go_sem];refine gv (fun e=> ?_) (fun e=> ?_)
 ·have e':=e;simp[go_sem,e];grind[jJ]
 ·have e':=e;simp[go_sem,e];refine gw (fun f=> ?_) (fun f=> ?_)
  ·simp[go_sem];grind[jJ]
  ·simp[go_sem];refine ck (M6 (normal x) (normal y) (by omega) (by omega)) ?_;simp[go_sem];grind[jJ]
theorem NF (n:Int)(hn: -9000000000000000000<=n/\n<=9000000000000000000):Fk 251 [dI n] (.val (dS (oL n))):=by
 refine fE good [13] func251 ntmps251 fun w0 ow0=> ?_;simp[go_sem];refine gw (fun e=> ?_) (fun e=> ?_)
 ·have hr:oL n=[48]:=if_pos e;simp[go_sem,hr]
 ·simp[go_sem];refine wl good (fun(x':(Int)×(Str))=>match x' with|(k,s)=>[(0,.val (dI k)),(3,.val (dS s)),(4,.val (dB (decide (n<0))))]) (fun(x':(Int)×(Str))=>match x' with|(k,s)=>k.natAbs) (fun(x':(Int)×(Str))=>match x' with|(k,s)=>(fA k.natAbs++s=fA n.natAbs)/\(k.natAbs<=n.natAbs)) ((n,[])) ⟨(by simp),(by simp)⟩ ?_;rintro⟨k,s⟩ ⟨h1,h2⟩;have hlen:s.length<=19:=by have h3:=congrArg List.length h1;have h4:=BN n.natAbs 19 (by rw[show(10:Nat)^19=10000000000000000000 by rfl];omega);simp only[List.length_append]at h3;omega
  simp[go_sem];refine gw (fun a=> ?_) (fun a=> ?_)
  ·have ht:(k.tmod 10).natAbs=k.natAbs % 10:=Int.natAbs_tmod k 10;have hq:(k.tdiv 10).natAbs=k.natAbs/10:=Int.natAbs_tdiv k 10;have hqi:=AC (a:=k) (b:=10) (by omega) (by omega);have hdec:=lY (m:=k.natAbs) (by omega);generalize hT:k.tmod 10=t at ht|-
   generalize hQ:k.tdiv 10=q at hq hqi|-
   simp[go_sem,hT];refine IG good (fun(_:Unit)=>[(0,.val (dI k)),(3,.val (dS s)),(4,.val (dB (decide (n<0)))),(5,.val (dI (k.natAbs % 10:Nat)))]) (fun(_:Unit)=>True) ?_ ?_
   ·simp[go_sem];refine gw (fun b=> ?_) (fun b=> ?_)
    ·have hj: -t=(k.natAbs:Int) % 10:=by omega
     simp[go_sem,hj];refine ai ?_;refine jn (()) trivial
    ·simp at b;have hj:t=(k.natAbs:Int) % 10:=by omega
     simp[go_sem,hj];refine jn (()) trivial
   rintro⟨⟩ -
   obtain⟨c,hc⟩:∃c:UInt8,c=UInt8.ofNat (48+k.natAbs % 10):=⟨_,rfl⟩;have hu8:(48+(k.natAbs:Int) % 10) % 256=(c.toNat:Int):=by rw[hc,UInt8.toNat_ofNat'];omega
   have hu9:IntKind.u8.wrap (48+(k.natAbs:Int) % 10)=(c.toNat:Int):=by rw[←hu8];simp[IntKind.wrap,IntKind.bits,IntKind.signed]
   simp[go_sem,hQ,hqi,hu9];iterate 2 refine ai ?_
   refine nx (q,c::s) ⟨(by rw[hq,←h1,hdec,hc];simp),(by omega)⟩
  ·have hk:k=0:=by omega
   rw[hk]at h1;have hs:s=fA n.natAbs:=by simpa[lK]using h1
   simp[go_sem];refine gw (fun b=> ?_) (fun b=> ?_)
   ·have hr:oL n=45::s:=by rw[oL,if_neg e,if_pos (by omega),hs];rfl
    simp[go_sem,hr];omega
   ·simp at b;have hr:oL n=s:=by rw[oL,if_neg e,if_neg (by omega),hs];rfl
    simp[go_sem,hr]
theorem aBJ {i:Nat}(h:i<=11):(10:Int)^i<=100000000000:=by
 have h1:(10:Nat)^i<=10^11:=Nat.pow_le_pow_right (by omega) h;have h2:((10^i:Nat):Int)<=((10^11:Nat):Int):=by exact_mod_cast h1
 simpa using h2
theorem QX (s:Str)(hs:s.length<=1048576):Fk 190 [dS s] (.tup [.val (dI (if gP s=true then fI s else 0)),.val (dB (gP s))]):=by
 refine fE good [5] func190 ntmps190 fun w0 ow0=> ?_;simp[go_sem];refine akL good (fun(x':(Int)×(Int))=>match x' with|(v,d)=>[(0,.val (dS s)),(4,.val (dI v)),(5,.val (dI d))]) (fun(x':(Int)×(Int))=>match x' with|(v,d)=>((v,d)=kT s)/\(0<=v/\v<=100000000000)/\(0<=d/\d<=11)) ?_ ?_
 ·simp[go_sem];refine wl good (fun(x':(Nat)×(Int)×(Int))=>match x' with|(i,v,d)=>[(0,.val (dS s)),(4,.val (dI v)),(5,.val (dI d)),(6,.val (dI i))]) (fun(x':(Nat)×(Int)×(Int))=>match x' with|(i,v,d)=>s.length-i) (fun(x':(Nat)×(Int)×(Int))=>match x' with|(i,v,d)=>(i<=s.length/\i<=11)/\((v,d)=(s.take i).foldl yQ (0,0))/\(0<=v/\v<10^i)/\(0<=d/\d<=i)) ((0,0,0)) ⟨(by simp),(rfl),(by simp),(by simp)⟩ ?_;rintro⟨i,v,d⟩ ⟨h1,h2,h3,h4⟩;have hp11:(10:Int)^i<=100000000000:=aBJ (by omega);simp[go_sem];refine gv (fun a=> ?_) (fun a=> ?_)
  ·have a':=a;simp[go_sem,a];refine gw (fun b=> ?_) (fun b=> ?_)
   ·obtain⟨c,hc⟩:=aC (l:=s) (i:=i) (by omega);have hm:=bC yQ (0,0) hc;rw[←h2]at hm;simp[go_sem,hc];refine gv (fun e=> ?_) (fun e=> ?_)
    ·have e':=e;simp[go_sem,hc,e];refine gw (fun f=> ?_) (fun f=> ?_)
     ·have hu:yQ (v,d) c=(v*10+(c.toNat-48),d+1):=if_pos ⟨by omega,by omega⟩;have hw:IntKind.i64.wrap ((c.toNat:Int)-48)=c.toNat-48:=by simp[IntKind.wrap,IntKind.bits,IntKind.signed];omega
      have hps:(10:Int)^(i+1)=10^i*10:=Int.pow_succ 10 i;simp[go_sem,hc,hw];iterate 5 refine ai ?_
      refine nx (i+1,v*10+(c.toNat-48),d+1) ⟨(by omega),(by rw[hm,hu]),(by rw[hps];omega),(by omega)⟩
     ·simp at f;have hu:yQ (v,d) c=(v,d):=if_neg (by omega);have hps:(10:Int)^(i+1)=10^i*10:=Int.pow_succ 10 i;simp[go_sem];refine ai ?_;refine nx (i+1,v,d) ⟨(by omega),(by rw[hm,hu]),(by rw[hps];omega),(by omega)⟩
    ·have e':=e;simp at e';have hu:yQ (v,d) c=(v,d):=if_neg (by omega);have hps:(10:Int)^(i+1)=10^i*10:=Int.pow_succ 10 i;simp[go_sem,e];refine ai ?_;refine nx (i+1,v,d) ⟨(by omega),(by rw[hm,hu]),(by rw[hps];omega),(by omega)⟩
   ·simp at b;simp[go_sem];refine jn (v,d) ⟨(by rw[h2,kT,show i=11 by omega]),(by omega),(by omega)⟩
  ·have a':=a;simp at a';simp[go_sem,a];refine jn (v,d) ⟨(by rw[h2,kT,List.take_of_length_le (show s.length<=i by omega),List.take_of_length_le (show s.length<=11 by omega)]),(by omega),(by omega)⟩
 rintro⟨v,d⟩ ⟨h5,h6,h7⟩;have hv:(kT s).1=v:=by rw[←h5]
 have hd:(kT s).2=d:=by rw[←h5]
 refine IG good (fun(z:Int)=>[(0,.val (dS s)),(4,.val (dI z)),(5,.val (dI d))]) (fun(z:Int)=>(z=fI s)/\(-100000000000<=z/\z<=100000000000)) ?_ ?_
 ·simp[go_sem];refine gv (fun e=> ?_) (fun e=> ?_)
  ·have e':=e;obtain⟨c,hc⟩:=aC (l:=s) (i:=0) (by simpa using e);have hcz:∀h,(⟨s.toArray⟩:ByteArray)[0]'h=c:=fun h=>by have:=arA s 0;rw[hc]at this;exact Option.some.inj ((getElem?_pos (⟨s.toArray⟩:ByteArray) 0 h).symm.trans this)
   simp[go_sem,e,hcz];refine gw (fun f=> ?_) (fun f=> ?_)
   ·have hpv:fI s= -v:=by rw[fI,if_pos (by rw[hc];congr 1;exact UInt8.toNat_inj.1 (by show c.toNat=45;omega)),hv]
    simp[go_sem];refine ai ?_;refine jn (-v) ⟨(hpv.symm),(by omega)⟩
   ·have hpv:fI s=v:=by rw[fI,if_neg (by rw[hc];intro h;have:=Option.some.inj h;subst this;exact f rfl),hv]
    simp[go_sem];refine jn (v) ⟨(hpv.symm),(by omega)⟩
  ·have e':=e;simp at e';have hpv:fI s=v:=by rw[fI,if_neg (by rw[show s=[]from List.eq_nil_of_length_eq_zero (by simpa using e)];simp),hv]
   simp[go_sem,e];refine jn (v) ⟨(hpv.symm),(by omega)⟩
 rintro z ⟨h8,h9⟩;simp[go_sem];refine gv (fun e=> ?_) (fun e=> ?_)
 ·have e':=e;have hb:gP s=false:=by simp only[gP,hd];rw[decide_eq_false (by omega)];rfl
  simp[go_sem,e];all_goals simp[hb]
 ·have e':=e;simp at e';simp[go_sem,e];refine gv (fun g=> ?_) (fun g=> ?_)
  ·have g':=g;have hb:gP s=false:=by simp only[gP,hd];rw[decide_eq_false (p:=s.length<=10) (by omega)];simp
   simp[go_sem,g];all_goals simp[hb]
  ·have g':=g;simp at g';simp[go_sem,g];refine ck (NF z (by omega)) ?_;simp[go_sem];refine gw (fun b=> ?_) (fun b=> ?_)
   ·have hb:gP s=false:=by simp only[gP,hd,←h8];rw[decide_eq_false (p:=oL z=s) b];simp
    simp[go_sem];all_goals simp[hb]
   ·have hb:gP s=true:=by simp only[gP,hd,←h8];simp[b];omega
    simp[go_sem];all_goals simp[hb,h8]
theorem K6 (x y:Str)(hx:x.length<=1048576)(hy:y.length<=1048576):Fk 119 [dS x,dS y] (.val (dI (kJ x y))):=by
 refine fE good [7] func119 ntmps119 fun w0 ow0=> ?_;have hdx:(digits x).length<=x.length:=List.length_filter_le _ _;have hdy:(digits y).length<=y.length:=List.length_filter_le _ _;have hps:kJ x y=x9 (digits x) (digits y):=rfl;simp[go_sem];refine ck (BD x hx) ?_;simp[go_sem];refine ck (BD y hy) ?_;generalize digits x=p at*
 generalize digits y=q at*
 simp[go_sem];refine akL good (fun(n:Nat)=>[(5,.val (dS p)),(6,.val (dS q)),(7,.val (dI n))]) (fun(n:Nat)=>(shared p.reverse q.reverse=n)/\(n<=p.length/\n<=q.length)) ?_ ?_
 ·simp[go_sem];refine wl good (fun(n:Nat)=>[(5,.val (dS p)),(6,.val (dS q)),(7,.val (dI n))]) (fun(n:Nat)=>p.length-n) (fun(n:Nat)=>(n<=p.length/\n<=q.length)/\(shared p.reverse q.reverse=n+shared (p.reverse.drop n) (q.reverse.drop n))) (0) ⟨(by omega),(by simp)⟩ ?_;rintro n ⟨h1,h2⟩;simp[go_sem];refine wdr good ?_;simp[go_sem];refine gv (fun a=> ?_) (fun a=> ?_)
  ·have a':=a;simp[go_sem,a];refine gv (fun b=> ?_) (fun b=> ?_)
   ·have b':=b;have hk:((p.length:Int)-1-n).toNat=p.length-1-n:=by omega
    have hk2:((q.length:Int)-1-n).toNat=q.length-1-n:=by omega
    have hcx:=VE (s:=p) (i:=n) (by omega);have hcy:=VE (s:=q) (i:=n) (by omega);have hss:=SA (p:=p.reverse) (q:=q.reverse) (i:=n) (by simp;omega) (by simp;omega);simp[go_sem,b,hk,hk2,hcx,hcy];iterate 6 refine ai ?_
    refine gw (fun f=> ?_) (fun f=> ?_)
    ·simp[go_sem];refine ai ?_;refine nx (n+1) ⟨(by omega),(by rw[h2,hss,if_pos (by simpa using f)];omega)⟩
    ·simp[go_sem];refine jn (n) ⟨(by rw[h2,hss,if_neg (by simpa using f)];rfl),(by first|omega|(simp;omega)|grind)⟩
   ·have b':=b;simp at b';simp[go_sem,b];refine jn (n) ⟨(by rw[h2,CS (.inr (by simp;omega))];rfl),(by first|omega|(simp;omega)|grind)⟩
  ·have a':=a;simp at a';simp[go_sem,a];refine jn (n) ⟨(by rw[h2,CS (.inl (by simp;omega))];rfl),(by first|omega|(simp;omega)|grind)⟩
 rintro n ⟨h5,h6⟩;have hlt:x9 p q=if p.length<4\/q.length<4\/n<4 then 0 else if n=p.length/\n=q.length then 1000 else if n>=7\/n=p.length\/n=q.length then 800 else 400:=by rw[x9,h5]
 rw[←hps]at hlt;refine IG good (fun(_:Unit)=>[(5,.val (dS p))]) (fun(_:Unit)=>(kJ x y=400)) ?_ ?_
 ·simp[go_sem];refine gv (fun a=> ?_) (fun a=> ?_)
  ·have a':=a;rw[if_pos (by omega)]at hlt;simp[go_sem,a,hlt]
  ·have a':=a;simp at a';simp[go_sem,a];refine gv (fun b=> ?_) (fun b=> ?_)
   ·have b':=b;rw[if_pos (by omega)]at hlt;simp[go_sem,b,hlt]
   ·have b':=b;simp at b';simp[go_sem,b];refine gw (fun d=> ?_) (fun d=> ?_)
    ·rw[if_pos (by omega)]at hlt;simp[go_sem,hlt]
    ·simp at d;rw[if_neg (by omega)]at hlt;simp[go_sem];refine gv (fun e=> ?_) (fun e=> ?_)
     ·have e':=e;simp[go_sem,a,e];refine gw (fun f=> ?_) (fun f=> ?_)
      ·rw[if_pos (by omega)]at hlt;simp[go_sem,hlt]
      ·rw[if_neg (by omega)]at hlt;simp[go_sem];refine gv (fun g=> ?_) (fun g=> ?_)
       ·have g':=g;rw[if_pos (by omega)]at hlt;simp[go_sem,g,hlt]
       ·have g':=g;simp at g';rw[if_pos (by omega)]at hlt;simp[go_sem,g,hlt]
     ·have e':=e;rw[if_neg (by omega)]at hlt;simp[go_sem,e];refine gv (fun g=> ?_) (fun g=> ?_)
      ·have g':=g;rw[if_pos (by omega)]at hlt;simp[go_sem,g,hlt]
      ·have g':=g;simp at g';simp[go_sem,e,g];refine gw (fun l=> ?_) (fun l=> ?_)
       ·rw[if_pos (by omega)]at hlt;simp[go_sem,hlt]
       ·rw[if_neg (by omega)]at hlt;simp[go_sem];refine jn (()) (by first|omega|(simp;omega)|grind)
 rintro⟨⟩ h7;simp[go_sem,h7]
theorem zA (s:Str)(hs:s.length<=1048576):Fk 120 [dS s] (.val (dI (dE s))):=by
 refine fE good [] func120 ntmps120 fun w0 ow0=> ?_;simp[go_sem];refine ck (QX s hs) ?_;simp[go_sem];refine gv (fun a=> ?_) (fun a=> ?_)
 ·have a':=a;simp at a';simp[go_sem,a];grind[dE]
 ·have a':=a;simp at a';simp[go_sem,a];refine ck (aH (if gP s=true then fI s else 0) 1000 9999) ?_;simp[go_sem];refine gw (fun b=> ?_) (fun b=> ?_)
  ·simp at b;simp[go_sem];grind[dE]
  ·simp at b;simp[go_sem];grind[dE]
theorem JH (x y z:Int):Fk 121 [dI x,dI y,dI z] (.val (dI (gL x y z))):=by
 refine fE good [] func121 ntmps121 fun w0 ow0=> ?_;simp[go_sem];refine ck (KA x) ?_;simp[go_sem];refine gv (fun e=> ?_) (fun e=> ?_)
 ·have e':=e;simp at e';simp[go_sem,e];all_goals(simp only[gL];rw[if_neg (by intro h;simp_all;omega)])
 ·have e':=e;simp at e';simp[go_sem,e];refine ck (KA y) ?_;simp[go_sem];refine gv (fun f=> ?_) (fun f=> ?_)
  ·have f':=f;simp at f';simp[go_sem,f];all_goals(simp only[gL];rw[if_neg (by intro h;simp_all;omega)])
  ·have f':=f;simp at f';simp[go_sem,f];refine ck (aH z 1 9999) ?_;simp[go_sem];refine gw (fun g=> ?_) (fun g=> ?_)
   ·simp at g;simp[go_sem];all_goals(simp only[gL];rw[if_neg (by intro h;simp_all;omega)])
   ·simp at g;have hxy:inR x 0 9999=true/\inR y 0 9999=true/\inR z 1 9999=true:=by simp_all
    obtain⟨M,hM⟩:∃M,max x y=M:=⟨_,rfl⟩;obtain⟨m,hm⟩:∃m,min x y=m:=⟨_,rfl⟩;have hns:gL x y z=if M-m>=z then 0 else(1000*(z-(M-m))).tdiv z:=by rw[gL,if_pos hxy,hM,hm]
    have hMb:0<=M-m/\M-m<=9999:=by simp at hxy;omega
    clear hxy;simp[go_sem,hM,hm];refine ai ?_;refine gw (fun d=> ?_) (fun d=> ?_)
    ·rw[if_pos (by omega)]at hns;simp[go_sem];all_goals simp[hns]
    ·simp at d;rw[if_neg (by omega)]at hns;have hq:=AC (a:=1000*(z-(M-m))) (b:=z) (by omega) (by omega);simp[go_sem,hq];iterate 3 refine ai ?_
     all_goals simp[hns]
theorem aiO (st:Str×Int)(c:UInt8):(mO st c).1.length<=st.1.length+1:=by
 unfold mO;split
 ·simp
 ·simp only;split
  ·simp
  ·omega
theorem aqE:∀(s:Str) (st:Str×Int),(s.foldl mO st).1.length<=st.1.length+s.length
 |[],st=>by simp
 |c::s,st=>by have:=aqE s (mO st c);have:=aiO st c;simp only[List.foldl_cons,List.length_cons];omega
theorem afR (s:Str):(dH s).length<=s.length+4:=by
 have:=aqE s ([],0);unfold dH;split
 ·simp
 ·simp[UJ];simp at this;omega
theorem DN (s:Str)(hs:s.length<=40):(fQ s).length<=262144/\∀x∈fQ s,x.length<=1048576:=by
 have ht:=BQ s
 have key:∀(L t:List Str),(∀x∈L,x.length<=80)->(∀x∈t,x.length<=84)->(L.foldl oF t).length<=t.length+L.length/\∀x∈L.foldl oF t,x.length<=84:=by
  intro L
  induction L with
  |nil=>intro t _ ht;exact⟨by simp,ht⟩
  |cons y L ih=>
   intro t hL ht
   have h1:(oF t y).length<=t.length+1:=by
    unfold oF;split
    ·exact kI _ _ _
    ·omega
   have h2:∀x∈oF t y,x.length<=84:=fun x hx=>by
    unfold oF at hx;split at hx
    ·rcases WV hx with h|rfl
     ·exact ht x h
     ·have:=afR y;have:=hL y (by simp);omega
    ·exact ht x hx
   have:=ih (oF t y) (fun x hx=>hL x (List.mem_cons_of_mem _ hx)) h2;refine⟨?_,this.2⟩;have:=this.1;simp only[List.foldl_cons,List.length_cons];omega
 have:=key (tokens s) [] (fun x hx=>by have:=ht.2 x hx;omega) (by simp);unfold fQ;refine⟨by have:=this.1;simp at this;omega,fun x hx=>by have:=this.2 x hx;omega⟩
theorem CW (s:Str)(hs:s.length<=40):(tokens s).length<=262144/\∀x∈tokens s,x.length<=1048576:=by
 have ht:=BQ s;exact⟨by omega,fun x hx=>by have:=ht.2 x hx;omega⟩
theorem I4 {r:Rec}(h:aJ r=true):u7 r:=by
 have h1:=bU h;refine⟨by omega,fun f hf=> ?_⟩;obtain⟨i,hi⟩:=List.getElem?_of_mem hf;have hlt:=(List.getElem?_eq_some_iff.1 hi).1;have h2:=h1.2 i (by omega);rw[h2.1]at hi;obtain rfl:=Option.some.inj hi;have:=h2.2;unfold VY;omega
theorem F7 (a b:Rec)(ha:aJ a=true)(hb:aJ b=true):Fk 68 [tY a,tY b] (.own (aD (uY a b))):=by
 refine fE good [] func68 ntmps68 fun w0 ow0=> ?_;have hsa:=I4 ha;have hsb:=I4 hb;obtain⟨a0,hal0⟩:=(bU ha).2 0 (by omega);obtain⟨a1,hal1⟩:=(bU ha).2 1 (by omega);obtain⟨a2,hal2⟩:=(bU ha).2 2 (by omega);obtain⟨a3,hal3⟩:=(bU ha).2 3 (by omega);obtain⟨b0,hbl0⟩:=(bU hb).2 0 (by omega);obtain⟨b1,hbl1⟩:=(bU hb).2 1 (by omega);obtain⟨b2,hbl2⟩:=(bU hb).2 2 (by omega);obtain⟨b3,hbl3⟩:=(bU hb).2 3 (by omega);simp[go_sem];refine ck (jP a hsa) ?_;simp[go_sem,ha];refine ck (jP b hsb) ?_;have ta:=CW _ hal0;have tb:=CW _ hbl0;have ka:=DN _ hal0;have kb:=DN _ hbl0;simp[go_sem,hb];refine wdt good 45 ?_;simp[go_sem,a0,b0];refine cd (FC (fld a 0) (fld b 0) (by omega) (by omega)) ?_;simp[go_sem,a0];refine cd (wQ (fld a 0) (by omega)) ?_;simp[go_sem,b0];refine cd (wQ (fld b 0) (by omega)) ?_;simp[go_sem];refine cd (G6 (tokens (fld a 0)) (tokens (fld b 0)) ta.1 ta.2 tb.1 tb.2) ?_;simp[go_sem,a0];refine cd (yX (fld a 0) (by omega)) ?_;simp[go_sem,b0];refine cd (yX (fld b 0) (by omega)) ?_;simp[go_sem];refine cd (G6 (fQ (fld a 0)) (fQ (fld b 0)) ka.1 ka.2 kb.1 kb.2) ?_;simp[go_sem,a1,b1];refine cd (FC (fld a 1) (fld b 1) (by omega) (by omega)) ?_;simp[go_sem,a3,b3];refine cd (K6 (fld a 3) (fld b 3) (by omega) (by omega)) ?_;simp[go_sem,a2];refine ck (zA (fld a 2) (by omega)) ?_;simp[go_sem,b2];refine ck (zA (fld b 2) (by omega)) ?_;simp[go_sem];refine gv (fun e=> ?_) (fun e=> ?_)
 ·have e':=e;simp[go_sem,e];refine gw (fun f=> ?_) (fun f=> ?_)
  ·simp[go_sem];refine ck (JH (dE (fld a 2)) (dE (fld b 2)) 10) ?_;simp[go_sem];simp[uY,kY,e,f]
  ·simp at f;simp[go_sem];simp[uY];rw[kY,if_neg (by omega)]
 ·have e':=e;simp at e';simp[go_sem,e];simp[uY];rw[kY,if_neg (by omega)]
theorem HZ (l:List Rec)(rs:List (List Tst))(s:Sco)(hl:1<=l.length/\l.length<=8)(hv:∀r∈l,aJ r=true)(hr:dF rs=true)(hs:fG s=true)(hrl:∀t∈rs,t.length<=1048576)(hrn:rs.length<=1048576)(hw:s.weights.length<=1048576):Fk 29 [iG l,gG rs,xK s] (.own (eB (weights l rs s))):=by
 refine fE good [23] func29 ntmps29 fun w0 ow0=> ?_;have hall:l.all aJ=true:=List.all_eq_true.2 hv;have hlen:decide (l.length<=12)=true:=by simp;omega
 have hl1:inR l.length 1 8=true:=by simp;omega
 simp[go_sem];refine ck (UI l (by omega) (fun r hr=>I4 (hv r hr))) ?_;simp[go_sem,hall,hlen];refine ck (aH l.length 1 8) ?_;simp[go_sem,hl1];refine ck (j3 rs hrn hrl) ?_;simp[go_sem,hr];refine ck (iW s hw) ?_;simp[go_sem,hs];refine wl good (fun(i:Nat)=>[(0,.val (iG l)),(4,.own (.bx true (gG rs))),(5,.own (.bx true (xK s))),(7,.own (eB ((List.range i).map (nT l rs s)))),(8,.val (dI i))]) (fun(i:Nat)=>l.length-i) (fun(i:Nat)=>(i<=l.length)) (0) (by omega) ?_;rintro i h1;simp[go_sem];refine gw (fun a=> ?_) (fun a=> ?_)
 ·simp[go_sem];refine wl good (fun(k:Nat)=>[(0,.val (iG l)),(4,.own (.bx true (gG rs))),(5,.own (.bx true (xK s))),(7,.own (eB ((List.range i).map (nT l rs s)))),(8,.val (dI i)),(9,.own (aD ((List.range k).map (fF l rs s i)))),(10,.val (dI k))]) (fun(k:Nat)=>l.length-k) (fun(k:Nat)=>(k<=l.length)) (0) (by omega) ?_;rintro k h2;simp[go_sem];refine gw (fun b=> ?_) (fun b=> ?_)
  ·have hrm:=Q4 (fF l rs s i) k;simp[go_sem];refine IG good (fun(_:Unit)=>[(0,.val (iG l)),(4,.own (.bx true (gG rs))),(5,.own (.bx true (xK s))),(7,.own (eB ((List.range i).map (nT l rs s)))),(8,.val (dI i)),(9,.own (aD ((List.range k).map (fF l rs s i)))),(10,.val (dI k)),(11,.val (dI (fF l rs s i k)))]) (fun(_:Unit)=>True) ?_ ?_
   ·simp[go_sem];refine gw (fun f=> ?_) (fun f=> ?_)
    ·have hw1:fF l rs s i k=cO rs s (uY (recAt l (min i k)) (recAt l (max i k))):=if_neg (by omega);have hm1:(min (i:Int) k).toNat=min i k:=by omega
     have hm2:(max (i:Int) k).toNat=max i k:=by omega
     have hx:=I7 (l:=l) (i:=min i k) (by omega);have hy:=I7 (l:=l) (i:=max i k) (by omega);have hvx:=hv _ (zK hx);have hvy:=hv _ (zK hy);simp[go_sem];refine wdt good 16 ?_;simp[go_sem,hm1,hm2,hx,hy];iterate 2 refine ai ?_
     refine cd (F7 (recAt l (min i k)) (recAt l (max i k)) hvx hvy) ?_;simp[go_sem];refine cd (KI rs s (uY (recAt l (min i k)) (recAt l (max i k))) hrn hrl hw (by simp[uY])) ?_;simp[go_sem];refine jn (()) trivial (h3:=by simp[go_sem,hrm,hm1,hm2,hx,hy,hw1])
    ·have hw1:fF l rs s i k=0:=if_pos (by omega);simp[go_sem];refine jn (()) trivial (h3:=by simp[go_sem,hrm,hw1])
   rintro⟨⟩ -
   simp[go_sem];iterate 2 refine ai ?_
   refine nx (k+1) (by first|omega|(simp;omega)|grind)
  ·simp at b;have hk:k=l.length:=by omega
   subst hk;have hrm:=Q4 (nT l rs s) i;have hwr:(List.range l.length).map (fF l rs s i)=nT l rs s i:=rfl;simp[go_sem,hwr];iterate 2 refine ai ?_
   refine nx (i+1) (by first|omega|(simp;omega)|grind)
 ·simp at a;have hk:i=l.length:=by omega
  subst hk;simp[go_sem];rw[weights,List.map_map]
end Go.Proofs.YtnglphdfhegnmaaGreatDoor
end
