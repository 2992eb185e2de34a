/- Lemmas and walks that the law leans on, part Vcd1. No condition. -/
import Derived.Test.YtebopbncplpdgaaGreatDoorVbcd1
set_option linter.unusedVariables false
set_option linter.defProp false
set_option linter.unusedSimpArgs false
set_option linter.unusedSectionVars false
set_option maxRecDepth 10000
set_option maxHeartbeats 1000000
section
namespace Go.Proofs.YtebopbncplpdgaaGreatDoor
open Go.Dv Go.Pl Go.Proofs.Tryz
def aoV (x:lM)(sc:Rec->Int)(g:FuncId)(b1 b2:Nat)(D1 D2:D)(F:D1.fz=D1)(F2:D2.fz=D2)(N:¬b1=b2)(N2:¬b2=b1)(E:Dv.Enters prog g)(U:T (1000000+g)=⟨.no,0,.any 0⟩)(G:∀r,aV r=true->fA prog g [nV r,.bx false D1,.bx false D2] (fun r'=>r'=vI (sc r)))(hsc:∀r, -1000000<=sc r/\sc r<=1000000)(hx:kD x):yX prog 59 [nSys x,.one (.func (.func g) #[] #[.pointer (some ⟨b1,0,none⟩),.pointer (some ⟨b2,0,none⟩)])] [(b1,D1),(b2,D2)] (fun res'=>res'=vC (rP x sc)):=by
 refine fB [5] ntmps59 fun _ _=> ?_;have hme:∀e∈x.ents,Qle e.mem:=fun e he=>k_Nat_le_trans (BD he) hx.mem;simp;refine ck (wW x hx) ?_;simp;apply gw<;>intro e
 ·simp at e;have hd:rP x sc=[]:=if_neg (by simp[e]);try simp
  refine jL [] (wP (L:=[(4,.own (NK []))]) (by simp)) ?_;simp[hd]
 ·simp at e;have ho:xK x:=by simpa using e
  have hd:rP x sc=iD (cfB CG) (x.ents.filterMap (FY x sc)):=if_pos ho;have hsv:=BH (pJ ho).2.1;have h8:=(xP (pJ ho).2.2).2;simp;refine wlt (Nat×List Hi) (fun(i,o)=>([(1,.val (.one (.func (.func g) #[] #[.pointer (some ⟨b1,0,none⟩),.pointer (some ⟨b2,0,none⟩)]))),(2,.own (.bx true (nSys x))),(5,vC o),(15,vG x.ents),(16,vI x.ents.length),(17,vI i),(1000000+2*b1,.rp (D1)),(1000000+2*b2,.rp (D2))],(x.ents).length-i,(i<=(x.ents).length)/\(o=(x.ents.take i).filterMap (FY x sc))/\(o.length<=i))) ((0,[])) ⟨by omega,rfl,by simp⟩ ?_ (h0:=by simp[E,U,F,F2,N,N2]);rintro⟨i,o⟩ ⟨h1,h2,h3⟩;simp;apply gw<;>intro a
  ·obtain⟨c,hc⟩:=aO (l:=x.ents) (i:=i);have hcl:=hme c (aA hc);have hm:=lV (FY x sc) hc;rw[←h2]at hm;have hR8:(jW x.sto c.mem).length<=8:=k_Nat_le_trans (aZ _ _) hsv.2.1;have hRv:∀r∈jW x.sto c.mem,aV r:=fun r hr=>hsv.1 r (bQ.1 hr).1;have hE:FY x sc c=if 0<=kV sc (jW x.sto c.mem)then some ⟨c.id,kV sc (jW x.sto c.mem)⟩else none:=rfl
   simp[hc];refine ck (wY x c hx hsv.1 hsv.2.1 hcl) ?_;generalize jW x.sto c.mem=R at*
   simp;refine wld [23] (Nat×Int) (fun(j,m)=>([(1,.val (.one (.func (.func g) #[] #[.pointer (some ⟨b1,0,none⟩),.pointer (some ⟨b2,0,none⟩)]))),(2,.own (.bx true (nSys x))),(5,vC o),(7,.own (.bx true (XL c))),(8,vI m),(15,vG x.ents),(16,vI x.ents.length),(17,vI i),(23,vR R),(24,vI R.length),(25,vI j),(1000000+2*b1,.rp (D1)),(1000000+2*b2,.rp (D2))],R.length-j,(j<=R.length)/\(m=kV sc (R.take j))/\(-1<=m/\m<=1000000))) ((0, -1)) ⟨by omega,by simp[kV],by omega⟩ ?_ (h0:=by simp[E,U,F,F2,N,N2,hc]);rintro⟨j,m⟩ ⟨h4,h5,h6⟩;simp;apply gw<;>intro b
   ·obtain⟨r,hr⟩:=aO (l:=R) (i:=j) b;have hs1:=hsc r;have hsn:kV sc (R.take (j+1))=max (kV sc (R.take j)) (sc r):=dK _ _ hr;simp[E,U,F,F2,N2,hr];refine ck ((G r (hRv r (aA hr)))) ?_;simp;refine ai ?_;refine nxc (j+1,max m (sc r)) [23] ⟨by omega,by rw[hsn,h5],by omega⟩ (h3:=by simp[E,U,F,F2,N,N2,hr])
   ·simp at b;rw[bJ]at h5;rw[←h5]at hE;simp;apply gw<;>intro f
    ·rw[if_pos f]at hE;simp;refine nxb (i+1,o++[⟨c.id,m⟩]) ⟨by omega,by rw[hm,hE];rfl,by simp;omega⟩ (h3:=by simp[E,U,F,F2,N,N2,hc])
    ·simp at f;rw[if_neg (by omega)]at hE;simp;refine nxa (i+1,o) ⟨by omega,by rw[hm,hE];simp,by omega⟩ (h3:=by simp[E,U,F,F2,N,N2,hc])
  ·simp at a;rw[bJ a]at h2;rw[←h2]at hd;simp;refine eO rfl (aj6 o CG 127 aIW aI5 (gH o) (by omega)) ?_;rintro r d ⟨rfl,rfl⟩;simp[hd]
def aiT (s:Str):(CJ s).length<=s.length:=by
 have h:(loopN s.length [] (oH s)).length<=s.length/\(0<s.length->(s.getD (s.length-1) 0).toNat=32->(loopN s.length [] (oH s)).length<=s.length-1):=by
  refine loopN_inv (fun i (o:Str)=>o.length<=i/\(0<i->(s.getD (i-1) 0).toNat=32->o.length<=i-1)) ⟨by simp,fun h=>absurd h (by omega)⟩ fun i o _ ho=> ?_;unfold oH;split
  ·exact⟨by omega,fun _ _=>by omega⟩
  ·rename_i hc;split
   ·rename_i hd;have:=ho.2 (by omega) hd.2;exact⟨by simp;omega,fun _ h=>absurd (by simpa using h) hc⟩
   ·exact⟨by simp;omega,fun _ h=>absurd (by simpa using h) hc⟩
 exact h.1
def LC (s:Str):(normal s).length<=s.length:=by
 have h1:=aiT (yF (uQ s));have h2:=E5 (uQ s);have h3:=BL s;unfold normal;omega
def BB (x y:Str)(n:Int):Int:=if 0<=lU x y/\lU x y<=n then lU x y else -1
def asX (x y:Str): -1000000<=oI x y/\oI x y<=1000000:=by
 have hl:=TT x y;unfold oI;split
 ·omega
 ·rename_i h
  have hf:x.length<=40/\y.length<=40:=by
   by_cases hf:ED x y=true
   ·simpa[ED]using hf
   ·unfold lU at h;rw[if_neg hf]at h;omega
  split
  ·omega
  ·have:=Int.natAbs_tdiv_le_natAbs (1000*(max (x.length:Int) y.length-lU x y)) (max (x.length:Int) y.length);omega
def WG (x y:Str)(n:Int)(hx:Qle x)(hy:Qle y):Fk 79 [dS x,dS y,dI n] (vI (BB x y n)):=by
 refine fE [] ntmps79 fun _ _=> ?_;have hl:=TT x y;simp;refine ck (FO x y hx hy) ?_;obtain⟨d,hd⟩:∃d,lU x y=d:=⟨_,rfl⟩;have hw:BB x y n=if 0<=d/\d<=n then d else -1:=by rw[BB,hd]
 rw[hd]at hl;simp[hd];apply gw<;>intro a
 ·have hr:BB x y n=d:=by rw[hw];split;rfl;omega
  simp[hr]
 ·simp at a;have hr:BB x y n= -1:=by rw[hw];exact if_neg (by omega)
  simp[hr]
def WU (x y:Str)(n:Int)(hx:Qle x)(hy:Qle y):Fk 75 [dS x,dS y,dI n] (vI (BB x y n)):=by
 refine fE [] ntmps75 fun _ _=> ?_;simp;refine ck (FT x y hx hy) ?_;obtain⟨d,hd⟩:∃d,lU x y=d:=⟨_,rfl⟩;have hw:BB x y n=if 0<=d/\d<=n then d else -1:=by rw[BB,hd]
 simp[hd];apply gv<;>intro a
 ·have a':=a;have hr:BB x y n= -1:=by rw[hw];exact if_neg (by omega)
  simp[a,hr]
 ·have a':=a;simp at a';simp[a];apply gw<;>intro b
  ·have hr:BB x y n= -1:=by rw[hw];exact if_neg (by omega)
   simp[hr]
  ·simp at b;have hr:BB x y n=d:=by rw[hw];exact if_pos (by omega)
   simp[hr]
def C9 (g:Str)(n:Int)(r:Rec):Int:=if 0<=BB (normal (fld r 0)) g n then oI (normal (fld r 0)) g else -1
def awC (g:Str)(n:Int)(r:Rec): -1000000<=C9 g n r/\C9 g n r<=1000000:=by
 have:=asX (normal (fld r 0)) g;unfold C9;split<;>omega
def RB (r:Rec)(g:Str)(n:Int)(hr:aV r)(hg:Qle g):Fk 78 [nV r,.bx false (dS g),.bx false (dI n)] (vI (C9 g n r)):=by
 refine fE [] ntmps78 fun _ _=> ?_;have hf:=al4 hr (i:=0);have hf1:=hf.1;have hln:=LC (fld r 0);simp[hf1];refine ck (iC (fld r 0)) ?_;simp;refine ck (WG (normal (fld r 0)) g n (by omega) hg) ?_;obtain⟨z,hz⟩:∃z,BB (normal (fld r 0)) g n=z:=⟨_,rfl⟩;have hs:C9 g n r=if 0<=z then oI (normal (fld r 0)) g else -1:=by rw[C9,hz]
 simp[hz];apply gw<;>intro b
 ·rw[if_neg (by omega)]at hs;simp[hs]
 ·simp at b;simp;refine ck (KQ (normal (fld r 0)) g (by omega) hg) ?_;rw[if_pos (by omega)]at hs;simp[hs]
def I4 (x:lM)(y:Str)(n:Int)(hx:kD x)(hy:Qle y):Fk 29 [nSys x,dS y,dI n] (vC (rP x (C9 (normal y) n))):=by
 refine fE [] ntmps29 fun _ _=> ?_;have hln:=LC y;simp;refine ck (iC y hy) ?_;simp;refine ahI (kY (dS (normal y)) (by simp) fun b1 x1=> ?_);refine kY (dI n) (by simp) fun b2 x2=> ?_;have m0:=oP.ne x2 (b':=b1) (o:=true) (d:=dS (normal y)) (by simp);have m1:¬b1=b2:=fun e=>m0 e.symm;refine MK ?_;clear x1 x2;simp[m1];refine ckB (aoV x (C9 (normal y) n) 78 b1 b2 (dS (normal y)) (dI n) rfl rfl m1 m0 aMT aMY (fun r hr=>RB r (normal y) n hr (by omega)) (awC (normal y) n) hx) ?_;simp
def aAN (sc:Rec->Int)(h:∀r,sc r= -1)(l:List Rec):kV sc l= -1:=by
 unfold kV
 induction l with
 |nil=>rfl
 |cons r l ih=>rw[k_List_foldl_cons,h,Int.max_self];exact ih
def aCC (x:lM)(g:Str)(n:Int)(h:n<0):rP x (C9 g n)=[]:=by
 have h1:∀r,C9 g n r= -1:=fun r=>if_neg (by (try unfold Qle);rw[BB,if_neg (by omega)];omega);unfold rP;split
 ·have h2:x.ents.filterMap (FY x (C9 g n))=[]:=List.filterMap_eq_nil_iff.2 fun e _=>by rw[FY,aAN _ h1,if_neg (by omega)]
  rw[h2];rfl
 ·rfl
def WW (x:lM)(y:Str)(n:Int)(hx:kD x)(hy:Qle y):Fk 28 [nSys x,dS y,dI n] (vC (rP x (C9 (normal y) n))):=by
 refine fE [] ntmps28 fun _ _=> ?_;have hme:∀e∈x.ents,Qle e.mem:=fun e he=>k_Nat_le_trans (BD he) hx.mem;have hln:=LC y;simp;refine ck (rF x hx) ?_;simp;apply gv<;>intro e
 ·have e':=e;simp at e';have hd:rP x (C9 (normal y) n)=[]:=if_neg (by simp[e']);simp[e,hd]
 ·have e':=e;simp at e';have ho:xK x:=by simpa using e
  simp[e];apply gw<;>intro f
  ·have hd:=aCC x (normal y) n f;simp[hd]
  ·simp at f;have hd:rP x (C9 (normal y) n)=iD (cfB CG) (x.ents.filterMap (FY x (C9 (normal y) n))):=if_pos ho;have hsv:=BH (pJ ho).2.1;have h8:=(xP (pJ ho).2.2).2;simp;refine wlt (Nat×List Hi) (fun(i,o)=>([(1,wN y),(2,vI n),(3,.own (.bx true (nSys x))),(7,vC o),(8,vI i)],(x.ents).length-i,(i<=(x.ents).length)/\(o=iD (cfB CG) ((x.ents.take i).filterMap (FY x (C9 (normal y) n))))/\(o.length<=i))) ((0,[])) ⟨by omega,rfl,by simp⟩ ?_;rintro⟨i,o⟩ ⟨h1,h2,h3⟩;simp;apply gw<;>intro a
   ·obtain⟨c,hc⟩:=aO (l:=x.ents) (i:=i);have hcl:=hme c (aA hc);have hm:=lV (FY x (C9 (normal y) n)) hc;have hRv:∀r∈jW x.sto c.mem,aV r:=fun r hr=>hsv.1 r (bQ.1 hr).1;have hR8:(jW x.sto c.mem).length<=8:=k_Nat_le_trans (aZ _ _) hsv.2.1;have hE:FY x (C9 (normal y) n) c=if 0<=kV (C9 (normal y) n) (jW x.sto c.mem)then some ⟨c.id,kV (C9 (normal y) n) (jW x.sto c.mem)⟩else none:=rfl
    simp;refine ck (uZ x i c hc hx hsv.1 hsv.2.1 hcl) ?_;generalize jW x.sto c.mem=R at*
    simp;refine wld [9] (Nat×Int) (fun(k,b)=>([(1,wN y),(2,vI n),(3,.own (.bx true (nSys x))),(7,vC o),(8,vI i),(9,vR R),(10,vI b),(11,vI k)],R.length-k,(k<=R.length)/\(b=kV (C9 (normal y) n) (R.take k))/\(-1<=b/\b<=1000000))) ((0, -1)) ⟨by omega,by simp[kV],by omega⟩ ?_;rintro⟨k,b⟩ ⟨h4,h5,h6⟩;simp;apply gw<;>intro q
    ·obtain⟨r,hr⟩:=aO (l:=R) (i:=k) q;have hrv:=hRv r (aA hr);have hfl:=al4 hrv (i:=0);have hf1:=hfl.1;have hnl:=LC (fld r 0);have hsb:=awC (normal y) n r;have hsn:kV (C9 (normal y) n) (R.take (k+1))=max (kV (C9 (normal y) n) (R.take k)) (C9 (normal y) n r):=dK _ _ hr;simp[hr,hf1];refine ck (iU (fld r 0) (by omega)) ?_;simp;refine ck (iU y hy) ?_;simp;refine ck (WU (normal (fld r 0)) (normal y) n (by omega) (by omega)) ?_;obtain⟨z,hz⟩:∃z,BB (normal (fld r 0)) (normal y) n=z:=⟨_,rfl⟩;have hs:C9 (normal y) n r=if 0<=z then oI (normal (fld r 0)) (normal y)else -1:=by rw[C9,hz]
     simp[hz];apply gw<;>intro t
     ·rw[if_pos t]at hs;simp;refine ck (K4 (normal (fld r 0)) (normal y)) ?_;simp;refine ai ?_;refine nxc (k+1,max b (oI (normal (fld r 0)) (normal y))) [9] ⟨by omega,by rw[hsn,h5,hs],by omega⟩
     ·simp at t;rw[if_neg (by omega)]at hs;simp;refine ai ?_;refine nxc (k+1,b) [9] ⟨by omega,by rw[hsn,←h5,hs];omega,by omega⟩
    ·simp at q;rw[bJ]at h5;rw[←h5]at hE;simp;apply gw<;>intro f
     ·rw[if_pos f]at hE;have hil:=BN (hiB ⟨c.id,b⟩) o ⟨c.id,b⟩;have hst:iD (cfB CG) ((x.ents.take (i+1)).filterMap (FY x (C9 (normal y) n)))=gN (hiB ⟨c.id,b⟩) o ⟨c.id,b⟩:=by rw[hm,hE,h2];exact XB _ _ _
      simp[hc];refine ck (JN o ⟨c.id,b⟩) ?_;simp;refine nxa (i+1,gN (hiB ⟨c.id,b⟩) o ⟨c.id,b⟩) ⟨by omega,by rw[hst],by omega⟩
     ·simp at f;rw[if_neg (by omega)]at hE;simp;refine nxa (i+1,o) ⟨by omega,by rw[hm,hE,h2];simp,by omega⟩
   ·simp at a;rw[bJ a,←hd]at h2;simp[h2]
def KG (x:lM)(y:Str)(n:Int)(hb:asJ x)(hy:y.length<=9223372036854775807):Fk 6 [nSys x,dS y,dI n] (vB true):=by
 refine fE [] ntmps6 fun _ _=> ?_;simp;apply gw<;>intro q
 ·simp
 ·simp at q;have hyl:Qle y:=by omega
  simp;refine eB (tX x 1048576 hb) (by simp) ?_;rintro r ⟨v,rfl,hv,hf⟩;refine⟨by simp,?_⟩;simp;apply gw<;>intro e
  ·simp
  ·simp at e;have hx:=hf (by omega);have hlen:=ag4 x (C9 (normal y) n);obtain⟨R,hR⟩:∃R,rP x (C9 (normal y) n)=R:=⟨_,rfl⟩;rw[hR]at hlen;have hsy:=NR hx;have hs3:¬PT x 1<0:=by omega
   simp;refine ck (fK x hx) ?_;simp;refine ck (WW x y n hx hyl) ?_;simp[hR];refine ck (fK x hx) ?_;simp;refine ck (I4 x y n hx hyl) ?_;simp[hR];refine ck (lX R) ?_;simp;refine wdr ?_;simp;refine cd (yG x hx) ?_;simp;refine cd (tV x hx) ?_;simp;refine rT rfl (qU x hx) ?_;simp[hs3];refine ck (lX R) ?_;simp;refine eO rfl (EK R 1) ?_;rintro r d ⟨rfl,rfl⟩;have hm2:¬1+2*(R.length:Int)<0:=by omega
   simp;refine ck (qH R.length 1) ?_;simp[hm2];refine ck (fK x hx) ?_;simp;refine ck (I4 x y n hx hyl) ?_;simp[hR];refine ck (lX R) ?_;simp;refine ck (qH R.length 1) ?_;simp[hm2]
def aqR (y:Rec):(nV y).fz=nV y:=by simp[D.fz,D.fzs,D.JQ]
def KI (x:lM)(y o:Rec):Int:=if 0<=tN x.cfg.rules (pF o y)then jP x.cfg.sco (pF o y)else -1
def av6 (x:lM)(y o:Rec): -1000000<=KI x y o/\KI x y o<=1000000:=by
 have:=SN x.cfg.sco (pF o y);unfold KI;split<;>omega
def PZ (o y:Rec)(x:lM)(ho:aV o)(hy:aV y)(hx:kD x):Fk 70 [nV o,.bx false (nV y),.bx false (nSys x)] (vI (KI x y o)):=by
 refine fE [] ntmps70 fun _ _=> ?_;have hfl:Qle (pF o y):=by simp[pF]
 simp;refine ck (aoT o y ho hy) ?_;simp;refine ck (KU x.cfg.rules (pF o y) hx.cfg.rules hx.cfg.rule hfl) ?_;simp;apply gw<;>intro b
 ·simp at b;have hs:KI x y o= -1:=if_neg (by simpa using b);simp[hs]
 ·have hs:KI x y o=jP x.cfg.sco (pF o y):=if_pos (by simpa using b);simp;refine ck (KS x.cfg.sco (pF o y) hx.cfg.weights hfl) ?_;simp[hs]
def aeA (x:lM)(y:Rec):List Hi:=if aV y=true then rP x (KI x y)else[]
def GX (x:lM)(y:Rec)(hx:kD x)(hy:zW y):Fk 25 [nSys x,nV y] (vC (aeA x y)):=by
 refine fE [5] ntmps25 fun _ _=> ?_;simp;refine ck (wU y hy) ?_;simp;apply gw<;>intro e
 ·simp at e;have hd:aeA x y=[]:=if_neg (by simp[e]);try simp
  refine jL [] (wP (L:=[(4,.own (NK []))]) (by simp)) ?_;simp[hd]
 ·simp at e;have hv:aV y:=by simpa using e
  have hd:aeA x y=rP x (KI x y):=if_pos hv;simp;refine ahI (kY (nV y) (by simp) fun b1 x1=> ?_);refine kY (nSys x) (by simp) fun b2 x2=> ?_;have m0:=oP.ne x2 (b':=b1) (o:=true) (d:=nV y) (by simp);have m1:¬b1=b2:=fun e=>m0 e.symm;refine MK ?_;clear x1 x2;simp[m1];refine ckB (aoV x (KI x y) 70 b1 b2 (nV y) (nSys x) (aqR y) (nSys_fz x) m1 m0 aMS aMX (fun o ho=>PZ o y x ho hv hx) (av6 x y) hx) ?_;simp[hd]
def U6 (x:lM)(y:Rec)(hx:kD x)(hy:zW y):Fk 23 [nSys x,nV y] (vC (aeA x y)):=by
 refine fE [] ntmps23 fun _ _=> ?_;have hme:∀e∈x.ents,Qle e.mem:=fun e he=>k_Nat_le_trans (BD he) hx.mem;simp;refine ck (rF x hx) ?_;simp;apply gv<;>intro e
 ·have e':=e;simp at e';have hd:aeA x y=[]:=by unfold aeA;split;exact if_neg (by simp[e']);rfl
  simp[e,hd]
 ·have e':=e;simp at e';have ho:xK x:=by simpa using e
  simp[e];refine ck (nH y hy) ?_;simp;apply gw<;>intro f
  ·simp at f;have hd:aeA x y=[]:=if_neg (by simp[f]);simp[hd]
  ·simp at f;have hv:aV y:=by simpa using f
   have hd:aeA x y=iD (cfB CG) (x.ents.filterMap (FY x (KI x y))):=(if_pos hv).trans (if_pos ho);have hsv:=BH (pJ ho).2.1;have h8:=(xP (pJ ho).2.2).2;simp;refine wlt (Nat×List Hi) (fun(i,o)=>([(2,.own (.bx true (nSys x))),(3,.own (.bx true (nV y))),(5,vC o),(6,vI i)],(x.ents).length-i,(i<=(x.ents).length)/\(o=iD (cfB CG) ((x.ents.take i).filterMap (FY x (KI x y))))/\(o.length<=i))) ((0,[])) ⟨by omega,rfl,by simp⟩ ?_;rintro⟨i,o⟩ ⟨h1,h2,h3⟩;simp;apply gw<;>intro a
   ·obtain⟨c,hc⟩:=aO (l:=x.ents) (i:=i);have hcl:=hme c (aA hc);have hm:=lV (FY x (KI x y)) hc;have hRv:∀r∈jW x.sto c.mem,aV r:=fun r hr=>hsv.1 r (bQ.1 hr).1;have hR8:(jW x.sto c.mem).length<=8:=k_Nat_le_trans (aZ _ _) hsv.2.1;have hE:FY x (KI x y) c=if 0<=kV (KI x y) (jW x.sto c.mem)then some ⟨c.id,kV (KI x y) (jW x.sto c.mem)⟩else none:=rfl
    simp;refine ck (uZ x i c hc hx hsv.1 hsv.2.1 hcl) ?_;generalize jW x.sto c.mem=R at*
    simp;refine wld [7] (Nat×Int) (fun(k,b)=>([(2,.own (.bx true (nSys x))),(3,.own (.bx true (nV y))),(5,vC o),(6,vI i),(7,vR R),(8,vI b),(9,vI k)],R.length-k,(k<=R.length)/\(b=kV (KI x y) (R.take k))/\(-1<=b/\b<=1000000))) ((0, -1)) ⟨by omega,by simp[kV],by omega⟩ ?_;rintro⟨k,b⟩ ⟨h4,h5,h6⟩;simp;apply gw<;>intro q
    ·obtain⟨r,hr⟩:=aO (l:=R) (i:=k) q;have hrv:=hRv r (aA hr);have hfl:Qle (pF r y):=by simp[pF]
     have hsb:=av6 x y r;have hsn:kV (KI x y) (R.take (k+1))=max (kV (KI x y) (R.take k)) (KI x y r):=dK _ _ hr;simp;refine wdt 6 ?_;simp[hr];refine cd (aEE r y hrv hv) ?_;simp;refine ck (K7 x.cfg.rules (pF r y) hx.cfg.rules hx.cfg.rule hfl) ?_;simp;apply gw<;>intro t
     ·have hs:KI x y r=jP x.cfg.sco (pF r y):=if_pos t;rw[hs]at hsn hsb;simp;refine ck (K5 x.cfg.sco (pF r y) hx.cfg.weights hfl) ?_;simp;refine ai ?_;refine nxc (k+1,max b (jP x.cfg.sco (pF r y))) [7] ⟨by omega,by rw[hsn,h5],by omega⟩
     ·simp at t;have hs:KI x y r= -1:=if_neg (by omega);simp;refine ai ?_;refine nxc (k+1,b) [7] ⟨by omega,by rw[hsn,←h5,hs];omega,by omega⟩
    ·simp at q;rw[bJ]at h5;rw[←h5]at hE;simp;apply gw<;>intro f
     ·rw[if_pos f]at hE;have hil:=BN (hiB ⟨c.id,b⟩) o ⟨c.id,b⟩;have hst:iD (cfB CG) ((x.ents.take (i+1)).filterMap (FY x (KI x y)))=gN (hiB ⟨c.id,b⟩) o ⟨c.id,b⟩:=by rw[hm,hE,h2];exact XB _ _ _
      simp[hc];refine ck (JN o ⟨c.id,b⟩) ?_;simp;refine nxa (i+1,gN (hiB ⟨c.id,b⟩) o ⟨c.id,b⟩) ⟨by omega,by rw[hst],by omega⟩
     ·simp at f;rw[if_neg (by omega)]at hE;simp;refine nxa (i+1,o) ⟨by omega,by rw[hm,hE,h2];simp,by omega⟩
   ·simp at a;rw[bJ a,←hd]at h2;simp[h2]
def aDL (x:lM)(y:Rec):(aeA x y).length<=8:=by
 unfold aeA;split
 ·exact ag4 x _
 ·simp
def TG (y:Rec)(hy:Qle y.fields):fA prog 24 [nV y] (fun r=>r= .val (F7 y)):=(EN y hy).al9
def ayI (x:lM)(y:Rec)(hx:kD x)(hy:zW y):fA prog 25 [nSys x,nV y] (fun r=>r= .val (NK (aeA x y))):=(GX x y hx hy).al9
def WS (r:Rec)(k:Int)(hs:Qle r.fields)(hk:0<=k/\k<=1000000000000000):adE prog 27 [.one (.bool false),dI k] 0 (F7 r) (fun res'=>res'=vI (k+r.fields.length)):=by
 refine fT [] ntmps27 fun _ _=> ?_;simp;refine eO rfl (zJ r.fields k hs hk) ?_;rintro r d ⟨rfl,rfl⟩;simp
def I8 (x:lM)(y:Rec)(hb:asJ x)(hy:axB y.fields):Fk 5 [nSys x,nV y] (vB true):=by
 refine fE [] ntmps5 fun _ _=> ?_;simp;refine eB (tX x 1048576 hb) (by simp) ?_;rintro r ⟨v,rfl,hv,hf⟩;refine⟨by simp,?_⟩;simp;apply gw<;>intro e
 ·simp
 ·simp at e;simp;refine eB (M6 y v hy (by omega)) (by simp) ?_;rintro r ⟨v2,rfl,hv2,hf2⟩;refine⟨by simp,?_⟩;simp;apply gw<;>intro f
  ·simp
  ·simp at f;have hx:=hf (by omega);have hfy:=hf2 (by omega);have hyr:zW y:=⟨by have:=hfy.1;omega,fun f hf=>by have:=hfy.2 f hf;unfold ab2;omega⟩;have hyl:=hyr.1;have hlen:=aDL x y;obtain⟨R,hR⟩:∃R,aeA x y=R:=⟨_,rfl⟩;rw[hR]at hlen;have hsy:=NR hx;have hs3:¬PT x 1+(y.fields.length:Int)<0:=by omega
   simp;refine wdf [(5,[28,6])] [(2,.own (.bx true (nSys x))),(3,.own (.bx true (nV y)))] [] (by simp) ?_;simp;refine cd (yG x hx) ?_;simp;refine cd (TG y hyl) ?_;simp;refine cd (U6 x y hx hyr) ?_;simp[hR];refine ck (fK x hx) ?_;simp;refine ck (EN y hyl) ?_;simp;refine ck (GX x y hx hyr) ?_;simp[hR];refine ck (lX R) ?_;simp;refine wdr ?_;simp;refine cd (yG x hx) ?_;simp;refine cd (tV x hx) ?_;simp;refine wdr ?_;simp;refine cd (TG y hyl) ?_;simp;refine cd (M4 y hyl) ?_;simp;refine rT rfl (qU x hx) ?_;simp;refine rT rfl (WS y (PT x 1) hyl (by omega)) ?_;simp[hs3];refine ck (lX R) ?_;simp;refine eO rfl (EK R 1) ?_;rintro r d ⟨rfl,rfl⟩;have hm2:¬1+2*(R.length:Int)<0:=by omega
   simp;refine ck (qH R.length 1) ?_;simp[hm2];refine wdf [(5,[79,13])] [(2,.own (.bx true (nSys x))),(3,.own (.bx true (nV y))),(6,vC R),(9,vC (xI R.length 1)),(11,vI (1+2*(R.length:Int)))] [] (by simp) ?_;simp;refine cd (yG x hx) ?_;simp;refine cd (TG y hyl) ?_;simp;refine cd (ayI x y hx hyr) ?_;simp[hR];refine ck (lX R) ?_;simp;refine ck (qH R.length 1) ?_;simp[hm2]
end Go.Proofs.YtebopbncplpdgaaGreatDoor
end
