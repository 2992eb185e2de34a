/- Lemmas and walks that the law leans on, part e1. No condition. -/
import Derived.Test.YtebopbncplpdgaaGreatDoorV6
set_option linter.unusedVariables false
set_option linter.defProp false
set_option linter.unusedSimpArgs false
set_option linter.unusedSectionVars false
set_option maxRecDepth 10000
set_option maxHeartbeats 1000000
section
namespace Go.Proofs.YtebopbncplpdgaaGreatDoor
open Go.Dv Go.Pl Go.Proofs.Tryz
variable {r:Rec}{i:Nat}
def KP (hr:aV r)(hi:i<4):r.fields[i]?=some (fld r i)/\(fld r i).length<=40:=by
 simp only[aV,k_Bool_and_eq_true,decide_eq_true_eq,aH]at hr;have h1:r.fields[i]?=some (fld r i):=by simp[fld,aC,show i<r.fields.length by omega]
 have h2:=hr.1.1.1.1 _ (aA h1);simp only[kS,isText,k_Bool_and_eq_true,decide_eq_true_eq]at h2;exact⟨h1,h2.2.2⟩
def auI (h:aV r):(0<=r.source/\r.source<=3)/\1<=r.version/\r.version<=999:=by
 simp only[aV,inR,k_Bool_and_eq_true,decide_eq_true_eq]at h;omega
def ND (l:List Rec):Prop:=l.length<=12/\∀r∈l,aV r=true
variable {l:List Rec}
def TY (h:ND l):l.all aV=true:=aH.2 h.2
def DK (l:List Rec)(f:Nat)(v:Str):Int:=l.foldl (fun n r=>if normal (fld r f)=normal v then n+1 else n) 0
def xM (l:List Rec)(r:Rec)(f:Nat)(rule:Int):Int:=if rule=1 then DK l f (fld r f)else if rule=2 then((fld r f).length:Int)else if rule=3 then r.version else 4-r.source
def vD (l:List Rec)(f:Nat)(rule:Int)(s:Str×Int)(r:Rec):Str×Int:=if normal (fld r f)=[]then s else if s.2<xM l r f rule\/xM l r f rule=s.2/\ltL (fld r f) s.1=true then(fld r f,xM l r f rule)else s
def R7 (l:List Rec)(f:Nat)(rule:Int):Str:=(l.foldl (vD l f rule) ([], -1)).1
def acM (l:List Rec)(rules:L1):List Str:=(List.range 4).map fun f=>R7 l f (at1 rules f)
def aE0 (l:List Rec)(f:Nat)(v:Str):0<=DK l f v/\DK l f v<=l.length:=by
 have go:∀(l:List Rec) (n:Int),n<=l.foldl (fun n r=>if normal (fld r f)=normal v then n+1 else n) n/\l.foldl (fun n r=>if normal (fld r f)=normal v then n+1 else n) n<=n+l.length:=by
  intro l
  induction l with
  |nil=>intro n;simp
  |cons r l ih=>intro n;rw[k_List_foldl_cons,k_List_length_cons];by_cases h:normal (fld r f)=normal v;(rw[if_pos h];have:=ih (n+1);omega);(rw[if_neg h];have:=ih n;omega)
 have:=go l 0;unfold DK;omega
variable {f:Nat}
def ahW (hl:ND l)(hr:aV r)(hf:f<4)(rule:Int):0<=xM l r f rule/\xM l r f rule<=1000:=by
 have h1:=aE0 l f (fld r f);have h2:=(KP hr hf).2;have h3:=auI hr;have h4:=hl.1;unfold xM;split
 ·omega
 ·split
  ·omega
  ·split<;>omega
def wZ (l:List Rec)(hl:ND l):Fk 166 [uR l] (vR l):=by
 refine fE [] ntmps166 fun _ _=> ?_;have h4:=hl.1;have ha:=TY hl;have h12:¬(12:Int)<(l.length:Int):=by omega
 simp[h12];refine ck (I7 l (by omega) (fun r hr=>BR (hl.2 r hr))) ?_;simp[ha]
def adO (l:List Rec)(f:Nat)(v:Str)(hl:ND l)(hf:f<4)(hv:Qle v):Fk 339 [uR l,dI f,dS v] (vI (DK l f v)):=by
 refine fE [] ntmps339 fun _ _=> ?_;have h4:=hl.1;simp;refine wlt (Nat×Int) (fun(i,n)=>([(1,vI f),(2,wN v),(7,vI n),(10,vR l),(11,vI l.length),(12,vI i)],l.length-i,(i<=l.length)/\(n=DK (l.take i) f v)/\(0<=n/\n<=i))) ((0,0)) ⟨by omega,rfl,by omega⟩ ?_;rintro⟨i,n⟩ ⟨h1,h2,h3⟩;simp;apply gw<;>intro a
 ·obtain⟨c,hc⟩:=aO (l:=l) (i:=i);have hcv:=hl.2 c (aA hc);have hfl:=KP hcv hf;have hf1:=hfl.1;have hsn:DK (l.take (i+1)) f v=if normal (fld c f)=normal v then DK (l.take i) f v+1 else DK (l.take i) f v:=dK _ _ hc
  simp[hc,hf1];refine ck (iC (fld c f)) ?_;simp;refine ck (iC v hv) ?_;simp;apply gw<;>intro a2
  ·simp;refine nxb (i+1,n+1) ⟨by omega,by rw[hsn,if_pos a2,h2],by omega⟩
  ·simp;refine nxa (i+1,n) ⟨by omega,by rw[hsn,if_neg a2,h2],by omega⟩
 ·simp at a;rw[bJ a]at h2;have hr:DK l f v=n:=h2.symm;simp[hr]
def al8 (l:List Rec)(r:Rec)(f:Nat)(rule:Int)(hl:ND l)(hr:aV r)(hf:f<4):Fk 244 [uR l,nV r,dI f,dI rule] (vI (xM l r f rule)):=by
 refine fE [] ntmps244 fun _ _=> ?_;have hfl:=KP hr hf;have hf1:=hfl.1;have hrb:=auI hr;simp;apply gw<;>intro a
 ·have hd:xM l r f rule=DK l f (fld r f):=if_pos a;simp[hf1];refine ck (adO l f (fld r f) hl hf (by omega)) ?_;simp[hd]
 ·simp;apply gw<;>intro b
  ·have hd:xM l r f rule=((fld r f).length:Int):=by rw[xM,if_neg a,if_pos b]
   simp[hf1,hd]
  ·simp;apply gw<;>intro c
   ·have hd:xM l r f rule=r.version:=by rw[xM,if_neg a,if_neg b,if_pos c]
    simp[hd]
   ·have hd:xM l r f rule=4-r.source:=by rw[xM,if_neg a,if_neg b,if_neg c]
    simp[hd];simp only[inI];omega
def RJ (x:Int):Fk 243 [dI x] (vB (inR x 0 3)):=by
 refine fE [] ntmps243 fun _ _=> ?_;simp;refine ck (bK _ _ _) ?_;simp
def RU (l:List Rec)(f:Nat)(v:Str)(hl:ND l)(hf:f<4)(hv:Qle v):Fk 336 [uR l,dI f,dS v] (vI (DK l f v)):=by
 refine fE [] ntmps336 fun _ _=> ?_;have h4:=hl.1;have ha:=TY hl;have hf3:(f:Int)<=3:=by omega
 simp;refine wlt (Nat×Int) (fun(i,n)=>([(0,vR l),(1,vI f),(2,wN v),(7,vI n),(8,vI i)],l.length-i,(i<=l.length)/\(n=DK (l.take i) f v)/\(0<=n/\n<=i))) ((0,0)) ⟨by omega,by simp[DK],by omega⟩ ?_;rintro⟨i,n⟩ ⟨h1,h2,h3⟩;simp;apply gv<;>intro a
 ·have a':=a;obtain⟨c,hc⟩:=aO (l:=l) (i:=i) a;have hcv:=hl.2 c (aA hc);have hfl:=KP hcv hf;have hf1:=hfl.1;have hsn:DK (l.take (i+1)) f v=if normal (fld c f)=normal v then DK (l.take i) f v+1 else DK (l.take i) f v:=dK _ _ hc
  have hcc:l[i]=c:=by simpa[aB (show i<l.length by omega)]using hc
  simp[a];refine ck (vX l (by omega) (fun r hr=>BR (hl.2 r hr))) ?_;simp[ha,h4];refine ck (bH _ _ _) ?_;simp[hf3,a,hcc,hf1];refine ck (iU (fld c f) (by omega)) ?_;simp;refine ck (iU v hv) ?_;simp;apply gw<;>intro a2
  ·simp;refine nxb (i+1,n+1) ⟨by omega,by rw[hsn,if_pos a2,h2],by omega⟩
  ·simp;refine nxa (i+1,n) ⟨by omega,by rw[hsn,if_neg a2,h2],by omega⟩
 ·have a':=a;simp at a';rw[bJ]at h2;have hr:DK l f v=n:=h2.symm;simp[a,hr]
def agX (hl:ND l)(hf:f<4)(rule:Int){s:Str×Int}(hr:aV r)(hs:s.1.length<=40/\ -1<=s.2/\s.2<=1000):(vD l f rule s r).1.length<=40/\ -1<=(vD l f rule s r).2/\(vD l f rule s r).2<=1000:=by
 have h1:=ahW hl hr hf rule;have h2:=(KP hr hf).2;unfold vD;split
 ·exact hs
 ·split
  ·exact⟨h2,by simp only;omega,by simp only;omega⟩
  ·exact hs
def UT (l:List Rec)(f:Nat)(rule:Int)(hl:ND l)(hf:f<4)(hr:inR rule 1 4):Fk 168 [uR l,dI f,dI rule] (wN (R7 l f rule)):=by
 refine fE [] ntmps168 fun _ _=> ?_;have h4:=hl.1;have hfi:inR (f:Int) 0 3:=by simp[inR];omega
 simp;refine ck (RJ (f:Int)) ?_;simp[hfi];refine ck (CP rule) ?_;simp[hr];refine ck (wZ l hl) ?_;simp;refine wlt (Nat×Str×Int) (fun(i,v,b)=>([(0,vR l),(1,vI f),(2,vI rule),(7,wN v),(8,vI b),(23,vR l),(24,vI l.length),(25,vI i)],l.length-i,(i<=l.length)/\((l.take i).foldl (vD l f rule) ([], -1)=(v,b))/\(v.length<=40/\ -1<=b/\b<=1000))) ((0,[], -1)) ⟨by omega,rfl,by simp⟩ ?_;rintro⟨i,v,b⟩ ⟨h1,h2,h3⟩;simp;apply gw<;>intro a
 ·obtain⟨c,hc⟩:=aO (l:=l) (i:=i) a;have hcv:=hl.2 c (aA hc);have hfl:=KP hcv hf;have hf1:=hfl.1;have hrb:=ahW hl hcv hf rule;have hsn:=dK (vD l f rule) (([]:Str),(-1:Int)) hc;rw[h2]at hsn;have hok:=agX hl hf rule hcv (s:=(v,b)) h3;simp[hc,hf1];refine ck (iC (fld c f)) ?_;simp;apply gw<;>intro e
  ·have hg:vD l f rule (v,b) c=(v,b):=if_pos e;simp;refine nxa (i+1,v,b) ⟨by omega,by rw[hsn,hg],h3⟩
  ·simp;refine ck (al8 l c f rule hl hcv hf) ?_;obtain⟨q,hq⟩:∃q,xM l c f rule=q:=⟨_,rfl⟩;have hg:vD l f rule (v,b) c=if b<q\/q=b/\ltL (fld c f) v=true then(fld c f,q)else(v,b):=by rw[vD,if_neg e,hq]
   rw[hq]at hrb;simp[hq];apply gv<;>intro g
   ·have g':=g;rw[if_pos (.inl g)]at hg;rw[hg]at hok;simp[g];refine nxa (i+1,fld c f,q) ⟨by omega,by rw[hsn,hg],hok⟩
   ·have g':=g;simp at g';simp[g];apply gv<;>intro k
    ·have k':=k;simp[k];apply gw<;>intro p
     ·rw[if_pos (.inr ⟨k,p⟩)]at hg;rw[hg]at hok;simp;refine nxa (i+1,fld c f,q) ⟨by omega,by rw[hsn,hg],hok⟩ (h3:=by simp[hfi,hr,hc,hf1,hq,g,k])
     ·rw[if_neg (by rintro(h|⟨_,h⟩);exact g h;exact absurd h (by simpa using p))]at hg;simp;refine nxa (i+1,v,b) ⟨by omega,by rw[hsn,hg],h3⟩
    ·have k':=k;rw[if_neg (by rintro(h|⟨h,_⟩);exact g h;exact k h)]at hg;simp[k];refine nxa (i+1,v,b) ⟨by omega,by rw[hsn,hg],h3⟩
 ·simp at a;rw[bJ]at h2;have hr2:R7 l f rule=v:=by rw[R7,h2]
  simp[hr2]
def ad3 (l:List Rec)(i:Nat)(r:Rec)(hi:l[i]?=some r)(f:Nat)(rule:Int)(hl:ND l)(hf:f<4):Fk 239 [uR l,dI i,dI f,dI rule] (vI (xM l r f rule)):=by
 refine fE [] ntmps239 fun _ _=> ?_;have hr:=hl.2 r (aA hi);have hfl:=KP hr hf;have hf1:=hfl.1;have hrb:=auI hr;simp;apply gw<;>intro a
 ·have hd:xM l r f rule=DK l f (fld r f):=if_pos a;simp[hi,hf1];refine ck (RU l f (fld r f) hl hf (by omega)) ?_;simp[hd]
 ·simp;apply gw<;>intro b
  ·have hd:xM l r f rule=((fld r f).length:Int):=by rw[xM,if_neg a,if_pos b]
   simp[hi,hf1,hd]
  ·simp;apply gw<;>intro c
   ·have hd:xM l r f rule=r.version:=by rw[xM,if_neg a,if_neg b,if_pos c]
    simp[hi,hd]
   ·have hd:xM l r f rule=4-r.source:=by rw[xM,if_neg a,if_neg b,if_neg c]
    simp[hi,hd];simp only[inI];omega
def U5 (l:List Rec)(f:Nat)(rule:Int)(hl:ND l)(hf:f<4)(hr:inR rule 1 4):Fk 165 [uR l,dI f,dI rule] (wN (R7 l f rule)):=by
 refine fE [] ntmps165 fun _ _=> ?_;have h4:=hl.1;have ha:=TY hl;have hfi:inR (f:Int) 0 3:=by simp[inR];omega
 simp;refine ck (vX l (by omega) (fun r hr=>BR (hl.2 r hr))) ?_;simp[ha,h4];refine ck (bH (f:Int) _ _) ?_;simp[hfi];refine ck (bH rule _ _) ?_;simp[hr];refine wlt (Nat×Str×Int) (fun(i,v,b)=>([(0,vR l),(1,vI f),(2,vI rule),(7,wN v),(8,vI b),(9,vI i)],l.length-i,(i<=l.length)/\((l.take i).foldl (vD l f rule) ([], -1)=(v,b))/\(v.length<=40/\ -1<=b/\b<=1000))) ((0,[], -1)) ⟨by omega,rfl,by simp⟩ ?_;rintro⟨i,v,b⟩ ⟨h1,h2,h3⟩;simp;apply gw<;>intro a
 ·obtain⟨c,hc⟩:=aO (l:=l) (i:=i) a;have hcv:=hl.2 c (aA hc);have hfl:=KP hcv hf;have hf1:=hfl.1;have hrb:=ahW hl hcv hf rule;have hsn:=dK (vD l f rule) (([]:Str),(-1:Int)) hc;rw[h2]at hsn;have hok:=agX hl hf rule hcv (s:=(v,b)) h3;simp[hc,hf1];refine ck (ad3 l i c hc f rule hl hf) ?_;obtain⟨q,hq⟩:∃q,xM l c f rule=q:=⟨_,rfl⟩;rw[hq]at hrb;simp[hq];refine ck (iU (fld c f) (by omega)) ?_;simp;apply gv<;>intro e
  ·have e':=e;have hg:vD l f rule (v,b) c=if b<q\/q=b/\ltL (fld c f) v=true then(fld c f,q)else(v,b):=by rw[vD,if_neg e,hq]
   simp[e];apply gv<;>intro g
   ·have g':=g;rw[if_pos (.inl g)]at hg;rw[hg]at hok;simp[g];refine nxa (i+1,fld c f,q) ⟨by omega,by rw[hsn,hg],hok⟩
   ·have g':=g;simp at g';simp[g];apply gv<;>intro k
    ·have k':=k;simp[k];apply gw<;>intro p
     ·rw[if_pos (.inr ⟨k,p⟩)]at hg;rw[hg]at hok;simp;refine nxa (i+1,fld c f,q) ⟨by omega,by rw[hsn,hg],hok⟩ (h3:=by simp[ha,h4,hfi,hr,hc,hf1,hq,e,g,k])
     ·rw[if_neg (by rintro(h|⟨_,h⟩);exact g h;exact absurd h (by simpa using p))]at hg;simp;refine nxa (i+1,v,b) ⟨by omega,by rw[hsn,hg],h3⟩
    ·have k':=k;rw[if_neg (by rintro(h|⟨h,_⟩);exact g h;exact k h)]at hg;simp[k];refine nxa (i+1,v,b) ⟨by omega,by rw[hsn,hg],h3⟩
  ·have e':=e;have hg:vD l f rule (v,b) c=(v,b):=if_pos (by simpa using e);simp[e];refine nxa (i+1,v,b) ⟨by omega,by rw[hsn,hg],h3⟩
 ·simp at a;rw[bJ]at h2;have hr2:R7 l f rule=v:=by rw[R7,h2]
  simp[hr2]
def aaW {l:L1}(h:rV l)(hi:i<4:=by omega):l.length=4/\l[i]?=some (at1 l i)/\inR (at1 l i) 1 4=true:=by
 simp only[rV,k_Bool_and_eq_true,decide_eq_true_eq,aH]at h;have h1:=aY (l:=l) (i:=i);exact⟨h.2,h1,h.1 _ (aA h1)⟩
def agY (l:List Rec)(rules:L1)(n:Nat):List Str:=(List.range n).map fun f=>R7 l f (at1 rules f)
def agZ (l:List Rec)(rules:L1)(n:Nat):agY l rules (n+1)=agY l rules n++[R7 l n (at1 rules n)]:=by simp[agY,dN]
def akA (l:List Rec)(rules:L1)(n:Nat):(agY l rules n).length=n:=by simp[agY]
def aJ2 (l:List Rec)(rules:L1)(hl:ND l)(hn:l≠[])(hr:rV rules):Fk 82 [uR l,nInts rules] (.tup [wC (acM l rules),vB true]):=by
 refine fE [] ntmps82 fun _ _=> ?_;have h4:=hl.1;have hn1:¬l.length=0:=by simpa using hn
 have hrl:=(aaW hr (i:=0)).1;simp;refine ck (wZ l hl) ?_;simp[hn1];refine ck (zZ rules (by omega)) ?_;simp[hr];refine wlt (Nat×List Str) (fun(i,o)=>([(0,vR l),(1,vN rules),(6,wC o),(18,vN rules),(19,vI rules.length),(20,vI i)],4-i,(i<=4)/\(o=agY l rules i))) ((0,[])) ⟨by omega,rfl⟩ ?_;rintro⟨i,o⟩ ⟨h1,h2⟩;have hol:o.length=i:=by rw[h2,akA]
 simp;apply gw<;>intro a
 ·have hs:=aaW hr (i:=i);have hs1:=hs.2.1;have hgp:=agZ l rules i;rw[←h2]at hgp;simp[hs1];refine ck (UT l i (at1 rules i) hl (by omega) hs.2.2) ?_;simp;refine nxb (i+1,o++[R7 l i (at1 rules i)]) ⟨by omega,hgp.symm⟩
 ·simp at a;obtain rfl:i=4:=by omega
  have hd:acM l rules=o:=h2.symm;simp[hd]
def aJ1 (rules:L1):Fk 82 [uR [],nInts rules] (.tup [.own (J5 []),vB false]):=by
 refine fE [5] ntmps82 fun _ _=> ?_;simp;refine ck (wZ [] ⟨by simp,by simp⟩) ?_;try simp
 refine jL [] (wP (L:=[(4,.own (J5 [])),(5,vB false)]) (by simp)) ?_;simp
def aGP (l:List Rec)(rules:L1)(hl:ND l)(hn:l≠[])(hr:rV rules):Fk 81 [uR l,nInts rules] (.tup [wC (acM l rules),vB true]):=by
 refine fE [] ntmps81 fun _ _=> ?_;have h4:=hl.1;have hn1:¬l.length=0:=by simpa using hn
 have ha:=TY hl;have hrl:=(aaW hr (i:=0)).1;simp;refine ck (vX l (by omega) (fun r hr=>BR (hl.2 r hr))) ?_;simp[ha,h4,hn1];refine ck (AA rules (by omega)) ?_;simp[hr];refine wlt (Nat×List Str) (fun(i,o)=>([(0,vR l),(1,vN rules),(6,wC o),(7,vI i)],4-i,(i<=4)/\(o=agY l rules i))) ((0,[])) ⟨by omega,rfl⟩ ?_;rintro⟨i,o⟩ ⟨h1,h2⟩;have hol:o.length=i:=by rw[h2,akA]
 simp;apply gw<;>intro a
 ·have hs:=aaW hr (i:=i);have hs1:=hs.2.1;have hgp:=agZ l rules i;rw[←h2]at hgp;simp[hs1];refine ck (U5 l i (at1 rules i) hl (by omega) hs.2.2) ?_;simp;refine nxb (i+1,o++[R7 l i (at1 rules i)]) ⟨by omega,hgp.symm⟩
 ·simp at a;obtain rfl:i=4:=by omega
  have hd:acM l rules=o:=h2.symm;simp[hd]
def aGO (rules:L1):Fk 81 [uR [],nInts rules] (.tup [.own (J5 []),vB false]):=by
 refine fE [] ntmps81 fun _ _=> ?_;simp;refine ck (vX [] (by simp) (by simp)) ?_;simp
def ajW {x:lM}{id:Int}(hn:zY x id≠[]):ND (zY x id)/\rV x.cfg.surv=true:=by
 by_cases h:0<=CL x.ents id/\xK x=true
 ·have hd:zY x id=jW x.sto (af9 x.ents id).mem:=if_pos h;have hsv:=BH (pJ h.2).2.1;have hc:=(pJ h.2).1;refine⟨⟨?_,?_⟩,?_⟩
  ·rw[hd];exact k_Nat_le_trans (aZ _ _) (by have:=hsv.2.1;omega)
  ·rw[hd];exact fun r hr=>hsv.1 r (bQ.1 hr).1
  ·simp only[kR,k_Bool_and_eq_true]at hc;exact hc.2
 ·exact absurd (if_neg h) hn
def atG (x:lM)(id:Int):List Str:=if zY x id=[]then[]else acM (zY x id) x.cfg.surv
def aB7 (x:lM)(id:Int):Bool:= !decide (zY x id=[])
def aB8 (x:lM)(id:Int):(atG x id).length<=4:=by
 unfold atG;split
 ·simp
 ·simp[acM]
def aIZ (x:lM)(id:Int)(hx:kD x):fA prog 11 [nSys x,dI id] (fun r=>r= .val (PQ (zY x id))):=(wS x id hx).al9
def aJC (x:lM)(id:Int)(hx:kD x):fA prog 9 [nSys x,dI id] (fun r=>r= .val (PQ (zY x id))):=(DW x id hx).al9
def aJ0 (x:lM)(id:Int)(hx:kD x)(hn:zY x id≠[]):Fk 31 [nSys x,dI id] (.tup [wC (acM (zY x id) x.cfg.surv),vB true]):=by
 refine fE [] ntmps31 fun _ _=> ?_;have hg:=ajW hn;simp;refine wdo [] [(6,[8,11,12]),(7,[12,13]),(8,[12,14]),(9,[13,4]),(10,[14,5])] [(1,vI id),(2,.own (.bx true (nSys x)))] [] 6 (.st 6 (.st 7 (.st 8 (.st 9 (.st 10 OT.fin OT.no) OT.no) OT.no) (.st 8 (.st 7 (.st 9 (.st 10 OT.fin OT.no) OT.no) OT.no) OT.no)) OT.no) [1,2,4,5,6,7,8,9,10,11,12,13,14] ?_;simp;refine cd (aIZ x id hx) ?_;simp;refine cf (aJ2 (zY x id) x.cfg.surv hg.1 hn hg.2) ?_;simp
def aJZ (x:lM)(id:Int)(hx:kD x)(hn:zY x id=[]):Fk 31 [nSys x,dI id] (.tup [.own (J5 []),vB false]):=by
 refine fE [] ntmps31 fun _ _=> ?_;simp;refine wdo [] [(6,[8,11,12]),(7,[12,13]),(8,[12,14]),(9,[13,4]),(10,[14,5])] [(1,vI id),(2,.own (.bx true (nSys x)))] [] 6 (.st 6 (.st 7 (.st 8 (.st 9 (.st 10 OT.fin OT.no) OT.no) OT.no) (.st 8 (.st 7 (.st 9 (.st 10 OT.fin OT.no) OT.no) OT.no) OT.no)) OT.no) [1,2,4,5,6,7,8,9,10,11,12,13,14] ?_;simp;refine cd (aIZ x id hx) ?_;simp[hn];refine cf (aJ1 x.cfg.surv) ?_;simp
def aGN (x:lM)(id:Int)(hx:kD x)(hn:zY x id≠[]):Fk 30 [nSys x,dI id] (.tup [wC (acM (zY x id) x.cfg.surv),vB true]):=by
 refine fE [] ntmps30 fun _ _=> ?_;have hg:=ajW hn;simp;refine wdo [] [(6,[11,14,15]),(7,[15,8]),(8,[8,16]),(9,[8,17]),(10,[16,6]),(11,[17,7])] [(1,vI id),(2,.own (.bx true (nSys x)))] [] 6 (.st 6 (.st 7 (.st 8 (.st 9 (.st 10 (.st 11 OT.fin OT.no) OT.no) (.st 10 (.st 9 (.st 11 OT.fin OT.no) OT.no) OT.no)) (.st 9 (.st 8 (.st 10 (.st 11 OT.fin OT.no) OT.no) OT.no) OT.no)) OT.no) OT.no) [1,2,6,7,8,9,10,11,12,13,14,15,16,17] ?_;simp;refine cd (aJC x id hx) ?_;simp;refine cf (aGP (zY x id) x.cfg.surv hg.1 hn hg.2) ?_;simp
def aGM (x:lM)(id:Int)(hx:kD x)(hn:zY x id=[]):Fk 30 [nSys x,dI id] (.tup [.own (J5 []),vB false]):=by
 refine fE [] ntmps30 fun _ _=> ?_;simp;refine wdo [] [(6,[11,14,15]),(7,[15,8]),(8,[8,16]),(9,[8,17]),(10,[16,6]),(11,[17,7])] [(1,vI id),(2,.own (.bx true (nSys x)))] [] 6 (.st 6 (.st 7 (.st 8 (.st 9 (.st 10 (.st 11 OT.fin OT.no) OT.no) (.st 10 (.st 9 (.st 11 OT.fin OT.no) OT.no) OT.no)) (.st 9 (.st 8 (.st 10 (.st 11 OT.fin OT.no) OT.no) OT.no) OT.no)) OT.no) OT.no) [1,2,6,7,8,9,10,11,12,13,14,15,16,17] ?_;simp;refine cd (aJC x id hx) ?_;simp[hn];refine cf (aGO x.cfg.surv) ?_;simp
def MS (x:lM)(id:Int)(hx:kD x):fA prog 31 [nSys x,dI id] (fun r=>r= .tup [wC (atG x id),vB (aB7 x id)]):=by
 unfold atG aB7;by_cases h:zY x id=[]
 ·simp only[h,if_true,decide_true,Bool.not_true];exact aJZ x id hx h
 ·simp only[h,if_false,decide_false,qJ];exact aJ0 x id hx h
def abN (x:lM)(id:Int)(hx:kD x):fA prog 30 [nSys x,dI id] (fun r=>r= .tup [wC (atG x id),vB (aB7 x id)]):=by
 unfold atG aB7;by_cases h:zY x id=[]
 ·simp only[h,if_true,decide_true,Bool.not_true];exact aGM x id hx h
 ·simp only[h,if_false,decide_false,qJ];exact aGN x id hx h
def M3 (x:lM)(id:Int)(hb:asJ x):Fk 7 [nSys x,dI id] (vB true):=by
 refine fE [] ntmps7 fun _ _=> ?_;simp;refine eB (tX x 1048576 hb) (by simp) ?_;rintro r ⟨v,rfl,hv,hf⟩;refine⟨by simp,?_⟩;simp;apply gw<;>intro e
 ·simp
 ·simp at e;have hx:=hf (by omega);have hlen:=aB8 x id;obtain⟨R,hR⟩:∃R,atG x id=R:=⟨_,rfl⟩;obtain⟨B,hB⟩:∃B,aB7 x id=B:=⟨_,rfl⟩;rw[hR]at hlen;have hsy:=NR hx;have hs3:¬PT x 1<0:=by omega
  have hm2:¬1+(R.length:Int)<0:=by omega
  simp;refine ck (fK x hx) ?_;simp;refine ck (abN x id hx) ?_;simp[hR,hB];refine ck (fK x hx) ?_;simp;refine ck (MS x id hx) ?_;simp[hR,hB];refine ck (xH R) ?_;simp;refine wdr ?_;simp;refine cd (yG x hx) ?_;simp;refine cd (tV x hx) ?_;simp;refine rT rfl (qU x hx) ?_;simp[hs3];refine ck (xH R) ?_;simp;refine eO rfl (zJ R 1 (by omega) (by omega)) ?_;rintro r d ⟨rfl,rfl⟩;simp;refine ck (zI R.length 1) ?_;simp[hm2];refine ck (fK x hx) ?_;simp;refine ck (MS x id hx) ?_;simp[hR,hB];refine ck (xH R) ?_;simp;refine ck (zI R.length 1) ?_;simp[hm2]
end Go.Proofs.YtebopbncplpdgaaGreatDoor
end
