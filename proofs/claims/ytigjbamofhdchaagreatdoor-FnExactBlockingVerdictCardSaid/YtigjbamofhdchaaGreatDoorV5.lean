/- Lemmas and walks that the law leans on, part 5. No condition. -/
import Derived.ChangeVars
import Derived.Handed
import Derived.LaidLaws
import Derived.Stop.LaidErr
import Derived.Test.YtigjbamofhdchaaGreatDoorCards
import Derived.Test.YtigjbamofhdchaaGreatDoorTie
import Derived.Test.YtigjbamofhdchaaGreatDoorV4
set_option linter.unusedVariables false
set_option linter.defProp false
set_option linter.unusedSimpArgs false
set_option linter.unusedSectionVars false
set_option maxRecDepth 10000
set_option maxHeartbeats 1000000
section
namespace Go.Proofs.YtigjbamofhdchaaGreatDoor
open Go.Dv Go.Pl Go.Proofs.Tryz
abbrev nInts (l:L1):D:= .sl none (l.map dI)
abbrev dG (l:L1):D:= .sl (some 3) (l.map dI)
abbrev mF (l:List Str):D:= .sl none (l.map dS)
abbrev EK (l:List Str):D:= .sl (some 9) (l.map dS)
abbrev bZ (m:L2):D:= .sl none (m.map nInts)
abbrev mQ (m:L2):D:= .sl (some 25) (m.map dG)
abbrev kH (v:Ver):D:= .agg [dI v.a,dI v.b,dB v.same,dI v.time]
abbrev nVers (l:List Ver):D:= .sl none (l.map kH)
abbrev oVers (l:List Ver):D:= .sl (some 39) (l.map kH)
abbrev yT (t:Tst):D:= .agg [dI t.feature,dI t.threshold,dB t.below]
abbrev vH (l:List Tst):D:= .agg [.sl none (l.map yT)]
abbrev mI (r:List (List Tst)):D:= .agg [.sl none (r.map vH)]
abbrev GI (s:Sco):D:= .agg [nInts s.weights,dI s.bias]
abbrev afH (c:Cfg):D:= .agg [mI c.rules,GI c.sco,nInts c.surv]
abbrev DV (r:Rec):D:= .agg [dI r.source,dI r.key,dI r.version,mF r.fields]
abbrev IJ (l:List Rec):D:= .sl none (l.map DV)
abbrev TM (s:Sto):D:= .agg [dI s.version,IJ s.recs,nVers s.vers]
def bD (x a b:Int):Fk 54 [dI x,dI a,dI b] (vB (inR x a b)):=by
 refine fE [] ntmps54 fun _ _=> ?_;simp;apply gv<;>intro g1
 ·have g1':=g1;simp[g1]
 ·have g1':=g1;simp at g1';simp[g1]
def bE (x a b:Int):Fk 37 [dI x,dI a,dI b] (vB (inR x a b)):=by
 refine fE [] ntmps37 fun _ _=> ?_;simp;apply gv<;>intro g1
 ·have g1':=g1;simp[g1]
 ·have g1':=g1;simp at g1';simp[g1]
def BQ (x:Int):Fk 161 [dI x] (vB (inR x 1 399)):=by
 refine fE [] ntmps161 fun _ _=> ?_;simp;refine ck (bD _ _ _) ?_;simp
def KX (v:Ver):Fk 160 [kH v] (vB (fI v)):=by
 refine fE [] ntmps160 fun _ _=> ?_;simp;refine ck (BQ _) ?_;simp;apply gv<;>intro g1
 ·have g1':=g1;simp at g1';simp[g1];refine ck (BQ _) ?_;simp;apply gv<;>intro g2
  ·have g2':=g2;simp at g2';simp[g2];apply gv<;>intro g3
   ·have g3':=g3;simp[g3];refine ck (bD _ _ _) ?_;simp;grind[fI]
   ·have g3':=g3;simp at g3';simp[g3];grind[fI]
  ·have g2':=g2;simp at g2';simp[g2];grind[fI]
 ·have g1':=g1;simp at g1';simp[g1];grind[fI]
def zV (v:Ver):Fk 89 [kH v] (vB (fI v)):=by
 refine fE [] ntmps89 fun _ _=> ?_;simp;refine ck (bE _ _ _) ?_;simp;apply gv<;>intro g1
 ·have g1':=g1;simp at g1';simp[g1];refine ck (bE _ _ _) ?_;simp;apply gv<;>intro g2
  ·have g2':=g2;simp at g2';simp[g2];apply gv<;>intro g3
   ·have g3':=g3;simp[g3];refine ck (bE _ _ _) ?_;simp;grind[fI]
   ·have g3':=g3;simp at g3';simp[g3];grind[fI]
  ·have g2':=g2;simp at g2';simp[g2];grind[fI]
 ·have g1':=g1;simp at g1';simp[g1];grind[fI]
def adA (s:Str)(hs:Qle s:=by first|omega|grind):Fk 266 [dS s] (vB (isText s)):=by
 refine fE [] ntmps266 fun _ _=> ?_;simp;refine wlt Nat (fun i=>([(0,vS s),(3,vI i)],s.length-i,(i<=s.length)/\((s.take i).all zJ=true))) (0) ⟨by omega,rfl⟩ ?_;rintro i ⟨h1,h2⟩;simp;apply gw<;>intro a
 ·obtain⟨c,hc⟩:=aQ (l:=s) (i:=i);simp[hc];apply gv<;>intro g
  ·have g':=g;have hn:=fK hc (P:=zJ) (by first|assumption|(simp;omega)|(simp[*];done)|(simp[zJ, *];done)|grind[zJ]|(simp[zJ];omega));simp[g];grind[isText]
  ·have g':=g;simp at g';simp[hc,g];apply gw<;>intro b
   ·have hn:=fK hc (P:=zJ) (by first|assumption|(simp;omega)|(simp[*];done)|(simp[zJ, *];done)|grind[zJ]|(simp[zJ];omega));simp;grind[isText]
   ·simp at b;simp;refine nxa (i+1) ⟨by omega,(bV hc h2 (by first|assumption|(simp;omega)|(simp[*];done)|(simp[zJ, *];done)|grind[zJ]|(simp[zJ];omega)))⟩
 ·simp at a;have hf:=iP h2 a;simp;grind[isText]
def aa1 (s:Str)(hs:Qle s):Fk 194 [dS s] (vB (lC s)):=by
 refine fE [] ntmps194 fun _ _=> ?_;simp;refine wlt Nat (fun i=>([(0,vS s),(3,vI i)],s.length-i,(i<=s.length)/\((s.take i).all uT=true))) (0) ⟨by omega,rfl⟩ ?_;rintro i ⟨h1,h2⟩;simp;apply gw<;>intro a
 ·obtain⟨c,hc⟩:=aQ (l:=s) (i:=i);simp[hc];apply gv<;>intro g
  ·have g':=g;have hn:=fK hc (P:=uT) (by first|assumption|(simp;omega)|(simp[*];done)|(simp[uT, *];done)|grind[uT]|(simp[uT];omega));simp[g];grind[lC]
  ·have g':=g;simp[hc,g];apply gw<;>intro b
   ·have hn:=fK hc (P:=uT) (by first|assumption|(simp;omega)|(simp[*];done)|(simp[uT, *];done)|grind[uT]|(simp[uT];omega));simp;grind[lC]
   ·simp;refine nxa (i+1) ⟨by omega,(bV hc h2 (by first|assumption|(simp;omega)|(simp[*];done)|(simp[uT, *];done)|grind[uT]|(simp[uT];omega)))⟩
 ·simp at a;have hf:=iP h2 a;simp;refine ck (adA _) ?_;simp;grind[lC]
def nR (f:L1)(hs:Qle f:=by first|omega|grind):Fk 195 [nInts f] (vB (uI f)):=by
 refine fE [] ntmps195 fun _ _=> ?_;simp;refine wlt Nat (fun i=>([(0,.val (nInts f)),(3,vI i)],f.length-i,(i<=f.length)/\((f.take i).all GM=true))) (0) ⟨by omega,rfl⟩ ?_;rintro i ⟨h1,h2⟩;simp;apply gw<;>intro a
 ·obtain⟨c,hc⟩:=aQ (l:=f) (i:=i);simp[hc];refine ck (bE _ _ _) ?_;simp;apply gw<;>intro b
  ·simp at b;have hn:=fK hc (P:=GM) (by first|assumption|(simp;omega)|(simp[*];done)|(simp[GM, *];done)|grind[GM]|(simp[GM];omega));simp;grind[uI]
  ·simp at b;simp;refine nxa (i+1) ⟨by omega,(bV hc h2 (by first|assumption|(simp;omega)|(simp[*];done)|(simp[GM, *];done)|grind[GM]|(simp[GM];omega)))⟩
 ·simp at a;have hf:=iP h2 a;simp;grind[uI]
def IY (f:L1)(hs:Qle f:=by first|omega|grind):Fk 128 [nInts f] (vB (CR f)):=by
 refine fE [] ntmps128 fun _ _=> ?_;simp;refine wlt Nat (fun i=>([(0,.val (nInts f)),(3,vI i)],f.length-i,(i<=f.length)/\((f.take i).all PE=true))) (0) ⟨by omega,rfl⟩ ?_;rintro i ⟨h1,h2⟩;simp;apply gw<;>intro a
 ·obtain⟨c,hc⟩:=aQ (l:=f) (i:=i);simp[hc];refine ck (bE _ _ _) ?_;simp;apply gw<;>intro b
  ·simp at b;have hn:=fK hc (P:=PE) (by first|assumption|(simp;omega)|(simp[*];done)|(simp[PE, *];done)|grind[PE]|(simp[PE];omega));simp;grind[CR]
  ·simp at b;simp;refine nxa (i+1) ⟨by omega,(bV hc h2 (by first|assumption|(simp;omega)|(simp[*];done)|(simp[PE, *];done)|grind[PE]|(simp[PE];omega)))⟩
 ·simp at a;have hf:=iP h2 a;simp;grind[CR]
def rM (a b:Int):Fk 86 [dI a,dI b] (vI (cmpI a b)):=by
 refine fE [] ntmps86 fun _ _=> ?_;simp;apply gw<;>intro h1
 ·simp;grind[cmpI]
 ·simp at h1;simp;apply gw<;>intro h2
  ·simp;grind[cmpI]
  ·simp at h2;simp;grind[cmpI]
def eT (l:L1)(x:Int)(hs:Qle l:=by first|omega|grind):Fk 17 [nInts l,dI x] (vI (ix (fun y=>decide (y=x)) l)):=by
 refine fE [] ntmps17 fun _ _=> ?_;simp;refine wlt Nat (fun i=>([(0,.val (nInts l)),(1,vI x),(5,vI i)],l.length-i,(i<=l.length)/\((l.take i).any (fun y=>decide (y=x))=false))) (0) ⟨by omega,rfl⟩ ?_;rintro i ⟨h1,h2⟩;simp;apply gw<;>intro a
 ·obtain⟨c,hc⟩:=aQ (l:=l) (i:=i);simp[hc];apply gw<;>intro b
  ·have hn:=DK hc h2 (by simp[b]);simp[hn]
  ·simp;refine nxa (i+1) ⟨by omega,(gV hc h2 (by simp[b]))⟩
 ·simp at a;have hf:=mJ h2 a;have hx:=rV hf;simp[hx]
def uH (l:List Ver)(hs:Qle l:=by first|omega|grind):Fk 40 [nVers l] (.own (oVers l)):=by
 refine fE [] ntmps40 fun _ _=> ?_;simp;omega
def qF (r:Rec)(hs:EF r):Fk 129 [DV r] (vB (bQ r)):=by
 refine fE [] ntmps129 fun _ _=> ?_;obtain⟨hs1,hs2⟩:=hs;simp;refine wlt Nat (fun i=>([(1,.own (.bx true (DV r))),(3,vI i)],(r.fields).length-i,(i<=(r.fields).length)/\(((r.fields).take i).all lC=true))) (0) ⟨by omega,rfl⟩ ?_;rintro i ⟨h1,h2⟩;simp;apply gw<;>intro a
 ·obtain⟨c,hc⟩:=aQ (l:=r.fields) (i:=i);simp[hc];refine ck (aa1 _ (hs2 c (aA hc))) ?_;simp;apply gw<;>intro b
  ·simp at b;have hn:=fK hc (P:=lC) (by first|assumption|(simp;omega)|(simp[*];done)|(simp[lC, *];done)|grind[lC]|(simp[lC];omega));simp;grind[bQ]
  ·simp at b;simp;refine nxa (i+1) ⟨by omega,(bV hc h2 (by first|assumption|(simp;omega)|(simp[*];done)|(simp[lC, *];done)|grind[lC]|(simp[lC];omega)))⟩
 ·simp at a;have hf:=iP h2 a;simp;refine ck (bE _ _ _) ?_;simp;apply gv<;>intro g1
  ·have g1':=g1;simp at g1';simp[g1];refine ck (bE _ _ _) ?_;simp;apply gv<;>intro g2
   ·have g2':=g2;simp at g2';simp[g2];refine ck (bE _ _ _) ?_;simp;apply gv<;>intro g3
    ·have g3':=g3;simp at g3';simp[g3];grind[bQ]
    ·have g3':=g3;simp at g3';simp[g3];grind[bQ]
   ·have g2':=g2;simp at g2';simp[g2];grind[bQ]
  ·have g1':=g1;simp at g1';simp[g1];grind[bQ]
def BU (r:Rec)(hs:inR r.source 0 3)(hk:inR r.key 1 99):Fk 130 [DV r] (vI (kR r)):=by
 refine fE [] ntmps130 fun _ _=> ?_;simp at hs hk;simp;iterate 2 refine ai ?_
 grind[kR]
def aaW (l:List Rec)(hs:Qle l)(hr:∀r∈l,EF r):Fk 131 [IJ l] (vB (l.all bQ&&decide (l.length<=12))):=by
 refine fE [] ntmps131 fun _ _=> ?_;simp;refine wlt Nat (fun i=>([(0,.val (IJ l)),(3,vI i)],l.length-i,(i<=l.length)/\((l.take i).all bQ=true))) (0) ⟨by omega,rfl⟩ ?_;rintro i ⟨h1,h2⟩;simp;apply gw<;>intro a
 ·obtain⟨c,hc⟩:=aQ (l:=l) (i:=i);simp[hc];refine ck (qF _ (hr c (aA hc))) ?_;simp;apply gw<;>intro b
  ·simp at b;have hn:=fK hc (P:=bQ) (by first|assumption|(simp;omega)|(simp[*];done)|(simp[bQ, *];done)|grind[bQ]|(simp[bQ];omega));simp[hn]
  ·simp at b;simp;refine nxa (i+1) ⟨by omega,(bV hc h2 (by first|assumption|(simp;omega)|(simp[*];done)|(simp[bQ, *];done)|grind[bQ]|(simp[bQ];omega)))⟩
 ·simp at a;have hf:=iP h2 a;simp[hf];omega
end Go.Proofs.YtigjbamofhdchaaGreatDoor
end
section
namespace Go.Proofs.YtigjbamofhdchaaGreatDoor
open Go.Dv Go.Pl
@[go_sem,simp] abbrev vN (x:L1):S:= .val (nInts x)
@[go_sem,simp] abbrev wN (x:L1):S:= .own (dG x)
@[go_sem,simp] abbrev vV (x:List Ver):S:= .val (nVers x)
@[go_sem,simp] abbrev wV (x:List Ver):S:= .own (oVers x)
@[go_sem,simp] abbrev vR (x:List Str):S:= .val (mF x)
@[go_sem,simp] abbrev vC (x:List Rec):S:= .val (IJ x)
end Go.Proofs.YtigjbamofhdchaaGreatDoor
end
section
namespace Go.Proofs.YtigjbamofhdchaaGreatDoor
open Go.Dv Go.Pl Go.Proofs.Tryz
abbrev akH (c:Con):D:= .agg [dI c.a,dI c.b,dB c.same]
abbrev aGF (l:List Con):D:= .sl (some 170) (l.map akH)
abbrev jG (l:List Con):D:= .sl none (l.map akH)
def awN (a b c d:Int)(s t:Bool)(a' b':Int):Dv.EqAt prog 39 [.int .i64 a,.int .i64 b,.bool s,.int .i64 c] [.int .i64 a',.int .i64 b',.bool t,.int .i64 d] (decide (a=a'/\b=b'/\s=t/\c=d)):=by
 refine⟨by kernel_rfl,fun w=> ?_⟩;have u3:=underlying3;have a3:=Tryz.isAgg3;have z3:=Tryz.sizeOf3;have u4:=underlying4;have a4:=Tryz.isAgg4;have z4:=Tryz.sizeOf4;have hS:prog.underlying 39=some (.struct (prog.fieldsOf 39)):=by kernel_rfl
 have hp:prog.stoodInHeld 39=false:=by kernel_rfl
 rw[show(10000:Nat)=9999+1 from rfl,run_equalIn_agg w 9999 39 _ _ hS hp];simp only[Program.fieldsOf,underlying39]
 go_simp
 by_cases h1:a=a'<;>by_cases h2:b=b'<;>by_cases h3:s=t<;>by_cases h4:c=d<;>simp[h1,h2,h3,h4]
@[go_sem,simp] def aFA (a b c d:Int)(s t:Bool)(a' b':Int)(r:Bool):Dv.EqAt prog 39 [.int .i64 a,.int .i64 b,.bool s,.int .i64 c] [.int .i64 a',.int .i64 b',.bool t,.int .i64 d] r↔r=(decide (a=a'/\b=b'/\s=t/\c=d)):=(awN a b c d s t a' b').iff
def sN (a b:Ver):Fk 91 [kH a,kH b] (vI (gF a b)):=by
 refine fE [] ntmps91 fun _ _=> ?_;simp;refine ck (rM _ _) ?_;simp;apply gw<;>intro h1
 ·simp;refine ck (rM _ _) ?_;simp;apply gw<;>intro h2
  ·simp;refine ck (rM _ _) ?_;simp;apply gv<;>intro g3
   ·have g3':=g3;simp[g3];apply gw<;>intro h4
    ·simp at h4;simp;apply gw<;>intro h5
     ·simp;grind[gF]
     ·simp;grind[gF]
    ·simp at h4;simp;grind[gF]
   ·have g3':=g3;simp[g3];grind[gF]
  ·simp;apply gv<;>intro g6
   ·have g6':=g6;simp[g6];apply gw<;>intro h7
    ·simp at h7;simp;apply gw<;>intro h8
     ·simp;omega
     ·simp;omega
    ·simp at h7;simp;omega
   ·have g6':=g6;simp[g6];grind[gF]
 ·simp;apply gw<;>intro h9
  ·simp;refine ck (rM _ _) ?_;simp;apply gv<;>intro g10
   ·have g10':=g10;simp[g10];apply gw<;>intro h11
    ·simp at h11;simp;apply gw<;>intro h12
     ·simp;omega
     ·simp;omega
    ·simp at h11;simp;omega
   ·have g10':=g10;simp[g10];omega
  ·simp;apply gv<;>intro g13
   ·have g13':=g13;simp[g13];apply gw<;>intro h14
    ·simp at h14;simp;apply gw<;>intro h15
     ·simp;omega
     ·simp;omega
    ·simp at h14;simp;omega
   ·have g13':=g13;simp[g13];grind[gF]
def ae9 (l:List Ver)(v:Ver)(hs:Qle l:=by first|omega|grind):Fk 90 [nVers l,kH v] (vI (ix (fun y=>decide (y=v)) l)):=by
 refine fE [] ntmps90 fun _ _=> ?_;simp;refine wlt Nat (fun i=>([(0,vV l),(3,.own (.bx true (kH v))),(5,vI i)],l.length-i,(i<=l.length)/\((l.take i).any (fun y=>decide (y=v))=false))) (0) ⟨by omega,rfl⟩ ?_;rintro i ⟨h1,h2⟩;simp;apply gw<;>intro a
 ·obtain⟨c,hc⟩:=aQ (l:=l) (i:=i);simp;refine wdr ?_;simp[hc];apply gw<;>intro b
  ·simp at b;have hn:=DK hc h2 (by cases c;cases v;simp_all);simp[hn]
  ·simp at b;simp;refine nxa (i+1) ⟨by omega,(gV hc h2 (by cases c;cases v;simp_all))⟩
 ·simp at a;have hf:=mJ h2 a;have hx:=rV hf;simp[hx]
def oZ (g:L2)(x:Int)(hs:Qle g:=by first|omega|grind)(hg:∀l∈g,Qle l:=by first|omega|grind):Fk 88 [bZ g,dI x] (vI (eQ g x)):=by
 refine fE [] ntmps88 fun _ _=> ?_;simp;refine wlt Nat (fun i=>([(0,.val (bZ g)),(1,vI x),(5,vI i)],g.length-i,(i<=g.length)/\((g.take i).any (grp x)=false))) (0) ⟨by omega,rfl⟩ ?_;rintro i ⟨h1,h2⟩;simp;apply gw<;>intro a
 ·obtain⟨c,hc⟩:=aQ (l:=g) (i:=i);simp[hc];refine ck (eT _ _ (hg c (aA hc))) ?_;simp;apply gw<;>intro b
  ·have hx:eQ g x=i:=DK hc h2 (iV.1 b);simp[hx]
  ·simp at b;simp;refine nxa (i+1) ⟨by omega,(gV hc h2 (by rw[jR];intro h;have:=iV.2 h;unfold grp at*;omega))⟩
 ·simp at a;have hx:eQ g x= -1:=rV (mJ h2 a);simp[hx]
def YL (g:L2)(l:List Ver)(hs:Qle g)(hg:∀l∈g,Qle l)(hl:Qle l):Fk 42 [bZ g,nVers l] (vB (l.all (BH g))):=by
 refine fE [] ntmps42 fun _ _=> ?_;simp;refine wlt Nat (fun i=>([(0,.val (bZ g)),(1,vV l),(5,vI i)],l.length-i,(i<=l.length)/\((l.take i).all (BH g)=true))) (0) ⟨by omega,rfl⟩ ?_;rintro i ⟨h1,h2⟩;simp;apply gw<;>intro a
 ·obtain⟨c,hc⟩:=aQ (l:=l) (i:=i);simp[hc];refine ck (oZ _ _) ?_;simp;apply gv<;>intro e
  ·have e':=e;simp[hc,e];refine ck (oZ _ _) ?_;simp;apply gw<;>intro b
   ·have hn:=fK hc (P:=(BH g)) (by simp[BH,b];omega);simp[hn]
   ·simp;refine nxa (i+1) ⟨by omega,(bV hc h2 (by simp[BH,b,e]))⟩
  ·have e':=e;simp at e';simp[e];refine nxa (i+1) ⟨by omega,(bV hc h2 (by simp[BH,e]))⟩
 ·simp at a;have hf:=iP h2 a;simp[hf]
def oK (s:Sco)(hs:Qle s.weights:=by first|omega|grind):Fk 127 [GI s] (vB (lM s)):=by
 refine fE [] ntmps127 fun _ _=> ?_;simp;refine wlt Nat (fun i=>([(1,.own (.bx true (GI s))),(3,.val (dI (s.weights.take i).sum)),(4,vI i)],(s.weights).length-i,(i<=(s.weights).length)/\((s.weights.take i).all FB=true)/\(0<=(s.weights.take i).sum/\(s.weights.take i).sum<=9*i))) (0) ⟨by omega,rfl,by simp⟩ ?_;rintro i ⟨h1,h2,h3⟩;simp;apply gw<;>intro a
 ·obtain⟨c,hc⟩:=aQ (l:=s.weights) (i:=i);simp[hc];refine ck (bE _ _ _) ?_;simp;apply gw<;>intro b
  ·simp at b;have hn:=fK hc (P:=FB) (by simp[FB];omega);simp;grind[lM]
  ·simp at b;have hsum:(s.weights.take (i+1)).sum=(s.weights.take i).sum+c:=by rw[dX hc];simp
   simp[hc];refine nxb (i+1) ⟨by omega,(bV hc h2 (by simp[FB];omega)),by omega⟩ (h3:=by simp[hc,hsum])
 ·simp at a;have hf:=iP h2 a;rw[bS a];simp;apply gv<;>intro g1
  ·have g1':=g1;simp[g1];apply gv<;>intro g2
   ·have g2':=g2;simp[g2];refine ck (bE _ _ _) ?_;simp;grind[lM]
   ·have g2':=g2;simp at g2';simp[g2];grind[lM]
  ·have g1':=g1;simp[g1];grind[lM]
def xO (l:List Ver)(hs:Qle l:=by first|omega|grind):Fk 87 [nVers l] (vB (kT l)):=by
 refine fE [] ntmps87 fun _ _=> ?_;simp;refine wlt Nat (fun i=>([(0,vV l),(3,vI i)],l.length-i,(i<=l.length)/\((l.take i).all fI=true)/\(adj (fun a b=>decide (gF a b<0)) (l.take i)=true))) (0) ⟨by omega,rfl,rfl⟩ ?_;rintro i ⟨h1,h2,h3⟩;simp;apply gw<;>intro a
 ·obtain⟨c,hc⟩:=aQ (l:=l) (i:=i);simp;refine wdr ?_;simp[hc];refine cd (zV _) ?_;simp;apply gv<;>intro e
  ·have e':=e;simp at e';have hn:=fK hc (P:=fI) (by simpa using e);simp[e];grind[kT]
  ·have e':=e;simp at e';simp[e];apply gv<;>intro f
   ·have f':=f;obtain⟨p,hp⟩:=aQ (l:=l) (i:=i-1);have hi1:i-1+1=i:=by omega
    simp[hc,f,hp];iterate 2 refine ai ?_
    refine cd (sN _ _) ?_;simp;apply gw<;>intro b
    ·have hn:=IR hp (by rw[hi1];exact hc) (R:=fun a b=>decide (gF a b<0)) (by simp;omega);simp;grind[kT]
    ·simp at b;simp;refine nxa (i+1) ⟨by omega,(bV hc h2 (by simpa using e)),by have:=yA (i:=i-1) (by rw[hi1];exact h3) hp (by rw[hi1];exact hc) (by simp;omega);rwa [hi1]at this⟩
   ·have f':=f;simp at f';simp[f];refine nxa (i+1) ⟨by omega,(bV hc h2 (by simpa using e)),(by obtain rfl:i=0:=(by omega);exact uQ)⟩
 ·simp at a;have hf:=iP h2 a;rw[bS a]at h3;simp;grind[kT]
end Go.Proofs.YtigjbamofhdchaaGreatDoor
end
section
namespace Go.Proofs.YtigjbamofhdchaaGreatDoor
open Go.Dv Go.Pl
@[go_sem,simp] abbrev vT (x:List Con):S:= .val (jG x)
@[go_sem,simp] abbrev vE (x:List Con):S:= .own (aGF x)
end Go.Proofs.YtigjbamofhdchaaGreatDoor
end
section
namespace Go.Proofs.YtigjbamofhdchaaGreatDoor
open Go.Dv Go.Pl Go.Proofs.Tryz
def avQ (l:List Str):Prop:=l.length<=9223372036854775807/\∀x∈l,x.length<=9223372036854775807
def aoV (l:List Str)(left:Int):Prop:=(l.length:Int)<=left/\∀x∈l,(x.length:Int)<=left
def asT {l:List Str}{a b:Int}(h:aoV l a)(hab:a<=b):aoV l b:=⟨by have:=h.1;omega,fun x hx=>by have:=h.2 x hx;omega⟩
def avP (l:List Rec):Prop:=l.length<=9223372036854775807/\∀o∈l,avQ o.fields
def aDX (l:List Rec)(left:Int):Prop:=(l.length:Int)<=left/\∀o∈l,aoV o.fields left
def asA (l:List (List Tst)):Prop:=l.length<=9223372036854775807/\∀o∈l,o.length<=9223372036854775807
def aAU (l:List (List Tst))(left:Int):Prop:=(l.length:Int)<=left/\∀o∈l,(o.length:Int)<=left
def aaP (l:List Tst)(left:Int)(hl:l.length<=9223372036854775807)(h0:0<=left/\left<=1048576):fP prog 193 [.sl none (l.map yT),dI left] (fun r=>∃v:Int,r=vI v/\(-1<=v/\v<=left)/\(0<=v->(l.length:Int)<=left)):=by
 refine fE [] ntmps193 fun _ _=> ?_;simp;refine ai ?_;apply gw<;>intro e
 ·simp;omega
 ·simp at e;simp;refine ai ?_;omega
def ac7 (l:List Tst)(left:Int)(hl:l.length<=9223372036854775807)(h0:0<=left/\left<=1048576):fP prog 124 [vH l,dI left] (fun r=>∃v:Int,r=vI v/\(-1<=v/\v<=left)/\(0<=v->(l.length:Int)<=left)):=by
 refine fE [] ntmps124 fun _ _=> ?_;simp;refine fC (aaP l left hl h0) (by simp) ?_;rintro r ⟨v,rfl,hv,hf⟩;refine⟨by simp,?_⟩;simp;apply gw<;>intro b
 ·simp;omega
 ·simp at b;have hfit:=hf (by omega);simp[hfit];refine ai ?_;omega
def aaN (l:List (List Tst))(left:Int)(hl:asA l)(h0:0<=left/\left<=1048576):fP prog 75 [.sl none (l.map vH),dI left] (fun r=>∃v:Int,r=vI v/\(-1<=v/\v<=left)/\(0<=v->aAU l left)):=by
 refine fE [] ntmps75 fun _ _=> ?_;have hl1:=hl.1;simp;refine ai ?_;apply gw<;>intro e
 ·simp;omega
 ·simp at e;simp;refine wlt (Nat×Int) (fun(i,L)=>([(0,.val (.sl none (l.map vH))),(1,vI L),(5,vI i)],l.length-i,(i<=l.length)/\(0<=L/\L<=left-l.length)/\(∀o∈l.take i,(o.length:Int)<=left))) ((0,left-l.length)) ⟨by omega,by omega,by simp⟩ ?_;rintro⟨i,L⟩ ⟨h1,h2,h3⟩;simp;apply gw<;>intro a
  ·obtain⟨c,hc⟩:=aQ (l:=l) (i:=i);have hcl:=hl.2 c (aA hc);simp[hc];refine fC (ac7 c L hcl (by omega)) (by simp) ?_;rintro r ⟨v,rfl,hv,hf⟩;refine⟨by simp,?_⟩;simp;apply gw<;>intro b
   ·simp;omega
   ·simp at b;have hfc:=hf (by omega);simp;refine nxa (i+1,v) ⟨by omega,by omega,(by rw[dX hc];intro x hx;rcases k_List_mem_append.1 hx with hx|hx;(exact h3 x hx);(obtain rfl:=k_List_mem_singleton.1 hx;omega))⟩
  ·simp at a;have hfit:aAU l left:=⟨by omega,by rwa [bS]at h3⟩;simp[hfit];refine ai ?_;omega
def VI (l:List (List Tst))(left:Int)(hl:asA l)(h0:0<=left/\left<=1048576):fP prog 30 [mI l,dI left] (fun r=>∃v:Int,r=vI v/\(-1<=v/\v<=left)/\(0<=v->aAU l left)):=by
 refine fE [] ntmps30 fun _ _=> ?_;simp;refine fC (aaN l left hl h0) (by simp) ?_;rintro r ⟨v,rfl,hv,hf⟩;refine⟨by simp,?_⟩;simp;apply gw<;>intro b
 ·simp;omega
 ·simp at b;have hfit:=hf (by omega);simp[hfit];refine ai ?_;omega
def FT (l:L1)(left:Int)(hl:l.length<=9223372036854775807)(h0:0<=left/\left<=1048576):fP prog 32 [nInts l,dI left] (fun r=>∃v:Int,r=vI v/\(-1<=v/\v<=left)/\(0<=v->v+(l.length:Int)<=left)):=by
 refine fE [] ntmps32 fun _ _=> ?_;simp;refine ai ?_;apply gw<;>intro e
 ·simp;omega
 ·simp at e;simp;refine ai ?_;omega
def VJ (s:Sco)(left:Int)(hl:s.weights.length<=9223372036854775807)(h0:0<=left/\left<=1048576):fP prog 31 [GI s,dI left] (fun r=>∃v:Int,r=vI v/\(-1<=v/\v<=left)/\(0<=v->(s.weights.length:Int)<=left)):=by
 refine fE [] ntmps31 fun _ _=> ?_;simp;refine fC (FT s.weights left hl h0) (by simp) ?_;rintro r ⟨v,rfl,hv,hf⟩;refine⟨by simp,?_⟩;simp;apply gw<;>intro b
 ·simp;omega
 ·simp at b;have hfit:=hf (by omega);simp;refine ai ?_;omega
def FU (l:List Ver)(left:Int)(hl:l.length<=9223372036854775807)(h0:0<=left/\left<=1048576):fP prog 13 [nVers l,dI left] (fun r=>∃v:Int,r=vI v/\(-1<=v/\v<=left)/\(0<=v->(l.length:Int)<=left)):=by
 refine fE [] ntmps13 fun _ _=> ?_;simp;refine ai ?_;apply gw<;>intro e
 ·simp;omega
 ·simp at e;simp;refine ai ?_;omega
def VK (l:List Str)(left:Int)(hl:avQ l)(h0:0<=left/\left<=1048576):fP prog 125 [mF l,dI left] (fun r=>∃v:Int,r=vI v/\(-1<=v/\v<=left)/\(0<=v->aoV l left)):=by
 refine fE [] ntmps125 fun _ _=> ?_;have hl1:=hl.1;simp;refine ai ?_;apply gw<;>intro e
 ·simp;omega
 ·simp at e;simp;refine wlt (Nat×Int) (fun(i,L)=>([(0,vR l),(1,vI L),(5,vI i)],l.length-i,(i<=l.length)/\(0<=L/\L<=left-l.length)/\(∀x∈l.take i,(x.length:Int)<=left))) ((0,left-l.length)) ⟨by omega,by omega,by simp⟩ ?_;rintro⟨i,L⟩ ⟨h1,h2,h3⟩;simp;apply gw<;>intro a
  ·obtain⟨c,hc⟩:=aQ (l:=l) (i:=i);have hcl:=hl.2 c (aA hc);simp[hc];refine ai ?_;apply gw<;>intro b
   ·simp;omega
   ·simp at b;simp;refine nxa (i+1,L-c.length) ⟨by omega,by omega,(by rw[dX hc];intro x hx;rcases k_List_mem_append.1 hx with hx|hx;(exact h3 x hx);(obtain rfl:=k_List_mem_singleton.1 hx;omega))⟩
  ·simp at a;have hfit:aoV l left:=⟨by omega,by rwa [bS]at h3⟩;simp[hfit];refine ai ?_;omega
def YD (r:Rec)(left:Int)(hl:avQ r.fields)(h0:0<=left/\left<=1048576):fP prog 76 [DV r,dI left] (fun x=>∃v:Int,x=vI v/\(-1<=v/\v<=left)/\(0<=v->aoV r.fields left)):=by
 refine fE [] ntmps76 fun _ _=> ?_;simp;refine fC (VK r.fields left hl h0) (by simp) ?_;rintro r ⟨v,rfl,hv,hf⟩;refine⟨by simp,?_⟩;simp;apply gw<;>intro b
 ·simp;omega
 ·simp at b;have hfit:=hf (by omega);simp[hfit];refine ai ?_;omega
def VH (l:List Rec)(left:Int)(hl:avP l)(h0:0<=left/\left<=1048576):fP prog 33 [IJ l,dI left] (fun r=>∃v:Int,r=vI v/\(-1<=v/\v<=left)/\(0<=v->aDX l left)):=by
 refine fE [] ntmps33 fun _ _=> ?_;have hl1:=hl.1;simp;refine ai ?_;apply gw<;>intro e
 ·simp;omega
 ·simp at e;simp;refine wlt (Nat×Int) (fun(i,L)=>([(0,vC l),(1,vI L),(5,vI i)],l.length-i,(i<=l.length)/\(0<=L/\L<=left-l.length)/\(∀o∈l.take i,aoV o.fields left))) ((0,left-l.length)) ⟨by omega,by omega,by simp⟩ ?_;rintro⟨i,L⟩ ⟨h1,h2,h3⟩;simp;apply gw<;>intro a
  ·obtain⟨c,hc⟩:=aQ (l:=l) (i:=i);have hcl:=hl.2 c (aA hc);simp[hc];refine fC (YD c L hcl (by omega)) (by simp) ?_;rintro r ⟨v,rfl,hv,hf⟩;refine⟨by simp,?_⟩;simp;apply gw<;>intro b
   ·simp;omega
   ·simp at b;have hfc:=asT (hf (by omega)) (show L<=left by omega);simp;refine nxa (i+1,v) ⟨by omega,by omega,(by rw[dX hc];intro x hx;rcases k_List_mem_append.1 hx with hx|hx;(exact h3 x hx);(obtain rfl:=k_List_mem_singleton.1 hx;exact hfc))⟩
  ·simp at a;have hfit:aDX l left:=⟨by omega,by rwa [bS]at h3⟩;simp[hfit];refine ai ?_;omega
end Go.Proofs.YtigjbamofhdchaaGreatDoor
end
section
namespace Go.Er
open Go.ChangeShapes Go.WideShapes Go.ChangeAt Go.RowKit
variable {n:String}{g:Nat}
section
variable {H:Type}{enc:TypeId×Value->H}
def afO {P:Program}(hl:laidOutB P) {W W':World}(hb:Below W.heap.size W W') {t:TypeId}(hg:P.globalNamed n=some g) (ht:(P.globals[g]?).map (·.type)=some t) (hr:P.readableRec t=true/\t<P.types.size) {gs:List (DataW H)}{ps:List MemPlace}
  (h:DataW.TrodVars enc P W (fun _=>true) [n] gs ps):∃q,DataW.TrodVars enc P W' (fun b=>decide (b<W.heap.size)) [n] gs q:=by
 obtain⟨g',t',cs,fuel,d,p,rfl,h1,h2,h3,h4,rfl⟩:=trodVars_one h;obtain rfl:=k_Option_some_inj (hg.symm.trans h1);obtain rfl:=k_Option_some_inj (ht.symm.trans h2);have h0:DataW.Trod enc P W 0 (fun _=>true) true t (.agg cs) d p:=⟨fuel,h4⟩;have lt0:∀x∈p,x.block<W.heap.size:=DataW.trod_lt fuel _ _ _ h4;obtain⟨m,hm⟩:=Below.trod hl hr.1 hr.2 h0 hb lt0
 have h5:W'.var? P n=some cs:=by
  unfold World.var? at h3|-
  rw[hg]at h3|-
  simp only[mX]at h3|-
  have hlt:g<W.heap.size:=by
   cases hx:W.heap[g]? with
   |none=>rw[hx]at h3;cases h3
   |some o=>exact(bK.1 hx).1
  rw[hb.block g hlt];exact h3
 exact⟨_,trodVars_mk1 hg ht h5 hm⟩
def aa4 {C:Checked}{f:FuncId}{fn:Func}{s:ChangeSpec}{os:Os}{L:List (String×DataW Unit)}{t:TypeId}(started:os.Started)
  (own:ownKnob C.prog.godebug=none) (laidOut:laidOutB C.prog=true) (noInit:C.prog.inits.idxOf? f=none) (hfn:C.prog.funcs[f]?=some fn)
  (hvars:s.vars=[n]) (hspec:∀(ds:List (DataW H)) (v:DataW H),ds.length=fn.params.size->s.fn H (ds++[v])={results:=[.lit (.bool true)],args:=ds,vars:=[v]})
  (hg:C.prog.globalNamed n=some g) (ht:(C.prog.globals[g]?).map (·.type)=some t) (hrt:C.prog.readableRec t=true/\t<C.prog.types.size)
  {tb:TypeId}(hres:fn.resultTypes= #[tb]) (hb:C.prog.underlying tb=some .bool)
  (hread:∀t∈fn.params.toList,C.prog.readableRec t=true/\t<C.prog.types.size)
  (witness:∃(w:World) (tape:Tape) (i:Input),w.os=os/\(w.forCall tape i).Shaped C.prog/\i.vars=[]/\Input.okWide C.prog (w.forCall tape i) .any w.heap.size f i/\
   ((s.pre enc C.prog fn [] false (w.forCall tape i).memory i.args/\laidMet C.prog L (w.forCall tape i).memory)/\sizedMet enc C.prog fn (OpenSpec.ofChange s) false (w.forCall tape i).memory i.args)/\({}:Assume).holds C.prog (lone (Frame.enter C.prog f i.args .normal) [] (w.forCall tape i)))
  (walk:∀(W:World) (base:Nat) (args:Array Value) (ds:List (DataW H)) (p:List MemPlace),W.ShapedOpen C.prog->
   (∀(j:Nat) t v,fn.params[j]?=some t->args[j]?=some v->Value.okWide C.prog W .any base t v)->
   DataW.TrodAll enc C.prog W 0 (fun _=>true) true fn.params.toList args.toList ds p->laidMet C.prog L W->
   Calls C.prog f args W fun e W'=>e= .returned (.bool true)/\Below W.heap.size W W'):
  ReturnsInHanded {} C os f .any (fun w args=>(s.pre enc C.prog fn [] false w args/\laidMet C.prog L w)/\sizedMet enc C.prog fn (OpenSpec.ofChange s) false w args) (s.post enc C.prog fn false true false false):=by
 refine returnsInHanded_of_calls own started noInit witness ?_;intro w tape i _ hsh _ hok hpre hholds;obtain⟨_,_,_,fn',hfn',_,_,_,_,hval⟩:=hok;obtain rfl:fn'=fn:=k_Option_some_inj (hfn'.symm.trans hfn);obtain⟨⟨⟨ds,gs,before,hw,hc⟩,hx⟩,hz⟩:=hpre;have hW:=DataW.Whole.of_heap (w':=w.forCall tape i) (by rfl) hw;have hL:laidMet C.prog L (w.forCall tape i):=hx.of_heap (by rfl);have hW':=hW;obtain⟨p,q,hA,hV,rfl,_,_⟩:=hW;rw[hvars]at hV;have hlen:=(trodAll_length hA).2;refine(walk (w.forCall tape i) w.heap.size i.args ds p hsh hval hA hL).mono fun e W' ⟨he,bel⟩=> ?_;subst he;obtain⟨q2,hV2⟩:=afO laidOut bel hg ht hrt hV;obtain⟨_,_,_,_,v,_,rfl,_⟩:=trodVars_one hV;refine ChangeSpec.post_blind (v:= .bool true) ?_;have hsp:=hspec ds v (by simpa using hlen);refine⟨ds,[v],p++q,[],p,q2,hW',?_,?_,?_,bel.frame _,fun h=>by cases h⟩
 ·rw[hsp,hres];exact trodAll_mk1 (shut_bool hb _)
 ·rw[hsp];exact afN laidOut bel hread hA
 ·rw[hsp,hvars];exact hV2
end
end Go.Er
namespace Go.Proofs.YtigjbamofhdchaaGreatDoor
open Go.Dv Go.Pl
open Go.ChangeShapes Go.WideShapes Go.ChangeAt Go.RowKit Go.Er
abbrev tables:List (String×DataW Unit):=[("math/bits.deBruijn32tab",Rows.laid_math_bits_deBruijn32tab),("math/bits.deBruijn64tab",Rows.laid_math_bits_deBruijn64tab),("internal/strconv.uint64pow10",Rows.laid_internal_strconv_uint64pow10),("unicode/utf8.acceptRanges",Rows.laid_unicode_utf8_acceptRanges),("strconv.ErrRange",Rows.laid_strconv_ErrRange),("strconv.ErrSyntax",Rows.laid_strconv_ErrSyntax),("loop.example/g01923/impl.soundCodes",Rows.laid_loop_example_g01923_impl_soundCodes),("unicode/utf8.first",Rows.laid_unicode_utf8_first)]
def own:ownKnob Tryz.prog.godebug=none:=by kernel_rfl
def laidOut:laidOutB Tryz.prog=true:=by kernel_rfl
def aDF: "*" ++ "errors.errorString" = "*errors.errorString" :=by decide
def ay9 (u:TypeId)(h:Tryz.prog.typeName? 3 u=some "*errors.errorString"):u=384:=
 typeName_ptr_named (nm:= "errors.errorString") (by rw[aDF];kernel_rfl) (by kernel_rfl) (by decide) u (by rw[aDF];exact h)
def aCO {W:World}(hL:laidMet Tryz.prog tables W):Lib.TabIs Tryz.prog W "internal/strconv.uint64pow10" .u64 Lib.pow10Tab:=by
 have h:=hL.tail.tail;rw[show(Rows.laid_internal_strconv_uint64pow10:DataW Unit)=Lib.tabData .u64 Lib.pow10Tab by kernel_rfl]at h;exact Lib.tabIs_of_head (g:=6) (by kernel_rfl) (by kernel_rfl) Tryz.underlying393 Tryz.underlying212 (by kernel_rfl) (by kernel_rfl) h
def auP {W:World}(hL:laidMet Tryz.prog tables W):Lib.TabIs Tryz.prog W "loop.example/g01923/impl.soundCodes" .i64 O9:=by
 have h:=hL.tail.tail.tail.tail.tail.tail;rw[show(Rows.laid_loop_example_g01923_impl_soundCodes:DataW Unit)=Lib.tabData .i64 O9 by kernel_rfl]at h;exact Lib.tabIs_of_head (g:=0) (by kernel_rfl) (by kernel_rfl) Tryz.underlying338 Tryz.underlying3 (by kernel_rfl) (by kernel_rfl) h
variable {P:Program}
def aoF {W:World}{base:Nat}{t:TypeId}{cs:Array Value}(ht:P.cellTypes P.depth t=some [t])(hu:P.underlying t=some (.int .i64))(hs:cs.size=1)(h:Row.ok P W .any base t cs):∃m,cs= #[.int .i64 m]:=by
 obtain⟨ts,h1,_,h3⟩:=h;rw[ht]at h1;obtain rfl:=k_Option_some_inj h1;obtain⟨v,rfl⟩:=Array.size_eq_one_iff.1 hs;obtain⟨u,hu',hv⟩:=h3 0 v rfl;obtain rfl:t=u:=by simpa using hu'
 unfold Cell.ok at hv;rw[hu]at hv;cases v with
 |int k n=>obtain⟨rfl,_⟩:=hv;exact⟨n,rfl⟩
 |_=>exact hv.elim
def as6 {W:World}(hS:W.ShapedOpen Tryz.prog)(hL:laidMet Tryz.prog tables W):BG W:=by
 refine⟨aCO hL,?_,?_,?_,auP hL⟩
 ·obtain⟨a,s,h,_⟩:=laid_sentinel hL.tail.tail.tail.tail.tail (g:=2) (by kernel_rfl) (by kernel_rfl) Tryz.underlying340 ay9 Tryz.underlying384 Tryz.underlying386 rfl rfl Tryz.underlying9 (by kernel_rfl) (by kernel_rfl);exact⟨_,_,h⟩
 ·obtain⟨a,s,h,_⟩:=laid_sentinel hL.tail.tail.tail.tail (g:=3) (by kernel_rfl) (by kernel_rfl) Tryz.underlying340 ay9 Tryz.underlying384 Tryz.underlying386 rfl rfl Tryz.underlying9 (by kernel_rfl) (by kernel_rfl);exact⟨_,_,h⟩
 ·obtain⟨cs,h1,h2,h3⟩:=hS.1 1 #[.int .i64 0] 3 (of_decide_eq_true (by kernel_rfl)) (by kernel_rfl);obtain⟨m,rfl⟩:=aoF (by kernel_rfl) Tryz.underlying3 h2 (h3 (by kernel_rfl));exact⟨m,by simp[World.cell?,h1]⟩
def as7 {W W':World}(h:∀b,b<9->W'.heap[b]?=W.heap[b]?)(hg:BG W):BG W':=by
 have hv:∀(n:String) (g:Nat),Tryz.prog.globalNamed n=some g->g<9->W'.var? Tryz.prog n=W.var? Tryz.prog n:=fun n g h1 h2=>by
  unfold World.var?;rw[h1];simp only[mX];rw[h g h2]
 obtain⟨h1,h2,h3,⟨m,h4⟩,h5⟩:=hg;refine⟨(hv _ 6 (by kernel_rfl) (by decide)).trans h1,?_,?_,⟨m,?_⟩,(hv _ 0 (by kernel_rfl) (by decide)).trans h5⟩
 ·rw[hv _ 2 (by kernel_rfl) (by decide)];exact h2
 ·rw[hv _ 3 (by kernel_rfl) (by decide)];exact h3
 ·exact(World.cell?_of_block (a:=⟨1,0,none⟩) (h 1 (by decide))).trans h4
def aBB {W:World}(hS:W.ShapedOpen Tryz.prog)(hL:laidMet Tryz.prog tables W)(hsz:9<=W.heap.size):Laid W (fun _=>none):=by
 have hg:=as6 hS hL;refine⟨(List.range 9).filterMap fun b=>(W.heap[b]?).map fun o=>(b,o),fun W' h=>as7 (fun b hb=> ?_) hg,fun p hp=> ?_⟩
 ·have hb2:b<W.heap.size:=by omega
  have h1:=h (b,W.heap[b]) (jL.2 ⟨b,by simpa using hb,by simp[iB hb2]⟩);rw[h1,iB hb2]
 ·obtain⟨b,_,hb⟩:=jL.1 hp;simp only[aK]at hb;obtain⟨o,ho,rfl⟩:=hb;exact⟨ho,rfl⟩
def atH {W:World}{f:FuncId}{ds:List D}{args:Array Value}(hf:fP Tryz.prog f ds (fun r=>r=vB true))(hlaid:Laid W (fun _=>none))(hn:args.size=ds.length)(ha:∀(i:Nat) (d:D),ds[i]?=some d->V Tryz.prog W (fun _=>none) d.fz [] (args.getD i undef)):
  Calls Tryz.prog f args W fun e W'=>e= .returned (.bool true)/\Below W.heap.size W W':=by
 refine(hf W (fun _=>none) args 0 (by decide) hlaid (fun _ _=>rfl) hn ha).mono ?_;rintro e W' ⟨v,ow',r,rfl,rfl,haf,_,hsv⟩;have hv:=hsv (fun _=> .un) {tmps:= #[],defers:=[]};simp only[SV,V,D.fz,R]at hv;obtain⟨hv,_⟩:=hv;obtain rfl:v= .bool true:=by simpa using hv
 exact⟨rfl,haf.os,haf.tape,haf.output,haf.size,fun b hb=>(haf.old b hb).1⟩
def setBlock (h:Array Obj)(i:Nat)(cs:Array Value):Array Obj:=h.modify i fun
 | .cells _ t frozen=> .cells cs t frozen
 |o=>o
def JI:DataW Unit->Array Value
 | .agg parts=>(parts.flatMap fun| .lit (.int k n)=>[Value.int k n]| .agg ps=>(ps.map fun| .lit (.int k n)=>Value.int k n|_=>undef)|_=>[]).toArray
 |_=> #[]
def aqR:DataW Unit->ByteArray
 | .iface _ (.ptr (.agg [.lit (.string l)]))=>⟨l.toArray⟩
 |_=>⟨#[]⟩
noncomputable def low:Nat:=(World.holding Tryz.prog default ⟨#[],#[],[]⟩).heap.size
noncomputable def agL (os:Os):World:=
 let w0:=World.holding Tryz.prog os ⟨#[.cells #[.string (aqR Rows.laid_strconv_ErrSyntax)] 386,.cells #[.string (aqR Rows.laid_strconv_ErrRange)] 386],#[],[]⟩
 {w0 with heap:=setBlock (setBlock (setBlock (setBlock (setBlock (setBlock (setBlock (setBlock w0.heap 6 (JI Rows.laid_internal_strconv_uint64pow10)) 4 (JI Rows.laid_unicode_utf8_first)) 5 (JI Rows.laid_unicode_utf8_acceptRanges)) 7 (JI Rows.laid_math_bits_deBruijn32tab)) 8 (JI Rows.laid_math_bits_deBruijn64tab)) 0 (JI Rows.laid_loop_example_g01923_impl_soundCodes)) 2 #[.iface 384 (.pointer (some ⟨low,0,none⟩))]) 3 #[.iface 384 (.pointer (some ⟨low+1,0,none⟩))]}
def axT (os:Os)(args:Array Value):laidMet Tryz.prog tables ((agL os).forCall (fun _ _=>0) ⟨#[],args,[]⟩).memory:=
 laidMet_of_run' 9 (by kernel_rfl) (by kernel_rfl)
def aGI {W:World}(hS:W.ShapedOpen Tryz.prog):9<=W.heap.size:=by
 obtain⟨cs,h1,_⟩:=hS.1 8 (Array.replicate 64 (.int .u8 0)) 396 (of_decide_eq_true (by kernel_rfl)) (by kernel_rfl);exact(bK.1 h1).1
def WQ {t:TypeId}(h:(P.readableRec t&&decide (t<P.types.size))=true):P.readableRec t=true/\t<P.types.size:=by rw[k_Bool_and_eq_true,decide_eq_true_eq]at h;exact h
def as8:(Tryz.prog.funcs.toList.all fun f=> !f.goes)=true:=by kernel_rfl
def aA6 (h:(P.funcs.toList.all fun f=> !f.goes)=true)(f:FuncId):P.goes f=false:=by
 have h1:∀fn∈P.funcs.toList,fn.goes=false:=fun fn hf=>by simpa using aI.1 h fn hf
 unfold Program.goes;rw[Bool.or_eq_false_iff,kL];refine⟨?_,.inr ?_⟩
 ·rw[fD];intro g _;cases hg:P.funcs[g]? with
  |none=>simp
  |some fn=>simpa using h1 fn (by simpa using kK hg)
 ·rw[←Array.any_toList,fD];intro fn hf;simp[h1 fn hf]
def aA5 (h:(P.funcs.toList.all fun f=> !f.goes)=true){c:OpenClaim}(hs:c.start= .entering):false=c.goesBy P:=by
 unfold OpenClaim.goesBy Program.goesAt Program.goesFrom;rw[hs];cases P.funcNamed c.func with
 |none=>rfl
 |some f=>simp[aA6 h f]
def an {a b:Bool}(h:a)(h':b):(a&&b)=true:=by rw[h,h'];rfl
section
variable {H:Type}{enc:TypeId×Value->H}{W:World}{cs:List Value}
def aE7 (h:Tr enc Tryz.prog W 101 cs):∃v:Ver,Rd Tryz.prog W (kH v) cs:=by
 have hl:=yH Tryz.underlying101 (n:=4) (by kernel_rfl) h;have hf:=yG Tryz.underlying101 h;obtain⟨a,h0⟩:=open_int Tryz.underlying3 (hf 0 _ rfl 0 1 rfl (by kernel_rfl));obtain⟨b,h1⟩:=open_int Tryz.underlying3 (hf 1 _ rfl 1 1 rfl (by kernel_rfl));obtain⟨s,h2⟩:=open_bool Tryz.underlying4 (hf 2 _ rfl 2 1 rfl (by kernel_rfl));obtain⟨t,h3⟩:=open_int Tryz.underlying3 (hf 3 _ rfl 3 1 rfl (by kernel_rfl));exact⟨⟨a,b,s,t⟩,I9 (jJ h0 (jJ h1 (jJ h2 (jJ h3 (I8 hl)))))⟩
def aCU (h:Tr enc Tryz.prog W 121 cs):∃l:List Str,avQ l/\Rd Tryz.prog W (mF l) cs:=
 LD Tryz.underlying121 (k:=1) (by kernel_rfl) (by decide) (fun vs h=>ayX Tryz.underlying9 h) h
def aE2 (h:Tr enc Tryz.prog W 123 cs):∃r:Rec,avQ r.fields/\Rd Tryz.prog W (DV r) cs:=by
 have hl:=yH Tryz.underlying123 (n:=4) (by kernel_rfl) h;have hf:=yG Tryz.underlying123 h;obtain⟨a,h0⟩:=open_int Tryz.underlying3 (hf 0 _ rfl 0 1 rfl (by kernel_rfl));obtain⟨b,h1⟩:=open_int Tryz.underlying3 (hf 1 _ rfl 1 1 rfl (by kernel_rfl));obtain⟨c,h2⟩:=open_int Tryz.underlying3 (hf 2 _ rfl 2 1 rfl (by kernel_rfl));obtain⟨l,q,h3⟩:=aCU (hf 3 _ rfl 3 1 rfl (by kernel_rfl));exact⟨⟨a,b,c,l⟩,q,I9 (jJ h0 (jJ h1 (jJ h2 (jJ h3 (I8 hl)))))⟩
def aCS (h:Tr enc Tryz.prog W 30 cs):∃l:List Rec,avP l/\Rd Tryz.prog W (IJ l) cs:=
 LD Tryz.underlying30 (k:=4) (by kernel_rfl) (by decide) (fun vs h=>aE2 h) h
def arT (h:Tr enc Tryz.prog W 31 cs):∃l:List Ver,l.length<=9223372036854775807/\Rd Tryz.prog W (nVers l) cs:=by
 obtain⟨l,q,h⟩:=LD (Q:=fun _:Ver=>True) Tryz.underlying31 (k:=4) (by kernel_rfl) (by decide) (fun vs h=>by obtain⟨v,h⟩:=aE7 h;exact⟨v,trivial,h⟩) h;exact⟨l,q.1,h⟩
def ajF (h:Tr enc Tryz.prog W 25 cs):∃l:L1,l.length<=9223372036854775807/\Rd Tryz.prog W (nInts l) cs:=by
 obtain⟨l,q,h⟩:=LD (Q:=fun _:Int=>True) Tryz.underlying25 (k:=1) (by kernel_rfl) (by decide) (fun vs h=>by obtain⟨v,h⟩:=open_int Tryz.underlying3 h;exact⟨v,trivial,h⟩) h;exact⟨l,q.1,h⟩
def aE6 (h:Tr enc Tryz.prog W 280 cs):∃v:Tst,Rd Tryz.prog W (yT v) cs:=by
 have hl:=yH Tryz.underlying280 (n:=3) (by kernel_rfl) h;have hf:=yG Tryz.underlying280 h;obtain⟨a,h0⟩:=open_int Tryz.underlying3 (hf 0 _ rfl 0 1 rfl (by kernel_rfl));obtain⟨b,h1⟩:=open_int Tryz.underlying3 (hf 1 _ rfl 1 1 rfl (by kernel_rfl));obtain⟨s,h2⟩:=open_bool Tryz.underlying4 (hf 2 _ rfl 2 1 rfl (by kernel_rfl));exact⟨⟨a,b,s⟩,I9 (jJ h0 (jJ h1 (jJ h2 (I8 hl))))⟩
def aCT (h:Tr enc Tryz.prog W 164 cs):∃l:List Tst,l.length<=9223372036854775807/\Rd Tryz.prog W (vH l) cs:=by
 have hl:=yH Tryz.underlying164 (n:=1) (by kernel_rfl) h;have hf:=yG Tryz.underlying164 h;obtain⟨l,q,h0⟩:=LD (Q:=fun _:Tst=>True) Tryz.underlying162 (k:=3) (by kernel_rfl) (by decide) (fun vs h=>by obtain⟨v,h⟩:=aE6 h;exact⟨v,trivial,h⟩) (hf 0 _ rfl 0 1 rfl (by kernel_rfl));exact⟨l,q.1,I9 (jJ h0 (I8 hl))⟩
def azT (h:Tr enc Tryz.prog W 24 cs):∃r:List (List Tst),asA r/\Rd Tryz.prog W (mI r) cs:=by
 have hl:=yH Tryz.underlying24 (n:=1) (by kernel_rfl) h;have hf:=yG Tryz.underlying24 h;obtain⟨l,q,h0⟩:=LD Tryz.underlying22 (k:=1) (by kernel_rfl) (by decide) (fun vs h=>aCT h) (hf 0 _ rfl 0 1 rfl (by kernel_rfl));exact⟨l,q,I9 (jJ h0 (I8 hl))⟩
def aE3 (h:Tr enc Tryz.prog W 27 cs):∃s:Sco,s.weights.length<=9223372036854775807/\Rd Tryz.prog W (GI s) cs:=by
 have hl:=yH Tryz.underlying27 (n:=2) (by kernel_rfl) h;have hf:=yG Tryz.underlying27 h;obtain⟨l,q,h0⟩:=ajF (hf 0 _ rfl 0 1 rfl (by kernel_rfl));obtain⟨b,h1⟩:=open_int Tryz.underlying3 (hf 1 _ rfl 1 1 rfl (by kernel_rfl));exact⟨⟨l,b⟩,q,I9 (jJ h0 (jJ h1 (I8 hl)))⟩
def aE0 (h:Tr enc Tryz.prog W 29 cs):∃c:Cfg,(asA c.rules/\c.sco.weights.length<=9223372036854775807/\c.surv.length<=9223372036854775807)/\Rd Tryz.prog W (afH c) cs:=by
 have hl:=yH Tryz.underlying29 (n:=4) (by kernel_rfl) h;have hf:=yG Tryz.underlying29 h;obtain⟨r,q0,h0⟩:=azT (hf 0 _ rfl 0 1 rfl (by kernel_rfl));obtain⟨s,q1,h1⟩:=aE3 (hf 1 _ rfl 1 2 rfl (by kernel_rfl));obtain⟨l,q2,h2⟩:=ajF (hf 2 _ rfl 3 1 rfl (by kernel_rfl));exact⟨⟨r,s,l⟩,⟨q0,q1,q2⟩,I9 (jJ h0 (jJ h1 (jJ h2 (I8 hl))))⟩
def aE4 (h:Tr enc Tryz.prog W 33 cs):∃s:Sto,(avP s.recs/\s.vers.length<=9223372036854775807)/\Rd Tryz.prog W (TM s) cs:=by
 have hl:=yH Tryz.underlying33 (n:=3) (by kernel_rfl) h;have hf:=yG Tryz.underlying33 h;obtain⟨v,h0⟩:=open_int Tryz.underlying3 (hf 0 _ rfl 0 1 rfl (by kernel_rfl));obtain⟨r,q1,h1⟩:=aCS (hf 1 _ rfl 1 1 rfl (by kernel_rfl));obtain⟨l,q2,h2⟩:=arT (hf 2 _ rfl 2 1 rfl (by kernel_rfl));exact⟨⟨v,r,l⟩,⟨q1,q2⟩,I9 (jJ h0 (jJ h1 (jJ h2 (I8 hl))))⟩
end
end Go.Proofs.YtigjbamofhdchaaGreatDoor
end
section
namespace Go.Proofs.YtigjbamofhdchaaGreatDoor
open Go.Dv Go.Pl Go.Proofs.Tryz
abbrev YQ (m:List (List Bool)):D:= .sl none (m.map fun r=> .sl none (r.map dB))
abbrev TQ (m:List (List Bool)):D:= .sl (some 233) (m.map fun r=> .sl (some 4) (r.map dB))
variable {i:Nat}
def drop_at {α:Type}{l:List α}{c:α}(h:l[i]?=some c):l.drop i=c::l.drop (i+1):=by
 have hi:=dM h;rw[bN hi];congr 1;simpa[aB hi]using h
def aDE {m:L2}(h:m.all (fun r=>decide (r.length=m.length))=true)(hi:i<m.length):∃r,m[i]?=some r/\r.length=m.length:=by
 obtain⟨r,hr⟩:=aQ (l:=m) hi;exact⟨r,hr,by simpa using aI.1 h r (aA hr)⟩
def eG (m:L2)(hs:Qle m:=by first|omega|grind):Fk 135 [bZ m] (vB (bP m)):=by
 refine fE [] ntmps135 fun _ _=> ?_;simp;refine wlt Nat (fun i=>([(0,.val (bZ m)),(3,vI i)],m.length-i,(i<=m.length)/\((m.take i).all (fun r=>decide (r.length=m.length))=true))) (0) ⟨by omega,rfl⟩ ?_;rintro i ⟨h1,h2⟩;simp;apply gw<;>intro a
 ·obtain⟨c,hc⟩:=aQ (l:=m) (i:=i);simp[hc];apply gw<;>intro b
  ·have hn:=fK hc (P:=(fun r=>decide (r.length=m.length))) (by first|assumption|(simp[*];done)|grind|(simp;omega));simp;grind[bP]
  ·simp;refine nxa (i+1) ⟨by omega,(bV hc h2 (by first|assumption|(simp[*];done)|grind|(simp;omega)))⟩
 ·simp at a;have hf:=iP h2 a;simp;refine wlt Nat (fun i=>([(0,.val (bZ m)),(4,vI i)],m.length-i,(i<=m.length)/\((List.range i).all (fun i=>(List.range m.length).all (GG m i))=true))) (0) ⟨by omega,rfl⟩ ?_;rintro i ⟨h1j,h2j⟩;simp;apply gw<;>intro aj
  ·simp;refine wlt Nat (fun k=>([(0,.val (bZ m)),(4,vI i),(5,vI k)],m.length-k,(k<=m.length)/\((List.range k).all (GG m i)=true))) (0) ⟨by omega,rfl⟩ ?_;rintro k ⟨h1k,h2k⟩;simp;apply gw<;>intro ak
   ·obtain⟨r,hr,hrl⟩:=aDE hf aj;obtain⟨q,hq,hql⟩:=aDE hf ak;obtain⟨c,hc⟩:=aQ (l:=r) (i:=k);obtain⟨d,hd⟩:=aQ (l:=q) (i:=i);have e1:=M6 hr hc;have e2:=M6 hq hd;simp;refine wdr ?_;simp[hr,hc];refine cd (bE _ _ _) ?_;simp;apply gv<;>intro e
    ·have e':=e;simp at e';have e':GG m i k=false:=by simp[GG,e1,e2];grind
     have hnk:=mR ak (P:=(GG m i)) e';have hn2:=mR aj (P:=fun i=>(List.range m.length).all (GG m i)) hnk;simp[e];grind[bP]
    ·have e':=e;simp at e';simp[hr,hq,hc,hd,e];apply gv<;>intro f
     ·have f':=f;have f':GG m i k=false:=by simp[GG,e1,e2];grind
      have hnk:=mR ak (P:=(GG m i)) f';have hn2:=mR aj (P:=fun i=>(List.range m.length).all (GG m i)) hnk;simp[f];grind[bP]
     ·have f':=f;simp[f];apply gv<;>intro g
      ·have g':=g;have gk:i=k:=by omega
       subst gk;obtain rfl:r=q:=by simpa[hr]using hq
       obtain rfl:c=d:=by simpa[hc]using hd
       simp[hr,hc];apply gw<;>intro b
       ·have f':GG m i i=false:=by simp[GG,e1,b]
        have hnk:=mR ak (P:=(GG m i)) f';have hn2:=mR aj (P:=fun i=>(List.range m.length).all (GG m i)) hnk;simp;grind[bP]
       ·simp;refine nxa (i+1) ⟨by omega,(oC h2k (by simp[GG,e1,b]))⟩
      ·have g':=g;simp[g];refine nxa (k+1) ⟨by omega,(oC h2k (by simp[GG,e1,e2];grind))⟩
   ·simp at ak;have hfk:=KA (n:=m.length) h2k;simp;refine nxa (i+1) ⟨by omega,(oC h2j hfk)⟩
  ·simp at aj;have hfj:=KA (n:=m.length) h2j;simp;refine ck (bE _ _ _) ?_;simp;grind[bP]
def lS (l:L1)(hs:Qle l:=by first|omega|grind):Fk 149 [nInts l] (vB (fQ l)):=by
 refine fE [] ntmps149 fun _ _=> ?_;simp;refine wlt (Nat×Int) (fun(i,t)=>([(0,vN l),(3,vI t),(4,vI i)],l.length-i,(i<=l.length)/\(AL (-1) l=AL t (l.drop i))/\(-1<=t/\t<=i))) ((0,(-1))) ⟨by omega,rfl,by omega⟩ ?_;rintro⟨i,t⟩ ⟨h1,h2,h3⟩;simp;apply gw<;>intro a
 ·obtain⟨c,hc⟩:=aQ (l:=l) (i:=i);have hdr:=drop_at hc;rw[hdr,AL]at h2;simp[hc];refine ai ?_;refine ck (bE _ _ _) ?_;simp;apply gw<;>intro b
  ·simp at b;rw[show inR c 0 (t+1)=false by simp;omega]at h2;simp;grind[fQ]
  ·simp at b;rw[show inR c 0 (t+1)=true by simp;omega,eX]at h2;simp[hc];refine nxa (i+1,max t c) ⟨by omega,h2,by omega⟩
 ·simp at a;rw[bW a]at h2;have hx:AL (-1) l:=h2;simp;refine ck (bE _ _ _) ?_;simp;grind[fQ]
def tY (n:Int)(l:List Con)(hn: -1048576<=n/\n<=1048576:=by first|omega|grind)(hs:Qle l:=by first|omega|grind):Fk 205 [dI n,jG l] (vB (cB n l)):=by
 refine fE [] ntmps205 fun _ _=> ?_;simp;refine wlt Nat (fun i=>([(0,vI n),(1,vT l),(5,vI i)],l.length-i,(i<=l.length)/\((l.take i).all (MI n)=true))) (0) ⟨by omega,rfl⟩ ?_;rintro i ⟨h1,h2⟩;simp;apply gw<;>intro a
 ·obtain⟨c,hc⟩:=aQ (l:=l) (i:=i);simp;refine wdr ?_;simp[hc];refine ai ?_;refine cd (bE _ _ _) ?_;simp;apply gv<;>intro e
  ·have e':=e;simp at e';have hn:=fK hc (P:=(MI n)) (by simp[MI];omega);simp[e];grind[cB]
  ·have e':=e;simp at e';simp[hc,e];refine ai ?_;refine cd (bE _ _ _) ?_;simp;apply gv<;>intro f
   ·have f':=f;simp at f';have hn:=fK hc (P:=(MI n)) (by simp[MI];omega);simp[f];grind[cB]
   ·have f':=f;simp at f';simp[hc,f];apply gw<;>intro b
    ·have hn:=fK hc (P:=(MI n)) (by simp[MI];omega);simp;grind[cB]
    ·simp at b;simp;refine nxa (i+1) ⟨by omega,(bV hc h2 (by simp[MI];omega))⟩
 ·simp at a;have hf:=iP h2 a;simp;refine ck (bE _ _ _) ?_;simp;apply gv<;>intro e
  ·have e':=e;simp at e';simp[e];grind[cB]
  ·have e':=e;simp at e';simp[e];grind[cB]
def rJ (l:L1)(cs:List Con)(hs:Qle l)(hc:Qle cs):Fk 142 [nInts l,jG cs] (vB (cs.all (xE l)&&fQ l)):=by
 refine fE [] ntmps142 fun _ _=> ?_;simp;refine wlt Nat (fun i=>([(0,vN l),(1,vT cs),(5,vI i)],cs.length-i,(i<=cs.length)/\((cs.take i).all (xE l)=true))) (0) ⟨by omega,rfl⟩ ?_;rintro i ⟨h1,h2⟩;simp;apply gw<;>intro a
 ·obtain⟨c,hc⟩:=aQ (l:=cs) (i:=i);simp;refine wdr ?_;simp[hc];refine ai ?_;refine cd (bE _ _ _) ?_;simp;apply gv<;>intro e
  ·have e':=e;simp at e';have hn:=fK hc (P:=(xE l)) (by simp[xE];intros;omega);simp[e,hn]
  ·have e':=e;simp at e';simp[hc,e];refine ai ?_;refine cd (bE _ _ _) ?_;simp;apply gv<;>intro f
   ·have f':=f;simp at f';have hn:=fK hc (P:=(xE l)) (by simp[xE];intros;omega);simp[f,hn]
   ·have f':=f;simp at f';obtain⟨x,hx⟩:=aQ (l:=l) (i:=c.a.toNat);obtain⟨y,hy⟩:=aQ (l:=l) (i:=c.b.toNat);have ex:=XR hx;have ey:=XR hy;simp[hc,f,hx,hy];iterate 2 refine ai ?_
    apply gw<;>intro b
    ·simp at b;have hn:=fK hc (P:=(xE l)) (by simp[xE,ex,ey];grind);simp[hn]
    ·simp at b;simp;refine nxa (i+1) ⟨by omega,(bV hc h2 (by simp[xE,ex,ey];grind))⟩
 ·simp at a;have hf:=iP h2 a;simp;refine ck (lS _) ?_;simp[hf]
def L8 (m:L2)(l:L1)(hm:bP m:=by first|omega|grind)(hl:l.length=m.length:=by first|omega|grind):Fk 211 [bZ m,nInts l] (vI (dL m l)):=by
 refine fE [] ntmps211 fun _ _=> ?_;have hml:=dK hm;simp;refine wlt (Nat×Int) (fun(i,s)=>([(0,.val (bZ m)),(1,vN l),(5,vI s),(6,vI i)],l.length-i,(i<=l.length)/\(s=loopN i (0) (yJ m l))/\(0<=s/\s<=8000*i))) ((0,0)) ⟨by omega,rfl,by omega⟩ ?_;rintro⟨i,s⟩ ⟨h1,h2,h3⟩;simp;apply gw<;>intro a
 ·have hs:=aL i (0) (yJ m l);rw[←h2]at hs;simp;refine wlt (Nat×Int) (fun(k,t)=>([(0,.val (bZ m)),(1,vN l),(5,vI t),(6,vI i),(7,vI k)],i-k,(k<=i)/\(t=loopN k (s) (fun k s=>s+sG m l i k))/\(s<=t/\t<=s+1000*k))) ((0,s)) ⟨by omega,rfl,by omega⟩ ?_;rintro⟨k,t⟩ ⟨h1k,h2k,h3k⟩;simp;apply gw<;>intro ak
  ·have hsk:=aL k (s) (fun k s=>s+sG m l i k);rw[←h2k]at hsk;obtain⟨r,hr,hrk⟩:=kU hm (i:=i) (k:=k);have hi:=aV (l:=l) (i:=i);have hk:=aV (l:=l) (i:=k);have hb:=iH hm i k;simp;refine wdr ?_;simp[hr,hrk];apply gv<;>intro e
   ·have e':=e;simp[hi,hk,e];apply gw<;>intro f
    ·have hc:sG m l i k=at2 m i k:=if_pos ⟨e,f⟩;simp[hr,hrk];refine ai ?_;refine wdr ?_;simp[hr,hrk];apply gv<;>intro g
     ·have g':=g;exfalso;omega
     ·have g':=g;simp at g';simp[g];refine nxa (k+1,t+at2 m i k) ⟨by omega,by rw[hsk,hc],by omega⟩
    ·simp;refine wdr ?_;simp[hr,hrk];apply gv<;>intro g
     ·have g':=g;exfalso;omega
     ·have g':=g;simp at g';have hc:sG m l i k=0:=by rw[sG,if_neg (by simp[f]),if_neg (by omega)]
      simp[g];refine nxa (k+1,t) ⟨by omega,by rw[hsk,hc];simp,by omega⟩
   ·have e':=e;simp at e';simp[e];refine wdr ?_;simp[hr,hrk];apply gv<;>intro g
    ·have g':=g;simp[hi,hk,g];apply gw<;>intro f
     ·have hc:sG m l i k= - at2 m i k:=by rw[sG,if_neg (by omega),if_pos ⟨g,f⟩]
      simp[hr,hrk];refine nxb (k+1,t-at2 m i k) ⟨by omega,by rw[hsk,hc];omega,by omega⟩
     ·have hc:sG m l i k=0:=by rw[sG,if_neg (by omega),if_neg (by simp[f])]
      simp;refine nxa (k+1,t) ⟨by omega,by rw[hsk,hc];simp,by omega⟩
    ·have g':=g;simp at g';have hc:sG m l i k=0:=by rw[sG,if_neg (by omega),if_neg (by omega)]
     simp[g];refine nxa (k+1,t) ⟨by omega,by rw[hsk,hc];simp,by omega⟩
  ·simp at ak;have hik:i=k:=by omega
   subst hik;simp;refine nxa (i+1,t) ⟨by omega,by rw[hs,yJ,h2k],by omega⟩
 ·simp at a;have hi:l.length=i:=by omega
  subst hi;simp;exact h2
def mM (m:L2)(l:L1)(hm:Qle m:=by omega)(hl:Qle l:=by omega):Fk 146 [bZ m,nInts l] (vI (if bP m=true/\fQ l=true/\l.length=m.length then dL m l else -1)):=by
 refine fE [] ntmps146 fun _ _=> ?_;simp;refine ck (eG _) ?_;simp;apply gv<;>intro e
 ·have e':=e;simp at e';simp[e];all_goals grind
 ·have e':=e;simp at e';simp[e];refine ck (lS _) ?_;simp;apply gv<;>intro f
  ·have f':=f;simp at f';simp[f];all_goals grind
  ·have f':=f;simp at f';simp[f];apply gw<;>intro b
   ·simp;all_goals grind
   ·simp;refine ck (L8 _ _) ?_;simp;all_goals grind
def H7 (x:Int):Fk 152 [dI x] (vB (inR x 0 5)):=by
 refine fE [] ntmps152 fun _ _=> ?_;simp;refine ck (bD x 0 5) ?_;simp
def QW (x:Int):Fk 153 [dI x] (vB (inR x 1 1000)):=by
 refine fE [] ntmps153 fun _ _=> ?_;simp;refine ck (bD x 1 1000) ?_;simp
def qV (r:List (List Tst))(hs:Qle r)(hr:∀l∈r,Qle l):Fk 94 [mI r] (vB (iZ r)):=by
 refine fE [] ntmps94 fun _ _=> ?_;simp;refine wlt Nat (fun i=>([(1,.own (.bx true (mI r))),(8,.val (.sl none (r.map vH))),(9,vI r.length),(10,vI i)],r.length-i,(i<=r.length)/\((r.take i).all iX=true))) (0) ⟨by omega,rfl⟩ ?_;rintro i ⟨h1,h2⟩;simp;apply gw<;>intro a
 ·obtain⟨c,hc⟩:=aQ (l:=r) (i:=i);have hcl:=hr c (aA hc);simp[hc];refine ck (bD c.length 1 3) ?_;simp;apply gw<;>intro b
  ·simp at b;have hn:=fK hc (P:=iX) (by simp[iX];omega);simp;grind[iZ]
  ·simp at b;simp;refine wlt Nat (fun k=>([(1,.own (.bx true (mI r))),(4,.own (.bx true (vH c))),(8,.val (.sl none (r.map vH))),(9,vI r.length),(10,vI i),(20,.val (.sl none (c.map yT))),(21,vI c.length),(22,vI k)],c.length-k,(k<=c.length)/\((c.take k).all GU=true)/\(adj (fun a b=>decide (a.feature<b.feature)) (c.take k)=true))) (0) ⟨by omega,rfl,rfl⟩ ?_;rintro k ⟨h1k,h2k,h3k⟩;simp;apply gw<;>intro ak
   ·obtain⟨ck,hck⟩:=aQ (l:=c) (i:=k);simp[hck];refine wdr ?_;simp;refine cd (H7 ck.feature) ?_;simp;apply gv<;>intro e
    ·have e':=e;simp at e';have hn:=fK hc (P:=iX) (by have:=fK hck (P:=GU) (by simp[GU];omega);simp[iX,this]);simp[e];grind[iZ]
    ·have e':=e;simp at e';simp[e];refine cd (QW ck.threshold) ?_;simp;apply gv<;>intro f
     ·have f':=f;simp at f';have hn:=fK hc (P:=iX) (by have:=fK hck (P:=GU) (by simp[GU];omega);simp[iX,this]);simp[f];grind[iZ]
     ·have f':=f;simp at f';simp[f];apply gv<;>intro g
      ·have g':=g;obtain⟨p,hp⟩:=aQ (l:=c) (i:=k-1);have hi1:k-1+1=k:=by omega
       simp[g,hp];iterate 2 refine ai ?_
       apply gw<;>intro d
       ·have hn:=fK hc (P:=iX) (by have:=IR hp (by rw[hi1];exact hck) (R:=fun a b=>decide (a.feature<b.feature)) (by simp;omega);simp[iX,this]);simp;grind[iZ]
       ·simp at d;simp;refine nxa (k+1) ⟨by omega,(bV hck h2k (by simp[GU];omega)),by have:=yA (i:=k-1) (by rw[hi1];exact h3k) hp (by rw[hi1];exact hck) (by simp;omega);rwa [hi1]at this⟩
      ·have g':=g;simp at g';simp[g];refine nxa (k+1) ⟨by omega,(bV hck h2k (by simp[GU];omega)),(by obtain rfl:k=0:=(by omega);exact uQ)⟩
   ·simp at ak;have hfk:=iP h2k ak;rw[bS ak]at h3k;simp;refine nxa (i+1) ⟨by omega,(bV hc h2 (by simp[iX,hfk,h3k];omega))⟩
 ·simp at a;have hf:=iP h2 a;simp;refine ck (bD r.length 1 3) ?_;simp;grind[iZ]
def oJ (s:Sco)(hw:Qle s.weights):Fk 95 [GI s] (vB (lM s)):=by
 refine fE [] ntmps95 fun _ _=> ?_;simp;refine wlt Nat (fun i=>([(1,.own (.bx true (GI s))),(3,.val (dI (s.weights.take i).sum)),(7,vN s.weights),(8,vI s.weights.length),(9,vI i)],(s.weights).length-i,(i<=(s.weights).length)/\((s.weights.take i).all FB=true)/\(0<=(s.weights.take i).sum/\(s.weights.take i).sum<=9*i))) (0) ⟨by omega,rfl,by simp⟩ ?_;rintro i ⟨h1,h2,h3⟩;simp;apply gw<;>intro a
 ·obtain⟨c,hc⟩:=aQ (l:=s.weights) (i:=i);simp[hc];refine ck (bD c 0 9) ?_;simp;apply gw<;>intro b
  ·simp at b;have hn:=fK hc (P:=FB) (by simp[FB];omega);simp;grind[lM]
  ·simp at b;have hsum:(s.weights.take (i+1)).sum=(s.weights.take i).sum+c:=by rw[dX hc];simp
   simp;refine nxb (i+1) ⟨by omega,(bV hc h2 (by simp[FB];omega)),by omega⟩ (h3:=by simp[hc,hsum])
 ·simp at a;have hf:=iP h2 a;rw[bS a];simp;apply gv<;>intro d
  ·have d':=d;simp[d];apply gv<;>intro e
   ·have e':=e;simp[e];refine ck (bD s.bias 0 1000) ?_;simp;grind[lM]
   ·have e':=e;simp at e';simp[e];grind[lM]
  ·have d':=d;simp[d];grind[lM]
def K4 (x:Int):Fk 156 [dI x] (vB (inR x 1 4)):=by
 refine fE [] ntmps156 fun _ _=> ?_;simp;refine ck (bD x 1 4) ?_;simp
def EN (x:Int):Bool:= !inR x 1 4
def FM (x:Int):Fk 155 [dI x] (vB (EN x)):=by
 refine fE [] ntmps155 fun _ _=> ?_;simp;refine ck (K4 x) ?_;simp;grind[EN]
def akW (l:L1)(hl:Qle l):Fk 221 [nInts l,.one (.func (.func 155) #[] #[])] (vI (ix EN l)):=by
 refine fE [] ntmps221 fun _ _=> ?_;simp;refine wlt Nat (fun i=>([(0,vN l),(1,.val (.one (.func (.func 155) #[] #[]))),(7,vI l.length),(8,vI i)],l.length-i,(i<=l.length)/\((l.take i).any EN=false))) (0) ⟨by omega,rfl⟩ ?_;rintro i ⟨h1,h2⟩;simp;apply gw<;>intro a
 ·obtain⟨c,hc⟩:=aQ (l:=l) (i:=i);simp[hc];refine ck (FM c) ?_;simp;apply gw<;>intro b
  ·have hn:=DK hc h2 (by simp[b]);simp[hn]
  ·simp;refine nxa (i+1) ⟨by omega,(gV hc h2 (by simp[b]))⟩
 ·simp at a;have hf:=mJ h2 a;have hx:=rV hf;simp[hx]
def aoX (l:L1)(hl:Qle l):Fk 154 [nInts l,.one (.func (.func 155) #[] #[])] (vB (l.any EN)):=by
 refine fE [] ntmps154 fun _ _=> ?_;have hq:decide (0<=ix EN l)=l.any EN:=by rw[bH,decide_eq_true_eq];exact iV
 simp;refine ck (akW l hl) ?_;simp[hq]
def azL (l:L1):l.any EN= !(l.all PE):=by
 induction l with
 |nil=>rfl
 |cons x l ih=>rw[List.any_cons,uJ,ih,EN,PE];simp
def IW (l:L1)(hl:Qle l):Fk 96 [nInts l] (vB (CR l)):=by
 refine fE [] ntmps96 fun _ _=> ?_;simp;apply gv<;>intro e
 ·have e':=e;simp[e];refine ck (aoX l hl) ?_;simp;rw[azL,CR,decide_eq_true (show l.length=4 by omega)];simp
 ·have e':=e;simp[e];rw[CR,decide_eq_false (show¬l.length=4 by omega)];simp
def MK (c:Cfg)(hs:Qle c.rules)(hr:∀l∈c.rules,Qle l)(hw:Qle c.sco.weights)(hv:Qle c.surv):Fk 51 [afH c] (vB (kS c)):=by
 refine fE [] ntmps51 fun _ _=> ?_;simp;refine ck (qV c.rules hs hr) ?_;simp;apply gv<;>intro e
 ·have e':=e;simp[e];refine ck (oJ c.sco hw) ?_;simp;apply gv<;>intro f
  ·have f':=f;simp[f];refine ck (IW c.surv hv) ?_;simp;grind[kS]
  ·have f':=f;simp[f];grind[kS]
 ·have e':=e;simp[e];simp[kS,e']
def BP (r:Rec)(hr:inI .i64 (kR r))(h2:inI .i64 (100*r.source)):Fk 98 [DV r] (vI (kR r)):=by
 refine fE [] ntmps98 fun _ _=> ?_;simp;refine ai ?_;exact⟨hr,rfl⟩
def JL (x:Int):Fk 114 [dI x] (vB false):=by
 refine fE [] ntmps114 fun _ _=> ?_;simp
def pO (x y:Int):Fk 64 [dI x,dI y] (vI (cmpI x y)):=by
 refine fE [] ntmps64 fun _ _=> ?_;simp;refine ck (JL x) ?_;simp;refine ck (JL y) ?_;simp;apply gw<;>intro a
 ·simp;grind[cmpI]
 ·simp at a;simp;apply gw<;>intro b
  ·simp;grind[cmpI]
  ·simp at b;simp;grind[cmpI]
def orI (l:L1):Int:=(l.find? fun x=>decide (x≠0)).getD 0
variable {l:L1}
def aEK {c:Int}(h:(l.take i).all (fun x=>decide (x=0))=true)(hc:l[i]?=some c)(hn:c≠0):orI l=c:=by
 have hlt:=(aD.1 hc).1;rw[aB hlt]at hc;have e:l=l.take i++c::l.drop (i+1):=by rw[←Option.some.inj hc];simp
 have h2:(l.take i).find? (fun x=>decide (x≠0))=none:=by
  rw[nH];intro x hx;have:=aI.1 h x hx;simpa using this
 rw[orI,e,List.find?_append,h2];simp[hn]
def aEL (h:l.all (fun x=>decide (x=0))=true):orI l=0:=by
 have h2:l.find? (fun x=>decide (x≠0))=none:=by
  rw[nH];intro x hx;have:=aI.1 h x hx;simpa using this
 rw[orI,h2];rfl
def ae6 (l:L1)(hl:Qle l):Fk 120 [nInts l] (vI (orI l)):=by
 refine fE [] ntmps120 fun _ _=> ?_;simp;refine wlt Nat (fun i=>([(3,vI 0),(6,vN l),(7,vI l.length),(8,vI i)],l.length-i,(i<=l.length)/\((l.take i).all (fun x=>decide (x=0))=true))) (0) ⟨by omega,rfl⟩ ?_;rintro i ⟨h1,h2⟩;simp;apply gw<;>intro a
 ·obtain⟨c,hc⟩:=aQ (l:=l) (i:=i);simp[hc];apply gw<;>intro b
  ·have hx:=aEK h2 hc b;simp[hx]
  ·simp;refine nxa (i+1) ⟨by omega,(bV hc h2 (by simpa using b))⟩
 ·simp at a;have hx:orI l=0:=aEL (by rwa [bS a]at h2);simp[hx]
def QV (x y:Bool):Fk 121 [dB x,dB y] (vI (if x=y then 0 else if y then -1 else 1)):=by
 refine fE [] ntmps121 fun _ _=> ?_;simp;apply gw<;>intro a
 ·simp at a;simp;grind
 ·simp at a;simp;apply gw<;>intro b
  ·simp;grind
  ·simp;grind
def asG (a b:Ver):orI [cmpI a.a b.a,cmpI a.b b.b,cmpI a.time b.time,if a.same=b.same then 0 else if b.same then -1 else 1]=gF a b:=by
 unfold gF orI;by_cases h1:cmpI a.a b.a=0<;>by_cases h2:cmpI a.b b.b=0<;>by_cases h3:cmpI a.time b.time=0<;>simp[h1,h2,h3];all_goals(cases a.same<;>cases b.same<;>simp)
def zC (a b:Ver):Fk 68 [kH a,kH b] (vI (gF a b)):=by
 refine fE [] ntmps68 fun _ _=> ?_;simp;refine wdt 20 ?_;simp;refine cd (pO a.a b.a) ?_;simp;refine cd (pO a.b b.b) ?_;simp;refine cd (pO a.time b.time) ?_;simp;refine cd (QV a.same b.same) ?_;have hx:=asG a b;simp;refine ck (ae6 [cmpI a.a b.a,cmpI a.b b.b,cmpI a.time b.time,if a.same=b.same then 0 else if b.same then -1 else 1] (by simp)) ?_;simp[hx]
def EH (l:List Ver)(hs:Qle l:=by first|omega|grind):Fk 99 [nVers l] (vB (kT l)):=by
 refine fE [] ntmps99 fun _ _=> ?_;simp;refine wlt Nat (fun i=>([(0,vV l),(5,vV l),(6,vI l.length),(7,vI i)],l.length-i,(i<=l.length)/\((l.take i).all fI=true)/\(adj (fun a b=>decide (gF a b<0)) (l.take i)=true))) (0) ⟨by omega,rfl,rfl⟩ ?_;rintro i ⟨h1,h2,h3⟩;simp;apply gw<;>intro a
 ·obtain⟨c,hc⟩:=aQ (l:=l) (i:=i);simp[hc];refine wdr ?_;simp;refine cd (KX c) ?_;simp;apply gv<;>intro e
  ·have e':=e;simp at e';have hn:=fK hc (P:=fI) (by simpa using e);simp[e];grind[kT]
  ·have e':=e;simp at e';simp[e];apply gv<;>intro f
   ·have f':=f;obtain⟨p,hp⟩:=aQ (l:=l) (i:=i-1);have hi1:i-1+1=i:=by omega
    simp[f,hp];iterate 2 refine ai ?_
    refine cd (zC p c) ?_;simp;apply gw<;>intro b
    ·have hn:=IR hp (by rw[hi1];exact hc) (R:=fun a b=>decide (gF a b<0)) (by simp;omega);simp;grind[kT]
    ·simp at b;simp;refine nxa (i+1) ⟨by omega,(bV hc h2 (by simpa using e)),by have:=yA (i:=i-1) (by rw[hi1];exact h3) hp (by rw[hi1];exact hc) (by simp;omega);rwa [hi1]at this⟩
   ·have f':=f;simp at f';simp[f];refine nxa (i+1) ⟨by omega,(bV hc h2 (by simpa using e)),(by obtain rfl:i=0:=(by omega);exact uQ)⟩
 ·simp at a;have hf:=iP h2 a;rw[bS a]at h3;simp;grind[kT]
def nG (x n:Int)(hn: -1048576<=n/\n<=1048576:=by first|omega|grind):Fk 289 [dI x,dI n] (vB (inR x 0 (n-1))):=by
 refine fE [] ntmps289 fun _ _=> ?_;simp;refine ai ?_;refine ck (bD x 0 (n-1)) ?_;simp
def xM (l:L1)(hs:Qle l):Fk 300 [nInts l] (vB (fQ l)):=by
 refine fE [] ntmps300 fun _ _=> ?_;simp;refine wlt (Nat×Int) (fun(i,t)=>([(0,vN l),(3,vI (t+1)),(6,vN l),(7,vI l.length),(8,vI i)],l.length-i,(i<=l.length)/\(AL (-1) l=AL t (l.drop i))/\(-1<=t/\t<=i))) ((0,(-1))) ⟨by omega,rfl,by omega⟩ ?_;rintro⟨i,t⟩ ⟨h1,h2,h3⟩;simp;apply gw<;>intro a
 ·obtain⟨c,hc⟩:=aQ (l:=l) (i:=i);have hdr:=drop_at hc;rw[hdr,AL]at h2;simp[hc];refine ck (bD c 0 (t+1)) ?_;simp;apply gw<;>intro b
  ·simp at b;rw[show inR c 0 (t+1)=false by simp;omega]at h2;simp;grind[fQ]
  ·simp at b;rw[show inR c 0 (t+1)=true by simp;omega,eX]at h2;have hmx:max (t+1) (c+1)=max t c+1:=by omega
   simp[hmx];refine nxb (i+1,max t c) ⟨by omega,h2,by omega⟩
 ·simp at a;rw[bW a]at h2;have hx:AL (-1) l:=h2;simp;refine ck (bD l.length 1 8) ?_;simp;grind[fQ]
def SS (s:Sto)(hs:Qle s.recs)(hi:∀r∈s.recs,inI .i64 (kR r)/\inI .i64 (100*r.source)):Fk 102 [TM s] (wN (s.recs.map kR)):=by
 refine fE [] ntmps102 fun _ _=> ?_;simp;refine wlt (Nat×L1) (fun(i,o)=>([(3,wN o),(7,vC s.recs),(8,vI s.recs.length),(9,vI i)],s.recs.length-i,(i<=s.recs.length)/\(o=(s.recs.take i).map kR))) ((0,[])) ⟨by omega,rfl⟩ ?_;rintro⟨i,o⟩ ⟨h1,h2⟩;simp;apply gw<;>intro a
 ·obtain⟨c,hc⟩:=aQ a;have hm:=yE kR hc;rw[←h2]at hm;have hol:o.length=i:=by rw[h2];simp;omega
  have hci:=hi c (aA hc);simp[hc];refine ck (BP c hci.1 hci.2) ?_;simp;refine nxb (i+1,o++[kR c]) ⟨by omega,hm.symm⟩
 ·simp at a;rw[bS a]at h2;subst h2;simp
variable {x c:Str}
def aEZ {l:List Str}(hc:l[i]?=some c)(h:i<=BD l x)(hb:ltL c x):i+1<=BD l x:=by
 induction l generalizing i with
 |nil=>cases hc
 |cons y l ih=>
  unfold BD at*
  cases i with
  |zero=>
   obtain rfl:y=c:=by simpa using hc
   simp[hb]
  |succ i=>
   by_cases hy:ltL y x=true
   ·simp only[qH,hy,if_true,aR]at h|-
    have:=ih (i:=i) (by simpa using hc) (by omega);omega
   ·simp[hy]at h
def aEY {l:List Str}(hc:l[i]?=some c)(h:i<=BD l x)(hb:ltL c x=false):BD l x=i:=by
 induction l generalizing i with
 |nil=>cases hc
 |cons y l ih=>
  unfold BD at*
  cases i with
  |zero=>
   obtain rfl:y=c:=by simpa using hc
   simp[hb]
  |succ i=>
   by_cases hy:ltL y x=true
   ·simp only[qH,hy,if_true,aR]at h|-
    have:=ih (i:=i) (by simpa using hc) (by omega);omega
   ·simp[hy]at h
def yB (l:List Str)(x:Str)(again:Bool)(hl:Qle l:=by first|omega|grind):Fk 273 [mF l,dS x,dB again] (vR (jP l x again)):=by
 refine fE [13] ntmps273 fun _ _=> ?_;simp;refine wlt Nat (fun i=>([(0,vR l),(1,vS x),(2,vB again),(7,vI i)],l.length-i,(i<=l.length)/\(i<=BD l x))) (0) ⟨by omega,by omega⟩ ?_;rintro i ⟨h1,h2⟩;simp;apply gv<;>intro a
 ·have a':=a;obtain⟨c,hc⟩:=aQ (l:=l) (i:=i);have hcc:l[i]=c:=by simpa[aB a]using hc
  simp[a,hcc];apply gw<;>intro b
  ·simp;refine nxa (i+1) ⟨by omega,(aEZ hc h2 b)⟩
  ·have hi:BD l x=i:=aEY hc h2 b;have htp:jP l x again=if again=false/\c=x then l else l.take i++[x]++l.drop i:=by simp[jP,hi,hc]
   simp;apply gv<;>intro e
   ·have e':=e;simp at e';simp[a,hcc,e];apply gw<;>intro f
    ·simp;simp_all
    ·simp;refine wdf [(0,[39]),(4,[39,42,43]),(6,[44,45]),(7,[43,45,46]),(11,[46,49,50]),(12,[50,6])] [(0,vR l),(1,vS x),(7,vI i)] [] (by simp) ?_;simp;iterate 5 refine ai ?_
     refine jV [] (cO 6) ?_;simp;simp_all
   ·have e':=e;simp at e';simp[e];refine wdf [(0,[39]),(4,[39,42,43]),(6,[44,45]),(7,[43,45,46]),(11,[46,49,50]),(12,[50,6])] [(0,vR l),(1,vS x),(7,vI i)] [] (by simp) ?_;simp;iterate 5 refine ai ?_
    refine jV [] (cO 6) ?_;simp;simp_all
 ·have a':=a;simp at a';have hi:l.length=i:=by omega
  have hia:BD l x=i:=by have:=azS l x;omega
  have htp:jP l x again=l.take i++[x]++l.drop i:=by simp[jP,hia,k_List_getElem__eq_none (show l.length<=i by omega)]
  simp[a];apply gv<;>intro e
  ·have e':=e;simp at e';simp[a,e];refine wdf [(0,[39]),(4,[39,42,43]),(6,[44,45]),(7,[43,45,46]),(11,[46,49,50]),(12,[50,6])] [(0,vR l),(1,vS x),(7,vI i)] [] (by simp) ?_;simp;iterate 5 refine ai ?_
   refine jV [] (cO 6) ?_;simp;simp_all
  ·have e':=e;simp at e';simp[e];refine wdf [(0,[39]),(4,[39,42,43]),(6,[44,45]),(7,[43,45,46]),(11,[46,49,50]),(12,[50,6])] [(0,vR l),(1,vS x),(7,vI i)] [] (by simp) ?_;simp;iterate 5 refine ai ?_
   refine jV [] (cO 6) ?_;simp;simp_all
end Go.Proofs.YtigjbamofhdchaaGreatDoor
end
