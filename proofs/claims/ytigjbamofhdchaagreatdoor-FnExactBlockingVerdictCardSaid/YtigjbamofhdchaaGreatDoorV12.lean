/- Lemmas and walks that the law leans on, part 12. No condition. -/
import Derived.ChangeVars
import Derived.Handed
import Derived.LaidLaws
import Derived.Laws.CopyOwn
import Derived.Lib.AtoiAllCases
import Derived.Lib.AtoiErrMem
import Derived.Lib.OwnBridge
import Derived.Lib.SortBridge
import Derived.LoopTactic
import Derived.Sort.Grow
import Derived.Still
import Derived.StillTactics
import Derived.Stop.LaidErr
import Derived.Test.YtigjbamofhdchaaGreatDoorCards
import Derived.Test.YtigjbamofhdchaaGreatDoorTie
import Derived.Test.YtigjbamofhdchaaGreatDoorV11
set_option linter.unusedVariables false
set_option linter.defProp false
set_option linter.unusedSimpArgs false
set_option linter.unusedSectionVars false
set_option maxRecDepth 10000
set_option maxHeartbeats 1000000
section
namespace Go.Proofs.YtigjbamofhdchaaGreatDoor
open Go.Dv Go.Pl Go.Proofs.Tryz
def AX {α:Type}(f:α->D)(z:D)(l:List α)(i:Nat):List D:=(l.take i).map f++List.replicate (l.length-i) z
section
variable {α:Type}{f:α->D}{z:D}{l:List α}{i:Nat}{c:α}
def BN (h:i<=l.length):(AX f z l i).length=l.length:=by simp[AX];omega
def BM (h:i<l.length:=by omega):(AX f z l i)[i]?=some z:=by
 unfold AX;rw[aY (by simp;omega)];rw[aX,dD,fH (by omega),eH,eZ,if_pos (by omega)]
def BO (h:l[i]?=some c):(AX f z l i).set i (f c)=AX f z l (i+1):=by
 have hi:=dM h;unfold AX;have hl:((l.take i).map f).length=i:=by simp;omega
 rw[List.set_append,if_neg (by omega),hl,eH,yE f h,show l.length-i=(l.length-(i+1))+1 by omega,fJ];simp
def yU:List.replicate l.length z=AX f z l 0:=by simp[AX]
def BL:AX f z l l.length=l.map f:=by simp[AX]
end
def ac9 (t:Tst):Fk 284 [yT t] (.val (yT t)):=by
 refine fE [] ntmps284 fun _ _=> ?_;simp
def aaS (l:List Tst)(hl:Qle l):Fk 220 [.sl none (l.map yT)] (.own (.sl (some 192) (l.map yT))):=by
 refine fE [] ntmps220 fun _ _=> ?_;have hz:=yU (f:=yT) (z:=(.agg [dI 0,dI 0,dB false])) (l:=l);simp[hz];refine ai ?_;refine wl (fun(i:Nat)=>[(0,.val (.sl none (l.map yT))),(3,.own (.sl (some 192) (AX yT (.agg [dI 0,dI 0,dB false]) l i))),(4,vI i)]) (fun(i:Nat)=>l.length-i) (fun(i:Nat)=>(i<=l.length)) (0) (by omega) ?_;rintro i h1;simp;apply gw<;>intro a
 ·obtain⟨c,hc⟩:=aQ (l:=l) (i:=i);have hg:=BM (f:=yT) (z:=(.agg [dI 0,dI 0,dB false])) (l:=l) (i:=i);have hfl:=BN (f:=yT) (z:=(.agg [dI 0,dI 0,dB false])) h1;have hst:=BO (f:=yT) (z:=(.agg [dI 0,dI 0,dB false])) hc;simp[hc];refine ck (ac9 c) ?_;simp[hg,hst];refine nxa (i+1) (by first|omega|(simp;omega)|grind)
 ·simp at a;obtain rfl:i=l.length:=by omega
  have hfa:=BL (f:=yT) (z:=(.agg [dI 0,dI 0,dB false])) (l:=l);simp[hfa]
abbrev ME (l:List Tst):D:= .agg [.sl (some 192) (l.map yT)]
def ac8 (l:List Tst)(hl:Qle l):Fk 150 [vH l] (.own (ME l)):=by
 refine fE [] ntmps150 fun _ _=> ?_;simp;refine ck (aaS l hl) ?_;simp
def aaQ (l:List (List Tst))(hl:Qle l)(hs:∀t∈l,Qle t):Fk 92 [.sl none (l.map vH)] (.own (.sl (some 188) (l.map ME))):=by
 refine fE [] ntmps92 fun _ _=> ?_;have hz:=yU (f:=ME) (z:=(.agg [.sl (some 192) []])) (l:=l);simp[hz];refine ai ?_;refine wl (fun(i:Nat)=>[(0,.val (.sl none (l.map vH))),(3,.own (.sl (some 188) (AX ME (.agg [.sl (some 192) []]) l i))),(4,vI i)]) (fun(i:Nat)=>l.length-i) (fun(i:Nat)=>(i<=l.length)) (0) (by omega) ?_;rintro i h1;simp;apply gw<;>intro a
 ·obtain⟨c,hc⟩:=aQ (l:=l) (i:=i);have hg:=BM (f:=ME) (z:=(.agg [.sl (some 192) []])) (l:=l) (i:=i);have hfl:=BN (f:=ME) (z:=(.agg [.sl (some 192) []])) h1;have hst:=BO (f:=ME) (z:=(.agg [.sl (some 192) []])) hc;simp[hc];refine ck (ac8 c (hs c (aA hc))) ?_;simp[hg,hst];refine nxa (i+1) (by first|omega|(simp;omega)|grind)
 ·simp at a;obtain rfl:i=l.length:=by omega
  have hfa:=BL (f:=ME) (z:=(.agg [.sl (some 192) []])) (l:=l);simp[hfa]
def VN (l:List (List Tst))(hl:Qle l)(hs:∀t∈l,Qle t):Fk 45 [mI l] (.own (.agg [.sl (some 188) (l.map ME)])):=by
 refine fE [] ntmps45 fun _ _=> ?_;simp;refine ck (aaQ l hl hs) ?_;simp
def FV (l:L1)(hl:Qle l):Fk 47 [nInts l] (wN l):=by
 refine fE [] ntmps47 fun _ _=> ?_;have hz:=yU (f:=dI) (z:=(dI 0)) (l:=l);simp[hz];refine ai ?_;refine wl (fun(i:Nat)=>[(0,vN l),(3,.own (.sl (some 3) (AX dI (dI 0) l i))),(4,vI i)]) (fun(i:Nat)=>l.length-i) (fun(i:Nat)=>(i<=l.length)) (0) (by omega) ?_;rintro i h1;simp;apply gw<;>intro a
 ·obtain⟨c,hc⟩:=aQ (l:=l) (i:=i);have hg:=BM (f:=dI) (z:=(dI 0)) (l:=l) (i:=i);have hfl:=BN (f:=dI) (z:=(dI 0)) h1;have hst:=BO (f:=dI) (z:=(dI 0)) hc;simp[hc,hg,hst];refine nxa (i+1) (by first|omega|(simp;omega)|grind)
 ·simp at a;obtain rfl:i=l.length:=by omega
  have hfa:=BL (f:=dI) (z:=(dI 0)) (l:=l);simp[hfa]
def VO (s:Sco)(hl:Qle s.weights):Fk 46 [GI s] (.own (.agg [dG s.weights,dI s.bias])):=by
 refine fE [] ntmps46 fun _ _=> ?_;simp;refine ck (FV s.weights hl) ?_;simp
def VP (l:List Str)(hl:Qle l):Fk 151 [mF l] (.own (EK l)):=by
 refine fE [] ntmps151 fun _ _=> ?_;have hz:=yU (f:=dS) (z:=(dS [])) (l:=l);simp[hz];refine ai ?_;refine wl (fun(i:Nat)=>[(0,vR l),(3,.own (.sl (some 9) (AX dS (dS []) l i))),(4,vI i)]) (fun(i:Nat)=>l.length-i) (fun(i:Nat)=>(i<=l.length)) (0) (by omega) ?_;rintro i h1;simp;apply gw<;>intro a
 ·obtain⟨c,hc⟩:=aQ (l:=l) (i:=i);have hg:=BM (f:=dS) (z:=(dS [])) (l:=l) (i:=i);have hfl:=BN (f:=dS) (z:=(dS [])) h1;have hst:=BO (f:=dS) (z:=(dS [])) hc;simp[hc,hg,hst];refine nxa (i+1) (by first|omega|(simp;omega)|grind)
 ·simp at a;obtain rfl:i=l.length:=by omega
  have hfa:=BL (f:=dS) (z:=(dS [])) (l:=l);simp[hfa]
abbrev ad7 (r:Rec):D:= .agg [dI r.source,dI r.key,dI r.version,EK r.fields]
def YH (r:Rec)(hl:Qle r.fields):Fk 93 [DV r] (.own (ad7 r)):=by
 refine fE [] ntmps93 fun _ _=> ?_;simp;refine ck (VP r.fields hl) ?_;simp
def VM (l:List Rec)(hl:Qle l)(hs:∀r∈l,Qle r.fields):Fk 48 [IJ l] (.own (.sl (some 138) (l.map ad7))):=by
 refine fE [] ntmps48 fun _ _=> ?_;have hz:=yU (f:=ad7) (z:=(.agg [dI 0,dI 0,dI 0,.sl (some 9) []])) (l:=l);simp[hz];refine ai ?_;refine wl (fun(i:Nat)=>[(0,vC l),(3,.own (.sl (some 138) (AX ad7 (.agg [dI 0,dI 0,dI 0,.sl (some 9) []]) l i))),(4,vI i)]) (fun(i:Nat)=>l.length-i) (fun(i:Nat)=>(i<=l.length)) (0) (by omega) ?_;rintro i h1;simp;apply gw<;>intro a
 ·obtain⟨c,hc⟩:=aQ (l:=l) (i:=i);have hg:=BM (f:=ad7) (z:=(.agg [dI 0,dI 0,dI 0,.sl (some 9) []])) (l:=l) (i:=i);have hfl:=BN (f:=ad7) (z:=(.agg [dI 0,dI 0,dI 0,.sl (some 9) []])) h1;have hst:=BO (f:=ad7) (z:=(.agg [dI 0,dI 0,dI 0,.sl (some 9) []])) hc;simp[hc];refine ck (YH c (hs c (aA hc))) ?_;simp[hg,hst];refine nxa (i+1) (by first|omega|(simp;omega)|grind)
 ·simp at a;obtain rfl:i=l.length:=by omega
  have hfa:=BL (f:=ad7) (z:=(.agg [dI 0,dI 0,dI 0,.sl (some 9) []])) (l:=l);simp[hfa]
def VQ (v:Ver):Fk 50 [kH v] (.val (kH v)):=by
 refine fE [] ntmps50 fun _ _=> ?_;simp
def FW (l:List Ver)(hl:Qle l):Fk 21 [nVers l] (wV l):=by
 refine fE [] ntmps21 fun _ _=> ?_;have hz:=yU (f:=kH) (z:=(.agg [dI 0,dI 0,dB false,dI 0])) (l:=l);simp[hz];refine ai ?_;refine wl (fun(i:Nat)=>[(0,vV l),(3,.own (.sl (some 39) (AX kH (.agg [dI 0,dI 0,dB false,dI 0]) l i))),(4,vI i)]) (fun(i:Nat)=>l.length-i) (fun(i:Nat)=>(i<=l.length)) (0) (by omega) ?_;rintro i h1;simp;apply gw<;>intro a
 ·obtain⟨c,hc⟩:=aQ (l:=l) (i:=i);have hg:=BM (f:=kH) (z:=(.agg [dI 0,dI 0,dB false,dI 0])) (l:=l) (i:=i);have hfl:=BN (f:=kH) (z:=(.agg [dI 0,dI 0,dB false,dI 0])) h1;have hst:=BO (f:=kH) (z:=(.agg [dI 0,dI 0,dB false,dI 0])) hc;simp[hc];refine ck (VQ c) ?_;simp[hg,hst];refine nxa (i+1) (by first|omega|(simp;omega)|grind)
 ·simp at a;obtain rfl:i=l.length:=by omega
  have hfa:=BL (f:=kH) (z:=(.agg [dI 0,dI 0,dB false,dI 0])) (l:=l);simp[hfa]
def ac6 (t:Tst):Fk 322 [yT t,yT t] (vB true):=by
 refine fE [] ntmps322 fun _ _=> ?_;simp
def aaM (l:List Tst)(hl:Qle l):Fk 265 [.sl none (l.map yT),.sl none (l.map yT)] (vB true):=by
 refine fE [] ntmps265 fun _ _=> ?_;simp;refine wl (fun(i:Nat)=>[(0,.val (.sl none (l.map yT))),(1,.val (.sl none (l.map yT))),(5,vI i)]) (fun(i:Nat)=>l.length-i) (fun(i:Nat)=>(i<=l.length)) (0) (by omega) ?_;rintro i h1;simp;apply gw<;>intro a
 ·obtain⟨c,hc⟩:=aQ (l:=l) (i:=i);simp;refine wdr ?_;simp[hc];refine cd (ac6 c) ?_;simp;refine nxa (i+1) (by first|omega|(simp;omega)|grind)
 ·simp at a;simp
def ac5 (l:List Tst)(hl:Qle l):Fk 191 [vH l,vH l] (vB true):=by
 refine fE [] ntmps191 fun _ _=> ?_;simp;refine ck (aaM l hl) ?_;simp
def aaK (l:List (List Tst))(hl:Qle l)(hs:∀t∈l,Qle t):Fk 122 [.sl none (l.map vH),.sl none (l.map vH)] (vB true):=by
 refine fE [] ntmps122 fun _ _=> ?_;simp;refine wl (fun(i:Nat)=>[(0,.val (.sl none (l.map vH))),(1,.val (.sl none (l.map vH))),(5,vI i)]) (fun(i:Nat)=>l.length-i) (fun(i:Nat)=>(i<=l.length)) (0) (by omega) ?_;rintro i h1;simp;apply gw<;>intro a
 ·obtain⟨c,hc⟩:=aQ (l:=l) (i:=i);simp;refine wdr ?_;simp[hc];refine cd (ac5 c (hs c (aA hc))) ?_;simp;refine nxa (i+1) (by first|omega|(simp;omega)|grind)
 ·simp at a;simp
def VD (l:List (List Tst))(hl:Qle l)(hs:∀t∈l,Qle t):Fk 70 [mI l,mI l] (vB true):=by
 refine fE [] ntmps70 fun _ _=> ?_;simp;refine ck (aaK l hl hs) ?_;simp
def FQ (l:L1)(hl:Qle l):Fk 72 [nInts l,nInts l] (vB true):=by
 refine fE [] ntmps72 fun _ _=> ?_;simp;refine wl (fun(i:Nat)=>[(0,vN l),(1,vN l),(5,vI i)]) (fun(i:Nat)=>l.length-i) (fun(i:Nat)=>(i<=l.length)) (0) (by omega) ?_;rintro i h1;simp;apply gw<;>intro a
 ·obtain⟨c,hc⟩:=aQ (l:=l) (i:=i);simp;refine wdr ?_;simp[hc];refine nxa (i+1) (by first|omega|(simp;omega)|grind)
 ·simp at a;simp
def VE (s:Sco)(hl:Qle s.weights):Fk 71 [GI s,GI s] (vB true):=by
 refine fE [] ntmps71 fun _ _=> ?_;simp;refine ck (FQ s.weights hl) ?_;simp
def X8 (c:Cfg)(hl:Qle c.rules)(hs:∀t∈c.rules,Qle t)(hw:Qle c.sco.weights)(hv:Qle c.surv):Fk 26 [afH c,afH c] (vB true):=by
 refine fE [] ntmps26 fun _ _=> ?_;simp;refine ck (VD c.rules hl hs) ?_;simp;refine ck (VE c.sco hw) ?_;simp;refine ck (FQ c.surv hv) ?_;simp
def VF (l:List Str)(hl:Qle l):Fk 192 [mF l,mF l] (vB true):=by
 refine fE [] ntmps192 fun _ _=> ?_;simp;refine wl (fun(i:Nat)=>[(0,vR l),(1,vR l),(5,vI i)]) (fun(i:Nat)=>l.length-i) (fun(i:Nat)=>(i<=l.length)) (0) (by omega) ?_;rintro i h1;simp;apply gw<;>intro a
 ·obtain⟨c,hc⟩:=aQ (l:=l) (i:=i);simp;refine wdr ?_;simp[hc];refine nxa (i+1) (by first|omega|(simp;omega)|grind)
 ·simp at a;simp
def YA (r:Rec)(hl:Qle r.fields):Fk 123 [DV r,DV r] (vB true):=by
 refine fE [] ntmps123 fun _ _=> ?_;simp;refine ck (VF r.fields hl) ?_;simp
def VC (l:List Rec)(hl:Qle l)(hs:∀r∈l,Qle r.fields):Fk 73 [IJ l,IJ l] (vB true):=by
 refine fE [] ntmps73 fun _ _=> ?_;simp;refine wl (fun(i:Nat)=>[(0,vC l),(1,vC l),(5,vI i)]) (fun(i:Nat)=>l.length-i) (fun(i:Nat)=>(i<=l.length)) (0) (by omega) ?_;rintro i h1;simp;apply gw<;>intro a
 ·obtain⟨c,hc⟩:=aQ (l:=l) (i:=i);simp;refine wdr ?_;simp[hc];refine cd (YA c (hs c (aA hc))) ?_;simp;refine nxa (i+1) (by first|omega|(simp;omega)|grind)
 ·simp at a;simp
def zT (v:Ver):Fk 8 [kH v,kH v] (vB true):=by
 refine fE [] ntmps8 fun _ _=> ?_;simp
def FR (l:List Ver)(hl:Qle l):Fk 29 [nVers l,nVers l] (vB true):=by
 refine fE [] ntmps29 fun _ _=> ?_;simp;refine wl (fun(i:Nat)=>[(0,vV l),(1,vV l),(5,vI i)]) (fun(i:Nat)=>l.length-i) (fun(i:Nat)=>(i<=l.length)) (0) (by omega) ?_;rintro i h1;simp;apply gw<;>intro a
 ·obtain⟨c,hc⟩:=aQ (l:=l) (i:=i);simp;refine wdr ?_;simp[hc];refine cd (zT c) ?_;simp;refine nxa (i+1) (by first|omega|(simp;omega)|grind)
 ·simp at a;simp
def aaL (s:Sto)(hl:Qle s.recs)(hs:∀r∈s.recs,Qle r.fields)(hv:Qle s.vers):Fk 27 [TM s,TM s] (vB true):=by
 refine fE [] ntmps27 fun _ _=> ?_;simp;refine ck (VC s.recs hl hs) ?_;simp;refine ck (FR s.vers hv) ?_;simp
def YB (c:Cfg)(left:Int)(hr:asA c.rules)(hw:c.sco.weights.length<=9223372036854775807)(hs:c.surv.length<=9223372036854775807)(h0:0<=left/\left<=1048576):fP prog 10 [afH c,dI left] (fun r=>∃v:Int,r=vI v/\(-1<=v/\v<=left)/\(0<=v->aAU c.rules left/\(c.sco.weights.length:Int)<=left/\(c.surv.length:Int)<=left)):=by
 refine fE [] ntmps10 fun _ _=> ?_;simp;refine fC (VI c.rules left hr h0) (by simp) ?_;rintro r ⟨v1,rfl,hv1,hf1⟩;refine⟨by simp,?_⟩;simp;apply gw<;>intro b
 ·simp;omega
 ·simp at b;simp;refine fC (VJ c.sco v1 hw (by omega)) (by simp) ?_;rintro r ⟨v2,rfl,hv2,hf2⟩;refine⟨by simp,?_⟩;simp;apply gw<;>intro d
  ·simp;omega
  ·simp at d;simp;refine fC (FT c.surv v2 hs (by omega)) (by simp) ?_;rintro r ⟨v3,rfl,hv3,hf3⟩;refine⟨by simp,?_⟩;simp;apply gw<;>intro e
   ·simp;omega
   ·simp at e;have k1:=hf1 (by omega);have k2:=hf2 (by omega);have k3:=hf3 (by omega);have k4:(c.sco.weights.length:Int)<=left/\(c.surv.length:Int)<=left:=by omega
    simp[k1,k4];refine ai ?_;omega
def aaO (s:Sto)(left:Int)(hr:avP s.recs)(hw:s.vers.length<=9223372036854775807)(h0:0<=left/\left<=1048576):fP prog 11 [TM s,dI left] (fun r=>∃v:Int,r=vI v/\(-1<=v/\v<=left)/\(0<=v->aDX s.recs left/\(s.vers.length:Int)<=left)):=by
 refine fE [] ntmps11 fun _ _=> ?_;simp;refine fC (VH s.recs left hr h0) (by simp) ?_;rintro r ⟨v1,rfl,hv1,hf1⟩;refine⟨by simp,?_⟩;simp;apply gw<;>intro b
 ·simp;omega
 ·simp at b;simp;refine fC (FU s.vers v1 hw (by omega)) (by simp) ?_;rintro r ⟨v2,rfl,hv2,hf2⟩;refine⟨by simp,?_⟩;simp;apply gw<;>intro d
  ·simp;omega
  ·simp at d;have k1:=hf1 (by omega);have k2:=hf2 (by omega);have k4:(s.vers.length:Int)<=left:=by omega
   simp[k1,k4];refine ai ?_;omega
def YF (c:Cfg)(hl:Qle c.rules)(hs:∀t∈c.rules,Qle t)(hw:Qle c.sco.weights)(hv:Qle c.surv):Fk 18 [afH c] (.own (.agg [.agg [.sl (some 188) (c.rules.map ME)],.agg [dG c.sco.weights,dI c.sco.bias],dG c.surv])):=by
 refine fE [] ntmps18 fun _ _=> ?_;simp;refine ck (VN c.rules hl hs) ?_;simp;refine ck (VO c.sco hw) ?_;simp;refine ck (FV c.surv hv) ?_;simp
def aaR (s:Sto)(hl:Qle s.recs)(hs:∀r∈s.recs,Qle r.fields)(hv:Qle s.vers):Fk 19 [TM s] (.own (.agg [dI s.version,.sl (some 138) (s.recs.map ad7),oVers s.vers])):=by
 refine fE [] ntmps19 fun _ _=> ?_;simp;refine ck (VM s.recs hl hs) ?_;simp;refine ck (FW s.vers hv) ?_;simp
abbrev aiV (e:Ent):D:= .agg [dI e.id,nInts e.mem]
abbrev tN (l:List Ent):D:= .sl none (l.map aiV)
abbrev amO (e:Ent):D:= .agg [dI e.id,dG e.mem]
abbrev ayD (l:List Ent):D:= .sl (some 89) (l.map amO)
abbrev nSys (x:KI):D:= .agg [afH x.cfg,TM x.sto,tN x.ents,dI x.next,nVers x.ref]
def CG (l:List Ent):Nat:=(l.map fun e=>e.mem.length).sum
def amF {l:List Ent}{i:Nat}{c:Ent}(h:l[i]?=some c):CG (l.take (i+1))=CG (l.take i)+c.mem.length:=by simp[CG,dX h]
def TL {l:List Ent}{e:Ent}(h:e∈l):e.mem.length<=CG l:=by
 obtain⟨a,b,rfl⟩:=List.append_of_mem h;simp[CG];omega
def aDN (l:List Ent):Prop:=l.length<=9223372036854775807/\∀e∈l,e.mem.length<=9223372036854775807
structure KG (x:KI):Prop where
 cfg:an3 x.cfg
 sto:avD x.sto
 ents:Qle x.ents
 mem:CG x.ents<=1048576
 ref:Qle x.ref
structure aDO (x:KI):Prop where
 rules:asA x.cfg.rules
 wts:x.cfg.sco.weights.length<=9223372036854775807
 surv:x.cfg.surv.length<=9223372036854775807
 recs:avP x.sto.recs
 vers:x.sto.vers.length<=9223372036854775807
 ents:aDN x.ents
 ref:x.ref.length<=9223372036854775807
def YC (e:Ent)(left:Int)(hl:e.mem.length<=9223372036854775807)(h0:0<=left/\left<=1048576):fP prog 34 [aiV e,dI left] (fun r=>∃v:Int,r=vI v/\(-1<=v/\v<=left)/\(0<=v->v+(e.mem.length:Int)<=left)):=by
 refine fE [] ntmps34 fun _ _=> ?_;simp;refine fC (FT e.mem left hl h0) (by simp) ?_;rintro r ⟨v,rfl,hv,hf⟩;refine⟨by simp,?_⟩;simp;apply gw<;>intro b
 ·simp;omega
 ·simp at b;have hfit:=hf (by omega);simp[hfit];refine ai ?_;omega
def VG (l:List Ent)(left:Int)(hl:aDN l)(h0:0<=left/\left<=1048576):fP prog 12 [tN l,dI left] (fun r=>∃v:Int,r=vI v/\(-1<=v/\v<=left)/\(0<=v->v+(l.length:Int)+CG l<=left)):=by
 refine fE [] ntmps12 fun _ _=> ?_;have hl1:=hl.1;simp;refine ai ?_;apply gw<;>intro e
 ·simp;omega
 ·simp at e;simp;refine wlt (Nat×Int) (fun(i,L)=>([(0,.val (tN l)),(1,vI L),(5,vI i)],l.length-i,(i<=l.length)/\(0<=L/\L+(l.length:Int)+CG (l.take i)<=left))) ((0,left-l.length)) ⟨by omega,by simp[CG];omega⟩ ?_;rintro⟨i,L⟩ ⟨h1,h2⟩;simp;apply gw<;>intro a
  ·obtain⟨c,hc⟩:=aQ (l:=l) (i:=i);have hcl:=hl.2 c (aA hc);have hms:=amF hc;simp[hc];refine fC (YC c L hcl (by omega)) (by simp) ?_;rintro r ⟨v,rfl,hv,hf⟩;refine⟨by simp,?_⟩;simp;apply gw<;>intro b
   ·simp;omega
   ·simp at b;have hfc:=hf (by omega);simp;refine nxa (i+1,v) ⟨by omega,by omega⟩
  ·simp at a;have hfit:L+(l.length:Int)+CG l<=left:=by rw[bS]at h2;omega
   simp[hfit];refine ai ?_;omega
def YE (x:KI)(left:Int)(hl:aDO x)(h0:0<=left/\left<=1048576):fP prog 4 [nSys x,dI left] (fun r=>∃v:Int,r=vI v/\(-1<=v/\v<=left)/\(0<=v->KG x)):=by
 refine fE [] ntmps4 fun _ _=> ?_;simp;refine fC (YB x.cfg left hl.rules hl.wts hl.surv h0) (by simp) ?_;rintro r ⟨v1,rfl,hv1,hf1⟩;refine⟨by simp,?_⟩;simp;apply gw<;>intro b
 ·simp;omega
 ·simp at b;simp;refine fC (aaO x.sto v1 hl.recs hl.vers (by omega)) (by simp) ?_;rintro r ⟨v2,rfl,hv2,hf2⟩;refine⟨by simp,?_⟩;simp;apply gw<;>intro d
  ·simp;omega
  ·simp at d;simp;refine fC (VG x.ents v2 hl.ents (by omega)) (by simp) ?_;rintro r ⟨v3,rfl,hv3,hf3⟩;refine⟨by simp,?_⟩;simp;apply gw<;>intro e
   ·simp;omega
   ·simp at e;simp;refine fC (FU x.ref v3 hl.ref (by omega)) (by simp) ?_;rintro r ⟨v4,rfl,hv4,hf4⟩;refine⟨by simp,?_⟩;simp;apply gw<;>intro f
    ·simp;omega
    ·simp at f;have k1:=hf1 (by omega);have k2:=hf2 (by omega);have k3:=hf3 (by omega);have k4:=hf4 (by omega);have hx:KG x:=⟨⟨by have:=k1.1.1;omega,fun l hl=>by have:=k1.1.2 l hl;omega,by omega,by omega⟩,⟨by have:=k2.1.1;omega,fun r hr=>⟨by have:=(k2.1.2 r hr).1;omega,fun f hf=>by have:=(k2.1.2 r hr).2 f hf;unfold aeO;omega⟩,by omega⟩,by omega,by omega,by omega⟩;simp[hx];refine ai ?_;omega
def YG (e:Ent)(hl:Qle e.mem):Fk 49 [aiV e] (.own (amO e)):=by
 refine fE [] ntmps49 fun _ _=> ?_;simp;refine ck (FV e.mem hl) ?_;simp
def VL (l:List Ent)(hl:Qle l)(hs:∀e∈l,Qle e.mem):Fk 20 [tN l] (.own (ayD l)):=by
 refine fE [] ntmps20 fun _ _=> ?_;have hz:=yU (f:=amO) (z:=(.agg [dI 0,.sl (some 3) []])) (l:=l);simp[hz];refine ai ?_;refine wl (fun(i:Nat)=>[(0,.val (tN l)),(3,.own (.sl (some 89) (AX amO (.agg [dI 0,.sl (some 3) []]) l i))),(4,vI i)]) (fun(i:Nat)=>l.length-i) (fun(i:Nat)=>(i<=l.length)) (0) (by omega) ?_;rintro i h1;simp;apply gw<;>intro a
 ·obtain⟨c,hc⟩:=aQ (l:=l) (i:=i);have hg:=BM (f:=amO) (z:=(.agg [dI 0,.sl (some 3) []])) (l:=l) (i:=i);have hfl:=BN (f:=amO) (z:=(.agg [dI 0,.sl (some 3) []])) h1;have hst:=BO (f:=amO) (z:=(.agg [dI 0,.sl (some 3) []])) hc;simp[hc];refine ck (YG c (hs c (aA hc))) ?_;simp[hg,hst];refine nxa (i+1) (by first|omega|(simp;omega)|grind)
 ·simp at a;obtain rfl:i=l.length:=by omega
  have hfa:=BL (f:=amO) (z:=(.agg [dI 0,.sl (some 3) []])) (l:=l);simp[hfa]
def sK (x:KI)(hx:KG x):Fk 6 [nSys x] (.own (.agg [.agg [.agg [.sl (some 188) (x.cfg.rules.map ME)],.agg [dG x.cfg.sco.weights,dI x.cfg.sco.bias],dG x.cfg.surv],.agg [dI x.sto.version,.sl (some 138) (x.sto.recs.map ad7),oVers x.sto.vers],ayD x.ents,dI x.next,oVers x.ref])):=by
 refine fE [] ntmps6 fun _ _=> ?_;have hme:∀e∈x.ents,Qle e.mem:=fun e he=>k_Nat_le_trans (TL he) hx.mem;simp;refine ck (YF x.cfg hx.cfg.rules hx.cfg.rule hx.cfg.weights hx.cfg.surv) ?_;simp;refine ck (aaR x.sto hx.sto.recs (fun r hr=>(hx.sto.rec1 r hr).1) hx.sto.vers) ?_;simp;refine ck (VL x.ents hx.ents hme) ?_;simp;refine ck (FW x.ref hx.ref) ?_;simp
def Z8 (x:KI)(hx:KG x):fP prog 6 [nSys x] (fun r=>r= .val (.agg [.agg [.agg [.sl (some 188) (x.cfg.rules.map ME)],.agg [dG x.cfg.sco.weights,dI x.cfg.sco.bias],dG x.cfg.surv],.agg [dI x.sto.version,.sl (some 138) (x.sto.recs.map ad7),oVers x.sto.vers],ayD x.ents,dI x.next,oVers x.ref])):=(sK x hx).aD2
def X9 (e:Ent)(hl:Qle e.mem):Fk 74 [aiV e,aiV e] (vB true):=by
 refine fE [] ntmps74 fun _ _=> ?_;simp;refine ck (FQ e.mem hl) ?_;simp
def VB (l:List Ent)(hl:Qle l)(hs:∀e∈l,Qle e.mem):Fk 28 [tN l,tN l] (vB true):=by
 refine fE [] ntmps28 fun _ _=> ?_;simp;refine wl (fun(i:Nat)=>[(0,.val (tN l)),(1,.val (tN l)),(5,vI i)]) (fun(i:Nat)=>l.length-i) (fun(i:Nat)=>(i<=l.length)) (0) (by omega) ?_;rintro i h1;simp;apply gw<;>intro a
 ·obtain⟨c,hc⟩:=aQ (l:=l) (i:=i);simp;refine wdr ?_;simp[hc];refine cd (X9 c (hs c (aA hc))) ?_;simp;refine nxa (i+1) (by first|omega|(simp;omega)|grind)
 ·simp at a;simp
def JV (x:KI)(hx:KG x):Fk 9 [nSys x,nSys x] (vB true):=by
 refine fE [] ntmps9 fun _ _=> ?_;have hme:∀e∈x.ents,Qle e.mem:=fun e he=>k_Nat_le_trans (TL he) hx.mem;simp;refine ck (X8 x.cfg hx.cfg.rules hx.cfg.rule hx.cfg.weights hx.cfg.surv) ?_;simp;refine ck (aaL x.sto hx.sto.recs (fun r hr=>(hx.sto.rec1 r hr).1) hx.sto.vers) ?_;simp;refine ck (VB x.ents hx.ents hme) ?_;simp;refine ck (FR x.ref hx.ref) ?_;simp
abbrev WM (m:L2):D:= .sl (some 25) (m.map nInts)
def aAV (p q:L1)(hp:Qle p)(hq:Qle q):Fk 109 [nInts p,nInts q] (vI (gW p q)):=by
 refine fE [] ntmps109 fun _ _=> ?_;simp;refine wlt Nat (fun i=>([(0,vN p),(1,vN q),(9,vN p),(10,vI p.length),(11,vI i)],p.length-i,(i<=p.length)/\i<=q.length/\(p.take i=q.take i))) (0) ⟨by omega,by omega,rfl⟩ ?_;rintro i ⟨h1,h2,h3⟩;simp;apply gw<;>intro a
 ·obtain⟨c,hc⟩:=aQ (l:=p) (i:=i);simp[hc];apply gw<;>intro b
  ·have hx:=acK h3 (dM hc) (by omega);simp[hx]
  ·simp at b;obtain⟨d,hd⟩:=aQ (l:=q) (i:=i);simp[hd];refine ck (pO c d) ?_;simp;apply gw<;>intro e
   ·have hcd:c≠d:=by rintro rfl;simp[cmpI]at e
    have hx:gW p q=cmpI c d:=by rw[akA h3 hc hd hcd];unfold cmpI;split<;>(try rfl);rw[if_pos (by omega)]
    simp[hx]
   ·have hcd:c=d:=by unfold cmpI at e;split at e;omega;split at e<;>omega
    simp;refine nxa (i+1) ⟨by omega,by omega,(take_same h3 hc (by rw[hcd];exact hd))⟩
 ·simp at a;have hip:i=p.length:=by omega
  subst hip;rw[dJ]at h3;have hx:=af0 h3;simp;apply gw<;>intro g
  ·rw[if_pos (by omega)]at hx;simp[hx]
  ·simp at g;rw[if_neg (by omega)]at hx;simp[hx]
def aAZ (l:L2)(cf:L1->L1->Int)(g:FuncId)(E:Dv.Enters prog g)(U:T (1000000+g)=⟨.no,0,.any 0⟩)(G:∀a∈l,∀b∈l,fP prog g [nInts a,nInts b] (fun r=>r=vI (cf a b)))(hl:Qle l):MZ prog 251 [.one (.bool false),dI 0,dI l.length,.one (.func (.func g) #[] #[])] 0 (WM l) (fun r d=>r= .tup []/\d=WM (kJ (cfB cf) l)):=by
 refine fM [] ntmps251 fun w0 ow0 v0=> ?_;have h00:=anG cf l;simp;refine ai ?_;refine wl (fun(i:Nat)=>[(0,.own (WM (aeV cf l i))),(1,vI 0),(2,vI l.length),(3,.val (.one (.func (.func g) #[] #[]))),(8,vI i)]) (fun(i:Nat)=>l.length-i) (fun(i:Nat)=>(1<=i/\i<=l.length+1)) (1) (by omega) ?_ (h0:=by simp[E,U,h00]);rintro i h1;simp;apply gw<;>intro a
 ·obtain⟨v,hv⟩:=aQ (l:=l) (i:=i);have hin:MW cf l i i v=aeV cf l i:=arI (p:=cfB cf) hv;have hsl:=yV (p:=cfB cf) (l:=l) (i:=i);simp;refine wlt Nat (fun j=>([(0,.own (WM (MW cf l i j v))),(1,vI 0),(2,vI l.length),(3,.val (.one (.func (.func g) #[] #[]))),(8,vI i),(9,vI j)],j,(j<=i)/\(∀k c,j<=k->(srt cf l i)[k]?=some c->cfB cf v c=true))) (i) ⟨by omega,(fun k c hk hc=>absurd (dM hc) (by unfold srt;omega))⟩ ?_ (h0:=by simp[E,U,h00,hin]);rintro j ⟨h2,h3⟩;have hnow:(MW cf l i j v)[j]?=some v:=anD a h2;simp;refine wdt 14 ?_;simp;apply gv<;>intro e
  ·have e':=e;obtain⟨c,hc⟩:=aQ (l:=srt cf l i) (i:=j-1) (by unfold srt;omega);have hprev:(MW cf l i j v)[j-1]?=some c:=by have:=ahD (p:=cfB cf) (v:=v) a (show j-1<i by omega) hc;rwa [show j-1+1=j by omega]at this
   have hj1:((j:Int)-1).toNat=j-1:=by omega
   have hsw:=ahF nInts (v:=v) a ⟨by omega,h2⟩ hc;have hs2:∀x:D,(((MW cf l i j v).map nInts).set j x)[j-1]?=some (nInts c):=fun x=>by rw[bJ (by omega),aN,hprev];rfl
   have hj2:(j:Int)-1=((j-1:Nat):Int):=by omega
   simp[E,U,e,hnow,hprev,hj2];refine ai ?_;refine ck ((G v (aA hv) c (arL hc))) ?_;simp;apply gw<;>intro b
   ·simp;refine wdh [2,3] [(15,[51,46,0,37,39,42,45,47,49,50]),(17,[52,50,0,37,39,42,45,46,47,49,51])] [(0,.own (WM (MW cf l i j v))),(1,vI 0),(2,vI l.length),(3,.val (.one (.func (.func g) #[] #[]))),(8,vI i),(9,vI j),(39,.al 0 []),(40,vI j)] [] ?_;simp[hnow,hprev,hsw,hs2,hj2];refine ai ?_;refine nx (j-1) ⟨by omega,(fun k c2 hk hc2=>by by_cases hkj:k=j-1;(subst hkj;rw[hc]at hc2;cases hc2;exact decide_eq_true b);exact h3 k c2 (by omega) hc2)⟩
   ·simp at b;have ho:MW cf l i j v=aeV cf l (i+1):=XF hv h2 h3 (.inr ⟨c,hc,by unfold cfB;exact decide_eq_false (by omega)⟩);simp[ho];refine nxa (i+1) (by omega)
  ·have e':=e;simp at e';have ho:MW cf l i j v=aeV cf l (i+1):=XF hv h2 h3 (.inl (by omega));simp[e,ho];refine nxa (i+1) (by omega)
 ·simp at a;have ho:=anF cf (l:=l) (i:=i) (by omega);simp[ho]
def aA1 (l:L2)(k:Int)(cf:L1->L1->Int)(g:FuncId)(E:Dv.Enters prog g)(U:T (1000000+g)=⟨.no,0,.any 0⟩)(G:∀a∈l,∀b∈l,fP prog g [nInts a,nInts b] (fun r=>r=vI (cf a b)))(hl:l.length<=12):MZ prog 178 [.one (.bool false),dI 0,dI l.length,dI k,.one (.func (.func g) #[] #[])] 0 (WM l) (fun r d=>r= .tup []/\d=WM (kJ (cfB cf) l)):=by
 refine fM [] ntmps178 fun w0 ow0 v0=> ?_;simp;refine wl (fun(i:Nat)=>[(0,.own (WM l)),(1,vI 0),(2,vI l.length),(3,vI k),(4,.val (.one (.func (.func g) #[] #[])))]) (fun(i:Nat)=>0) (fun(i:Nat)=>(i=0)) (0) (rfl) ?_;rintro i h1;have hlt:(l.length:Int)<=12:=by omega
 simp[hlt];refine ai ?_;refine mV rfl (aAZ l cf g E U G (by omega)) ?_;rintro r d ⟨rfl,rfl⟩;simp
def agG (l:L2)(cf:L1->L1->Int)(g:FuncId)(E:Dv.Enters prog g)(U:T (1000000+g)=⟨.no,0,.any 0⟩)(G:∀a∈l,∀b∈l,fP prog g [nInts a,nInts b] (fun r=>r=vI (cf a b)))(hl:l.length<=12):MZ prog 108 [.one (.bool false),.one (.func (.func g) #[] #[])] 0 (WM l) (fun r d=>r= .tup []/\d=WM (kJ (cfB cf) l)):=by
 refine fM [] ntmps108 fun w0 ow0 v0=> ?_;have hw:IntKind.u64.wrap (l.length:Int)=l.length:=by simp[IntKind.wrap,IntKind.bits,IntKind.signed];omega
 simp[hw];refine ck (ZE l.length (by omega)) ?_;simp;refine mV rfl (aA1 l (Lib.bitLen l.length) cf g E U G hl) ?_;rintro r d ⟨rfl,rfl⟩;simp
def aqV {α:Type}{p q:List α}{i:Nat}{c d:α}(hc:p[i]?=some c)(hd:q[i]?=some d)(hn:c≠d):p≠q:=by rintro rfl;rw[hc]at hd;exact hn (k_Option_some_inj hd)
def QG {α:Type}{p q:List α}{i:Nat}{c:α}(h:p.take i=q.take i)(hc:p[i]?=some c)(hd:q[i]?=some c):p.take (i+1)=q.take (i+1):=by rw[dX hc,dX hd,h]
def abV {α:Type}{p q:List α}{i:Nat}(h:p.take i=q.take i)(h1:p.length<=i:=by omega)(h2:q.length<=i:=by omega):p=q:=by rwa [bS h1,bS h2]at h
def JW (p q:L1)(hp:Qle p)(hq:Qle q):Fk 112 [nInts p,nInts q] (vB (decide (p=q))):=by
 refine fE [] ntmps112 fun _ _=> ?_;simp;apply gw<;>intro e
 ·have hx:¬p=q:=by rintro rfl;omega
  simp[hx]
 ·simp;refine wlt Nat (fun i=>([(0,vN p),(1,vN q),(11,vN p),(12,vI p.length),(13,vI i)],p.length-i,(i<=p.length)/\(p.take i=q.take i))) (0) ⟨by omega,rfl⟩ ?_;rintro i ⟨h1,h2⟩;simp;apply gw<;>intro a
  ·obtain⟨c,hc⟩:=aQ (l:=p) (i:=i);obtain⟨d,hd⟩:=aQ (l:=q) (i:=i);simp;refine wdr ?_;simp[hc,hd];apply gw<;>intro b
   ·have hx:=aqV hc hd b;simp[hx]
   ·simp;refine nxa (i+1) ⟨by omega,(QG h2 hc (by rw[show c=d by omega];exact hd))⟩
  ·simp at a;have hx:=abV h2;simp[hx]
def uG (p q:List Ver)(hp:Qle p)(hq:Qle q):Fk 60 [nVers p,nVers q] (vB (decide (p=q))):=by
 refine fE [] ntmps60 fun _ _=> ?_;simp;apply gw<;>intro e
 ·have hx:¬p=q:=by rintro rfl;omega
  simp[hx]
 ·simp;refine wlt Nat (fun i=>([(0,vV p),(1,vV q),(11,vV p),(12,vI p.length),(13,vI i)],p.length-i,(i<=p.length)/\(p.take i=q.take i))) (0) ⟨by omega,rfl⟩ ?_;rintro i ⟨h1,h2⟩;simp;apply gw<;>intro a
  ·obtain⟨c,hc⟩:=aQ (l:=p) (i:=i);obtain⟨d,hd⟩:=aQ (l:=q) (i:=i);simp;refine wdr ?_;simp[hc,hd];apply gw<;>intro b
   ·simp at b;have hx:=aqV hc hd (by rintro rfl;simp at b);simp[hx]
   ·simp at b;have hcd:c=d:=by cases c;cases d;simp_all
    simp;refine nxa (i+1) ⟨by omega,(QG h2 hc (by rw[hcd];exact hd))⟩
  ·simp at a;have hx:=abV h2;simp[hx]
def aDZ (p q:L2)(g:FuncId)(E:Dv.Enters prog g)(U:T (1000000+g)=⟨.no,0,.any 0⟩)(G:∀a∈p,∀b∈q,fP prog g [nInts a,nInts b] (fun r=>r=vB (decide (a=b))))(hp:Qle p)(hq:Qle q):Fk 110 [bZ p,bZ q,.one (.func (.func g) #[] #[])] (vB (decide (p=q))):=by
 refine fE [] ntmps110 fun _ _=> ?_;simp;apply gw<;>intro e
 ·have hx:¬p=q:=by rintro rfl;omega
  simp[hx]
 ·simp;refine wlt Nat (fun i=>([(1,.val (bZ q)),(2,.val (.one (.func (.func g) #[] #[]))),(15,.val (bZ p)),(16,vI p.length),(17,vI i)],p.length-i,(i<=p.length)/\(p.take i=q.take i))) (0) ⟨by omega,rfl⟩ ?_;rintro i ⟨h1,h2⟩;simp;apply gw<;>intro a
  ·obtain⟨c,hc⟩:=aQ (l:=p) (i:=i);obtain⟨d,hd⟩:=aQ (l:=q) (i:=i);simp[E,U,hc,hd];refine ck ((G c (aA hc) d (aA hd))) ?_;simp;apply gw<;>intro b
   ·have hx:=aqV hc hd b;simp[hx]
   ·have hcd:c=d:=by simpa using b
    simp;refine nxa (i+1) ⟨by omega,(QG h2 hc (by rw[hcd];exact hd))⟩
  ·simp at a;have hx:=abV h2;simp[hx]
def NW (p q:L1)(hp:Qle p)(hq:Qle q):Fk 111 [nInts p,nInts q] (vB (decide (p=q))):=by
 refine fE [] ntmps111 fun _ _=> ?_;simp;refine ck (JW p q hp hq) ?_;simp
def agE (l:L2)(hl:Qle l):Fk 107 [bZ l] (.own (WM l)):=by
 refine fE [2,5] ntmps107 fun _ _=> ?_;have hle:l.length<=1073741824:=by omega
 simp;refine aGQ 1 ?_;simp[hle];intro hnil;subst hnil;try simp[hle]
 refine jV [] (KE (L:=[(2,.own (WM []))]) (by simp)) ?_;simp
def gL (l:L2)(hl:∀r∈l,Qle r):∀a∈l,∀b∈l,fP prog 109 [nInts a,nInts b] (fun r=>r=vI (gW a b)):=fun a ha b hb=>aAV a b (hl a ha) (hl b hb)
def gE (p q:L2)(hp:∀r∈p,Qle r)(hq:∀r∈q,Qle r):∀a∈p,∀b∈q,fP prog 111 [nInts a,nInts b] (fun r=>r=vB (decide (a=b))):=fun a ha b hb=>NW a b (hp a ha) (hq b hb)
def axD (l:L2):kJ (cfB gW) l=zG l:=rfl
def SQ (p q:L2)(hp:p.length<=12)(hq:q.length<=12)(hp1:∀r∈p,Qle r)(hq1:∀r∈q,Qle r):Fk 58 [bZ p,bZ q] (vB (decide (zG p=zG q))):=by
 refine fE [] ntmps58 fun _ _=> ?_;simp;refine ck (agE p (by omega)) ?_;simp;refine ck (agE q (by omega)) ?_;have hgp:=axD p;have hgq:=axD q;simp;refine mV rfl (agG p gW 109 aC5 aDA (gL p hp1) (by omega)) ?_;rintro r d ⟨rfl,rfl⟩;simp[hgp];refine mV rfl (agG q gW 109 aC5 aDA (gL q hq1) (by omega)) ?_;rintro r d ⟨rfl,rfl⟩;have hpl:=(vX p).length_eq;have hql:=(vX q).length_eq;simp[hgq];refine ck (aDZ (zG p) (zG q) 111 aFM aF1 (gE (zG p) (zG q) (fun r hr=>hp1 r ((vX p).mem_iff.1 hr)) (fun r hr=>hq1 r ((vX q).mem_iff.1 hr))) (by omega) (by omega)) ?_;simp
def H8 (l:List Ent)(hl:Qle l):Fk 59 [tN l] (.own (WM (l.map Ent.mem))):=by
 refine fE [] ntmps59 fun _ _=> ?_;simp;refine wlt (Nat×L2) (fun(i,o)=>([(3,.own (WM o)),(6,.val (tN l)),(7,vI l.length),(8,vI i)],l.length-i,(i<=l.length)/\(o=(l.take i).map Ent.mem))) ((0,[])) ⟨by omega,rfl⟩ ?_;rintro⟨i,o⟩ ⟨h1,h2⟩;simp;apply gw<;>intro a
 ·obtain⟨c,hc⟩:=aQ (l:=l) (i:=i);have hm:=yE Ent.mem hc;have hol:o.length=i:=by rw[h2];simp;omega
  rw[←h2]at hm;simp[hc];refine nxb (i+1,o++[c.mem]) ⟨by omega,by rw[hm]⟩
 ·simp at a;rw[bS]at h2;have hr:l.map Ent.mem=o:=h2.symm;simp[hr]
def OL {o g:L1}{k:Nat}(h:k<g.length)(hp:OX o g k=false):adK o g=false:=by unfold adK;rw[mR h hp];rfl
def U0 (G:L2)(hG:Qle G)(hs:∀r∈G,Qle r):Fk 100 [bZ G] (vB (BB [] G)):=by
 refine fE [] ntmps100 fun _ _=> ?_;simp;refine wlt (Nat×L1) (fun(i,o)=>([(3,wN o),(8,.val (bZ G)),(9,vI G.length),(10,vI i)],G.length-i,(i<=G.length)/\(BB [] G=BB o (G.drop i))/\(o.length<=8))) ((0,[])) ⟨by omega,rfl,by simp⟩ ?_;rintro⟨i,o⟩ ⟨h1,h2,h3⟩;simp;apply gw<;>intro a
 ·obtain⟨c,hc⟩:=aQ (l:=G) (i:=i);have hcl:=hs c (aA hc);have hdr:=drop_at hc;rw[hdr,BB]at h2;simp[hc];refine wlt Nat (fun k=>([(3,wN o),(5,vN c),(8,.val (bZ G)),(9,vI G.length),(10,vI i),(14,vN c),(15,vI c.length),(16,vI k)],c.length-k,(k<=c.length)/\((List.range k).all (OX o c)=true))) (0) ⟨by omega,rfl⟩ ?_;rintro k ⟨h4,h5⟩;simp;apply gw<;>intro b
  ·have hx:=aV b;simp[hx];refine ck (BQ (at1 c k)) ?_;simp;apply gv<;>intro e
   ·have e':=e;simp at e';have hn:=OL (o:=o) b (by simp[OX];omega);rw[hn,iI]at h2;simp[e,h2]
   ·have e':=e;simp at e';simp[e];apply gv<;>intro f
    ·have f':=f;have hp:=aV (l:=c) (i:=k-1);simp[f,hp];iterate 2 refine ai ?_
     apply gv<;>intro g
     ·have g':=g;have hn:=OL (o:=o) b (by simp[OX];omega);rw[hn,iI]at h2;simp[g,h2]
     ·have g':=g;simp at g';simp[g];refine ck (bC o (at1 c k)) ?_;simp;apply gw<;>intro q
      ·simp at q;have hn:=OL (o:=o) b (by simp[OX];simp_all);rw[hn,iI]at h2;simp[h2]
      ·simp at q;simp;refine nxa (k+1) ⟨by omega,(oC h5 (by simp[OX];exact⟨⟨by omega,by omega⟩,q⟩))⟩
    ·have f':=f;simp at f';simp[f];refine ck (bC o (at1 c k)) ?_;simp;apply gw<;>intro q
     ·simp at q;have hn:=OL (o:=o) b (by simp[OX];simp_all);rw[hn,iI]at h2;simp[h2]
     ·simp at q;simp;refine nxa (k+1) ⟨by omega,(oC h5 (by simp[OX];exact⟨⟨by omega,by omega⟩,q⟩))⟩
  ·simp at b;obtain rfl:k=c.length:=by omega
   simp;refine ai ?_;apply gv<;>intro g
   ·have g':=g;rw[show adK o c=false by rw[g];rfl,iI]at h2;simp[g,h2]
   ·have g':=g;simp[g];apply gw<;>intro r
    ·rw[adL (G.drop (i+1)) (all:=o++c) (by simp;omega),Bool.and_false]at h2;simp[h2]
    ·simp at r;rw[show adK o c=true by unfold adK;rw[h5];simp[g],eX]at h2;simp;refine nxa (i+1,o++c) ⟨by omega,h2,by simp;omega⟩
 ·simp at a;rw[bW a,BB]at h2;have hx:BB [] G:=by rw[h2];simp;omega
  simp[hx]
def QK (l:List Ent)(hl:Qle l)(hs:∀e∈l,Qle e.mem):Fk 53 [tN l] (vB (tO l)):=by
 refine fE [] ntmps53 fun _ _=> ?_;simp;refine wlt Nat (fun i=>([(0,.val (tN l)),(5,.val (tN l)),(6,vI l.length),(7,vI i)],l.length-i,(i<=l.length)/\((l.take i).all idB=true)/\(adj aiL (l.take i)=true))) (0) ⟨by omega,rfl,rfl⟩ ?_;rintro i ⟨h1,h2,h3⟩;simp;apply gw<;>intro a
 ·obtain⟨c,hc⟩:=aQ (l:=l) (i:=i);simp[hc];refine wdr ?_;simp;refine cd (bD c.id 1 9999) ?_;simp;apply gv<;>intro e
  ·have e':=e;simp at e';have hn:=fK hc (P:=idB) (by simp[idB];omega);simp[e];grind[tO]
  ·have e':=e;simp at e';simp[e];apply gv<;>intro f
   ·have f':=f;obtain⟨p,hp⟩:=aQ (l:=l) (i:=i-1);have hi1:i-1+1=i:=by omega
    simp[f,hp];iterate 2 refine ai ?_
    apply gw<;>intro b
    ·have hn:=IR hp (by rw[hi1];exact hc) (R:=aiL) (by simp[aiL];omega);simp;grind[tO]
    ·simp at b;simp;refine nxa (i+1) ⟨by omega,(bV hc h2 (by simp[idB];omega)),by have:=yA (i:=i-1) (by rw[hi1];exact h3) hp (by rw[hi1];exact hc) (by simp[aiL];omega);rwa [hi1]at this⟩
   ·have f':=f;simp at f';simp[f];refine nxa (i+1) ⟨by omega,(bV hc h2 (by simp[idB];omega)),(by obtain rfl:i=0:=(by omega);exact uQ)⟩
 ·simp at a;have hf:=iP h2 a;rw[bS a]at h3;have hms:∀r∈l.map Ent.mem,Qle r:=fun r hr=>by obtain⟨e,he,rfl⟩:=dF.1 hr;exact hs e he
  simp;refine ck (H8 l hl) ?_;simp;refine ckz (U0 (l.map Ent.mem) (by simp;omega) hms) ?_;simp;grind[tO]
def JQ (e:Ent)(x:KI):Fk 56 [aiV e,.bx false (nSys x)] (vB (decide (x.next<=e.id))):=by
 refine fE [] ntmps56 fun _ _=> ?_;simp
def aoY (l:List Ent)(p:Ent->Bool)(g:FuncId)(b:Nat)(d:D)(F:d.fz=d)(E:Dv.Enters prog g)(U:T (1000000+g)=⟨.no,0,.any 0⟩)(G:∀c∈l,fP prog g [aiV c,.bx false d] (fun r=>r=vB (p c)))(hl:Qle l):yZ prog 101 [tN l,.one (.func (.func g) #[] #[.pointer (some ⟨b,0,none⟩)])] [(b,d)] (fun res'=>res'=vI (ix p l)):=by
 refine fB [] ntmps101 fun _ _=> ?_;simp;refine wlt Nat (fun i=>([(0,.val (tN l)),(1,.val (.one (.func (.func g) #[] #[.pointer (some ⟨b,0,none⟩)]))),(7,vI l.length),(8,vI i),(1000000+2*b,.rp (d))],l.length-i,(i<=l.length)/\((l.take i).any p=false))) (0) ⟨by omega,rfl⟩ ?_;rintro i ⟨h1,h2⟩;simp;apply gw<;>intro a
 ·obtain⟨c,hc⟩:=aQ (l:=l) (i:=i);simp[E,U,F,hc];refine ck ((G c (aA hc))) ?_;simp;apply gw<;>intro e
  ·have hn:=DK hc h2 (by simp[e]);simp[hn]
  ·simp;refine nxa (i+1) ⟨by omega,(gV hc h2 (by simp[e]))⟩
 ·simp at a;have hf:=mJ h2 a;have hx:=rV hf;simp[hx]
def asU (l:List Ent)(p:Ent->Bool)(g:FuncId)(b:Nat)(d:D)(F:d.fz=d)(E:Dv.Enters prog g)(U:T (1000000+g)=⟨.no,0,.any 0⟩)(G:∀c∈l,fP prog g [aiV c,.bx false d] (fun r=>r=vB (p c)))(hl:Qle l):yZ prog 55 [tN l,.one (.func (.func g) #[] #[.pointer (some ⟨b,0,none⟩)])] [(b,d)] (fun res'=>res'=vB (l.any p)):=by
 refine fB [] ntmps55 fun _ _=> ?_;have hq:decide (0<=ix p l)=l.any p:=by rw[bH,decide_eq_true_eq];exact iV
 simp[F];refine ckB (aoY l p g b d F E U G hl) ?_;simp[hq]
def DW (x:KI):Bool:=kS x.cfg&&iO x.sto&&tO x.ents&&inR x.next 1 9999&& !(x.ents.any fun e=>decide (x.next<=e.id))&&decide (zG (x.ents.map Ent.mem)=zG (ZV x.cfg x.sto))&&decide (x.ref=jO x.sto.vers)
def nSys_fz (x:KI):(nSys x).fz=nSys x:=by simp[D.fz,D.fzs,D.jI]
def A7 (x:KI)(hx:KG x):Fk 22 [nSys x] (vB (DW x)):=by
 refine fE [] ntmps22 fun _ _=> ?_;have hme:∀e∈x.ents,Qle e.mem:=fun e he=>k_Nat_le_trans (TL he) hx.mem;simp;refine ck (MK x.cfg hx.cfg.rules hx.cfg.rule hx.cfg.weights hx.cfg.surv) ?_;simp;apply gv<;>intro e
 ·have e':=e;simp at e';simp[e];grind[DW]
 ·have e':=e;simp at e';simp[e];refine ck (NP x.sto hx.sto.recs hx.sto.rec1 hx.sto.vers) ?_;simp;apply gv<;>intro f
  ·have f':=f;simp at f';simp[f];grind[DW]
  ·have f':=f;simp at f';simp[f];refine ck (QK x.ents hx.ents hme) ?_;simp;apply gv<;>intro g
   ·have g':=g;simp at g';simp[g];grind[DW]
   ·have g':=g;simp at g';simp[g];refine ck (bD x.next 1 9999) ?_;simp;apply gw<;>intro b
    ·simp at b;simp;grind[DW]
    ·simp at b;have hr1:xY x.cfg x.sto=ZV x.cfg x.sto:=if_pos (by simp[e',f']);have hr2:EE x.cfg x.sto=jO x.sto.vers:=if_pos (by simp[e',f']);have hro:=W9 x.cfg x.sto;have hrf:=XA x.cfg x.sto;rw[hr1]at hro;rw[hr2]at hrf;have hel:=(ab3 g').2;have hms:∀r∈x.ents.map Ent.mem,Qle r:=fun r hr=>by obtain⟨e,he,rfl⟩:=dF.1 hr;exact hme e he
     simp[e',f',g',b];intro bo;refine ckB (asU x.ents (fun e=>decide (x.next<=e.id)) 56 bo (nSys x) (nSys_fz x) en56 mu56 (fun c _=>JQ c x) hx.ents) ?_;simp;apply gw<;>intro q
     ·simp at q;simp;grind[DW]
     ·simp at q;simp;refine ck (aaJ x.cfg x.sto e' f' hx.cfg) ?_;simp;refine ck (H8 x.ents hx.ents) ?_;simp;refine ckz (SQ (x.ents.map Ent.mem) (ZV x.cfg x.sto) (by simp;omega) (by omega) hms (fun r hr=>by have:=hro.2 r hr;omega)) ?_;simp;apply gv<;>intro w
      ·have w':=w;simp[w];refine ck (uG x.ref (jO x.sto.vers) hx.ref (by omega)) ?_;simp;grind[DW]
      ·have w':=w;simp[w];grind[DW]
end Go.Proofs.YtigjbamofhdchaaGreatDoor
end
section
namespace Go.Proofs.YtigjbamofhdchaaGreatDoor
open Go.Dv Go.Pl
open Go.ChangeShapes Go.WideShapes Go.ChangeAt Go.RowKit Go.Er
section
variable {H:Type}{enc:TypeId×Value->H}{W:World}{cs:List Value}
def aE1 (h:Tr enc Tryz.prog W 82 cs):∃e:Ent,e.mem.length<=9223372036854775807/\Rd Tryz.prog W (aiV e) cs:=by
 have hl:=yH Tryz.underlying82 (n:=2) (by kernel_rfl) h;have hf:=yG Tryz.underlying82 h;obtain⟨a,h0⟩:=open_int Tryz.underlying3 (hf 0 _ rfl 0 1 rfl (by kernel_rfl));obtain⟨l,q,h1⟩:=ajF (hf 1 _ rfl 1 1 rfl (by kernel_rfl));exact⟨⟨a,l⟩,q,I9 (jJ h0 (jJ h1 (I8 hl)))⟩
def aCR (h:Tr enc Tryz.prog W 34 cs):∃l:List Ent,aDN l/\Rd Tryz.prog W (tN l) cs:=
 LD Tryz.underlying34 (k:=2) (by kernel_rfl) (by decide) (fun vs h=>aE1 h) h
def aE5 (h:Tr enc Tryz.prog W 36 cs):∃x:KI,aDO x/\Rd Tryz.prog W (nSys x) cs:=by
 have hl:=yH Tryz.underlying36 (n:=10) (by kernel_rfl) h;have hf:=yG Tryz.underlying36 h;obtain⟨c,⟨q1,q2,q3⟩,h0⟩:=aE0 (hf 0 _ rfl 0 4 rfl (by kernel_rfl));obtain⟨s,⟨q4,q5⟩,h1⟩:=aE4 (hf 1 _ rfl 4 3 rfl (by kernel_rfl));obtain⟨e,q6,h2⟩:=aCR (hf 2 _ rfl 7 1 rfl (by kernel_rfl));obtain⟨n,h3⟩:=open_int Tryz.underlying3 (hf 3 _ rfl 8 1 rfl (by kernel_rfl));obtain⟨l,q7,h4⟩:=arT (hf 4 _ rfl 9 1 rfl (by kernel_rfl));exact⟨⟨c,s,e,n,l⟩,⟨q1,q2,q3,q4,q5,q6,q7⟩,I9 (jJ h0 (jJ h1 (jJ h2 (jJ h3 (jJ h4 (I8 hl))))))⟩
end
end Go.Proofs.YtigjbamofhdchaaGreatDoor
end
section
namespace Go.Proofs.YtigjbamofhdchaaGreatDoor
open Go.Dv Go.Pl Go.Proofs.Tryz
def adF (p q:L1)(hp:Qle p)(hq:Qle q):Fk 38 [nInts p,nInts q] (vI (gW p q)):=by
 refine fE [] ntmps38 fun _ _=> ?_;simp;refine wlt Nat (fun i=>([(0,vN p),(1,vN q),(5,vI i)],p.length-i,(i<=p.length)/\i<=q.length/\(p.take i=q.take i))) (0) ⟨by omega,by omega,rfl⟩ ?_;rintro i ⟨h1,h2,h3⟩;simp;apply gv<;>intro g
 ·have g':=g;simp[g];apply gw<;>intro b
  ·obtain⟨c,hc⟩:=aQ (l:=p) (i:=i);obtain⟨d,hd⟩:=aQ (l:=q) (i:=i);simp;refine wdr ?_;simp[hc,hd];apply gw<;>intro e
   ·have hx:gW p q=cmpI c d:=by rw[akA h3 hc hd e];unfold cmpI;split<;>(try rfl);rw[if_pos (by omega)]
    simp;refine wdt 9 ?_;simp[hc,hd];refine cd (rM c d) ?_;simp[hx]
   ·simp;refine nxa (i+1) ⟨by omega,by omega,(take_same h3 hc (by rw[show c=d by omega];exact hd))⟩
  ·simp at b;have hx:gW p q=cmpI p.length q.length:=by rw[acK h3 g (by omega)];unfold cmpI;rw[if_neg (by omega),if_pos (by omega)]
   simp;refine ck (rM p.length q.length) ?_;simp[hx]
 ·have g':=g;simp at g';have hip:i=p.length:=by omega
  subst hip;rw[dJ]at h3;have hx:gW p q=cmpI p.length q.length:=by rw[af0 h3];unfold cmpI;split;rw[if_pos (by omega)];rw[if_neg (by omega),if_neg (by omega)]
  simp[g];refine ck (rM p.length q.length) ?_;simp[hx]
variable {o:L1}{x:Int}
def axN (h:0<=ix (fun y=>decide (y=x)) o):x∈o:=by obtain⟨y,h1,h2⟩:=cK.1 (iV.1 h);rw[←of_decide_eq_true h2];exact h1
def aq4 (h:ix (fun y=>decide (y=x)) o<0):∀y∈o,¬x=y:=fun y hy e=>by have:=(iV (P:=fun y=>decide (y=x)) (l:=o)).2 (cK.2 ⟨y,hy,decide_eq_true e.symm⟩);omega
def TH (G:L2):Nat:=(G.map List.length).sum
def VR (G:L2)(hG:Qle G)(hs:TH G<=1048576):Fk 84 [bZ G] (vB (BB [] G)):=by
 refine fE [] ntmps84 fun _ _=> ?_;simp;refine wlt (Nat×L1) (fun(i,o)=>([(0,.val (bZ G)),(3,wN o),(4,vI i)],G.length-i,(i<=G.length)/\(BB [] G=BB o (G.drop i))/\(o.length+TH (G.drop i)<=1048576))) ((0,[])) ⟨by omega,rfl,by simpa using hs⟩ ?_;rintro⟨i,o⟩ ⟨h1,h2,h3⟩;simp;apply gw<;>intro a
 ·obtain⟨c,hc⟩:=aQ (l:=G) (i:=i);have hdr:=drop_at hc;rw[hdr,BB]at h2;rw[hdr]at h3;have hls:TH (c::G.drop (i+1))=c.length+TH (G.drop (i+1)):=by simp[TH]
  simp;refine wlt Nat (fun k=>([(0,.val (bZ G)),(3,wN o),(4,vI i),(5,vI k)],c.length-k,(k<=c.length)/\((List.range k).all (OX o c)=true))) (0) ⟨by omega,rfl⟩ ?_;rintro k ⟨h4,h5⟩;simp[hc];apply gw<;>intro b
  ·have hx:=aV b;simp;refine wdr ?_;simp[hc,hx];refine cd (bE (at1 c k) 1 399) ?_;simp;apply gv<;>intro e
   ·have e':=e;simp at e';have hn:=OL (o:=o) b (by simp[OX];omega);rw[hn,iI]at h2;simp[e,h2]
   ·have e':=e;simp at e';simp[e];apply gv<;>intro f
    ·have f':=f;have hp:=aV (l:=c) (i:=k-1);simp[hc,hx,f,hp];iterate 2 refine ai ?_
     apply gv<;>intro g
     ·have g':=g;have hn:=OL (o:=o) b (by simp[OX];omega);rw[hn,iI]at h2;simp[g,h2]
     ·have g':=g;simp at g';simp[hc,hx,g];refine cd (eT o (at1 c k) (by omega)) ?_;simp;apply gw<;>intro q
      ·have hn:=OL (o:=o) b (by have:=axN q;simp[OX];simp_all);rw[hn,iI]at h2;simp[h2]
      ·simp at q;simp;refine nxa (k+1) ⟨by omega,(oC h5 (by have:=aq4 q;simp[OX];exact⟨⟨by omega,by omega⟩,this⟩))⟩
    ·have f':=f;simp at f';simp[hc,hx,f];refine cd (eT o (at1 c k) (by omega)) ?_;simp;apply gw<;>intro q
     ·have hn:=OL (o:=o) b (by have:=axN q;simp[OX];simp_all);rw[hn,iI]at h2;simp[h2]
     ·simp at q;simp;refine nxa (k+1) ⟨by omega,(oC h5 (by have:=aq4 q;simp[OX];exact⟨⟨by omega,by omega⟩,this⟩))⟩
  ·simp at b;obtain rfl:k=c.length:=by omega
   simp[hc];apply gw<;>intro g
   ·rw[show adK o c=false by rw[g];rfl,iI]at h2;simp[h2]
   ·rw[show adK o c=true by unfold adK;rw[h5];simp[g],eX]at h2;simp[hc];refine nxb (i+1,o++c) ⟨by omega,h2,by rw[aO];omega⟩
 ·simp at a;rw[bW a,BB]at h2;simp[h2];omega
def V6 (l:List Ent)(hl:Qle l)(hs:∀e∈l,Qle e.mem):Fk 85 [tN l] (.own (mQ (l.map Ent.mem))):=by
 refine fE [] ntmps85 fun _ _=> ?_;simp;refine wlt (Nat×L2) (fun(i,o)=>([(0,.val (tN l)),(3,.own (mQ o)),(4,vI i)],l.length-i,(i<=l.length)/\(o=(l.take i).map Ent.mem))) ((0,[])) ⟨by omega,rfl⟩ ?_;rintro⟨i,o⟩ ⟨h1,h2⟩;simp;apply gw<;>intro a
 ·obtain⟨c,hc⟩:=aQ (l:=l) (i:=i);have hm:=yE Ent.mem hc;have hol:o.length=i:=by rw[h2];simp;omega
  have hcl:=hs c (aA hc);rw[←h2]at hm;simp[hc];refine nxd (i+1,o++[c.mem]) ⟨by omega,by rw[hm]⟩
 ·simp at a;rw[bS]at h2;have hr:l.map Ent.mem=o:=h2.symm;simp[hr]
def al7 (l:List Ent):TH (l.map Ent.mem)=CG l:=by simp[TH,CG];rfl
def QX (l:List Ent)(hl:Qle l)(hs:CG l<=1048576):Fk 36 [tN l] (vB (tO l)):=by
 refine fE [] ntmps36 fun _ _=> ?_;have hme:∀e∈l,Qle e.mem:=fun e he=>k_Nat_le_trans (TL he) hs;simp;refine wlt Nat (fun i=>([(0,.val (tN l)),(3,vI i)],l.length-i,(i<=l.length)/\((l.take i).all idB=true)/\(adj aiL (l.take i)=true))) (0) ⟨by omega,rfl,rfl⟩ ?_;rintro i ⟨h1,h2,h3⟩;simp;apply gw<;>intro a
 ·obtain⟨c,hc⟩:=aQ (l:=l) (i:=i);simp;refine wdr ?_;simp[hc];refine cd (bE c.id 1 9999) ?_;simp;apply gv<;>intro e
  ·have e':=e;simp at e';have hn:=fK hc (P:=idB) (by simp[idB];omega);simp[e];grind[tO]
  ·have e':=e;simp at e';simp[e];apply gv<;>intro f
   ·have f':=f;obtain⟨p,hp⟩:=aQ (l:=l) (i:=i-1);have hi1:i-1+1=i:=by omega
    simp[hc,f,hp];iterate 2 refine ai ?_
    apply gw<;>intro b
    ·have hn:=IR hp (by rw[hi1];exact hc) (R:=aiL) (by simp[aiL];omega);simp;grind[tO]
    ·simp at b;simp;refine nxa (i+1) ⟨by omega,(bV hc h2 (by simp[idB];omega)),by have:=yA (i:=i-1) (by rw[hi1];exact h3) hp (by rw[hi1];exact hc) (by simp[aiL];omega);rwa [hi1]at this⟩
   ·have f':=f;simp at f';simp[f];refine nxa (i+1) ⟨by omega,(bV hc h2 (by simp[idB];omega)),(by obtain rfl:i=0:=(by omega);exact uQ)⟩
 ·simp at a;have hf:=iP h2 a;rw[bS a]at h3;simp;refine ck (V6 l hl hme) ?_;have hls:=al7 l;simp;refine ckz (VR (l.map Ent.mem) (by simp;omega) (by omega)) ?_;simp;grind[tO]
variable {α:Type}{l:List α}{i:Nat}{c:α}
def avL (p:α->Bool)(h:l[i]?=some c):(l.take (i+1)).any p=((l.take i).any p||p c):=by rw[dX h];simp
def ayL (x:KI):DW x=((kS x.cfg&&iO x.sto)&&tO x.ents&&inR x.next 1 9999&&decide (EE x.cfg x.sto=x.ref)&&decide ((xY x.cfg x.sto).length=x.ents.length)&&x.ents.all (entOk (xY x.cfg x.sto) x.next)):=by
 by_cases hv:(kS x.cfg&&iO x.sto)=true
 ·have hr1:xY x.cfg x.sto=ZV x.cfg x.sto:=if_pos hv;have hr2:EE x.cfg x.sto=jO x.sto.vers:=if_pos hv;rw[hr1,hr2,DW,hv];by_cases ha:tO x.ents=true
  ·have hs:=azN (ZV x.cfg x.sto) x.next ha;have he:decide (x.ref=jO x.sto.vers)=decide (jO x.sto.vers=x.ref):=by rw[bH];simp[eq_comm]
   rw[ha,he,wS _ _ (x.ents.all _),hs];simp only[eX,wS];rw[Bool.and_comm (decide (zG _=_)) (decide _),Bool.and_left_comm (!_)]
  ·simp[Bool.not_eq_true _▸ha]
 ·rw[Bool.not_eq_true]at hv;rw[DW,hv];rfl
def BA (x:KI)(hx:KG x):Fk 14 [nSys x] (vB (DW x)):=by
 rw[ayL];refine fE [] ntmps14 fun _ _=> ?_;have hro:=W9 x.cfg x.sto;have hrf:=XA x.cfg x.sto;simp;refine ck (OD x.cfg x.sto hx.cfg hx.sto) ?_;simp;apply gv<;>intro e
 ·have e':=e;simp at e';simp[e];grind
 ·have e':=e;simp at e';simp[e];refine ck (QX x.ents hx.ents hx.mem) ?_;simp;apply gv<;>intro f
  ·have f':=f;simp at f';simp[f];grind
  ·have f':=f;simp at f';simp[f];refine ck (bE x.next 1 9999) ?_;simp;apply gv<;>intro g
   ·have g':=g;simp at g';simp[g];omega
   ·have g':=g;simp at g';simp[e',f',g'];apply gv<;>intro b
    ·have b':=b;have hn:¬EE x.cfg x.sto=x.ref:=fun h=>by rw[h]at b;omega
     simp[e',f',g',b,hn]
    ·have b':=b;simp[b];apply gw<;>intro d
     ·have hn:¬(xY x.cfg x.sto).length=x.ents.length:=fun h=>by omega
      simp[e',f',g',hn]
     ·have hge:(xY x.cfg x.sto).length=x.ents.length:=by omega
      have hce:=hx.ents;have hre:(EE x.cfg x.sto).length=x.ref.length:=by omega
      generalize EE x.cfg x.sto=R at*
      generalize xY x.cfg x.sto=G at*
      simp[hge];refine wlt Nat (fun i=>([(1,.own (.bx true (nSys x))),(3,.val (bZ G)),(4,vV R),(6,vI i)],R.length-i,(i<=R.length)/\(R.take i=x.ref.take i))) (0) ⟨by omega,rfl⟩ ?_;rintro i ⟨h1,h2⟩;simp[b];apply gw<;>intro a
      ·obtain⟨c,hc⟩:=aQ (l:=R) (i:=i);obtain⟨v,hd⟩:=aQ (l:=x.ref) (i:=i);simp;refine wdr ?_;simp[hc,hd];apply gw<;>intro k
       ·simp at k;have hn:=aqV hc hd (by rintro rfl;simp at k);simp[e',f',g',hge,hn]
       ·simp at k;have hcd:c=v:=by cases c;cases v;simp_all
        simp;refine nxa (i+1) ⟨by omega,(QG h2 hc (by rw[hcd];exact hd))⟩
      ·simp at a;have hn:=abV h2;simp[hn];refine wlt Nat (fun i=>([(1,.own (.bx true (nSys x))),(3,.val (bZ G)),(4,vV R),(7,vI i)],(x.ents).length-i,(i<=(x.ents).length)/\(((x.ents).take i).all (entOk G x.next)=true))) (0) ⟨by omega,rfl⟩ ?_ (h0:=by simp[e,f,g,e',f',g',b,hge,hn]);rintro i ⟨h1,h2⟩;simp[hn];apply gw<;>intro a
       ·obtain⟨c,hc⟩:=aQ (l:=x.ents) (i:=i);have hcl:Qle c.mem:=k_Nat_le_trans (TL (aA hc)) hx.mem;obtain⟨p,hp⟩:∃p:L1->Bool,(fun y=>decide (y=c.mem))=p:=⟨_,rfl⟩;simp;refine wlt (Nat×Bool) (fun(k,s)=>([(1,.own (.bx true (nSys x))),(3,.val (bZ G)),(4,vV R),(7,vI i),(8,vB s),(9,vI k)],G.length-k,(k<=G.length)/\(s=(G.take k).any p))) ((0,false)) ⟨by omega,by simp⟩ ?_ (h0:=by simp[e,f,g,e',f',g',b,hge,hn,hc]);rintro⟨k,s⟩ ⟨h3,h4⟩;simp[hge,hn];apply gw<;>intro b2
        ·obtain⟨r,hr⟩:=aQ (l:=G) (i:=k);have hrl:=hro.2 r (aA hr);have hany:=avL p hr;rw[←h4]at hany;simp;refine wdt 15 ?_;simp;apply gv<;>intro w
         ·have w':=w;simp[w];refine nxa (k+1,true) ⟨by omega,by rw[hany,w];rfl⟩ (h3:=by simp[e,f,g,e',f',g',b,hge,hn,hc,hr,w])
         ·have w':=w;simp[hc,hr,w];refine cd (adF r c.mem (by omega) hcl) ?_;simp;refine nxa (k+1,decide (gW r c.mem=0)) ⟨by omega,by rw[hany,w',←hp];simp[aoG]⟩ (h3:=by simp[e,f,g,e',f',g',b,hge,hn,hc,hr,w])
        ·simp at b2;have hso:s=ax5 G c:=by rw[h4,bS,←hp];rfl
         simp;refine wdr ?_;simp;apply gv<;>intro w
         ·have w':=w;simp at w';have hn:=fK hc (P:=(entOk G x.next)) (by rw[entOk,←hso];simp_all);simp[e',f',g',hge,w,hn]
         ·have w':=w;simp at w';simp[hc,w];apply gw<;>intro q
          ·have hn:=fK hc (P:=(entOk G x.next)) (by rw[entOk,←hso];simp;omega);simp[e',f',g',hge,hn]
          ·simp at q;simp;refine nxa (i+1) ⟨by omega,(bV hc h2 (by rw[entOk,←hso];simp_all))⟩ (h3:=by simp[e,f,g,e',f',g',b,hge,hn,hc,w])
       ·simp at a;have hf:=iP h2 a;simp[e',f',g',hge,hf];omega
def inL (l:L1)(x:Int):Bool:=l.any fun y=>decide (x=y)
def xG (l:List Ent)(id:Int):L1:=match l.find? (fun e=>inL e.mem id)with|some e=>e.mem|none=>[]
variable {p:α->Bool}
def KU (hc:l[i]?=some c)(h:(l.take i).any p=false)(hp:p c):l.find? p=some c:=by
 have hi:=dM hc;have hd:l=l.take i++c::l.drop (i+1):=by rw[←drop_at hc,cZ]
 rw[hd,List.find?_append,nH.2 (fun x hx=>by have:=fD.1 h x hx;simpa using this),Option.none_or,List.find?_cons,hp]
def abK (h:l.any p=false):l.find? p=none:=nH.2 fun x hx=>by have:=fD.1 h x hx;simpa using this
def adP (l:L1)(x:Int):(l.any fun y=>decide (x=y))=inL l x:=rfl
def OO (l:L1)(x:Int):decide (0<=ix (fun y=>decide (y=x)) l)=inL l x:=by
 rw[bH,decide_eq_true_eq,iV,inL,cK,cK];simp only[eq_comm]
def yK (l:List Ent)(id:Int)(hl:Qle l)(hs:∀e∈l,Qle e.mem):Fk 23 [tN l,dI id] (vN (xG l id)):=by
 refine fE [15] ntmps23 fun _ _=> ?_;simp;refine wlt Nat (fun i=>([(1,vI id),(7,.val (tN l)),(8,vI l.length),(9,vI i)],l.length-i,(i<=l.length)/\((l.take i).any (fun e=>inL e.mem id)=false))) (0) ⟨by omega,rfl⟩ ?_;rintro i ⟨h1,h2⟩;simp;apply gw<;>intro a
 ·obtain⟨c,hc⟩:=aQ (l:=l) (i:=i);have hcl:=hs c (aA hc);obtain⟨r,hr⟩:∃r,inL c.mem id=r:=⟨_,rfl⟩;have hr2:(c.mem.any fun y=>decide (id=y))=r:=hr;simp[hc];first|refine ck (bC c.mem id hcl) ?_|refine ckz (bC c.mem id hcl) ?_
  simp[hr2];apply gw<;>intro b
  ·have hm:xG l id=c.mem:=by unfold xG;rw[KU hc h2 (by rw[hr,b])]
   simp[hm]
  ·simp;refine nxa (i+1) ⟨by omega,(gV hc h2 (by simp[hr,b]))⟩ (h3:=by simp[hc,hr2])
 ·simp at a;have hf:=mJ h2 a;have hm:xG l id=[]:=by unfold xG;rw[abK hf]
  try simp
  refine jV [] ((KE (L:=[(4,.own (dG []))]) (by simp)).trans (cO 4)) ?_;simp[hm]
def P7 {l:List Ent}(id:Int){n:Nat}(hs:∀e∈l,e.mem.length<=n):(xG l id).length<=n:=by
 unfold xG;split
 ·rename_i e he;exact hs e (List.mem_of_find?_eq_some he)
 ·simp
def wR (l:List Ent)(id:Int)(hl:Qle l)(hs:∀e∈l,Qle e.mem):Fk 16 [tN l,dI id] (wN (xG l id)):=by
 refine fE [] ntmps16 fun _ _=> ?_;simp;refine wlt Nat (fun i=>([(0,.val (tN l)),(1,vI id),(5,vI i)],l.length-i,(i<=l.length)/\((l.take i).any (fun e=>inL e.mem id)=false))) (0) ⟨by omega,rfl⟩ ?_;rintro i ⟨h1,h2⟩;simp;apply gw<;>intro a
 ·obtain⟨c,hc⟩:=aQ (l:=l) (i:=i);have hcl:=hs c (aA hc);simp[hc];first|refine ck (eT c.mem id hcl) ?_|refine ckz (eT c.mem id hcl) ?_
  simp;apply gw<;>intro b
  ·have hm:xG l id=c.mem:=by unfold xG;rw[KU hc h2 (by rw[←OO];exact decide_eq_true b)]
   simp[hc,hm];omega
  ·simp at b;simp;refine nxa (i+1) ⟨by omega,(gV hc h2 (by rw[←OO];exact decide_eq_false (by omega)))⟩ (h3:=by simp[hc])
 ·simp at a;have hf:=mJ h2 a;have hm:xG l id=[]:=by unfold xG;rw[abK hf]
  simp[hm]
def XU (p q:L1)(v:Ver):Bool:= !v.same&&((inL p v.a&&inL q v.b)||(inL p v.b&&inL q v.a))
abbrev v0:Ver:=⟨0,0,false,0⟩
def M9 (K:List Ver)(p q:L1):Ver×Bool:=match K.find? (XU p q)with|some v=>(v,true)|none=>(v0,false)
def ahX (x:KI)(a b:Int):Ver×Bool:=if DW x=true then M9 (nK x.sto.vers) (xG x.ents a) (xG x.ents b)else(v0,false)
def amR {x:KI}(h:DW x):kS x.cfg=true/\iO x.sto=true/\tO x.ents=true:=by
 simp only[DW,k_Bool_and_eq_true]at h;exact⟨h.1.1.1.1.1.1,h.1.1.1.1.1.2,h.1.1.1.1.2⟩
def zB (x:KI)(u w:Int)(hx:KG x):Fk 7 [nSys x,dI u,dI w] (.tup [.val (kH (ahX x u w).1),.val (dB (ahX x u w).2)]):=by
 refine fE [10] ntmps7 fun _ _=> ?_;have hme:∀e∈x.ents,Qle e.mem:=fun e he=>k_Nat_le_trans (TL he) hx.mem;simp;first|refine ck (A7 x hx) ?_|refine ckz (A7 x hx) ?_
 simp;apply gw<;>intro e
 ·simp at e;have hb:ahX x u w=(v0,false):=if_neg (by simp[e]);simp[hb]
 ·simp at e;have ho:DW x:=by simpa using e
  have hsv:=PD (amR ho).2.1;have hb:ahX x u w=M9 (nK x.sto.vers) (xG x.ents u) (xG x.ents w):=if_pos ho;have hk8:=aiN x.sto.vers hsv.2.2.2;have hpl:=P7 u hme;have hql:=P7 w hme;simp;refine wdt 8 ?_;simp;first|refine cd (yK x.ents u hx.ents hme) ?_|refine cdz (yK x.ents u hx.ents hme) ?_
  simp;first|refine cd (yK x.ents w hx.ents hme) ?_|refine cdz (yK x.ents w hx.ents hme) ?_
  simp;first|refine ck (uW x.sto.vers (by omega) hsv.2.2.1) ?_|refine ckz (uW x.sto.vers (by omega) hsv.2.2.1) ?_
  generalize xG x.ents u=p at*
  generalize xG x.ents w=q at*
  generalize nK x.sto.vers=K at*
  simp;refine jV [] (sD.trans (cO 10) (cO 11)) ?_;simp;refine wlt Nat (fun i=>([(3,.own (.bx true (nSys x))),(6,.own (.bx true (kH v0))),(8,vN p),(9,vN q),(33,vV K),(34,vI K.length),(35,vI i)],K.length-i,(i<=K.length)/\((K.take i).any (XU p q)=false))) (0) ⟨by omega,rfl⟩ ?_;rintro i ⟨h1,h2⟩;simp;apply gw<;>intro a
  ·obtain⟨c,hc⟩:=aQ (l:=K) (i:=i);simp[hc];apply gw<;>intro d
   ·simp;refine nxa (i+1) ⟨by omega,(gV hc h2 (by simp[XU,d]))⟩ (h3:=by simp[hc,adP])
   ·simp;first|refine ck (bC p c.a) ?_|refine ckz (bC p c.a) ?_
    simp[adP];apply gv<;>intro f
    ·have f':=f;simp[f];first|refine ck (bC q c.b) ?_|refine ckz (bC q c.b) ?_
     simp[adP];apply gv<;>intro g
     ·have g':=g;have hr:M9 K p q=(c,true):=by unfold M9;rw[KU hc h2 (by simp[XU,d,f,g])]
      simp[g,hb,hr]
     ·have g':=g;simp[g];first|refine ck (bC p c.b) ?_|refine ckz (bC p c.b) ?_
      simp[adP];apply gv<;>intro k
      ·have k':=k;simp[k];first|refine ck (bC q c.a) ?_|refine ckz (bC q c.a) ?_
       simp[adP];apply gw<;>intro m
       ·have hr:M9 K p q=(c,true):=by unfold M9;rw[KU hc h2 (by simp[XU,d,k,m])]
        simp[hb,hr]
       ·simp;refine nxa (i+1) ⟨by omega,(gV hc h2 (by simp[XU,d,f,g,k,m]))⟩ (h3:=by simp[hc,adP,f,g,k])
      ·have k':=k;simp[k];refine nxa (i+1) ⟨by omega,(gV hc h2 (by simp[XU,d,f,g,k]))⟩ (h3:=by simp[hc,adP,f,g,k])
    ·have f':=f;simp[f];first|refine ck (bC p c.b) ?_|refine ckz (bC p c.b) ?_
     simp[adP];apply gv<;>intro k
     ·have k':=k;simp[k];first|refine ck (bC q c.a) ?_|refine ckz (bC q c.a) ?_
      simp[adP];apply gw<;>intro m
      ·have hr:M9 K p q=(c,true):=by unfold M9;rw[KU hc h2 (by simp[XU,d,k,m])]
       simp[hb,hr]
      ·simp;refine nxa (i+1) ⟨by omega,(gV hc h2 (by simp[XU,d,f,k,m]))⟩ (h3:=by simp[adP,f,k])
     ·have k':=k;simp[k];refine nxa (i+1) ⟨by omega,(gV hc h2 (by simp[XU,d,f,k]))⟩ (h3:=by simp[adP,f,k])
  ·simp at a;have hf:=mJ h2 a;have hr:M9 K p q=(v0,false):=by unfold M9;rw[abK hf]
   simp[hb,hr]
def zD (x:KI)(u w:Int)(hx:KG x):Fk 5 [nSys x,dI u,dI w] (.tup [.val (kH (ahX x u w).1),.val (dB (ahX x u w).2)]):=by
 refine fE [12,200001] ntmps5 fun _ _=> ?_;have hme:∀e∈x.ents,Qle e.mem:=fun e he=>k_Nat_le_trans (TL he) hx.mem;simp;first|refine ck (BA x hx) ?_|refine ckz (BA x hx) ?_
 simp;apply gw<;>intro e
 ·simp at e;have hb:ahX x u w=(v0,false):=if_neg (by simp[e]);simp[hb]
 ·simp at e;have ho:DW x:=by simpa using e
  have hsv:=PD (amR ho).2.1;have hb:ahX x u w=M9 (nK x.sto.vers) (xG x.ents u) (xG x.ents w):=if_pos ho;have hk8:=aiN x.sto.vers hsv.2.2.2;have hpl:=P7 u hme;have hql:=P7 w hme;simp;first|refine ck (uX x.sto.vers (by omega) hsv.2.2.1) ?_|refine ckz (uX x.sto.vers (by omega) hsv.2.2.1) ?_
  simp;first|refine ck (wR x.ents u hx.ents hme) ?_|refine ckz (wR x.ents u hx.ents hme) ?_
  simp;first|refine ck (wR x.ents w hx.ents hme) ?_|refine ckz (wR x.ents w hx.ents hme) ?_
  generalize xG x.ents u=p at*
  generalize xG x.ents w=q at*
  generalize nK x.sto.vers=K at*
  simp;refine jV [] (sD.trans (cO 10) (cO 11)) ?_;simp;refine wlt Nat (fun i=>([(3,.own (.bx true (nSys x))),(6,.own (.bx true (kH v0))),(8,vV K),(10,vN p),(11,vN q),(12,vI i)],K.length-i,(i<=K.length)/\((K.take i).any (XU p q)=false))) (0) ⟨by omega,rfl⟩ ?_;rintro i ⟨h1,h2⟩;simp;apply gw<;>intro a
  ·obtain⟨c,hc⟩:=aQ (l:=K) (i:=i);simp;refine an0 (fun(y:Bool)=>[(3,.own (.bx true (nSys x))),(6,.own (.bx true (kH v0))),(8,vV K),(10,vN p),(11,vN q),(12,vI i),(13,vB y)]) (fun(y:Bool)=>(y=(inL p c.a&&inL q c.b))) ?_ ?_
   ·simp[hc];first|refine ck (eT p c.a (by omega)) ?_|refine ckz (eT p c.a (by omega)) ?_
    simp[OO];apply gv<;>intro f
    ·have f':=f;simp[hc,f];first|refine ck (eT q c.b (by omega)) ?_|refine ckz (eT q c.b (by omega)) ?_
     simp[OO];refine jn (inL q c.b) (by simp[f])
    ·have f':=f;simp[f];refine jn (false) (by simp[f])
   rintro y h5;refine MX (fun(z:Bool)=>[(3,.own (.bx true (nSys x))),(6,.own (.bx true (kH v0))),(8,vV K),(10,vN p),(11,vN q),(12,vI i),(13,vB y),(14,vB z)]) (fun(z:Bool)=>(z=(inL q c.a&&inL p c.b))) ?_ ?_
   ·simp[hc];first|refine ck (eT q c.a (by omega)) ?_|refine ckz (eT q c.a (by omega)) ?_
    simp[OO];apply gv<;>intro g
    ·have g':=g;simp[hc,g];first|refine ck (eT p c.b (by omega)) ?_|refine ckz (eT p c.b (by omega)) ?_
     simp[OO];refine jn (inL p c.b) (by simp[g])
    ·have g':=g;simp[g];refine jn (false) (by simp[g])
   rintro z h6;have hB:XU p q c=(!c.same&&(y||z)):=by rw[XU,h5,h6,Bool.and_comm (inL p c.b)]
   simp[hc];apply gv<;>intro k
   ·have k':=k;simp at k';simp[k];apply gv<;>intro m
    ·have m':=m;have hr:M9 K p q=(c,true):=by unfold M9;rw[KU hc h2 (by rw[hB,k,m];rfl)]
     simp[hc,m,hb,hr]
    ·have m':=m;simp[m];apply gw<;>intro n
     ·have hr:M9 K p q=(c,true):=by unfold M9;rw[KU hc h2 (by rw[hB,k,n,Bool.or_true];rfl)]
      simp[hc,hb,hr]
     ·simp;refine nxa (i+1) ⟨by omega,(gV hc h2 (by rw[hB,m,n];simp))⟩ (h3:=by simp[hc,OO,k,m])
   ·have k':=k;simp at k';simp[k];refine nxa (i+1) ⟨by omega,(gV hc h2 (by rw[hB,k];rfl))⟩ (h3:=by simp[OO,k])
  ·simp at a;have hf:=mJ h2 a;have hr:M9 K p q=(v0,false):=by unfold M9;rw[abK hf]
   simp[hb,hr]
def BR (x:KI)(u w:Int)(hb:aDO x):Fk 3 [nSys x,dI u,dI w] (vB true):=by
 refine fE [] ntmps3 fun _ _=> ?_;simp;refine fC (YE x 1048576 hb (by omega)) (by simp) ?_;rintro r ⟨v,rfl,hv,hf⟩;refine⟨by simp,?_⟩;simp;apply gw<;>intro e
 ·simp
 ·simp at e;have hx:=hf (by omega);simp;first|refine ck (sK x hx) ?_|refine ckz (sK x hx) ?_
  simp;first|refine ck (zD x u w hx) ?_|refine ckz (zD x u w hx) ?_
  obtain⟨r,hr⟩:∃r,ahX x u w=r:=⟨_,rfl⟩;simp[hr];first|refine ck (sK x hx) ?_|refine ckz (sK x hx) ?_
  simp;first|refine ck (zB x u w hx) ?_|refine ckz (zB x u w hx) ?_
  simp[hr];first|refine ck (zT r.1) ?_|refine ckz (zT r.1) ?_
  simp;refine wdr ?_;simp;first|refine cd (Z8 x hx) ?_|refine cdz (Z8 x hx) ?_
  simp;first|refine cd (JV x hx) ?_|refine cdz (JV x hx) ?_
  simp
end Go.Proofs.YtigjbamofhdchaaGreatDoor
end
section
namespace Go.Proofs.YtigjbamofhdchaaGreatDoor
open Go.Dv Go.Pl Go.Proofs.Tryz
open Go.ChangeShapes Go.WideShapes Go.ChangeAt Go.RowKit Go.Er
def aER:(prog.readableRec 36&&decide (36<prog.types.size))=true:=by kernel_rfl
def ay4:(prog.readableRec 3&&decide (3<prog.types.size))=true:=by kernel_rfl
def aEQ:(prog.readableRec 338&&decide (338<prog.types.size))=true:=by kernel_rfl
def pf2:laidOutB prog=true:=by kernel_rfl
def pf3:mapsRowed prog=true:=by kernel_rfl
def pf7:(prog.stops==[])=true:=by kernel_rfl
def pf9:(prog.stopKnobs==[])=true:=by kernel_rfl
end Go.Proofs.YtigjbamofhdchaaGreatDoor
end
