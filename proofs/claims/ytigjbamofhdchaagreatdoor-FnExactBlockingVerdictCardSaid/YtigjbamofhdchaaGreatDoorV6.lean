/- Lemmas and walks that the law leans on, part 6. No condition. -/
import Derived.Test.YtigjbamofhdchaaGreatDoorV5
set_option linter.unusedVariables false
set_option linter.defProp false
set_option linter.unusedSimpArgs false
set_option linter.unusedSectionVars false
set_option maxRecDepth 10000
set_option maxHeartbeats 1000000
section
namespace Go.Proofs.YtigjbamofhdchaaGreatDoor
open Go.Dv Go.Pl Go.Proofs.Tryz
abbrev oBs (l:Str):D:= .sl (some 5) (l.map dU)
abbrev dC (c:UInt8):D:= .one (.int .u8 c.toNat)
def OE (c:UInt8):Fk 368 [dC c] (vB (wL c)):=by
 refine fE [] ntmps368 fun _ _=> ?_;simp;apply gv<;>intro e
 ·have e':=e;simp[e];apply gv<;>intro f
  ·have f':=f;simp[f];grind[wL]
  ·have f':=f;simp at f';simp[f];apply gv<;>intro g
   ·have g':=g;simp[g];apply gv<;>intro g1
    ·have g1':=g1;simp[g1];omega
    ·have g1':=g1;simp at g1';simp[g1];apply gv<;>intro g2
     ·have g2':=g2;simp[g2];grind[wL]
     ·have g2':=g2;simp at g2';simp[g2];omega
   ·have g':=g;simp at g';simp[g];apply gv<;>intro g3
    ·have g3':=g3;simp[g3];omega
    ·have g3':=g3;simp at g3';simp[g3];omega
 ·have e':=e;simp at e';simp[e];apply gv<;>intro g4
  ·have g4':=g4;simp[g4];apply gv<;>intro g5
   ·have g5':=g5;simp[g5];grind[wL]
   ·have g5':=g5;simp at g5';simp[g5];apply gv<;>intro g6
    ·have g6':=g6;simp[g6];grind[wL]
    ·have g6':=g6;simp at g6';simp[g6];omega
  ·have g4':=g4;simp at g4';simp[g4];apply gv<;>intro g7
   ·have g7':=g7;simp[g7];grind[wL]
   ·have g7':=g7;simp at g7';simp[g7];grind[wL]
def wQ (s:Str)(hs:Qle s:=by first|omega|grind):Fk 326 [dS s] (vS (vG s)):=by
 refine fE [] ntmps326 fun _ _=> ?_;simp;refine wlt (Nat×Str) (fun(i,o)=>([(0,vS s),(3,.own (oBs o)),(4,vI i)],s.length-i,(i<=s.length)/\(o=(s.take i).map iL)/\(o.length=i))) ((0,[])) ⟨by omega,rfl,rfl⟩ ?_;rintro⟨i,o⟩ ⟨h1,h2,h3⟩;simp;apply gw<;>intro a
 ·obtain⟨c,hc⟩:=aQ (l:=s) (i:=i);have hm:=yE iL hc;rw[←h2]at hm;simp[hc];apply gv<;>intro e
  ·have e':=e;simp[e];apply gw<;>intro f
   ·have hu:=abN (c:=c) (by omega) (by omega);simp;refine nxd (i+1,o++[iL c]) ⟨by omega,by rw[hm],by simp;omega⟩ (h3:=by simp[hc,e,hu])
   ·simp at f;have hu:=P6 (c:=c);simp;refine nxb (i+1,o++[iL c]) ⟨by omega,by rw[hm],by simp;omega⟩ (h3:=by simp[hc,e,hu])
  ·have e':=e;simp at e';have hu:=P6 (c:=c);simp[e];refine nxb (i+1,o++[iL c]) ⟨by omega,by rw[hm],by simp;omega⟩ (h3:=by simp[hc,e,hu])
 ·simp at a;rw[bS a]at h2;simp;grind[vG]
def F3 (s:Str)(hs:Qle s):Fk 325 [dS s] (vS (xZ s)):=by
 refine fE [] ntmps325 fun _ _=> ?_;simp;refine wlt (Nat×Str) (fun(i,o)=>([(0,vS s),(3,.own (oBs o)),(4,vI i)],s.length-i,(i<=s.length)/\(o=(s.take i).flatMap AQ)/\(o.length<=i))) ((0,[])) ⟨by omega,rfl,by simp⟩ ?_;rintro⟨i,o⟩ ⟨h1,h2,h3⟩;simp;apply gw<;>intro a
 ·obtain⟨c,hc⟩:=aQ (l:=s) (i:=i);have hm:=aiA AQ hc;rw[←h2]at hm;simp[hc];refine ck (OE _) ?_;simp;apply gv<;>intro e
  ·have e':=e;have hu:AQ c=[c]:=if_pos (.inl e);simp[hc,e];refine nxb (i+1,o++[c]) ⟨by omega,by rw[hm,hu],by simp;omega⟩
  ·have e':=e;simp[hc,e];apply gw<;>intro f
   ·have hu:AQ c=[c]:=if_pos (.inr (by omega));simp[hc];refine nxb (i+1,o++[c]) ⟨by omega,by rw[hm,hu],by simp;omega⟩
   ·simp[hc];apply gw<;>intro g
    ·have hu:AQ c=[32]:=by rw[AQ,if_neg (fun h=>by rcases h with h|h;(rw[e']at h;cases h);omega),if_pos (by omega)]
     simp;refine nxb (i+1,o++[32]) ⟨by omega,by rw[hm,hu],by simp;omega⟩
    ·have hu:AQ c=[]:=by rw[AQ,if_neg (fun h=>by rcases h with h|h;(rw[e']at h;cases h);omega),if_neg (by omega)]
     simp;refine nxa (i+1,o) ⟨by omega,by rw[hm,hu];simp,by omega⟩
 ·simp at a;rw[bS a]at h2;simp;grind[xZ]
def zU (s:Str)(hs:Qle s):Fk 324 [dS s] (vS (C8 s)):=by
 refine fE [] ntmps324 fun _ _=> ?_;simp;refine wlt (Nat×Str) (fun(i,o)=>([(0,vS s),(3,.own (oBs o)),(4,vI i)],s.length-i,(i<=s.length)/\(o=loopN i ([]) (qQ s))/\(o.length<=2*i)/\(i=0->o=[]))) ((0,[])) ⟨by omega,rfl,by simp,by simp⟩ ?_;rintro⟨i,o⟩ ⟨h1,h2,h3,h4⟩;simp;apply gw<;>intro a
 ·have hs:=aL i ([]) (qQ s);rw[←h2]at hs;obtain⟨c,hc⟩:=aQ (l:=s) (i:=i);have hg:=WA hc;simp[hc];apply gw<;>intro b
  ·have hu:qQ s i o=(if 0<o.length/\(s.getD (i-1) 0).toNat=32 then o++[32]else o)++[c]:=by rw[qQ,hg,if_neg (by omega)]
   simp;apply gv<;>intro e
   ·have e':=e;have hi:0<i:=by rcases kQ i with h|h;(have:=h4 h;subst this;simp at e);exact h
    obtain⟨d,hd⟩:=aQ (l:=s) (i:=i-1);have hdg:=WA hd;simp[e,hd];iterate 2 refine ai ?_
    apply gw<;>intro f
    ·have hv:qQ s i o=o++[32]++[c]:=by rw[hu,if_pos ⟨by simpa using e,by rw[hdg];omega⟩]
     simp[hc];refine nxd (i+1,o++[32]++[c]) ⟨by omega,by rw[hs,hv],by simp;omega,by omega⟩
    ·have hv:qQ s i o=o++[c]:=by rw[hu,if_neg (by (try unfold Qle);rw[hdg];omega)]
     simp[hc];refine nxb (i+1,o++[c]) ⟨by omega,by rw[hs,hv],by simp;omega,by omega⟩
   ·have e':=e;simp at e';have hv:qQ s i o=o++[c]:=by rw[hu,if_neg (by simp_all)]
    simp[hc,e];refine nxb (i+1,o++[c]) ⟨by omega,by rw[hs,hv],by simp;omega,by omega⟩
  ·have hu:qQ s i o=o:=by rw[qQ,hg,if_pos (by omega)]
   simp;refine nxa (i+1,o) ⟨by omega,by rw[hs,hu],by omega,by omega⟩
 ·simp at a;have hi:s.length=i:=by omega
  subst hi;simp;grind[C8]
def GK (s:Str):(normal s).length<=2*s.length:=by
 have h1:=UO (xZ (vG s));have h2:=GQ (vG s);have h3:=BX s;unfold normal;omega
def qX (s:Str)(hs:Qle s:=by first|omega|grind):Fk 269 [dS s] (vS (normal s)):=by
 refine fE [] ntmps269 fun _ _=> ?_;simp;refine ck (wQ _) ?_;simp;first|refine ck (F3 _ (by have:=BX s;omega)) ?_|refine ckz (F3 _ (by have:=BX s;omega)) ?_
 simp;first|refine ck (zU _ (by have:=GQ (vG s);have h2:=BX s;omega)) ?_|refine ckz (zU _ (by have:=GQ (vG s);have h2:=BX s;omega)) ?_
 simp;grind[normal]
variable {i:Nat}
def awD {l:Str}{c:UInt8}(h:l[i]?=some c):l.drop i=c::l.drop (i+1):=drop_at h
def afA (s:Str)(c:UInt8)(hs:Qle s):Fk 272 [dS s,dC c] (.own (EK (acR c s))):=by
 refine fE [] ntmps272 fun _ _=> ?_;simp;refine wlt (Nat×Nat×List Str) (fun(i,f,o)=>([(0,vS s),(1,.val (dC c)),(5,.own (EK o)),(6,vI f),(7,vI i)],s.length-i,(i<=s.length)/\f<=i/\o.length<=i/\(o++R8 c ((s.drop f).take (i-f)) (s.drop i)=acR c s))) ((0,0,[])) ⟨by simp,by simp,by simp,by simp[acR]⟩ ?_;rintro⟨i,f,o⟩ ⟨h1,h2,h3,h4⟩;simp;apply gw<;>intro a
 ·obtain⟨d,hd⟩:=aQ (l:=s) (i:=i);rw[awD hd]at h4;simp[hd];apply gw<;>intro b
  ·simp;iterate 4 refine ai ?_
   refine nx (i+1,i+1,o++[(s.drop f).take (i-f)]) ⟨by omega,by omega,by simp;omega,by simpa[R8,b]using h4⟩
  ·have he:(s.drop f).take (i+1-f)=(s.drop f).take (i-f)++[d]:=by rw[show i+1-f=(i-f)+1 by omega];exact dX (by rw[dR,show f+(i-f)=i by omega];exact hd)
   simp;refine nxa (i+1,f,o) ⟨by omega,by omega,by omega,by rw[he];simpa[R8,b]using h4⟩
 ·simp at a;have:i=s.length:=by omega
  subst this;rw[List.drop_length,take_drop_len]at h4;simp;iterate 2 refine ai ?_
  rw[←h4];simp[R8]
def V3 (c:UInt8):Fk 332 [dC c] (vI (aM c)):=by
 refine fE [] ntmps332 fun _ _=> ?_;have hf:vG [c]=[iL c]:=rfl;simp;refine ck (wQ [c]) ?_;simp[hf];apply gw<;>intro a1
 ·have b1:(iL c).toNat=98:=by rw[a1];rfl
  simp[a1];all_goals simp[aM,codeOf,b1]
 ·have b1:¬(iL c).toNat=98:=fun h=>a1 (k_UInt8_toNat_inj.1 h);simp[a1];apply gw<;>intro a2
  ·have b2:(iL c).toNat=102:=by rw[a2];rfl
   simp[a2];all_goals simp[aM,codeOf,b2]
  ·have b2:¬(iL c).toNat=102:=fun h=>a2 (k_UInt8_toNat_inj.1 h);simp[a2];apply gw<;>intro a3
   ·have b3:(iL c).toNat=112:=by rw[a3];rfl
    simp[a3];all_goals simp[aM,codeOf,b3]
   ·have b3:¬(iL c).toNat=112:=fun h=>a3 (k_UInt8_toNat_inj.1 h);simp[a3];apply gw<;>intro a4
    ·have b4:(iL c).toNat=118:=by rw[a4];rfl
     simp;all_goals simp[aM,codeOf,b4]
    ·have b4:¬(iL c).toNat=118:=fun h=>a4 (k_UInt8_toNat_inj.1 h);simp[a4];apply gw<;>intro a5
     ·have b5:(iL c).toNat=99:=by rw[a5];rfl
      simp[a5];all_goals simp[aM,codeOf,b5]
     ·have b5:¬(iL c).toNat=99:=fun h=>a5 (k_UInt8_toNat_inj.1 h);simp[a5];apply gw<;>intro a6
      ·have b6:(iL c).toNat=103:=by rw[a6];rfl
       simp[a6];all_goals simp[aM,codeOf,b6]
      ·have b6:¬(iL c).toNat=103:=fun h=>a6 (k_UInt8_toNat_inj.1 h);simp[a6];apply gw<;>intro a7
       ·have b7:(iL c).toNat=106:=by rw[a7];rfl
        simp[a7];all_goals simp[aM,codeOf,b7]
       ·have b7:¬(iL c).toNat=106:=fun h=>a7 (k_UInt8_toNat_inj.1 h);simp[a7];apply gw<;>intro a8
        ·have b8:(iL c).toNat=107:=by rw[a8];rfl
         simp[a8];all_goals simp[aM,codeOf,b8]
        ·have b8:¬(iL c).toNat=107:=fun h=>a8 (k_UInt8_toNat_inj.1 h);simp[a8];apply gw<;>intro a9
         ·have b9:(iL c).toNat=113:=by rw[a9];rfl
          simp[a9];all_goals simp[aM,codeOf,b9]
         ·have b9:¬(iL c).toNat=113:=fun h=>a9 (k_UInt8_toNat_inj.1 h);simp[a9];apply gw<;>intro a10
          ·have b10:(iL c).toNat=115:=by rw[a10];rfl
           simp[a10];all_goals simp[aM,codeOf,b10]
          ·have b10:¬(iL c).toNat=115:=fun h=>a10 (k_UInt8_toNat_inj.1 h);simp[a10];apply gw<;>intro a11
           ·have b11:(iL c).toNat=120:=by rw[a11];rfl
            simp[a11];all_goals simp[aM,codeOf,b11]
           ·have b11:¬(iL c).toNat=120:=fun h=>a11 (k_UInt8_toNat_inj.1 h);simp[a11];apply gw<;>intro a12
            ·have b12:(iL c).toNat=122:=by rw[a12];rfl
             simp;all_goals simp[aM,codeOf,b12]
            ·have b12:¬(iL c).toNat=122:=fun h=>a12 (k_UInt8_toNat_inj.1 h);simp[a12];apply gw<;>intro a13
             ·have b13:(iL c).toNat=100:=by rw[a13];rfl
              simp[a13];all_goals simp[aM,codeOf,b13]
             ·have b13:¬(iL c).toNat=100:=fun h=>a13 (k_UInt8_toNat_inj.1 h);simp[a13];apply gw<;>intro a14
              ·have b14:(iL c).toNat=116:=by rw[a14];rfl
               simp;all_goals simp[aM,codeOf,b14]
              ·have b14:¬(iL c).toNat=116:=fun h=>a14 (k_UInt8_toNat_inj.1 h);simp[a14];apply gw<;>intro a15
               ·have b15:(iL c).toNat=108:=by rw[a15];rfl
                simp;all_goals simp[aM,codeOf,b15]
               ·have b15:¬(iL c).toNat=108:=fun h=>a15 (k_UInt8_toNat_inj.1 h);simp[a15];apply gw<;>intro a16
                ·have b16:(iL c).toNat=109:=by rw[a16];rfl
                 simp[a16];all_goals simp[aM,codeOf,b16]
                ·have b16:¬(iL c).toNat=109:=fun h=>a16 (k_UInt8_toNat_inj.1 h);simp[a16];apply gw<;>intro a17
                 ·have b17:(iL c).toNat=110:=by rw[a17];rfl
                  simp;all_goals simp[aM,codeOf,b17]
                 ·have b17:¬(iL c).toNat=110:=fun h=>a17 (k_UInt8_toNat_inj.1 h);simp[a17];apply gw<;>intro a18
                  ·have b18:(iL c).toNat=114:=by rw[a18];rfl
                   simp;all_goals simp[aM,codeOf,b18]
                  ·have b18:¬(iL c).toNat=114:=fun h=>a18 (k_UInt8_toNat_inj.1 h);simp[a18];apply gw<;>intro a19
                   ·have b19:(iL c).toNat=97:=by rw[a19];rfl
                    simp[a19];all_goals simp[aM,codeOf,b19]
                   ·have b19:¬(iL c).toNat=97:=fun h=>a19 (k_UInt8_toNat_inj.1 h);simp[a19];apply gw<;>intro a20
                    ·have b20:(iL c).toNat=101:=by rw[a20];rfl
                     simp[a20];all_goals simp[aM,codeOf,b20]
                    ·have b20:¬(iL c).toNat=101:=fun h=>a20 (k_UInt8_toNat_inj.1 h);simp[a20];apply gw<;>intro a21
                     ·have b21:(iL c).toNat=105:=by rw[a21];rfl
                      simp[a21];all_goals simp[aM,codeOf,b21]
                     ·have b21:¬(iL c).toNat=105:=fun h=>a21 (k_UInt8_toNat_inj.1 h);simp[a21];apply gw<;>intro a22
                      ·have b22:(iL c).toNat=111:=by rw[a22];rfl
                       simp[a22];all_goals simp[aM,codeOf,b22]
                      ·have b22:¬(iL c).toNat=111:=fun h=>a22 (k_UInt8_toNat_inj.1 h);simp[a22];apply gw<;>intro a23
                       ·have b23:(iL c).toNat=117:=by rw[a23];rfl
                        simp[a23];all_goals simp[aM,codeOf,b23]
                       ·have b23:¬(iL c).toNat=117:=fun h=>a23 (k_UInt8_toNat_inj.1 h);simp[a23];apply gw<;>intro a24
                        ·have b24:(iL c).toNat=121:=by rw[a24];rfl
                         simp;all_goals simp[aM,codeOf,b24]
                        ·have b24:¬(iL c).toNat=121:=fun h=>a24 (k_UInt8_toNat_inj.1 h);simp[a24];apply gw<;>intro a25
                         ·have b25:(iL c).toNat=104:=by rw[a25];rfl
                          simp[a25];all_goals simp[aM,codeOf,b25]
                         ·have b25:¬(iL c).toNat=104:=fun h=>a25 (k_UInt8_toNat_inj.1 h);simp[a25];apply gw<;>intro a26
                          ·have b26:(iL c).toNat=119:=by rw[a26];rfl
                           simp;all_goals simp[aM,codeOf,b26]
                          ·have b26:¬(iL c).toNat=119:=fun h=>a26 (k_UInt8_toNat_inj.1 h);simp[a26];all_goals simp[aM,codeOf,b1,b2,b3,b4,b5,b6,b7,b8,b9,b10,b11,b12,b13,b14,b15,b16,b17,b18,b19,b20,b21,b22,b23,b24,b25,b26]
def I7 {α:Type}{l:List α}{c:α}(h:l[i]?=some c):c∈l:=aA h
def F4 (s:Str)(hs:s.length<=65536:=by first|omega|grind):Fk 200 [dS s] (vR (tokens s)):=by
 refine fE [] ntmps200 fun _ _=> ?_;simp;refine ck (qX _) ?_;simp;refine ck (afA (normal s) 32 (by have:=GK s;omega)) ?_;have hL:=(akG 32 (normal s)).1;have hn:=GK s;generalize hcs:acR 32 (normal s)=L at hL|-
 simp;refine wld [3] (Nat×List Str) (fun(i,o)=>([(3,vR o),(4,.own (EK L)),(5,vI i)],L.length-i,(i<=L.length)/\(o=(L.take i).foldl xA [])/\(o.length<=i))) ((0,[])) ⟨by omega,rfl,by simp⟩ ?_;rintro⟨i,o⟩ ⟨h1,h2,h3⟩;simp;apply gw<;>intro a
 ·obtain⟨c,hc⟩:=aQ (l:=L) (i:=i);have hm:=fA xA [] hc;rw[←h2]at hm;simp[hc];apply gw<;>intro b
  ·have hu:xA o c=jP o c false:=if_pos b;have hl:=rT o c false;simp[hc];refine ck (yB _ _ _) ?_;simp;refine ai ?_;refine nxc (i+1,jP o c false) [3] ⟨by omega,by rw[hm,hu],by omega⟩
  ·have hu:xA o c=o:=if_neg (by simp[b]);simp;refine ai ?_;refine nxc (i+1,o) [3] ⟨by omega,by rw[hm,hu],by omega⟩
 ·simp at a;rw[bS a]at h2;simp;simp[tokens,hcs,←h2]
def afB (l:List Str)(x:Str)(hl:Qle l:=by first|omega|grind):Fk 372 [mF l,dS x] (vB (l.any fun y=>decide (y=x))):=by
 refine fE [] ntmps372 fun _ _=> ?_;simp;refine wlt Nat (fun i=>([(0,vR l),(1,vS x),(5,vI i)],l.length-i,(i<=l.length)/\((l.take i).any (fun y=>decide (y=x))=false))) (0) ⟨by omega,rfl⟩ ?_;rintro i ⟨h1,h2⟩;simp;apply gw<;>intro a
 ·obtain⟨c,hc⟩:=aQ (l:=l) (i:=i);simp[hc];apply gw<;>intro b
  ·have hn:=aqI hc (P:=(fun y=>decide (y=x))) (by simp[b]);simp[hn]
  ·simp;refine nxa (i+1) ⟨by omega,(gV hc h2 (by simp[b]))⟩
 ·simp at a;have hf:=mJ h2 a;simp[hf]
def N8 (l m:List Str)(hl:l.length<=262144)(hm:m.length<=262144):Fk 330 [mF l,mF m] (vR (common l m)):=by
 refine fE [] ntmps330 fun _ _=> ?_;simp;refine wld [5] (Nat×List Str) (fun(i,o)=>([(0,vR l),(1,vR m),(5,vR o),(6,vI i)],l.length-i,(i<=l.length)/\(o=(l.take i).foldl (G7 m) [])/\(o.length<=i))) ((0,[])) ⟨by omega,rfl,by simp⟩ ?_;rintro⟨i,o⟩ ⟨h1,h2,h3⟩;simp;apply gw<;>intro a
 ·obtain⟨c,hc⟩:=aQ (l:=l) (i:=i);have hq:=fA (G7 m) [] hc;rw[←h2]at hq;simp[hc];refine ck (afB _ _) ?_;simp;apply gw<;>intro b
  ·simp at b;have hu:G7 m o c=jP o c false:=if_pos (by simpa using b);have hp:=rT o c false;simp[hc];refine ck (yB _ _ _) ?_;simp;refine ai ?_;refine nxc (i+1,jP o c false) [5] ⟨by omega,by rw[hq,hu],by omega⟩
  ·simp at b;have hu:G7 m o c=o:=if_neg (fun h=>by obtain⟨y,h1,h2⟩:=cK.1 h;exact b y h1 (by simpa using h2));simp;refine ai ?_;refine nxc (i+1,o) [5] ⟨by omega,by rw[hq,hu],by omega⟩
 ·simp at a;rw[bS a]at h2;simp;grind[common]
def Q0 (l m:List Str)(hl:l.length<=262144)(hm:m.length<=262144):Fk 331 [mF l,mF m] (vR (XN l m)):=by
 refine fE [] ntmps331 fun _ _=> ?_;simp;refine wld [5] (Nat×List Str) (fun(i,o)=>([(0,vR l),(1,vR m),(5,vR o),(6,vI i)],l.length-i,(i<=l.length)/\(o=(l.take i).foldl xB [])/\(o.length<=i))) ((0,[])) ⟨by omega,rfl,by simp⟩ ?_;rintro⟨i,o⟩ ⟨h1,h2,h3⟩;simp;apply gw<;>intro a
 ·obtain⟨c,hc⟩:=aQ (l:=l) (i:=i);have hq:=fA xB [] hc;rw[←h2]at hq;have hp:=rT o c false;simp[hc];refine ck (yB _ _ _) ?_;simp;refine ai ?_;refine nxc (i+1,jP o c false) [5] ⟨by omega,by rw[hq];rfl,by omega⟩
 ·simp at a;rw[bS a]at h2;simp;refine wlt (Nat×List Str) (fun(i,q)=>([(1,vR m),(5,vR q),(7,vI i)],m.length-i,(i<=m.length)/\(q=(m.take i).foldl xB o)/\(q.length<=o.length+i))) ((0,o)) ⟨by omega,rfl,by omega⟩ ?_;rintro⟨i,q⟩ ⟨h1j,h2j,h3j⟩;simp;apply gw<;>intro aj
  ·obtain⟨cj,hcj⟩:=aQ (l:=m) (i:=i);have hq:=fA xB o hcj;rw[←h2j]at hq;have hp:=rT q cj false;simp[hcj];refine ck (yB q cj false) ?_;simp;refine nxa (i+1,jP q cj false) ⟨by omega,by rw[hq];rfl,by omega⟩
  ·simp at aj;rw[bS aj]at h2j;simp;grind[XN]
def JY (s:Str)(hs:Qle s):Fk 275 [dS s] (vS (digits s)):=by
 refine fE [] ntmps275 fun _ _=> ?_;simp;refine wlt (Nat×Str) (fun(i,o)=>([(0,vS s),(3,.own (oBs o)),(4,vI i)],s.length-i,(i<=s.length)/\(o=(s.take i).filter (fun c=>decide (48<=c.toNat/\c.toNat<=57)))/\(o.length<=i))) ((0,[])) ⟨by omega,rfl,by simp⟩ ?_;rintro⟨i,o⟩ ⟨h1,h2,h3⟩;simp;apply gw<;>intro a
 ·obtain⟨c,hc⟩:=aQ (l:=s) (i:=i);have hm:=zA (fun c:UInt8=>decide (48<=c.toNat/\c.toNat<=57)) hc;rw[←h2]at hm;simp[hc];apply gv<;>intro e
  ·have e':=e;simp[hc,e];apply gw<;>intro f
   ·have hd:(decide (48<=c.toNat/\c.toNat<=57))=true:=by simp;omega
    simp[hc];refine nxb (i+1,o++[c]) ⟨by omega,by rw[hm,hd];rfl,by simp;omega⟩
   ·simp at f;have hd:(decide (48<=c.toNat/\c.toNat<=57))=false:=by simp;omega
    simp;refine nxa (i+1,o) ⟨by omega,by rw[hm,hd];simp,by omega⟩
  ·have e':=e;simp at e';have hd:(decide (48<=c.toNat/\c.toNat<=57))=false:=by simp;omega
   simp[e];refine nxa (i+1,o) ⟨by omega,by rw[hm,hd];simp,by omega⟩
 ·simp at a;rw[bS a]at h2;simp;grind[digits]
def RB (x:Int):Fk 277 [dI x] (vB (inR x 0 9999)):=by
 refine fE [] ntmps277 fun _ _=> ?_;simp;refine ck (bE _ _ _) ?_;simp
abbrev akJ (t:Tri):D:= .agg [dI t.a,dI t.b,dI t.c,dI t.w]
abbrev GJ (l:List Tri):D:= .sl none (l.map akJ)
abbrev agW (l:List Tri):D:= .sl (some 243) (l.map akJ)
def zM (x:Int):Int:=if x<0 then -x else x
def afM (m:L2)(a b c:Nat):L1:=[at2 m a b,at2 m a c,at2 m b c]
def TP (l:L1):Nat:=(l.filter fun x=>decide (x<0)).length
def O4 (l:L1):Nat:=(l.filter fun x=>decide (x>0)).length
def XK (m:L2)(a b c:Int):Bool:=bP m&&decide (0<=a)&&decide (a<b)&&decide (b<c)&&decide (c<m.length)
def vO (m:L2)(a b c:Int):Bool:=XK m a b c&&(decide (TP (afM m a.toNat b.toNat c.toNat)=1)&&decide (O4 (afM m a.toNat b.toNat c.toNat)=2))
def GZ (x y:Int)(t:Tri):Bool:=(decide (t.a=x)&&decide (t.b=y))||(decide (t.a=x)&&decide (t.c=y))||(decide (t.b=x)&&decide (t.c=y))
def zK (l:List Tri)(x y:Int):Int:=l.foldl (fun s t=>if GZ x y t=true then s+t.w else s) 0
variable {l:List Tri}
def ae0 {w:Int}(hw:0<=w)(h:∀t∈l, -w<=t.w/\t.w<=w)(x y:Int): -(w*l.length)<=zK l x y/\zK l x y<=w*l.length:=by
 have key:∀(l:List Tri) (s:Int),(∀t∈l, -w<=t.w/\t.w<=w)->s-w*l.length<=l.foldl (fun s t=>if GZ x y t=true then s+t.w else s) s/\l.foldl (fun s t=>if GZ x y t=true then s+t.w else s) s<=s+w*l.length:=by
  intro l
  induction l with
  |nil=>intro s _;simp
  |cons t l ih=>
   intro s h;have h1:=h t (by simp);have h2:=ih (if GZ x y t=true then s+t.w else s) (fun t ht=>h t (bG _ ht));have e:w*((t::l).length:Int)=w*l.length+w:=by simp[Int.mul_add]
   rw[k_List_foldl_cons,e];by_cases hh:GZ x y t=true
   ·simp only[hh,if_true]at h2|-;omega
   ·simp only[hh,if_false,dP]at h2|-;omega
 have:=key l 0 h;unfold zK;omega
def nV (x:Int)(hx: -1048576<=x/\x<=1048576:=by omega):Fk 218 [dI x] (vI (zM x)):=by
 refine fE [] ntmps218 fun _ _=> ?_;simp;apply gw<;>intro h1
 ·simp;refine ai ?_;grind[zM]
 ·simp at h1;simp;grind[zM]
def A9 (m:L2)(a b c:Int)(hm:Qle m:=by first|omega|grind):Fk 283 [bZ m,dI a,dI b,dI c] (vB (vO m a b c)):=by
 refine fE [] ntmps283 fun _ _=> ?_;simp;refine ck (eG m hm) ?_;simp;apply gv<;>intro e1
 ·have e1':=e1;simp at e1';have h0:vO m a b c=false:=by simp only[vO,XK];rw[e1'];simp
  simp[e1,h0]
 ·have e1':=e1;simp at e1';simp[e1];apply gv<;>intro e2
  ·have e2':=e2;have h0:vO m a b c=false:=by simp only[vO,XK];rw[decide_eq_false (p:=0<=a) (by omega)];simp
   simp[e2,h0]
  ·have e2':=e2;simp at e2';simp[e2];apply gv<;>intro e3
   ·have e3':=e3;have h0:vO m a b c=false:=by simp only[vO,XK];rw[decide_eq_false (p:=a<b) (by omega)];simp
    simp[e3,h0]
   ·have e3':=e3;simp at e3';simp[e3];apply gv<;>intro e4
    ·have e4':=e4;have h0:vO m a b c=false:=by simp only[vO,XK];rw[decide_eq_false (p:=b<c) (by omega)];simp
     simp[e4,h0]
    ·have e4':=e4;simp at e4';simp[e4];apply gw<;>intro e5
     ·have h0:vO m a b c=false:=by simp only[vO,XK];rw[decide_eq_false (p:=c<m.length) (by omega)];simp
      simp[h0]
     ·simp at e5;have ht:XK m a b c:=by simp only[XK];rw[e1'];simp;omega
      have h0:vO m a b c=(decide (TP (afM m a.toNat b.toNat c.toNat)=1)&&decide (O4 (afM m a.toNat b.toNat c.toNat)=2)):=by simp[vO,ht]
      obtain⟨r,hr,hrb⟩:=kU e1' (i:=a.toNat) (k:=b.toNat);obtain⟨r',hr',hrc⟩:=kU e1' (i:=a.toNat) (k:=c.toNat);obtain rfl:r=r':=by rw[hr]at hr';exact k_Option_some_inj hr'
      obtain⟨q,hq,hqc⟩:=kU e1' (i:=b.toNat) (k:=c.toNat);have hb0:0<=b:=by omega
      have hc0:0<=c:=by omega
      have hT:afM m a.toNat b.toNat c.toNat=[at2 m a.toNat b.toNat,at2 m a.toNat c.toNat,at2 m b.toNat c.toNat]:=rfl;have hTl:(afM m a.toNat b.toNat c.toNat).length=3:=rfl;have hn0:TP []=0:=rfl;have hp0:O4 []=0:=rfl;simp;refine wdt 21 ?_;simp[hr,hrb,hrc,hq,hqc,hb0,hc0];refine ai ?_;refine wl (fun(i:Nat)=>[(9,vI (TP ((afM m a.toNat b.toNat c.toNat).take i))),(10,vI (O4 ((afM m a.toNat b.toNat c.toNat).take i))),(11,wN (afM m a.toNat b.toNat c.toNat)),(12,vI i)]) (fun(i:Nat)=>3-i) (fun(i:Nat)=>(i<=3)) (0) (by omega) ?_ (h0:=by simp[e2,hr,hrb,hrc,hq,hqc,hb0,hc0,hn0,hp0,hT]);rintro i h1;clear hT;generalize afM m a.toNat b.toNat c.toNat=T at*
      simp;apply gw<;>intro f
      ·have hg:=aV (l:=T) (i:=i);have hn1:=zA (fun x:Int=>decide (x<0)) hg;have hp1:=zA (fun x:Int=>decide (x>0)) hg;have hnl:(TP (T.take i))<=3:=k_Nat_le_trans (bM _ _) (by simp;omega);have hpl:(O4 (T.take i))<=3:=k_Nat_le_trans (bM _ _) (by simp;omega);simp[hg];apply gw<;>intro g
       ·have hn2:TP (T.take (i+1))=TP (T.take i)+1:=by rw[TP,hn1,decide_eq_true g];simp[TP]
        simp[hg];refine ai ?_;apply gw<;>intro k
        ·exfalso;omega
        ·simp at k;have hp2:O4 (T.take (i+1))=O4 (T.take i):=by rw[O4,hp1,decide_eq_false (by omega)];simp[O4]
         simp;refine nxa (i+1) (by first|omega|(simp;omega)|grind) (h3:=by simp[e2,hg,hn2,hp2])
       ·simp at g;have hn2:TP (T.take (i+1))=TP (T.take i):=by rw[TP,hn1,decide_eq_false (by omega)];simp[TP]
        simp[hg];apply gw<;>intro k
        ·have hp2:O4 (T.take (i+1))=O4 (T.take i)+1:=by rw[O4,hp1,decide_eq_true k];simp[O4]
         simp;refine nxb (i+1) (by first|omega|(simp;omega)|grind) (h3:=by simp[e2,hg,hn2,hp2])
        ·simp at k;have hp2:O4 (T.take (i+1))=O4 (T.take i):=by rw[O4,hp1,decide_eq_false (by omega)];simp[O4]
         simp;refine nxa (i+1) (by first|omega|(simp;omega)|grind) (h3:=by simp[e2,hg,hn2,hp2])
      ·simp at f;obtain rfl:i=3:=by omega
       rw[show T.take 3=T from k_List_take_of_length_le (by omega)];simp;apply gv<;>intro g
       ·have g':=g;simp[g];rw[h0,decide_eq_true (p:=TP T=1) (by omega),eX];exact decide_eq_decide.2 (by omega)
       ·have g':=g;simp[g];rw[h0,decide_eq_false (p:=TP T=1) (by omega),iI]
def XL (n:Nat)(t:Tri):Prop:=0<=t.a/\t.a<t.b/\t.b<t.c/\t.c<n/\0<=t.w/\t.w<=1000
def KL {x:Int}{w:Int}(h: -w<=x/\x<=w):0<=zM x/\zM x<=w:=by unfold zM;split<;>omega
variable {m:L2}
def ar8 {a b c:Int}(h:vO m a b c):bP m=true/\0<=a/\a<b/\b<c/\c<m.length:=by
 simp only[vO,XK,k_Bool_and_eq_true,decide_eq_true_eq]at h;exact⟨h.1.1.1.1.1,h.1.1.1.1.2,h.1.1.1.2,h.1.1.2,h.1.2⟩
def w3 (m:L2)(a b c:Nat):Int:=min (zM (at2 m a b)) (min (zM (at2 m a c)) (zM (at2 m b c)))
def PL (m:L2)(a b c:Nat)(q:List Tri):List Tri:=if vO m a b c=true then q++[⟨a,b,c,w3 m a b c⟩]else q
def azV (m:L2)(a b:Nat)(p:List Tri):List Tri:=loopN (m.length-(b+1)) p fun j q=>PL m a b (b+1+j) q
def azU (m:L2)(a:Nat)(o:List Tri):List Tri:=loopN (m.length-(a+1)) o fun j p=>azV m a (a+1+j) p
def EO (m:L2):List Tri:=loopN m.length [] (azU m)
def KJ (m:L2)(k:Nat)(L:List Tri):Prop:=L.length<=k/\∀t∈L,XL m.length t
variable {a k:Nat}
def ahJ (hm:bP m){b c:Nat}{q:List Tri}(h:KJ m k q):KJ m (k+1) (PL m a b c q):=by
 unfold PL;split
 ·rename_i hb;have h1:=ar8 hb;have v1:=KL (iH hm a b);have v2:=KL (iH hm a c);have v3:=KL (iH hm b c);have hw:0<=w3 m a b c/\w3 m a b c<=1000:=by unfold w3;omega
  refine⟨by have:=h.1;simp;omega,fun t ht=> ?_⟩;rcases k_List_mem_append.1 ht with h2|h2
  ·exact h.2 t h2
  ·rw[k_List_mem_singleton.1 h2];unfold XL;simp only;omega
 ·exact⟨by have:=h.1;omega,h.2⟩
def arV (hm:bP m){b:Nat}{p:List Tri}(h:KJ m k p):KJ m (k+8) (azV m a b p):=by
 have h8:=dK hm;have:=loopN_inv (n:=m.length-(b+1)) (fun j (q:List Tri)=>KJ m (k+j) q) (f:=fun j q=>PL m a b (b+1+j) q) h (fun j q _ hq=>ahJ hm hq);exact⟨k_Nat_le_trans this.1 (by omega),this.2⟩
def arU (hm:bP m){o:List Tri}(h:KJ m k o):KJ m (k+64) (azU m a o):=by
 have h8:=dK hm;have:=loopN_inv (n:=m.length-(a+1)) (fun j (q:List Tri)=>KJ m (k+8*j) q) (f:=fun j p=>azV m a (a+1+j) p) (by simpa using h) (fun j q _ hq=>arV hm hq);exact⟨k_Nat_le_trans this.1 (by omega),this.2⟩
def ab8 (hm:bP m)(i:Nat):KJ m (64*i) (loopN i [] (azU m)):=
 loopN_inv (fun i (q:List Tri)=>KJ m (64*i) q) ⟨by simp,by simp⟩ fun i q _ hq=>arU hm hq
def NY (m:L2)(hm:bP m):Fk 217 [bZ m] (.own (agW (EO m))):=by
 refine fE [] ntmps217 fun _ _=> ?_;have hml:=dK hm;simp;refine wlt (Nat×List Tri) (fun(a,o)=>([(0,.val (bZ m)),(3,.own (agW o)),(4,vI a)],m.length-a,(a<=m.length)/\(o=loopN a ([]) (azU m))/\(KJ m (64*a) o))) ((0,[])) ⟨by omega,rfl,(⟨by simp,by simp⟩)⟩ ?_;rintro⟨a,o⟩ ⟨h1z,h2z,h3⟩;simp;apply gw<;>intro az
 ·have hsz:=aL a ([]) (azU m);rw[←h2z]at hsz;simp;refine ai ?_;refine wlt (Nat×List Tri) (fun(b,p)=>([(0,.val (bZ m)),(3,.own (agW p)),(4,vI a),(5,vI b)],m.length-b,(a<b/\b<=m.length)/\(p=loopN (b-(a+1)) o (fun j p=>azV m a (a+1+j) p))/\(KJ m (64*a+8*(b-(a+1))) p))) ((a+1,o)) ⟨by omega,by simp[loopN_zero],by simpa using h3⟩ ?_;rintro⟨b,p⟩ ⟨h4,h5,h6⟩;simp;apply gw<;>intro f
  ·have hsb:=aL (b-(a+1)) o (fun j p=>azV m a (a+1+j) p);rw[←h5,show b-(a+1)+1=b+1-(a+1) by omega,show a+1+(b-(a+1))=b by omega]at hsb;simp;refine ai ?_;refine wlt (Nat×List Tri) (fun(c,q)=>([(0,.val (bZ m)),(3,.own (agW q)),(4,vI a),(5,vI b),(6,vI c)],m.length-c,(b<c/\c<=m.length)/\(q=loopN (c-(b+1)) p (fun j q=>PL m a b (b+1+j) q))/\(KJ m (64*a+8*(b-(a+1))+(c-(b+1))) q))) ((b+1,p)) ⟨by omega,by simp[loopN_zero],by simpa using h6⟩ ?_;rintro⟨c,q⟩ ⟨h7,h8,h9⟩;simp;apply gw<;>intro g
   ·have hsc:=aL (c-(b+1)) p (fun j q=>PL m a b (b+1+j) q);rw[←h8,show c-(b+1)+1=c+1-(b+1) by omega,show b+1+(c-(b+1))=c by omega]at hsc;have hok:=ahJ hm (a:=a) (b:=b) (c:=c) h9;rw[show 64*a+8*(b-(a+1))+(c-(b+1))+1=64*a+8*(b-(a+1))+(c+1-(b+1)) by omega]at hok;have hq512:=h9.1;simp;refine ck (A9 m a b c) ?_;simp;apply gw<;>intro k
    ·obtain⟨r,hr,hrb⟩:=kU hm (i:=a) (k:=b);obtain⟨r',hr',hrc⟩:=kU hm (i:=a) (k:=c);obtain rfl:r=r':=by rw[hr]at hr';exact k_Option_some_inj hr'
     obtain⟨s,hs',hsc'⟩:=kU hm (i:=b) (k:=c);have v1:=iH hm a b;have v2:=iH hm a c;have v3:=iH hm b c;have hta:PL m a b c q=q++[⟨a,b,c,w3 m a b c⟩]:=if_pos k;have hw:min (zM (at2 m a b)) (min (zM (at2 m a c)) (zM (at2 m b c)))=w3 m a b c:=rfl;rw[hta]at hok;simp;refine wdf [(29,[36,37,38,63,64]),(30,[64,65]),(31,[35,65,66,3]),(32,[66,3])] [(0,.val (bZ m)),(3,.own (agW q)),(4,vI a),(5,vI b),(6,vI c)] [] (by simp) ?_;simp[hr,hrb];refine cd (nV (at2 m a b)) ?_;simp[hr,hrc];refine cd (nV (at2 m a c)) ?_;simp[hs',hsc'];refine cd (nV (at2 m b c)) ?_;simp[hw];refine nxb (c+1,q++[⟨a,b,c,w3 m a b c⟩]) ⟨by omega,by rw[hsc,hta],hok⟩
    ·have hta:PL m a b c q=q:=if_neg (by simp[k]);rw[hta]at hok;simp;refine nxa (c+1,q) ⟨by omega,by rw[hsc,hta],hok⟩
   ·simp at g;obtain rfl:c=m.length:=by omega
    have hok:=arV hm (a:=a) (b:=b) h6;simp;refine nxa (b+1,q) ⟨by omega,by rw[hsb,h8];rfl,by rw[h8];rw[show 64*a+8*(b+1-(a+1))=64*a+8*(b-(a+1))+8 by omega];exact hok⟩
  ·simp at f;obtain rfl:b=m.length:=by omega
   simp;refine nxa (a+1,p) ⟨by omega,by rw[hsz,h5];rfl,by rw[h5];exact arU hm h3⟩
 ·simp at az;have hiz:m.length=a:=by omega
  subst hiz;simp;simp[EO,←h2z]
def au1 (l:List Tri)(t:Tri)(x y:Int):zK (l++[t]) x y=if GZ x y t=true then zK l x y+t.w else zK l x y:=by simp[zK,lU]
def au2 {t:Tri}(h:l[i]?=some t)(x y:Int):zK (l.take (i+1)) x y=if GZ x y t=true then zK (l.take i) x y+t.w else zK (l.take i) x y:=by rw[dX h,au1]
def yM (l:List Tri)(x y:Int)(hl:Qle l:=by first|omega|grind)(hw:∀t∈l, -1048576<=t.w/\t.w<=1048576:=by first|omega|grind):Fk 219 [GJ l,dI x,dI y] (vI (zK l x y)):=by
 refine fE [] ntmps219 fun _ _=> ?_;simp;refine wlt (Nat×Int) (fun(i,s)=>([(0,.val (GJ l)),(1,vI x),(2,vI y),(7,vI s),(8,vI i)],l.length-i,(i<=l.length)/\(s=zK (l.take i) x y)/\(-(1048576*i)<=s/\s<=1048576*i))) ((0,0)) ⟨by omega,rfl,by simp⟩ ?_;rintro⟨i,s⟩ ⟨h1,h2,h3⟩;simp;apply gw<;>intro a
 ·obtain⟨t,ht⟩:=aQ a;have hwt:=hw t (I7 ht);have hu:=au2 ht x y;simp[ht];apply gv<;>intro e
  ·have e':=e;simp[e];apply gv<;>intro f
   ·have f':=f;have hb:GZ x y t:=by simp[GZ,e,f]
    simp[f];refine nxb (i+1,s+t.w) ⟨by omega,by rw[hu,hb,if_pos rfl,h2],by omega⟩
   ·have f':=f;simp[f];apply gv<;>intro g
    ·have g':=g;have hb:GZ x y t:=by simp[GZ,e,g]
     simp[g];refine nxb (i+1,s+t.w) ⟨by omega,by rw[hu,hb,if_pos rfl,h2],by omega⟩
    ·have g':=g;simp[g];apply gv<;>intro k
     ·have k':=k;have hb:GZ x y t=false:=by simp[GZ,f,g]
      simp[g,k];refine nxa (i+1,s) ⟨by omega,by rw[hu,hb,if_neg (by simp),h2],by omega⟩
     ·have k':=k;have hb:GZ x y t=false:=by simp[GZ,f,g]
      simp[k];refine nxa (i+1,s) ⟨by omega,by rw[hu,hb,if_neg (by simp),h2],by omega⟩
  ·have e':=e;simp[e];apply gv<;>intro k
   ·have k':=k;simp[k];apply gw<;>intro n
    ·have hb:GZ x y t:=by simp[GZ,k,n]
     simp;refine nxb (i+1,s+t.w) ⟨by omega,by rw[hu,hb,if_pos rfl,h2],by omega⟩
    ·have hb:GZ x y t=false:=by simp[GZ,e,n]
     simp;refine nxa (i+1,s) ⟨by omega,by rw[hu,hb,if_neg (by simp),h2],by omega⟩
   ·have k':=k;have hb:GZ x y t=false:=by simp[GZ,e,k]
    simp[k];refine nxa (i+1,s) ⟨by omega,by rw[hu,hb,if_neg (by simp),h2],by omega⟩
 ·simp at a;obtain rfl:i=l.length:=by omega
  rw[dJ]at h2;simp;omega
end Go.Proofs.YtigjbamofhdchaaGreatDoor
end
section
namespace Go.Proofs.YtigjbamofhdchaaGreatDoor
open Go.Dv Go.Pl
@[go_sem,simp] abbrev wC (x:List Tri):S:= .own (agW x)
end Go.Proofs.YtigjbamofhdchaaGreatDoor
end
section
namespace Go.Proofs.YtigjbamofhdchaaGreatDoor
open Go.Dv Go.Pl Go.Proofs.Tryz
def jF (l:L1)(x:Int)(hl:Qle l:=by first|omega|grind):Fk 69 [nInts l,dI x] (vI (ix (fun y=>decide (x=y)) l)):=by
 refine fE [] ntmps69 fun _ _=> ?_;simp;refine wlt Nat (fun i=>([(0,vN l),(1,vI x),(6,vN l),(7,vI l.length),(8,vI i)],l.length-i,(i<=l.length)/\((l.take i).any (fun y=>decide (x=y))=false))) (0) ⟨by omega,rfl⟩ ?_;rintro i ⟨h1,h2⟩;simp;apply gw<;>intro a
 ·obtain⟨c,hc⟩:=aQ (l:=l) (i:=i);simp[hc];apply gw<;>intro b
  ·have hn:=DK hc h2 (by simp[b]);simp[hn]
  ·simp;refine nxa (i+1) ⟨by omega,(gV hc h2 (by simp[b]))⟩
 ·simp at a;have hf:=mJ h2 a;have hx:=rV hf;simp[hx]
def sI (x:Int)(hx: -9000000000000000000<=x/\x<=9000000000000000000:=by omega):Fk 239 [dI x] (vI (zM x)):=by
 refine fE [] ntmps239 fun _ _=> ?_;have ha:max x (-x)=zM x:=by unfold zM;split<;>omega
 simp[ha];simp only[inI];omega
def nQ (l:L1)(hl:1<=l.length/\Qle l):Fk 295 [nInts l] (wN l):=by
 refine fE [] ntmps295 fun _ _=> ?_;have hne:¬l=[]:=by rintro rfl;simp at hl
 have hle:l.length<=1073741824:=by omega
 simp[hne,hle]
def sH (l:L1)(hs:Qle l):Fk 167 [nInts l] (wN (canon l)):=by
 refine fE [] ntmps167 fun _ _=> ?_;simp;refine wlt (Nat×(L1×L1)) (fun(i,s)=>([(3,wN s.2),(4,wN s.1),(8,vN l),(9,vI l.length),(10,vI i)],l.length-i,(i<=l.length)/\(s=(l.take i).foldl jE ([],[]))/\(s.1.length<=i/\s.2.length<=i)/\(s.2.Nodup))) ((0,([],[]))) ⟨by omega,rfl,by simp,by simp⟩ ?_;rintro⟨i,s⟩ ⟨h1,h2,h3,h4⟩;simp;apply gw<;>intro a
 ·obtain⟨c,hc⟩:=aQ (l:=l) (i:=i);have hm:=fA jE ([],[]) hc;rw[←h2]at hm;simp[hc];refine ck (jF s.2 c (by omega)) ?_;have hli:=agM c h4 s.2.length (k_Nat_le_refl _);rw[dJ]at hli;simp;apply gw<;>intro b
  ·have hx:jE s c=(s.1++[(s.2.length:Int)],s.2++[c]):=if_pos (by rw[hli];exact b);have hni:c∉s.2:=fun hmem=>by have h9:s.2.any (fun y=>decide (c=y))=true:=cK.2 ⟨c,hmem,by simp⟩;have:=iV.2 h9;omega
   simp;refine nxd (i+1,(s.1++[(s.2.length:Int)],s.2++[c])) ⟨by omega,by rw[hm,hx],by simp;omega,by simp[lV,h4];intro a ha e;exact hni (e▸ha)⟩
  ·simp at b;have hx:jE s c=(s.1++[ix (fun y=>decide (c=y)) s.2],s.2):=by rw[jE,if_neg (by (try unfold Qle);rw[hli];omega),hli]
   simp;refine nxb (i+1,(s.1++[ix (fun y=>decide (c=y)) s.2],s.2)) ⟨by omega,by rw[hm,hx],by simp;omega,h4⟩
 ·simp at a;rw[bS a]at h2;simp;grind[canon]
def sqz (n i:Nat):L2:=List.replicate i (List.replicate n 0)++List.replicate (n-i) []
variable {n i:Nat}
def aEV (h:i<n):(sqz n i)[i]?=some []:=by
 obtain⟨k,rfl⟩:∃k,n=i+(k+1):=⟨n-i-1,by omega⟩;rw[sqz,aY (by simp),show i+(k+1)-i=k+1 by omega];simp
def aCN (h:i<n):(sqz n i).set i (List.replicate n 0)=sqz n (i+1):=by
 obtain⟨k,rfl⟩:∃k,n=i+(k+1):=⟨n-i-1,by omega⟩;rw[sqz,sqz,show i+(k+1)-i=k+1 by omega,show i+(k+1)-(i+1)=k by omega,gG _ _ (by simp),lH (n:=i),fJ (n:=k)];simp
def sJ (n:Nat)(hn:n<=1048576:=by omega):Fk 172 [dI n] (.own (mQ (List.replicate n (List.replicate n 0)))):=by
 refine fE [] ntmps172 fun _ _=> ?_;have hz:(sqz n 0).map dG=List.replicate n (D.sl (some 3) []):=by simp[sqz]
 simp;refine ai ?_;refine wl (fun(i:Nat)=>[(0,vI n),(3,.own (mQ (sqz n i))),(8,vI n),(9,vI i)]) (fun(i:Nat)=>n-i) (fun(i:Nat)=>(i<=n)) (0) (by omega) ?_ (h0:=by simp[hz]);rintro i h1;simp;apply gw<;>intro a
 ·have hat:=aEV a;have hset:=aCN a;have hset2:((sqz n i).map dG).set i (D.sl (some 3) (List.replicate n (dI 0)))=(sqz n (i+1)).map dG:=by rw[←hset,kD];simp[dG]
  simp[hat,hset2];refine nxb (i+1) (by omega)
 ·simp at a;obtain rfl:i=n:=by omega
  have hfin:sqz i i=List.replicate i (List.replicate i 0):=by simp[sqz]
  simp[hfin]
def gX (m:L2)(hm:Qle m)(hr:∀r∈m,Qle r):Fk 225 [bZ m] (vB (bP m)):=by
 refine fE [] ntmps225 fun _ _=> ?_;rw[YM];simp;refine ck (bD m.length 1 8) ?_;simp;apply gw<;>intro b
 ·simp at b;simp;omega
 ·simp at b;simp;refine wlt Nat (fun i=>([(0,.val (bZ m)),(11,.val (bZ m)),(12,vI m.length),(13,vI i)],m.length-i,(i<=m.length)/\((List.range i).all (EJ m)=true))) (0) ⟨by omega,rfl⟩ ?_;rintro i ⟨h1,h2⟩;simp;apply gw<;>intro a
  ·obtain⟨r,hri⟩:=aQ (l:=m) (i:=i);have hrl:=hr r (aA hri);have hgr:=zX hri;simp[hri];apply gv<;>intro e
   ·have e':=e;have hn:=mR a (P:=(EJ m)) (by unfold EJ;rw[hgr];simp;omega);simp[e,hn]
   ·have e':=e;obtain⟨d,hd⟩:=aQ (l:=r) (i:=i);have hdd:=M6 hri hd;simp[e,hd];apply gw<;>intro d0
    ·have hn:=mR a (P:=(EJ m)) (by unfold EJ;rw[hdd];simp[d0]);simp[hn]
    ·have hmin:min i r.length=i:=by omega
     simp[hmin,d0];refine ai ?_;refine wlt Nat (fun k=>([(0,.val (bZ m)),(3,vI i),(11,.val (bZ m)),(12,vI m.length),(13,vI i),(32,.val (.sl none ((r.map dI).take i))),(33,vI i),(34,vI k)],i-k,(k<=i)/\((List.range k).all (WL m i)=true))) (0) ⟨by omega,rfl⟩ ?_;rintro k ⟨h1k,h2k⟩;simp;apply gw<;>intro ak
     ·obtain⟨w,hw⟩:=aQ (l:=r) (i:=k);have hww:=M6 hri hw;have hw2:(List.take i (List.map dI r))[k]?=some (dI w):=by rw[bA,if_pos (by omega),aN,hw];rfl
      simp[hw2];refine ck (bD w (-1000) 1000) ?_;simp;apply gv<;>intro f
      ·have f':=f;simp at f';have hn:=mR a (P:=EJ m) (amC ak (by unfold WL;rw[hww];simp;omega));simp[f,hn]
      ·have f':=f;simp at f';obtain⟨q,hq⟩:=aQ (l:=m) (i:=k);have hql:q.length=m.length:=by have:=aI.1 h2 k (aZ.2 (by omega));simp only[EJ,k_Bool_and_eq_true,decide_eq_true_eq]at this;rw[←zX hq];exact this.1.1
       obtain⟨z,hz⟩:=aQ (l:=q) (i:=i);have hzz:=M6 hq hz;simp[f,hq,hz];apply gw<;>intro g
       ·have hn:=mR a (P:=EJ m) (amC ak (by unfold WL;rw[hww,hzz];simp[g]));simp[hn]
       ·simp;refine nxa (k+1) ⟨by omega,(oC h2k (by unfold WL;rw[hww,hzz];simp[g];omega))⟩
     ·simp at ak;have hf:=KA (n:=i) h2k;simp;refine nxa (i+1) ⟨by omega,(oC h2 (atJ (by (try unfold Qle);rw[hgr];omega) (by rw[hdd];exact d0) hf))⟩
  ·simp at a;have hf:=KA (n:=m.length) h2;simp[hf];refine ai ?_;omega
def ahQ {α:Type}(p:α->Bool)(l:List α):(l.any fun c=> !p c)= !(l.all p):=by rw[List.not_all_eq_any_not]
def ac4 (l:List Con)(p:Con->Bool)(g:FuncId)(b:Nat)(d:D)(F:d.fz=d)(E:Dv.Enters prog g)(U:T (1000000+g)=⟨.no,0,.any 0⟩)(G:∀c∈l,fP prog g [akH c,.bx false d] (fun r=>r=vB (p c)))(hl:Qle l):yZ prog 339 [jG l,.one (.func (.func g) #[] #[.pointer (some ⟨b,0,none⟩)])] [(b,d)] (fun res'=>res'=vI (ix p l)):=by
 refine fB [] ntmps339 fun _ _=> ?_;simp;refine wlt Nat (fun i=>([(0,vT l),(1,.val (.one (.func (.func g) #[] #[.pointer (some ⟨b,0,none⟩)]))),(7,vI l.length),(8,vI i),(1000000+2*b,.rp (d))],l.length-i,(i<=l.length)/\((l.take i).any p=false))) (0) ⟨by omega,rfl⟩ ?_;rintro i ⟨h1,h2⟩;simp;apply gw<;>intro a
 ·obtain⟨c,hc⟩:=aQ (l:=l) (i:=i);simp[E,U,F,hc];refine ck ((G c (aA hc))) ?_;simp;apply gw<;>intro e
  ·have hn:=DK hc h2 (by simp[e]);simp[hn]
  ·simp;refine nxa (i+1) ⟨by omega,(gV hc h2 (by simp[e]))⟩
 ·simp at a;have hf:=mJ h2 a;have hx:=rV hf;simp[hx]
def agD (l:List Con)(p:Con->Bool)(g:FuncId)(b:Nat)(d:D)(F:d.fz=d)(E:Dv.Enters prog g)(U:T (1000000+g)=⟨.no,0,.any 0⟩)(G:∀c∈l,fP prog g [akH c,.bx false d] (fun r=>r=vB (p c)))(hl:Qle l):yZ prog 287 [jG l,.one (.func (.func g) #[] #[.pointer (some ⟨b,0,none⟩)])] [(b,d)] (fun res'=>res'=vB (l.any p)):=by
 refine fB [] ntmps287 fun _ _=> ?_;have hq:decide (0<=ix p l)=l.any p:=by rw[bH,decide_eq_true_eq];exact iV
 simp[F];refine ckB (ac4 l p g b d F E U G hl) ?_;simp[hq]
def IV (c:Con)(n:Int)(hn: -1048576<=n/\n<=1048576):Fk 288 [akH c,.bx false (dI n)] (vB (!MI n c)):=by
 refine fE [] ntmps288 fun _ _=> ?_;simp;refine ck (nG c.a n) ?_;simp;apply gv<;>intro e
 ·have e':=e;simp at e';simp[e];grind[MI]
 ·have e':=e;simp at e';simp[e];refine ck (nG c.b n) ?_;simp;apply gv<;>intro f
  ·have f':=f;simp at f';simp[f];grind[MI]
  ·have f':=f;simp at f';simp[f];grind[MI]
def tX (n:Int)(l:List Con)(hn: -1048576<=n/\n<=1048576:=by first|omega|grind)(hl:Qle l:=by first|omega|grind):Fk 227 [dI n,jG l] (vB (cB n l)):=by
 refine fE [] ntmps227 fun _ _=> ?_;simp;refine ck (bD n 1 8) ?_;simp;apply gv<;>intro e
 ·have e':=e;simp at e';simp[e];grind[cB]
 ·have e':=e;simp at e';simp[e];apply gw<;>intro f
  ·simp;grind[cB]
  ·simp at f;simp;intro b;refine ckB (agD l (fun c=> !MI n c) 288 b (dI n) rfl aFP aF4 (fun c _=>IV c n hn) hl) ?_;simp;grind[cB]
def J6 (m:L2)(i k:Nat)(v:Int):(m.map dG).set i (D.sl (some 3) (((gat m i).map dI).set k (dI v)))=(set2 m i k v).map dG:=by rw[set2,kD];simp[dG,kD]
variable {m:L2}{k:Nat}
def axA {j:Nat}(v:Int)(h:¬i=j):gat (set2 m i k v) j=gat m j:=by simp[gat,set2,aC,h]
def arW {v w:Int}(h:¬i=k):((m.map dG).set i (D.sl (some 3) (((gat m i).map dI).set k (dI v)))).set k (D.sl (some 3) (((gat m k).map dI).set i (dI w)))=(set2 (set2 m i k v) k i w).map dG:=by
 rw[J6,←axA v h,J6]
def SN (n:Nat)(l:List Con)(hn:1<=n/\n<=8:=by first|omega|grind)(hl:Qle l:=by first|omega|grind)(hc:∀c∈l,0<=c.a/\c.a<c.b/\c.b<(n:Int):=by first|omega|grind):Fk 292 [dI n,jG l] (.own (mQ (OY n l))):=by
 refine fE [] ntmps292 fun _ _=> ?_;have hz:List.replicate n (dG (List.replicate n 0))=(zeros n).map dG:=by simp[zeros]
 simp;refine ck (sJ n) ?_;simp[hz];refine wlt (Nat×L2) (fun(i,m)=>([(5,.own (mQ m)),(10,vT l),(11,vI l.length),(12,vI i)],l.length-i,(i<=l.length)/\(m=(l.take i).foldl qP (zeros n))/\(sq2 n m))) ((0,zeros n)) ⟨by omega,by simp,(pF n)⟩ ?_ (h0:=by simp[hz]);rintro⟨i,m⟩ ⟨h1,h2,h3⟩;simp;apply gw<;>intro a
 ·obtain⟨c,hcc⟩:=aQ (l:=l) (i:=i);have hb:=hc c (aA hcc);have hm:=fA qP (zeros n) hcc;rw[←h2]at hm;have ha0:0<=c.a:=hb.1;have hb0:0<=c.b:=by omega
  obtain⟨hA,hA2⟩:=rZ h3 (i:=c.a.toNat);obtain⟨hB,hB2⟩:=rZ h3 (i:=c.b.toNat);have hgA:=LM h3 (i:=c.a.toNat) (k:=c.b.toNat);have hgB:=LM h3 (i:=c.b.toNat) (k:=c.a.toNat);have hml:c.a.toNat<m.length:=by rw[h3.1];omega
  have hml2:c.b.toNat<m.length:=by rw[h3.1];omega
  have hne:¬c.a.toNat=c.b.toNat:=by omega
  simp[hcc];apply gw<;>intro e
  ·have hset:=arW (m:=m) (v:=1) (w:=1) hne;have hmm:qP m c=set2 (set2 m c.a.toNat c.b.toNat 1) c.b.toNat c.a.toNat 1:=if_pos e;rw[←hmm]at hset;simp;refine wdf [(15,[32,5,18,21,22,25,28,29]),(17,[33,5,18,21,22,25,28,29,32])] [(5,.own (mQ m)),(7,.own (.bx true (akH c))),(10,vT l),(11,vI l.length),(12,vI i)] [] (by simp) ?_;simp[ha0,hb0,hA,hB,hgA,hgB,hne,hset];refine nxa (i+1,qP m c) ⟨by omega,hm.symm,(WO h3 hb)⟩
  ·have hmm:qP m c=m:=if_neg (by simp[e]);simp;refine nxa (i+1,m) ⟨by omega,by rw[hm,hmm],h3⟩
 ·simp at a;rw[bS a]at h2;have hfin:OY n l=m:=h2.symm;simp[hfin]
abbrev YT (b:Nat):Value:= .pointer (some ⟨b,0,none⟩)
abbrev aqB (bc bo bm bv:Nat):D:= .one (.func (.func 291) #[] #[YT bc,YT bo,YT bm,YT bv])
structure an1 (a b c d:Nat):Prop where
 ab:¬a=b
 ac:¬a=c
 ad:¬a=d
 bc:¬b=c
 bd:¬b=d
 cd:¬c=d
 ba:¬b=a
 ca:¬c=a
 da:¬d=a
 cb:¬c=b
 db:¬d=b
 dc:¬d=c
def ar3 (n:Nat)(m:L2)(c:Int)(bc bo bm bv f:Nat):Prop:=∀(i:Nat) (o:L1),o.length=n->i<n->at1 o i<0->negs n o<=f->
 FnW prog 291 [dI i] [(bc,some (dI c)),(bo,none),(bm,some (bZ m)),(bv,some (aqB bc bo bm bv))] [(bc,dI c),(bm,bZ m),(bv,aqB bc bo bm bv)] [(bo,dG o)] (fun r ds'=>r= .tup []/\ds'=[dG (dfs n m c f i o)])
def dfs_keeps {n:Nat}{m:L2}{c:Int}(hc:0<=c):∀(f i:Nat) (o:L1),o.length=n->(dfs n m c f i o).length=n/\∀k,0<=at1 o k->0<=at1 (dfs n m c f i o) k
 |0,i,o,h=>⟨h,fun k hk=>hk⟩
 |f+1,i,o,h=>by
  rw[dfs];refine loopN_inv (fun _ (p:L1)=>p.length=n/\∀k,0<=at1 o k->0<=at1 p k) ⟨by simp[h],fun k hk=> ?_⟩ fun k p _ ⟨h1,h2⟩=> ?_
  ·by_cases hi:i<o.length
   ·rw[yI k hi];split<;>omega
   ·rw[qB (by omega)];exact hk
  ·split
   ·have:=dfs_keeps (m:=m) hc f k p h1;exact⟨this.1,fun k hk=>this.2 k (h2 k hk)⟩
   ·exact⟨h1,h2⟩
def vstep (n:Nat)(m:L2)(c:Int)(f i k:Nat)(o:L1):L1:=if 0<at2 m i k/\at1 o k<0 then dfs n m c f k o else o
variable {c:Int}
def anY (hc:0<=c){f:Nat}{p:L1}(h:p.length=n):(vstep n m c f i k p).length=n/\negs n (vstep n m c f i k p)<=negs n p:=by
 unfold vstep;split
 ·have:=dfs_keeps (m:=m) hc f k p h;exact⟨this.1,agV fun k _ hk=>this.2 k hk⟩
 ·exact⟨h,k_Nat_le_refl _⟩
def asN (n:Nat)(m:L2)(c:Int)(f i:Nat)(o:L1):dfs n m c (f+1) i o=loopN n (o.set i c) (vstep n m c f i):=rfl
def awZ (n:Nat)(m:L2)(c:Int)(bc bo bm bv f:Nat)(hA:an1 bc bo bm bv)(hm:bP m)(hn:m.length=n)(hc:0<=c/\c<=1048576)(IH:ar3 n m c bc bo bm bv f)(i:Nat)(o:L1)(hl:o.length=n)(hi:i<n)(h0:at1 o i<0)(hf:negs n o<=f+1):FnW prog 291 [dI i] [(bc,some (dI c)),(bo,none),(bm,some (bZ m)),(bv,some (aqB bc bo bm bv))] [(bc,dI c),(bm,bZ m),(bv,aqB bc bo bm bv)] [(bo,dG o)] (fun r ds'=>r= .tup []/\ds'=[dG (dfs n m c (f+1) i o)]):=by
 refine fW [] ntmps291 fun _ _=> ?_;obtain⟨a1,a2,a3,a4,a5,a6,a7,a8,a9,a10,a11,a12⟩:=hA;have hn8:=dK hm;obtain⟨r,hr⟩:=aQ (l:=m) (i:=i);have hoi:=aV (l:=o) (i:=i);have hr2:=(CB hm (show i<m.length by omega));have hrl:r.length=n:=by obtain⟨r',e1,e2⟩:=hr2;rw[hr]at e1;obtain rfl:=k_Option_some_inj e1;omega
 have hng:=WP hl hi h0 hc.1;simp[hr,hoi];refine wlt (Nat×L1) (fun(k,p)=>([(0,vI i),(1,.rp (dI c)),(2,.rf (1000000+2*bo) [0]),(3,.rp (bZ m)),(4,.rp (aqB bc bo bm bv)),(15,vN r),(16,vI r.length),(17,vI k),(1000000+2*bc,.rp (dI c)),(1000000+2*bo,.own (.bx true (dG p))),(1000000+2*bm,.rp (bZ m)),(1000000+2*bv,.rp (aqB bc bo bm bv))],n-k,(k<=n)/\(p=loopN k (o.set i c) (vstep n m c f i))/\p.length=n/\(negs n p<=f))) ((0,o.set i c)) ⟨by omega,rfl,by simp[hl],by omega⟩ ?_ (h0:=by simp[a1,a2,a3,a4,a5,a6,a7,a8,a9,a10,a11,a12,hr,hoi]);rintro⟨k,p⟩ ⟨h1,h2,h3,h4⟩;simp;apply gw<;>intro b
 ·obtain⟨w,hw⟩:=aQ (l:=r) (i:=k);have hww:=M6 hr hw;have hpk:=aV (l:=p) (i:=k);have hs:=aL k (o.set i c) (vstep n m c f i);rw[←h2]at hs;have hv:=anY (n:=n) (m:=m) (c:=c) hc.1 (f:=f) (i:=i) (k:=k) h3;simp[hw];apply gv<;>intro d
  ·have d':=d;simp[a7,hpk,d];apply gw<;>intro e
   ·have hst:vstep n m c f i k p=dfs n m c f k p:=if_pos ⟨by rw[hww];exact d,e⟩;simp;refine acE (IH k p h3 (by omega) e h4) rfl ?_;simp[a7,a8,a9,a10,a11,a12];refine nxa (k+1,dfs n m c f k p) ⟨by omega,by rw[hs,hst],by rw[←hst];exact hv.1,by rw[←hst];omega⟩ (h3:=by simp[a1,a2,a3,a4,a5,a6,a7,a8,a9,a10,a11,a12,hr,hoi,hw,hpk,d])
   ·simp at e;have hst:vstep n m c f i k p=p:=if_neg (by omega);simp;refine nxa (k+1,p) ⟨by omega,by rw[hs,hst],h3,h4⟩ (h3:=by simp[a1,a2,a3,a4,a5,a6,a7,a8,a9,a10,a11,a12,hr,hoi,hw,hpk,d])
  ·have d':=d;simp at d';have hst:vstep n m c f i k p=p:=if_neg (by omega);simp[d];refine nxa (k+1,p) ⟨by omega,by rw[hs,hst],h3,h4⟩ (h3:=by simp[a1,a2,a3,a4,a5,a6,a7,a8,a9,a10,a11,a12,hr,hoi,hw,hpk,d])
 ·simp at b;obtain rfl:k=n:=by omega
  rw[←asN]at h2;simp[a7,h2]
def awY {bc bo bm bv:Nat}(hA:an1 bc bo bm bv)(hm:bP m)(hn:m.length=n)(hc:0<=c/\c<=1048576):∀f,ar3 n m c bc bo bm bv f
 |0=>fun i o hl hi h0 hf=>by have:=WP hl hi h0 hc.1;omega
 |f+1=>fun i o hl hi h0 hf=>awZ n m c bc bo bm bv f hA hm hn hc (awY hA hm hn hc f) i o hl hi h0 hf
def vY (h:bP m):∀r∈m,Qle r:=fun r hr=>by
 have h8:=dK h;simp only[bP,k_Bool_and_eq_true,aI,decide_eq_true_eq]at h;have:=h.1.1 r hr;omega
def oN (n i:Nat):L1:=List.replicate i (-1)++List.replicate (n-i) 0
def aD8 (h:i<n):(oN n i)[i]?=some 0:=by
 rw[oN,aY (by simp),sP,eH,eZ,if_pos (by omega)]
def aB1 (h:i<n):(oN n i).set i (-1)=oN n (i+1):=by
 obtain⟨k,hk⟩:∃k,n-i=k+1:=⟨n-i-1,by omega⟩;rw[oN,oN,hk,show n-(i+1)=k by omega,gG _ _ (by simp),lH (n:=i),fJ (n:=k)];simp
def pQ (m:L2)(hm:bP m:=by first|omega|grind):Fk 229 [bZ m] (wN (oO m)):=by
 refine fE [] ntmps229 fun _ _=> ?_;have hn8:=dK hm;have hz:oN m.length 0=List.replicate m.length 0:=by simp[oN]
 have hz2:List.replicate m.length (dI 0)=(oN m.length 0).map dI:=by rw[hz];simp
 have hnl:∀i≤m.length,(oN m.length i).length=m.length:=fun i hi=>by simp[oN];omega
 have hnl0:=hnl 0 (by omega);simp;refine ck (gX m (by omega) (vY hm)) ?_;simp[hm,hz2,hnl0];refine ai ?_;refine wl (fun(i:Nat)=>[(1,.own (.bx true (bZ m))),(3,.own (.bx true (dG (oN m.length i)))),(15,vI m.length),(16,vI i)]) (fun(i:Nat)=>m.length-i) (fun(i:Nat)=>(i<=m.length)) (0) (by omega) ?_;rintro i h1;simp;apply gw<;>intro a
 ·have hat:=aD8 a;have hset:((oN m.length i).map dI).set i (dI (-1))=(oN m.length (i+1)).map dI:=by rw[←aB1 a,kD]
  simp[hat,hset];refine nxa (i+1) (by omega)
 ·simp at a;simp;refine apH (oW (dI 0) (by simp) fun bc nc=> ?_);refine oW (dG (oN m.length i)) (by simp) fun bo no=> ?_;have d1:=oG.ne no (b':=bc) (o:=true) (d:=dI 0) (by simp);have e1:=d1.symm;refine oW (bZ m) (by simp) fun bm nm=> ?_;have d2:=oG.ne nm (b':=bc) (o:=true) (d:=dI 0) (by simp[e1]);have d3:=oG.ne nm (b':=bo) (o:=true) (d:=dG (oN m.length i)) (by simp);have e2:=d2.symm;have e3:=d3.symm;refine oW (.one .nilFunc) (by simp) fun bv nv=> ?_;have d4:=oG.ne nv (b':=bc) (o:=true) (d:=dI 0) (by simp[e1,e2]);have d5:=oG.ne nv (b':=bo) (o:=true) (d:=dG (oN m.length i)) (by simp[e3]);have d6:=oG.ne nv (b':=bm) (o:=true) (d:=bZ m) (by simp);have e4:=d4.symm;have e5:=d5.symm;have e6:=d6.symm;refine XW ?_;simp[e6];clear nc no nm nv;obtain rfl:i=m.length:=by omega
  have hA:an1 bc bo bm bv:=⟨e1,e2,e4,e3,e5,e6,d1,d2,d4,d3,d5,d6⟩;have hng:oN m.length m.length=List.replicate m.length (-1):=by simp[oN]
  simp[hng];refine wlt (Nat×L1×Int) (fun(i,o,c)=>([(1,.rf (1000000+2*bm) [0]),(3,.rf (1000000+2*bo) [0]),(5,.rf (1000000+2*bc) [0]),(6,.rf (1000000+2*bv) [0]),(25,vI m.length),(26,vI i),(1000000+2*bc,.own (.bx true (dI c))),(1000000+2*bo,.own (.bx true (dG o))),(1000000+2*bm,.own (.bx true (bZ m))),(1000000+2*bv,.own (.bx true (aqB bc bo bm bv)))],m.length-i,(i<=m.length)/\((o,c)=loopN i (List.replicate m.length (-1),0) (KR m.length m))/\o.length=m.length/\(0<=c/\c<=i))) ((0,List.replicate m.length (-1),0)) ⟨by omega,rfl,by simp,by omega⟩ ?_ (h0:=by simp[hm,hz2,hnl0,d1,e1,d2,e2,d3,e3,d4,e4,d5,e5,d6,e6,hng]);rintro⟨i,o,c⟩ ⟨h2,h3,h4,h5⟩;simp;apply gw<;>intro b
  ·have hoi:=aV (l:=o) (i:=i);have hs:=aL i (List.replicate m.length (-1),(0:Int)) (KR m.length m);rw[←h3]at hs;simp[d1,hoi];apply gw<;>intro f
   ·have hst:KR m.length m i (o,c)=(dfs m.length m c m.length i o,c+1):=if_pos f;simp[d4,d5,d6];refine acE (awY (c:=c) hA hm rfl (by omega) m.length i o h4 b f (arB _ _)) rfl ?_;simp[d1,e1,d2,d3,d4,d5,d6];refine nxb (i+1,dfs m.length m c m.length i o,c+1) ⟨by show i+1<=m.length;omega,by rw[hs,hst],((dfs_keeps (c:=c) (by omega) _ _ _ h4).1),(by show 0<=c+1/\c+1<=((i+1:Nat):Int);omega)⟩ (h3:=by simp[hm,hz2,hnl0,d1,e1,d2,e2,d3,e3,d4,e4,d5,e5,d6,e6,hng,hoi])
   ·simp at f;have hst:KR m.length m i (o,c)=(o,c):=if_neg (show¬at1 o i<0 by omega);simp;refine nxa (i+1,o,c) ⟨by omega,by rw[hs,hst],h4,by omega⟩ (h3:=by simp[hm,hz2,hnl0,d1,e1,d2,e2,d3,e3,d4,e4,d5,e5,d6,e6,hng,hoi])
  ·simp at b;obtain rfl:i=m.length:=by omega
   have hfin:oO m=o:=by rw[←aAC hm];exact congrArg Prod.fst h3.symm
   simp[d1,hfin];omega
def xN (n:Nat)(l:List Con)(hn:n<=1048576:=by first|omega|grind)(hl:Qle l:=by first|omega|grind)(hc:cB n l:=by first|omega|grind):Fk 230 [dI n,jG l] (wN (eB n l)):=by
 refine fE [] ntmps230 fun _ _=> ?_;simp;refine ck (tX n l) ?_;have hc2:=lQ hc;have hm:=ZP hc;have hx:=apI hc;simp[hc];refine ck (SN n l) ?_;simp;refine ck (pQ _) ?_;simp;grind
def ML (a b:L1)(ha:Qle a)(hb:Qle b):Fk 290 [nInts a,nInts b] (vB (lX a b)):=by
 refine fE [] ntmps290 fun _ _=> ?_;simp;refine ck (xM a ha) ?_;simp;apply gv<;>intro e
 ·have e':=e;simp[e];refine ck (xM b hb) ?_;simp;apply gv<;>intro f
  ·have f':=f;simp[f];grind[lX]
  ·have f':=f;simp[f];grind[lX]
 ·have e':=e;simp[e];grind[lX]
def amW {f:Nat->Nat->Bool}(h:f i k):set2 m i k 1=yO f i k m:=by unfold yO;rw[if_pos h]
def KY (p q:L1)(hp:Qle p)(hq:Qle q)(h:lX p q):Fk 228 [nInts p,nInts q] (wN (DL p q)):=by
 refine fE [] ntmps228 fun _ _=> ?_;obtain⟨hpp,hqq,hlen⟩:=WV h;have hpl:=isPart_len hpp;have hz:List.replicate p.length (dG (List.replicate p.length 0))=(zeros p.length).map dG:=by simp[zeros]
 have hmat:=ZH (q:=q) hpl;have hlab:=apB (q:=q) hpl;simp;refine ck (ML p q hp hq) ?_;simp[h];refine ck (sJ p.length) ?_;simp[hz];refine wlt (Nat×L2) (fun(i,m)=>([(0,vN p),(1,vN q),(5,.own (mQ m)),(16,vI p.length),(17,vI i)],p.length-i,(i<=p.length)/\(m=loopN i (zeros p.length) (YS p.length (BC p q)))/\(sq2 p.length m))) ((0,zeros p.length)) ⟨by omega,rfl,(pF _)⟩ ?_ (h0:=by simp[h,hz]);rintro⟨i,m⟩ ⟨h1,h2,h3⟩;simp;apply gw<;>intro a
 ·have hs:=aL i (zeros p.length) (YS p.length (BC p q));rw[←h2]at hs;have gp:=aV (l:=p) (i:=i);have gq:=aV (l:=q) (i:=i);simp;refine wlt (Nat×L2) (fun(k,w)=>([(0,vN p),(1,vN q),(5,.own (mQ w)),(6,vI i),(16,vI p.length),(17,vI i),(21,vI p.length),(22,vI k)],p.length-k,(k<=p.length)/\(w=loopN k m (yO (BC p q) i))/\(sq2 p.length w))) ((0,m)) ⟨by omega,rfl,h3⟩ ?_;rintro⟨k,w⟩ ⟨h4,h5,h6⟩;simp;apply gw<;>intro b
  ·have hs2:=aL k m (yO (BC p q) i);rw[←h5]at hs2;have kp:=aV (l:=p) (i:=k);have kq:=aV (l:=q) (i:=k);have hrw:=(rZ h6 (i:=i)).1;have hgw:=LM h6 (i:=i) (k:=k);have hset:=J6 w i k 1;simp;refine wdr ?_;simp;apply gv<;>intro e
   ·have e':=e;simp[gp,kp,e];apply gv<;>intro f
    ·have f':=f;have ho:=amW (m:=w) (show BC p q i k=true by simp only[BC,k_Bool_and_eq_true,bI,decide_eq_true_eq];exact⟨by omega,.inl f⟩);simp[hrw,hgw,hset,f];refine nxa (k+1,set2 w i k 1) ⟨by omega,by rw[hs2,ho],(wZ h6 (by omega) 1)⟩
    ·have f':=f;simp[gq,kq,f];apply gw<;>intro g
     ·have ho:=amW (m:=w) (show BC p q i k=true by simp only[BC,k_Bool_and_eq_true,bI,decide_eq_true_eq];exact⟨by omega,.inr g⟩);simp[hrw,hgw,hset];refine nxa (k+1,set2 w i k 1) ⟨by omega,by rw[hs2,ho],(wZ h6 (by omega) 1)⟩
     ·have ho:yO (BC p q) i k w=w:=if_neg (by simp only[BC,k_Bool_and_eq_true,bI,decide_eq_true_eq];omega);simp;refine nxa (k+1,w) ⟨by omega,by rw[hs2,ho],h6⟩
   ·have e':=e;have ho:yO (BC p q) i k w=w:=if_neg (by simp only[BC,k_Bool_and_eq_true,bI,decide_eq_true_eq];omega);simp[e];refine nxa (k+1,w) ⟨by omega,by rw[hs2,ho],h6⟩ (h3:=by simp[h,hz,gp,gq,kp,kq,hrw,hgw,hset,e])
  ·simp at b;obtain rfl:k=p.length:=by omega
   simp;refine nxa (i+1,w) ⟨by omega,by rw[hs,h5];rfl,h6⟩
 ·simp at a;obtain rfl:i=p.length:=by omega
  have hfin:OU p q=m:=h2.symm;rw[hfin]at hmat hlab;simp;refine ck (pQ m hmat) ?_;simp[hlab]
def QS (m:L2)(l:List Con)(hl:Qle l)(hm:bP m)(hc:cB m.length l):Fk 163 [bZ m,jG l] (wN (dH m l)):=by
 refine fE [] ntmps163 fun _ _=> ?_;have hn8:=dK hm;have hpl:=LG hm;have hml:=nL hc;have hpp:=J5 hpl hn8.1 hn8.2;have hmp:=J5 hml hn8.1 hn8.2;have hpair:lX (oO m) (eB m.length l):=by simp only[lX,k_Bool_and_eq_true,decide_eq_true_eq];exact⟨⟨hpp,hmp⟩,by rw[hpl.1,hml.1]⟩
 have hx:=(IM hm hc).1;simp;refine ck (gX m (by omega) (vY hm)) ?_;simp[hm];refine ck (tX m.length l) ?_;simp[hc];refine ck (pQ m hm) ?_;simp;refine ck (xN m.length l (by omega) hl hc) ?_;have q1:=hpl.1;have q2:=hml.1;simp;refine ck (KY (oO m) (eB m.length l) (by omega) (by omega) hpair) ?_;simp[hx]
def av2 (h:bP m)(l:L1)(i k:Nat):0<=sG m l i k/\sG m l i k<=1000:=by
 have:=iH h i k;rw[af2];split<;>omega
def jY (m:L2)(l:L1)(hm:bP m)(hl:l.length=m.length):Fk 168 [bZ m,nInts l] (vI (dL m l)):=by
 refine fE [] ntmps168 fun _ _=> ?_;have hn8:=dK hm;simp;refine wlt (Nat×Int) (fun(i,s)=>([(0,.val (bZ m)),(1,vN l),(5,vI s),(9,vI l.length),(10,vI i)],l.length-i,(i<=l.length)/\(s=loopN i 0 (yJ m l))/\(0<=s/\s<=8000*i))) ((0,0)) ⟨by omega,rfl,by omega⟩ ?_;rintro⟨i,s⟩ ⟨h1,h2,h3⟩;simp;apply gw<;>intro a
 ·have hs:=aL i 0 (yJ m l);rw[←h2]at hs;simp;refine wlt (Nat×Int) (fun(k,t)=>([(0,.val (bZ m)),(1,vN l),(5,vI t),(6,vI i),(9,vI l.length),(10,vI i),(13,vI i),(14,vI k)],i-k,(k<=i)/\(t=loopN k s (fun k s=>s+sG m l i k))/\(s<=t/\t<=s+1000*k))) ((0,s)) ⟨by omega,rfl,by omega⟩ ?_;rintro⟨k,t⟩ ⟨h4,h5,h6⟩;simp;apply gw<;>intro b
  ·have hs2:=aL k s (fun k s=>s+sG m l i k);rw[←h5]at hs2;have gi:=aV (l:=l) (i:=i);have gk:=aV (l:=l) (i:=k);obtain⟨r,hr,hw⟩:=kU hm (i:=i) (k:=k);have hc:=av2 hm l i k;have hw2:=iH hm i k;have hcb:=af2 m l i k;simp;refine wdr ?_;simp[gi,gk];apply gw<;>intro e
   ·rw[if_pos e]at hcb;have hcs:=hcb.symm;simp[hr,hw,hcs];refine nxd (k+1,t+sG m l i k) ⟨by omega,hs2.symm,by omega⟩
   ·rw[if_neg e]at hcb;have hcs:=hcb.symm;simp[hr,hw,hcs];refine nxb (k+1,t+sG m l i k) ⟨by omega,hs2.symm,by omega⟩
  ·simp at b;obtain rfl:k=i:=by omega
   simp;refine nxa (k+1,t) ⟨by omega,by rw[hs,h5];rfl,by omega⟩
 ·simp at a;obtain rfl:i=l.length:=by omega
  have hfin:dL m l=s:=h2.symm;simp[hfin]
def V8 (l:L1):(nInts l).fz=nInts l:=by simp[D.fz,D.J2]
def KW (c:Con)(p:L1)(h0:0<=c.a/\c.a<c.b)(h1:c.b<(p.length:Int)):Fk 340 [akH c,.bx false (nInts p)] (vB (FJ p c)):=by
 refine fE [] ntmps340 fun _ _=> ?_;have ha:0<=c.a:=h0.1;have hb:0<=c.b:=by omega
 have q1:=aV (l:=p) (i:=c.a.toNat);have q2:=aV (l:=p) (i:=c.b.toNat);simp;refine wdt 16 ?_;simp;apply gv<;>intro g1
 ·have g1':=g1;simp at g1';simp[ha,hb,q1,q2,g1];grind[FJ]
 ·have g1':=g1;simp at g1';simp[g1];grind[FJ]
def NM (n:Nat)(l:List Con)(hn:n<=1048576:=by first|omega|grind)(hl:Qle l:=by first|omega|grind)(hc:cB n l:=by first|omega|grind):Fk 286 [dI n,jG l] (vI (vQ n l)):=by
 refine fE [] ntmps286 fun _ _=> ?_;have hc2:=lQ hc;have hml:(eB n l).length=n:=(nL hc).1;have hne:¬eB n l=[]:=by intro e;rw[e]at hml;simp at hml;omega
 have hf:vQ n l=ix (FJ (eB n l)) l:=if_pos hc;simp;refine ck (xN n l) ?_;simp[hne,hf];intro b;refine ckB (ac4 l (FJ (eB n l)) 340 b (nInts (eB n l)) (V8 _) aFR aF6 (fun c hm=>KW c (eB n l) (by have:=hc2.2.2.2 c hm;omega) (by have:=hc2.2.2.2 c hm;omega)) hl) ?_;simp[hf]
def NN (n:Nat)(l:List Con)(hn:n<=1048576:=by first|omega|grind)(hl:Qle l:=by first|omega|grind):Fk 226 [dI n,jG l] (vB (eF n l)):=by
 refine fE [] ntmps226 fun _ _=> ?_;simp;refine ck (tX n l) ?_;simp;apply gv<;>intro e
 ·have e':=e;simp[e];refine ck (NM n l) ?_;simp;grind[eF]
 ·have e':=e;simp[e];grind[eF]
def SK (m:L2)(l:List Con)(hm:Qle m)(hr:∀r∈m,Qle r)(hl:Qle l):Fk 162 [bZ m,jG l] (vB (bP m&&eF m.length l)):=by
 refine fE [] ntmps162 fun _ _=> ?_;simp;refine ck (gX m hm hr) ?_;simp;apply gv<;>intro e
 ·have e':=e;simp[e];refine ck (NN m.length l) ?_;simp[e]
 ·have e':=e;simp[e]
def A8 (m:L2)(l:L1)(hm:bP m)(hl:Qle l):Fk 235 [bZ m,nInts l] (vI (vJ m l)):=by
 refine fE [] ntmps235 fun _ _=> ?_;simp;refine ck (gX m (by have:=dK hm;omega) (vY hm)) ?_;simp[hm];refine ck (xM l hl) ?_;simp;apply gv<;>intro e
 ·have e':=e;simp at e';have hp:vJ m l= -1:=if_neg (by simp[e']);simp[e,hp]
 ·have e':=e;simp at e';simp[e];apply gw<;>intro f
  ·have hp:vJ m l= -1:=if_neg (by omega);simp[hp]
  ·have hll:l.length=m.length:=by omega
   have hp:vJ m l=dL m l:=if_pos ⟨hm,e',hll⟩;simp;refine ck (jY m l hm hll) ?_;simp[hp]
def aaH (c:Con)(l:L1)(hl:Qle l):Fk 297 [akH c,.bx false (nInts l)] (vB (!xE l c)):=by
 refine fE [] ntmps297 fun _ _=> ?_;simp;refine wdt 30 ?_;simp;refine cd (nG c.a l.length) ?_;simp;apply gv<;>intro e
 ·have e':=e;simp at e';simp[e];grind[xE]
 ·have e':=e;simp at e';simp[e];refine cd (nG c.b l.length) ?_;simp;apply gv<;>intro f
  ·have f':=f;simp at f';simp[f];grind[xE]
  ·have f':=f;simp at f';have ha:0<=c.a:=by omega
   have hb:0<=c.b:=by omega
   have q1:=aV (l:=l) (i:=c.a.toNat);have q2:=aV (l:=l) (i:=c.b.toNat);simp[e',f',q1,q2];grind[xE]
def CW (l:L1)(cs:List Con)(hl:Qle l:=by first|omega|grind)(hc:Qle cs:=by first|omega|grind):Fk 233 [nInts l,jG cs] (vB (mY cs l)):=by
 refine fE [] ntmps233 fun _ _=> ?_;have hx:(!(cs.any fun c=> !xE l c))=mY cs l:=by rw[ahQ];simp[mY]
 simp;intro b;refine ckB (agD cs (fun c=> !xE l c) 297 b (nInts l) (V8 _) aFQ aF5 (fun c _=>aaH c l hl) hc) ?_;simp[hx]
def BV (n:Nat)(hn:n<=8:=by first|omega|grind):Fk 212 [dI n] (.own (TQ (noLinks n))):=by
 refine fE [] ntmps212 fun _ _=> ?_;simp;refine wl (fun(i:Nat)=>[(0,vI n),(3,.own (TQ (List.replicate i (List.replicate n false)))),(4,vI i)]) (fun(i:Nat)=>n-i) (fun(i:Nat)=>(i<=n)) (0) (by omega) ?_;rintro i h1;simp;apply gw<;>intro a
 ·have hx:=lH (n:=i) (a:=List.replicate n false);simp;refine nxd (i+1) (by first|omega|(simp;omega)|grind) (h3:=by simp[hx])
 ·simp at a;obtain rfl:n=i:=by omega
  simp;all_goals(simp[noLinks];done)
def zW (n:Nat)(M:List (List Bool))(hn:n<=8:=by first|omega|grind)(hM:sqB n M:=by first|omega|grind):Fk 213 [dI n,YQ M] (.own (dG (alN n M).1)):=by
 refine fE [] ntmps213 fun _ _=> ?_;simp;refine wl (fun(i:Nat)=>[(0,vI n),(1,.val (YQ M)),(5,wN (List.replicate i (-1))),(6,vI i)]) (fun(i:Nat)=>n-i) (fun(i:Nat)=>(i<=n)) (0) (by omega) ?_;rintro i h1;simp;apply gw<;>intro a
 ·have hx:=lH (n:=i) (a:=(-1:Int));simp;refine nxb (i+1) (by first|omega|(simp;omega)|grind) (h3:=by simp[hx])
 ·simp at a;obtain rfl:n=i:=by omega
  simp;refine wlt (Nat×(L1×Int)) (fun(i,s)=>([(0,vI n),(1,.val (YQ M)),(5,wN s.1),(7,vI s.2),(8,vI i)],n-i,(i<=n)/\(s=loopN i ((List.replicate n (-1),0)) (IG n M))/\(s.1.length=n/\0<=s.2/\s.2<=i))) ((0,(List.replicate n (-1),0))) ⟨by omega,rfl,by simp⟩ ?_;rintro⟨i,s⟩ ⟨h1,h2,h3⟩;simp;apply gw<;>intro a
  ·have hs:=aL i ((List.replicate n (-1),0)) (IG n M);rw[←h2]at hs;have hg:=aV (l:=s.1) (i:=i);simp[hg];apply gw<;>intro b
   ·have hx:IG n M i s=s:=if_pos b;simp;refine nxa (i+1,s) ⟨by omega,by rw[hs,hx],by omega⟩
   ·simp at b;have hx:IG n M i s=(spread n M s.2 (s.1.set i s.2),s.2+1):=if_neg (by omega);simp[hg];refine wlt (Nat×L1) (fun(a,o)=>([(0,vI n),(1,.val (YQ M)),(5,wN o),(7,vI s.2),(8,vI i),(9,vI a)],n-a,(a<=n)/\(o=loopN a (s.1.set i s.2) (spS n M s.2))/\(o.length=n))) ((0,s.1.set i s.2)) ⟨by omega,rfl,by simp;omega⟩ ?_;rintro⟨a,o⟩ ⟨h1a,h2a,h3a⟩;simp;apply gw<;>intro aa
    ·have hsa:=aL a (s.1.set i s.2) (spS n M s.2);rw[←h2a]at hsa;simp;refine wlt (Nat×L1) (fun(b,p)=>([(0,vI n),(1,.val (YQ M)),(5,wN p),(7,vI s.2),(8,vI i),(9,vI a),(10,vI b)],n-b,(b<=n)/\(p=loopN b (o) (spA n M s.2))/\(p.length=n))) ((0,o)) ⟨by omega,rfl,by omega⟩ ?_;rintro⟨b,p⟩ ⟨h1b,h2b,h3b⟩;simp;apply gw<;>intro ab
     ·have hsb:=aL b (o) (spA n M s.2);rw[←h2b]at hsb;simp;refine wlt (Nat×L1) (fun(c,q)=>([(0,vI n),(1,.val (YQ M)),(5,wN q),(7,vI s.2),(8,vI i),(9,vI a),(10,vI b),(11,vI c)],n-c,(c<=n)/\(q=loopN c (p) (spB M s.2 b))/\(q.length=n))) ((0,p)) ⟨by omega,rfl,by omega⟩ ?_;rintro⟨c,q⟩ ⟨h1c,h2c,h3c⟩;simp;apply gw<;>intro ac
      ·have hsc:=aL c (p) (spB M s.2 b);rw[←h2c]at hsc;have hq:=aV (l:=q) (i:=b);obtain⟨r,hr,hrl⟩:=arK hM ab;obtain⟨y,hy⟩:=aQ (l:=r) (i:=c);have ey:=avN hr hy;have hqc:=aV (l:=q) (i:=c);simp[hq];apply gv<;>intro e
       ·have e':=e;simp[hr,hy,e];apply gw<;>intro f
        ·have hz:spB M s.2 b c q=q.set c s.2:=if_pos ⟨by simp_all,by simp_all⟩;simp[hqc];refine nxa (c+1,q.set c s.2) ⟨by omega,by rw[hsc,hz],by simp[h3c]⟩
        ·have hz:spB M s.2 b c q=q:=if_neg (by simp_all);simp;refine nxa (c+1,q) ⟨by omega,by rw[hsc,hz],h3c⟩
       ·have e':=e;have hz:spB M s.2 b c q=q:=if_neg (by simp_all);simp[e];refine nxa (c+1,q) ⟨by omega,by rw[hsc,hz],h3c⟩
      ·simp at ac;have hic:n=c:=by omega
       subst hic;simp;refine nxa (b+1,q) ⟨by omega,by rw[hsb,spA,h2c],h3c⟩
     ·simp at ab;have hib:n=b:=by omega
      subst hib;simp;refine nxa (a+1,p) ⟨by omega,by rw[hsa,spS,h2b],h3b⟩
    ·simp at aa;have hia:n=a:=by omega
     subst hia;simp;refine nxb (i+1,(o,s.2+1)) ⟨by omega,by rw[hs,hx,spread,h2a],by simp[h3a];omega⟩
  ·simp at a;have hi:n=i:=by omega
   subst hi;simp;subst h2;rfl
end Go.Proofs.YtigjbamofhdchaaGreatDoor
end
