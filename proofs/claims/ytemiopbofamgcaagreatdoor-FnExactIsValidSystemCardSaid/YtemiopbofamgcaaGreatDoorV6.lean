/- The law FnExactIsValidSystem holds: the program's IsValidSystem answers as the reference's for all arguments. No condition beyond the given statement's own. -/
import Derived.Test.YtemiopbofamgcaaGreatDoorV5
set_option linter.unusedVariables false
set_option linter.unusedSimpArgs false
set_option linter.unusedSectionVars false
set_option maxRecDepth 10000
set_option maxHeartbeats 1000000
section
namespace Go.Proofs.YtemiopbofamgcaaGreatDoor
open Go.Dv Go.Pl Go.Proofs.Tryz
theorem LU (x y:Str)(hx:x.length<=1048576)(hy:y.length<=1048576):Fk 173 [dS x,dS y] (.val (dI (kK x y))):=by
 refine fE good [7] func173 ntmps173 fun _ _=> ?_;have hdx:(digits x).length<=x.length:=List.length_filter_le _ _;have hdy:(digits y).length<=y.length:=List.length_filter_le _ _;have hps:kK x y=yV (digits x) (digits y):=rfl;simp[go_sem];refine ck (AZ x hx) ?_;simp[go_sem];refine ck (AZ y hy) ?_;generalize digits x=p at*
 generalize digits y=q at*
 simp[go_sem];refine amP good (fun(n:Nat)=>[(5,.val (dS p)),(6,.val (dS q)),(7,.val (dI n))]) (fun(n:Nat)=>(shared p.reverse q.reverse=n)/\(n<=p.length/\n<=q.length)) ?_ ?_
 ·simp[go_sem];refine wl good (fun(n:Nat)=>[(5,.val (dS p)),(6,.val (dS q)),(7,.val (dI n))]) (fun(n:Nat)=>p.length-n) (fun(n:Nat)=>(n<=p.length/\n<=q.length)/\(shared p.reverse q.reverse=n+shared (p.reverse.drop n) (q.reverse.drop n))) (0) ⟨(by omega),(by simp)⟩ ?_;rintro n ⟨h1,h2⟩;simp[go_sem];refine wdr good ?_;simp[go_sem];apply gv<;>intro a
  ·have a':=a;simp[go_sem,a];apply gv<;>intro b
   ·have b':=b;have hk:((p.length:Int)-1-n).toNat=p.length-1-n:=by omega
    have hk2:((q.length:Int)-1-n).toNat=q.length-1-n:=by omega
    have hcx:=WA (s:=p) (i:=n) (by omega);have hcy:=WA (s:=q) (i:=n) (by omega);have hss:=UM (p:=p.reverse) (q:=q.reverse) (i:=n) (by simp;omega) (by simp;omega);simp[go_sem,b,hk,hk2,hcx,hcy];iterate 6 refine ai ?_
    apply gw<;>intro f
    ·simp[go_sem];refine ai ?_;refine nx (n+1) ⟨(by omega),(by rw[h2,hss,if_pos (by simpa using f)];omega)⟩
    ·simp[go_sem];refine jn (n) ⟨(by rw[h2,hss,if_neg (by simpa using f)];rfl),(by first|omega|(simp;omega)|grind)⟩
   ·have b':=b;simp at b';simp[go_sem,b];refine jn (n) ⟨(by rw[h2,DU (.inr (by simp;omega))];rfl),(by first|omega|(simp;omega)|grind)⟩
  ·have a':=a;simp at a';simp[go_sem,a];refine jn (n) ⟨(by rw[h2,DU (.inl (by simp;omega))];rfl),(by first|omega|(simp;omega)|grind)⟩
 rintro n ⟨h5,h6⟩;have hlt:yV p q=if p.length<4\/q.length<4\/n<4 then 0 else if n=p.length/\n=q.length then 1000 else if n>=7\/n=p.length\/n=q.length then 800 else 400:=by rw[yV,h5]
 rw[←hps]at hlt;refine GY good (fun(_:Unit)=>[(5,.val (dS p))]) (fun(_:Unit)=>(kK x y=400)) ?_ ?_
 ·simp[go_sem];apply gv<;>intro a
  ·have a':=a;rw[if_pos (by omega)]at hlt;simp[go_sem,a,hlt]
  ·have a':=a;simp at a';simp[go_sem,a];apply gv<;>intro b
   ·have b':=b;rw[if_pos (by omega)]at hlt;simp[go_sem,b,hlt]
   ·have b':=b;simp at b';simp[go_sem,b];apply gw<;>intro d
    ·rw[if_pos (by omega)]at hlt;simp[go_sem,hlt]
    ·simp at d;rw[if_neg (by omega)]at hlt;simp[go_sem];apply gv<;>intro e
     ·have e':=e;simp[go_sem,a,e];apply gw<;>intro f
      ·rw[if_pos (by omega)]at hlt;simp[go_sem,hlt]
      ·rw[if_neg (by omega)]at hlt;simp[go_sem];apply gv<;>intro g
       ·have g':=g;rw[if_pos (by omega)]at hlt;simp[go_sem,g,hlt]
       ·have g':=g;simp at g';rw[if_pos (by omega)]at hlt;simp[go_sem,g,hlt]
     ·have e':=e;rw[if_neg (by omega)]at hlt;simp[go_sem,e];apply gv<;>intro g
      ·have g':=g;rw[if_pos (by omega)]at hlt;simp[go_sem,g,hlt]
      ·have g':=g;simp at g';simp[go_sem,e,g];apply gw<;>intro l
       ·rw[if_pos (by omega)]at hlt;simp[go_sem,hlt]
       ·rw[if_neg (by omega)]at hlt;simp[go_sem];refine jn (()) (by first|omega|(simp;omega)|grind)
 rintro⟨⟩ h7;simp[go_sem,h7]
theorem zO (s:Str)(hs:s.length<=1048576):Fk 174 [dS s] (.val (dI (dD s))):=by
 refine fE good [] func174 ntmps174 fun _ _=> ?_;simp[go_sem];refine ck (Q9 s hs) ?_;simp[go_sem];apply gv<;>intro a
 ·have a':=a;simp at a';simp[go_sem,a];grind[dD]
 ·have a':=a;simp at a';simp[go_sem,a];refine ck (aG (if gV s=true then fD s else 0) 1000 9999) ?_;simp[go_sem];apply gw<;>intro b
  ·simp at b;simp[go_sem];grind[dD]
  ·simp at b;simp[go_sem];grind[dD]
theorem J5 (x y z:Int):Fk 175 [dI x,dI y,dI z] (.val (dI (gM x y z))):=by
 refine fE good [] func175 ntmps175 fun _ _=> ?_;simp[go_sem];refine ck (KR x) ?_;simp[go_sem];apply gv<;>intro e
 ·have e':=e;simp at e';simp[go_sem,e];all_goals(simp only[gM];rw[if_neg (by intro h;simp_all;omega)])
 ·have e':=e;simp at e';simp[go_sem,e];refine ck (KR y) ?_;simp[go_sem];apply gv<;>intro f
  ·have f':=f;simp at f';simp[go_sem,f];all_goals(simp only[gM];rw[if_neg (by intro h;simp_all;omega)])
  ·have f':=f;simp at f';simp[go_sem,f];refine ck (aG z 1 9999) ?_;simp[go_sem];apply gw<;>intro g
   ·simp at g;simp[go_sem];all_goals(simp only[gM];rw[if_neg (by intro h;simp_all;omega)])
   ·simp at g;have hxy:inR x 0 9999=true/\inR y 0 9999=true/\inR z 1 9999=true:=by simp_all
    obtain⟨M,hM⟩:∃M,max x y=M:=⟨_,rfl⟩;obtain⟨m,hm⟩:∃m,min x y=m:=⟨_,rfl⟩;have hns:gM x y z=if M-m>=z then 0 else(1000*(z-(M-m))).tdiv z:=by rw[gM,if_pos hxy,hM,hm]
    have hMb:0<=M-m/\M-m<=9999:=by simp at hxy;omega
    clear hxy;simp[go_sem,hM,hm];refine ai ?_;apply gw<;>intro d
    ·rw[if_pos (by omega)]at hns;simp[go_sem];all_goals simp[hns]
    ·simp at d;rw[if_neg (by omega)]at hns;have hq:=BO (a:=1000*(z-(M-m))) (b:=z) (by omega) (by omega);simp[go_sem,hq];iterate 3 refine ai ?_
     all_goals simp[hns]
theorem akD (st:Str×Int)(c:UInt8):(mV st c).1.length<=st.1.length+1:=by
 unfold mV;split
 ·simp
 ·simp only;split
  ·simp
  ·omega
theorem avK:∀(s:Str) (st:Str×Int),(s.foldl mV st).1.length<=st.1.length+s.length
 |[],st=>by simp
 |c::s,st=>by have:=avK s (mV st c);have:=akD st c;simp only[List.foldl_cons,List.length_cons];omega
theorem afO (s:Str):(dG s).length<=s.length+4:=by
 have:=avK s ([],0);unfold dG;split
 ·simp
 ·simp[VM];simp at this;omega
theorem CK (s:Str)(hs:s.length<=40):(fP s).length<=262144/\∀x∈fP s,x.length<=1048576:=by
 have ht:=CU s
 have key:∀(L t:List Str),(∀x∈L,x.length<=80)->(∀x∈t,x.length<=84)->(L.foldl nY t).length<=t.length+L.length/\∀x∈L.foldl nY t,x.length<=84:=by
  intro L
  induction L with
  |nil=>intro t _ ht;exact⟨by simp,ht⟩
  |cons y L ih=>
   intro t hL ht
   have h1:(nY t y).length<=t.length+1:=by
    unfold nY;split
    ·exact kN _ _ _
    ·omega
   have h2:∀x∈nY t y,x.length<=84:=fun x hx=>by
    unfold nY at hx;split at hx
    ·rcases ZO hx with h|rfl
     ·exact ht x h
     ·have:=afO y;have:=hL y (by simp);omega
    ·exact ht x hx
   have:=ih (nY t y) (fun x hx=>hL x (List.mem_cons_of_mem _ hx)) h2;refine⟨?_,this.2⟩;have:=this.1;simp only[List.foldl_cons,List.length_cons];omega
 have:=key (tokens s) [] (fun x hx=>by have:=ht.2 x hx;omega) (by simp);unfold fP;refine⟨by have:=this.1;simp at this;omega,fun x hx=>by have:=this.2 x hx;omega⟩
theorem CP (s:Str)(hs:s.length<=40):(tokens s).length<=262144/\∀x∈tokens s,x.length<=1048576:=by
 have ht:=CU s;exact⟨by omega,fun x hx=>by have:=ht.2 x hx;omega⟩
variable {r:Rec}
theorem JP (h:aJ r=true):vV r:=by
 have h1:=bS h;refine⟨by omega,fun f hf=> ?_⟩;obtain⟨i,hi⟩:=List.getElem?_of_mem hf;have hlt:=(List.getElem?_eq_some_iff.1 hi).1;have h2:=h1.2 i (by omega);rw[h2.1]at hi;obtain rfl:=Option.some.inj hi;have:=h2.2;unfold ZC;omega
theorem F5 (a b:Rec)(ha:aJ a=true)(hb:aJ b=true):Fk 99 [vG a,vG b] (.own (aF (vC a b))):=by
 refine fE good [] func99 ntmps99 fun _ _=> ?_;have hsa:=JP ha;have hsb:=JP hb;obtain⟨a0,hal0⟩:=(bS ha).2 0 (by omega);obtain⟨a1,hal1⟩:=(bS ha).2 1 (by omega);obtain⟨a2,hal2⟩:=(bS ha).2 2 (by omega);obtain⟨a3,hal3⟩:=(bS ha).2 3 (by omega);obtain⟨b0,hbl0⟩:=(bS hb).2 0 (by omega);obtain⟨b1,hbl1⟩:=(bS hb).2 1 (by omega);obtain⟨b2,hbl2⟩:=(bS hb).2 2 (by omega);obtain⟨b3,hbl3⟩:=(bS hb).2 3 (by omega);simp[go_sem];refine ck (jS a hsa) ?_;simp[go_sem,ha];refine ck (jS b hsb) ?_;have ta:=CP _ hal0;have tb:=CP _ hbl0;have ka:=CK _ hal0;have kb:=CK _ hbl0;simp[go_sem,hb];refine wdt good 45 ?_;simp[go_sem,a0,b0];refine cd (II (fld a 0) (fld b 0) (by omega) (by omega)) ?_;simp[go_sem,a0];refine cd (xL (fld a 0) (by omega)) ?_;simp[go_sem,b0];refine cd (xL (fld b 0) (by omega)) ?_;simp[go_sem];refine cd (FN (tokens (fld a 0)) (tokens (fld b 0)) ta.1 ta.2 tb.1 tb.2) ?_;simp[go_sem,a0];refine cd (yS (fld a 0) (by omega)) ?_;simp[go_sem,b0];refine cd (yS (fld b 0) (by omega)) ?_;simp[go_sem];refine cd (FN (fP (fld a 0)) (fP (fld b 0)) ka.1 ka.2 kb.1 kb.2) ?_;simp[go_sem,a1,b1];refine cd (II (fld a 1) (fld b 1) (by omega) (by omega)) ?_;simp[go_sem,a3,b3];refine cd (LU (fld a 3) (fld b 3) (by omega) (by omega)) ?_;simp[go_sem,a2];refine ck (zO (fld a 2) (by omega)) ?_;simp[go_sem,b2];refine ck (zO (fld b 2) (by omega)) ?_;simp[go_sem];apply gv<;>intro e
 ·have e':=e;simp[go_sem,e];apply gw<;>intro f
  ·simp[go_sem];refine ck (J5 (dD (fld a 2)) (dD (fld b 2)) 10) ?_;simp[go_sem];simp[vC,kW,e,f]
  ·simp at f;simp[go_sem];simp[vC];rw[kW,if_neg (by omega)]
 ·have e':=e;simp at e';simp[go_sem,e];simp[vC];rw[kW,if_neg (by omega)]
theorem F7 (l:List Rec)(rs:List (List Tst))(s:Sco)(hl:1<=l.length/\l.length<=8)(hv:∀r∈l,aJ r=true)(hr:dF rs=true)(hs:fC s=true)(hrl:∀t∈rs,t.length<=1048576)(hrn:rs.length<=1048576)(hw:s.weights.length<=1048576):Fk 44 [iL l,fZ rs,yH s] (.own (gN (weights l rs s))):=by
 refine fE good [23] func44 ntmps44 fun _ _=> ?_;have hall:l.all aJ=true:=List.all_eq_true.2 hv;have hlen:decide (l.length<=12)=true:=by simp;omega
 have hl1:inR l.length 1 8=true:=by simp;omega
 simp[go_sem];refine ck (VI l (by omega) (fun r hr=>JP (hv r hr))) ?_;simp[go_sem,hall,hlen];refine ck (aG l.length 1 8) ?_;simp[go_sem,hl1];refine ck (kH rs hrn hrl) ?_;simp[go_sem,hr];refine ck (iX s hw) ?_;simp[go_sem,hs];refine wl good (fun(i:Nat)=>[(0,.val (iL l)),(4,.own (.bx true (fZ rs))),(5,.own (.bx true (yH s))),(7,.own (gN ((List.range i).map (oK l rs s)))),(8,.val (dI i))]) (fun(i:Nat)=>l.length-i) (fun(i:Nat)=>(i<=l.length)) (0) (by omega) ?_;rintro i h1;simp[go_sem];apply gw<;>intro a
 ·simp[go_sem];refine wl good (fun(k:Nat)=>[(0,.val (iL l)),(4,.own (.bx true (fZ rs))),(5,.own (.bx true (yH s))),(7,.own (gN ((List.range i).map (oK l rs s)))),(8,.val (dI i)),(9,.own (aF ((List.range k).map (eZ l rs s i)))),(10,.val (dI k))]) (fun(k:Nat)=>l.length-k) (fun(k:Nat)=>(k<=l.length)) (0) (by omega) ?_;rintro k h2;simp[go_sem];apply gw<;>intro b
  ·have hrm:=Q8 (eZ l rs s i) k;simp[go_sem];refine GY good (fun(_:Unit)=>[(0,.val (iL l)),(4,.own (.bx true (fZ rs))),(5,.own (.bx true (yH s))),(7,.own (gN ((List.range i).map (oK l rs s)))),(8,.val (dI i)),(9,.own (aF ((List.range k).map (eZ l rs s i)))),(10,.val (dI k)),(11,.val (dI (eZ l rs s i k)))]) (fun(_:Unit)=>True) ?_ ?_
   ·simp[go_sem];apply gw<;>intro f
    ·have hw1:eZ l rs s i k=cK rs s (vC (recAt l (min i k)) (recAt l (max i k))):=if_neg (by omega);have hm1:(min (i:Int) k).toNat=min i k:=by omega
     have hm2:(max (i:Int) k).toNat=max i k:=by omega
     have hx:=JC (l:=l) (i:=min i k) (by omega);have hy:=JC (l:=l) (i:=max i k) (by omega);have hvx:=hv _ (AR hx);have hvy:=hv _ (AR hy);simp[go_sem];refine wdt good 16 ?_;simp[go_sem,hm1,hm2,hx,hy];iterate 2 refine ai ?_
     refine cd (F5 (recAt l (min i k)) (recAt l (max i k)) hvx hvy) ?_;simp[go_sem];refine cd (MI rs s (vC (recAt l (min i k)) (recAt l (max i k))) hrn hrl hw (by simp[vC])) ?_;simp[go_sem];refine jn (()) trivial (h3:=by simp[go_sem,hrm,hm1,hm2,hx,hy,hw1])
    ·have hw1:eZ l rs s i k=0:=if_pos (by omega);simp[go_sem];refine jn (()) trivial (h3:=by simp[go_sem,hrm,hw1])
   rintro⟨⟩ -
   simp[go_sem];iterate 2 refine ai ?_
   refine nx (k+1) (by first|omega|(simp;omega)|grind)
  ·simp at b;have hk:k=l.length:=by omega
   subst hk;have hrm:=Q8 (oK l rs s) i;have hwr:(List.range l.length).map (eZ l rs s i)=oK l rs s i:=rfl;simp[go_sem,hwr];iterate 2 refine ai ?_
   refine nx (i+1) (by first|omega|(simp;omega)|grind)
 ·simp at a;have hk:i=l.length:=by omega
  subst hk;simp[go_sem];rw[weights,List.map_map]
theorem QY {α β:Type}(f:α->β)(l:List α):List.take l.length (l.map f)=l.map f:=List.take_of_length_le (by simp)
theorem XR (x:List Str):mcount x []=0:=by cases x<;>rw[mcount]
theorem TS (u v:Str)(x y:List Str):mcount (u::x) (v::y)=if ltL u v=true then mcount x (v::y)else if ltL v u=true then mcount (u::x) y else mcount x y+1:=by rw[mcount]
theorem JZ (a b:List Str)(ha:1<=a.length/\a.length<=262144)(hb:1<=b.length/\b.length<=262144):Fk 386 [bE a,bE b] (.val (dI (mcount (kS a) (kS b)))):=by
 refine fE good [8] func386 ntmps386 fun _ _=> ?_;simp[go_sem];refine ck (yX a ha) ?_;simp[go_sem];refine ck (yX b hb) ?_;simp[go_sem];refine gX rfl (xV a ha) ?_;rintro r d ⟨rfl,rfl⟩;simp[go_sem];refine gX rfl (xV b hb) ?_;rintro r d ⟨rfl,rfl⟩;have hsa:=lG a;have hsb:=lG b;simp[go_sem];refine eQ good [] (mI.trans (aR 5) (aR 6)) ?_;generalize kS a=A at*
 generalize kS b=B at*
 simp[go_sem];refine wl good (fun((x,y,k):(List Str)×(List Str)×(Nat))=>[(5,.val (bE x)),(6,.val (bE y)),(7,.val (dI k))]) (fun(x,y,k)=>x.length+y.length) (fun(x,y,k)=>(mcount A B=k+mcount x y)/\(x.length<=262144/\y.length<=262144)/\(k+x.length<=262144)) ((A,B,0)) ⟨(by omega),(by omega),(by omega)⟩ ?_;rintro⟨x,y,k⟩ ⟨h1,h2,h3⟩;simp[go_sem];apply gv<;>intro g
 ·have g':=g;simp[go_sem,g];apply gw<;>intro e
  ·obtain⟨u,x2,rfl⟩:=List.exists_cons_of_length_pos (l:=x) (by omega);obtain⟨v,y2,rfl⟩:=List.exists_cons_of_length_pos (l:=y) (by omega);have hmc:=TS u v x2 y2;simp only[List.length_cons]at h2 h3;simp[go_sem];refine wdr good ?_;simp[go_sem];apply gw<;>intro f
   ·simp[go_sem,QY];refine nx (x2,v::y2,k) ⟨(by rw[h1,hmc,if_pos f]),(by simp;omega),(by omega)⟩
   ·simp[go_sem];refine wdr good ?_;simp[go_sem];apply gw<;>intro q
    ·simp[go_sem,QY];refine nx (u::x2,y2,k) ⟨(by rw[h1,hmc,if_neg (by simp[f]),if_pos q]),(by simp;omega),(by simp;omega)⟩
    ·simp[go_sem];refine wdr good ?_;simp[go_sem,QY];refine ai ?_;refine nx (x2,y2,k+1) ⟨(by rw[h1,hmc,if_neg (by simp[f]),if_neg (by simp[q])];omega),(by omega),(by omega)⟩
  ·simp at e;have hy:y=[]:=by first|exact e|exact List.eq_nil_of_length_eq_zero (by omega)
   rw[hy,XR]at h1;have hr:(mcount A B:Int)=k:=by omega
   simp[go_sem,hr]
 ·have g':=g;simp at g';have hx:x=[]:=by first|exact g|exact List.eq_nil_of_length_eq_zero (by omega)
  rw[hx,mcount]at h1;have hr:(mcount A B:Int)=k:=by omega
  simp[go_sem,g,hr]
theorem UY (a b:List Str)(ha:1<=a.length/\a.length<=262144)(hb:1<=b.length/\b.length<=262144):Fk 348 [bE a,bE b] (.val (dI (mcount (kS a) (kS b)))):=by
 refine fE good [] func348 ntmps348 fun _ _=> ?_;simp[go_sem];refine ck (JZ a b ha hb) ?_;simp[go_sem]
theorem CE:∀(a b:List Str),mcount a b<=a.length
 |[],b=>by rw[mcount];simp
 |u::x,[]=>by rw[XR];simp
 |u::x,v::y=>by
  rw[TS];have h1:=CE x (v::y);have h2:=CE (u::x) y;have h3:=CE x y;simp only[List.length_cons]at h2|-
  split
  ·omega
  ·split<;>omega
termination_by a b=>a.length+b.length
theorem au0 {a b:List Str}(h:nG a b=true):Asc a/\Asc b:=by
 simp only[nG,jP,Bool.and_eq_true]at h;exact⟨PT.1 h.1.2,PT.1 h.2.2⟩
theorem VB (a b:List Str)(ha:1<=a.length/\a.length<=262144)(hb:1<=b.length/\b.length<=262144)(hsa:∀x∈a,x.length<=1048576)(hsb:∀x∈b,x.length<=1048576):Fk 297 [bE a,bE b] (.val (dI (rZ a b))):=by
 refine fE good [] func297 ntmps297 fun _ _=> ?_;have hj:=MB a b;simp[go_sem];refine ck (F8 a b (by omega) hsa (by omega) hsb) ?_;simp[go_sem];apply gw<;>intro e
 ·simp at e;have hr:rZ a b=0:=by rw[hj,if_neg (by simp[e])]
  simp[go_sem,hr]
 ·simp at e;rw[if_pos e]at hj;have hA:=au0 e;have h1:=acA hA.1;have h2:=acA hA.2;have hl1:=CE a b;have hl2:=CE b a;rw[vL b a]at hl2;simp[go_sem];refine ck (UY a b ha hb) ?_;obtain⟨m,hm⟩:∃m:Nat,mcount a b=m:=⟨_,rfl⟩;rw[hm]at hl1 hl2 hj;simp[go_sem,h1,h2,hm];iterate 3 refine ai ?_
  refine ck (RS (1000*(m:Int)) ((a.length:Int)+b.length-m) (by omega) (by omega)) ?_;simp[go_sem,hj]
theorem BX (a b:List Str)(ha:a.length<=262144)(hb:b.length<=262144)(hsa:∀x∈a,x.length<=1048576)(hsb:∀x∈b,x.length<=1048576):Fk 226 [bE a,bE b] (.val (dI (lM a b))):=by
 refine fE good [] func226 ntmps226 fun _ _=> ?_;simp[go_sem];apply gv<;>intro e
 ·have e':=e;have hr:lM a b=0:=if_pos (.inl e);simp[go_sem,e];grind
 ·have e':=e;simp[go_sem,e];apply gw<;>intro f
  ·have hr:lM a b=0:=if_pos (.inr f);simp[go_sem,hr]
  ·have hr:lM a b=rZ a b:=if_neg (by rintro(h|h);exact e h;exact f h);have he:1<=a.length:=List.length_pos_iff.2 e;have hf:1<=b.length:=List.length_pos_iff.2 f;simp[go_sem];refine ck (VB a b ⟨he,ha⟩ ⟨hf,hb⟩ hsa hsb) ?_;simp[go_sem,hr]
theorem RQ (a b:Rec)(ha:aJ a=true)(hb:aJ b=true):Fk 151 [vG a,vG b] (.own (aF (vC a b))):=by
 refine fE good [] func151 ntmps151 fun _ _=> ?_;obtain⟨a0,hal0⟩:=(bS ha).2 0 (by omega);obtain⟨a1,hal1⟩:=(bS ha).2 1 (by omega);obtain⟨a2,hal2⟩:=(bS ha).2 2 (by omega);obtain⟨a3,hal3⟩:=(bS ha).2 3 (by omega);obtain⟨b0,hbl0⟩:=(bS hb).2 0 (by omega);obtain⟨b1,hbl1⟩:=(bS hb).2 1 (by omega);obtain⟨b2,hbl2⟩:=(bS hb).2 2 (by omega);obtain⟨b3,hbl3⟩:=(bS hb).2 3 (by omega);have ta:=CP _ hal0;have tb:=CP _ hbl0;have ka:=CK _ hal0;have kb:=CK _ hbl0;simp[go_sem];refine wdf good [(13,[17,18]),(18,[22,23]),(24,[28,29]),(29,[33,34]),(58,[13,24,35,44,53,62,63]),(59,[63,4])] [(2,.own (.bx true (vG a))),(3,.own (.bx true (vG b)))] [] (by simp[go_sem]) ?_;simp[go_sem,a0,b0];refine cd (zF (fld a 0) (fld b 0) (by omega) (by omega)) ?_;simp[go_sem,a0];refine cf (xM (fld a 0) (by omega)) ?_;simp[go_sem,b0];refine cf (xM (fld b 0) (by omega)) ?_;simp[go_sem];refine cd (BX (tokens (fld a 0)) (tokens (fld b 0)) ta.1 tb.1 ta.2 tb.2) ?_;simp[go_sem,a0];refine cf (zP (fld a 0) (by omega)) ?_;simp[go_sem,b0];refine cf (zP (fld b 0) (by omega)) ?_;simp[go_sem];refine cd (BX (fP (fld a 0)) (fP (fld b 0)) ka.1 kb.1 ka.2 kb.2) ?_;simp[go_sem,a1,b1];refine cd (zF (fld a 1) (fld b 1) (by omega) (by omega)) ?_;simp[go_sem,a2,b2];refine cd (PQ (fld a 2) (fld b 2) (by omega) (by omega)) ?_;simp[go_sem,a3,b3];refine cd (LA (fld a 3) (fld b 3) (by omega) (by omega)) ?_;simp[go_sem];simp_all[vC];done
def AO (l:List Rec)(i:Nat):List Rec:=l.take i
theorem FZ (l:List Rec)(rs:List (List Tst))(s:Sco)(hl:1<=l.length/\l.length<=8)(hv:∀r∈l,aJ r=true)(hr:dF rs=true)(hs:fC s=true)(hrl:∀t∈rs,t.length<=1048576)(hrn:rs.length<=1048576)(hw:s.weights.length<=1048576):Fk 68 [iL l,fZ rs,yH s] (.own (gN (weights l rs s))):=by
 refine fE good [] func68 ntmps68 fun _ _=> ?_;have hin:inR (l.length:Int) 1 8=true:=by simp[inR];omega
 have hal:l.all aJ=true:=List.all_eq_true.2 hv;have hbw:=aCA l rs s;obtain⟨n,hn⟩:∃n,l.length=n:=⟨_,rfl⟩;simp[go_sem];refine ck (aH l.length 1 8) ?_;simp[go_sem,hin];refine ck (LV l (by omega) (fun r hr=>JP (hv r hr))) ?_;simp[go_sem,hal];refine ck (kI rs hrn hrl) ?_;simp[go_sem,hr];refine ck (iY s hw) ?_;have hz:List.replicate l.length (aF (List.replicate l.length 0))=(zeros l.length).map aF:=by simp[zeros]
 simp[go_sem,hs];refine ck (lN l.length (by omega)) ?_;simp[go_sem,hz];refine wl good (fun((i,m):(Nat)×(L2))=>[(0,.val (iL l)),(4,.own (.bx true (fZ rs))),(5,.own (.bx true (yH s))),(7,.own (gN m)),(35,.val (iL l)),(36,.val (dI l.length)),(37,.val (dI i))]) (fun(i,m)=>l.length-i) (fun(i,m)=>(i<=l.length)/\(m=loopN i (zeros l.length) (aeY l rs s))/\(sq2 l.length m)) ((0,zeros l.length)) ⟨(by omega),(rfl),(jK l.length)⟩ ?_ (h0:=by simp[go_sem,hin,hal,hr,hs,hz]);rintro⟨i,m⟩ ⟨h1,h2,h3⟩;simp[go_sem];apply gw<;>intro a
 ·have hci:=JC a;obtain⟨ci,hcie⟩:∃ci,recAt l i=ci:=⟨_,rfl⟩;rw[hcie]at hci;have hvi:=hv ci (List.mem_of_getElem? hci);have hii:i<=l.length:=by omega
  have hto1:List.take i (l.map vG)=(AO l i).map vG:=by rw[AO,List.map_take]
  have hto2:(l.take i).map vG=(AO l i).map vG:=rfl;have htl:(AO l i).length=i:=by rw[AO,List.length_take];omega
  simp[go_sem,hci,hii,hto1,htl];refine wl good (fun((k,q):(Nat)×(L2))=>[(0,.val (iL l)),(4,.own (.bx true (fZ rs))),(5,.own (.bx true (yH s))),(7,.own (gN q)),(8,.val (dI i)),(9,.own (.bx true (vG ci))),(35,.val (iL l)),(36,.val (dI l.length)),(37,.val (dI i)),(44,.val (iL (AO l i))),(45,.val (dI i)),(46,.val (dI k))]) (fun(k,q)=>i-k) (fun(k,q)=>(k<=i)/\(q=loopN k m (ad2 l rs s i))/\(sq2 l.length q)) ((0,m)) ⟨(by omega),(rfl),(h3)⟩ ?_;rintro⟨k,q⟩ ⟨h4,h5,h6⟩;simp[go_sem];apply gw<;>intro d
  ·have hck:=JC (l:=l) (i:=k) (by omega);obtain⟨ck,hcke⟩:∃ck,recAt l k=ck:=⟨_,rfl⟩;rw[hcke]at hck;have hvk:=hv ck (List.mem_of_getElem? hck);have hckt:(AO l i)[k]?=some ck:=by rw[AO,List.getElem?_take,if_pos d];exact hck
   simp[go_sem,hckt];refine wdf good [(4,[53,54,55]),(6,[56,12])] [(0,.val (iL l)),(4,.own (.bx true (fZ rs))),(5,.own (.bx true (yH s))),(7,.own (gN q)),(8,.val (dI i)),(9,.own (.bx true (vG ci))),(10,.val (dI k)),(11,.own (.bx true (vG ck))),(35,.val (iL l)),(36,.val (dI l.length)),(37,.val (dI i)),(44,.val (iL (AO l i))),(45,.val (dI i)),(46,.val (dI k))] [] (by simp[go_sem]) ?_;simp[go_sem];refine cf (RQ ci ck hvi hvk) ?_;simp[go_sem];refine cd (M3 rs s (vC ci ck) hrn hrl hw (by simp[vC])) ?_;obtain⟨w,hwe⟩:∃w,cK rs s (vC ci ck)=w:=⟨_,rfl⟩;have hwa:wAt l rs s i k=w:=by rw[wAt,hcie,hcke,hwe]
   obtain⟨hA,hA2⟩:=kU h6 (i:=i) (by omega);obtain⟨hB,hB2⟩:=kU h6 (i:=k) (by omega);have hgA:=D8 h6 (i:=i) (k:=k) (by omega) (by omega);have hgB:=D8 h6 (i:=k) (k:=i) (by omega) (by omega);have hml:i<q.length:=by rw[h6.1];omega
   have hml2:k<q.length:=by rw[h6.1];omega
   have hne:¬i=k:=by omega
   have hset:=al6 (m:=q) (v:=w) (w:=w) hne;have hmm:ad2 l rs s i k q=set2 (set2 q i k w) k i w:=by rw[ad2,hwa]
   rw[←hmm]at hset;simp[go_sem,hwe];refine wdf good [(13,[69,67,7,57,59,60,62,64,65]),(15,[70,68,7,57,59,60,62,64,65,69])] [(0,.val (iL l)),(4,.own (.bx true (fZ rs))),(5,.own (.bx true (yH s))),(7,.own (gN q)),(8,.val (dI i)),(9,.own (.bx true (vG ci))),(10,.val (dI k)),(12,.val (dI w)),(35,.val (iL l)),(36,.val (dI l.length)),(37,.val (dI i)),(44,.val (iL (AO l i))),(45,.val (dI i)),(46,.val (dI k))] [] (by simp[go_sem]) ?_;simp[go_sem,hA,hB,hgA,hgB,hne,hset];refine ai ?_;refine nx (k+1,ad2 l rs s i k q) ⟨(by omega),(by rw[aA,←h5]),(aeD h6 (by omega) d)⟩
  ·simp at d;obtain rfl:k=i:=by omega
   simp[go_sem];refine ai ?_;refine nx (k+1,q) ⟨(by omega),(by rw[aA,←h2,h5];rfl),(h6)⟩
 ·simp at a;have hfin:weights l rs s=m:=by rw[←hbw,h2,show i=l.length by omega];rfl
  simp[go_sem,hfin]
theorem aqJ (l:List Ver)(hl:l.length<=8):(kP l).length<=8:=by
 unfold kP;rw[yZ];have h0:(apart (bQ l)).length<=8:=Nat.le_trans (List.length_filter_le _ _) (Nat.le_trans (TR l) hl)
 have key:∀(L:List Ver) (st:L2×List Ver×List Ver) (C:List Ver),st.2.1.length<=8->(L.foldl (mQ C) st).2.1.length<=8:=by
  intro L C0 C
  induction L generalizing C0 with
  |nil=>exact fun h=>h
  |cons v L ih=>
   intro h;rw[List.foldl_cons];refine ih _ ?_;unfold mQ;split
   ·exact au7 v (by rw[yZ];exact h)
   ·exact h
 exact key _ _ _ h0
theorem NW (kept:List Ver)(items:L1)(hk:kept.length<=8)(hi:items.length<=8):(iI kept items).length<=16:=by
 have h1:(wK (apart kept) items).length<=kept.length:=Nat.le_trans (List.length_filterMap_le _ _) (List.length_filter_le _ _)
 have h2:∀n,((List.range n).flatMap (kT (joined kept) items)).length<=n:=by
  intro n
  induction n with
  |zero=>simp
  |succ n ih=>
   rw[List.range_succ,List.flatMap_append,List.length_append];have:=UI (joined kept) items n;simp only[List.flatMap_cons,List.flatMap_nil,List.append_nil];omega
 have h3:=h2 items.length;unfold iI BQ;rw[List.length_append];omega
def kZ (items:L1)(b:L1):L1:=b.map (at1 items ·.toNat)
def sK (c:Cfg)(s:Sto):L1:=iA (weights s.recs c.rules c.sco) (iI (kP s.vers) (s.recs.map eH))
def uO (c:Cfg)(s:Sto):L2:=(blocksP (sK c s)).map (kZ (s.recs.map eH))
def pK (c:Cfg)(s:Sto):L2:=if(eY c&&dA s)=true then(if s.recs.length=0 then[]else uO c s)else[]
def vQ (c:Cfg)(s:Sto):List Ver:=if(eY c&&dA s)=true then dQ s.vers else[]
structure aj9 (c:Cfg):Prop where
 rules:c.rules.length<=1048576
 rule:∀l∈c.rules,l.length<=1048576
 weights:c.sco.weights.length<=1048576
 surv:c.surv.length<=1048576
structure avD (s:Sto):Prop where
 recs:s.recs.length<=1048576
 rec1:∀r∈s.recs,vV r
 vers:s.vers.length<=1048576
theorem adR {m:L2}(cs:List Con)(hm:aI m=true):(iA m cs).length=0\/(bM (iA m cs)=true/\(iA m cs).length=m.length):=by
 have hml:=aP hm;unfold iA;split
 ·right;have h1:(iG m cs).length=m.length:=by rw[iG,jE,Q0]
  exact⟨isPart_iff.2 ⟨BR _,by omega,by omega⟩,h1⟩
 ·left;rfl
theorem WH {l:L1}{n:Nat}(h:l.length=0\/(bM l=true/\l.length=n))(v:Nat)(hv:v<(blocksP l).length):FL n (gat (blocksP l) v)/\(gat (blocksP l) v).length<=n:=by
 rcases h with h|⟨h1,h2⟩
 ·rw[List.length_eq_zero_iff.1 h]at hv;simp[blocksP,loopN]at hv
 ·have:=JE (isPart_iff.1 h1).1 hv;rw[h2]at this;exact⟨this.1,this.2.2⟩
theorem arY {c:Cfg}(h:eY c=true):dF c.rules=true/\fC c.sco=true:=by
 simp only[eY,Bool.and_eq_true]at h;exact h.1
variable {s:Sto}
theorem RO (h:dA s=true):(∀r∈s.recs,aJ r=true)/\s.recs.length<=8/\eO s.vers=true/\s.vers.length<=8:=by
 simp only[dA,Bool.and_eq_true,decide_eq_true_eq,List.all_eq_true]at h;have h2:=h.2;simp only[eO,Bool.and_eq_true,decide_eq_true_eq]at h2;exact⟨h.1.1.1.1,h.1.2,h.2,h2.2⟩
theorem GU (c:Cfg)(s:Sto)(hc:aj9 c)(hs:avD s):Fk 13 [aaS c,MM s] (.tup [.val (aM (pK c s)),.val (nVers (vQ c s)),.val (dB (eY c&&dA s))]):=by
 refine fE good [7,13,43] func13 ntmps13 fun _ _=> ?_;simp[go_sem];refine ck (E8 c hc.rules hc.rule hc.weights hc.surv) ?_;simp[go_sem];apply gv<;>intro a
 ·have a':=a;simp at a';have a2:eY c=false:=by simpa using a
  have hr1:pK c s=[]:=if_neg (by simp[a2]);have hr2:vQ c s=[]:=if_neg (by simp[a2]);simp[go_sem,a2];refine eQ good [] ((aR 4).trans (aR 5)) ?_;simp[go_sem,a2,hr1,hr2]
 ·have a':=a;simp at a';have a2:eY c=true:=by simpa using a
  simp[go_sem,a2];refine ck (uZ s hs.recs hs.rec1 hs.vers) ?_;simp[go_sem];apply gw<;>intro b
  ·simp at b;have hr1:pK c s=[]:=if_neg (by simp[b]);have hr2:vQ c s=[]:=if_neg (by simp[b]);simp[go_sem,b];refine eQ good [] ((aR 4).trans (aR 5)) ?_;simp[go_sem,a2,b,hr1,hr2]
  ·simp at b;have hcv:=arY a2;have hsv:=RO b;have hr1:pK c s=if s.recs.length=0 then[]else uO c s:=if_pos (by simp[a2,b])
   have hr2:vQ c s=dQ s.vers:=if_pos (by simp[a2,b]);simp[go_sem,b];refine ck (EX s.vers (by omega) hsv.2.2.1) ?_;simp[go_sem];apply gw<;>intro d
   ·have hr3:pK c s=[]:=by rw[hr1];exact if_pos (by simpa using d)
    simp[go_sem];refine eQ good [] ((aR 4).trans (aR 5)) ?_;simp[go_sem,a2,b,hr3,hr2]
   ·have hr3:pK c s=uO c s:=by rw[hr1];exact if_neg (by simpa using d)
    have hn:1<=s.recs.length/\s.recs.length<=8:=⟨by have:s.recs.length≠0:=(by simpa using d);omega,hsv.2.1⟩;obtain⟨items,hit⟩:∃items,items=s.recs.map eH:=⟨_,rfl⟩;have hit2:s.recs.map eH=items:=hit.symm;have hil:items.length=s.recs.length:=by rw[hit];simp
    have hmat:=zR c.rules c.sco hn;have hk8:=aqJ s.vers hsv.2.2.2;simp[go_sem];refine ck (ME s hs.recs hs.rec1 hs.vers b) ?_;simp[go_sem,hit2];refine ck (F7 s.recs c.rules c.sco hn hsv.1 hcv.1 hcv.2 hc.rule hc.rules hc.weights) ?_;simp[go_sem];refine ck (U1 (kP s.vers) items hk8 (by omega)) ?_;have hsc:=NW (kP s.vers) items hk8 (by omega);simp[go_sem];refine bC (GL (weights s.recs c.rules c.sco) (iI (kP s.vers) items) hmat (by omega)) (by simp[go_sem]) ?_;rintro r ⟨c1,e1,g1,rfl⟩;refine⟨by simp[go_sem],?_⟩;have hlab:=adR (iI (kP s.vers) items) hmat;have hlO:iA (weights s.recs c.rules c.sco) (iI (kP s.vers) items)=sK c s:=by rw[hit];rfl
    have hwl:(weights s.recs c.rules c.sco).length=s.recs.length:=by simp[weights]
    rw[hlO,hwl]at hlab;simp[go_sem,hlO];refine ck (qR (sK c s) (by omega) (hlab.imp id And.left)) ?_;have hbs:=WH hlab;have hrc:uO c s=(blocksP (sK c s)).map (kZ items):=by rw[hit];rfl
    have hbl:(blocksP (sK c s)).length<=8:=by rcases hlab with h|h;(rw[List.length_eq_zero_iff.1 h];simp[blocksP,loopN]);exact Nat.le_trans (blocksI (isPart_iff.1 h.1).1 (Nat.le_refl _)).len (by omega)
    clear hlO hlab;generalize blocksP (sK c s)=bs at*
    simp[go_sem];refine wl good (fun((i,o):(Nat)×(L2))=>[(7,.own (gN o)),(9,.val (nVers (dQ s.vers))),(10,.own (aF items)),(15,.own (gN bs)),(16,.val (dI i))]) (fun(i,o)=>bs.length-i) (fun(i,o)=>(i<=bs.length)/\(o=(bs.take i).map (kZ items))) ((0,[])) ⟨(by omega),(rfl)⟩ ?_;rintro⟨i,o⟩ ⟨h1,h2⟩;simp[go_sem];apply gw<;>intro e
    ·have hr:=WL e;have hsel:=hbs i e;have hol:o.length<=8:=by rw[h2,List.length_map,List.length_take];omega
     have hgm:=pU (kZ items) hr;generalize hbg:gat bs i=bb at hr hsel hgm|-
     simp[go_sem];refine wl good (fun((j,g):(Nat)×(L1))=>[(7,.own (gN o)),(9,.val (nVers (dQ s.vers))),(10,.own (aF items)),(15,.own (gN bs)),(16,.val (dI i)),(17,.own (aF g)),(18,.val (dI j))]) (fun(j,g)=>bb.length-j) (fun(j,g)=>(j<=bb.length)/\(g=kZ items (bb.take j))) ((0,[])) ⟨(by omega),(rfl)⟩ ?_;rintro⟨j,g⟩ ⟨h3,h4⟩;simp[go_sem,hr];apply gw<;>intro f
     ·have hg:=aD f;have hgx:=hsel.1.1 _ (List.mem_of_getElem? hg);have ha0:0<=at1 bb j:=hgx.1;have hix:(at1 bb j).toNat<items.length:=by rw[hil];omega
      have hg2:=aD hix;have hgl:g.length<=8:=by rw[h4,kZ,List.length_map,List.length_take];omega
      have hpk:kZ items (bb.take (j+1))=g++[at1 items (at1 bb j).toNat]:=by rw[kZ,pU _ hg,h4];rfl
      simp[go_sem,hr,hg,ha0,hg2];iterate 2 refine ai ?_
      refine nx (j+1,g++[at1 items (at1 bb j).toNat]) ⟨(by omega),(hpk.symm)⟩
     ·simp at f;have hgE:kZ items bb=g:=by rw[h4,aK f]
      simp[go_sem];iterate 2 refine ai ?_
      refine nx (i+1,o++[g]) ⟨(by omega),(by rw[hgm,hgE,←h2])⟩
    ·simp at e;have ho:uO c s=o:=by rw[hrc,h2,aK e]
     simp[go_sem];refine eQ good [] ((aR 4).trans (aR 5)) ?_;simp[go_sem,a2,b,hr3,ho,hr2]
theorem abM (h:aJ r=true):0<=r.source/\r.source<=3/\1<=r.key/\r.key<=99:=by
 simp only[aJ,inR,Bool.and_eq_true,decide_eq_true_eq]at h;omega
theorem arQ (h:dA s=true):(∀x∈s.recs.map eH,inT x)/\(s.recs.map eH).Nodup:=by
 constructor
 ·intro x hx;obtain⟨r,hr,rfl⟩:=List.mem_map.1 hx;have:=abM ((RO h).1 r hr);unfold eH inT;omega
 ·simp only[dA,Bool.and_eq_true]at h;have h1:=ai5 (R:=fun a b=>decide (eH a<eH b)) (fun a b c hab hbc=>by simp only[decide_eq_true_eq]at*;omega) h.1.1.1.2;unfold List.Nodup;rw[List.pairwise_map];exact h1.imp fun hab=>by simp only[decide_eq_true_eq]at hab;omega
theorem ah7 {P:Ver->Prop}:∀(L:List Ver) (st:List Ver×List Ver),(∀v∈st.1,P v)->(∀v∈L,P v)->∀v∈(L.foldl xZ st).1,P v
 |[],st,h,_=>h
 |c::L,st,h,hL=>ah7 L (xZ st c) (fun v hv=>by
   unfold xZ at hv;split at hv
   ·exact h v hv
   ·rcases List.mem_append.1 hv with h1|h1
    ·exact h v h1
    ·rw[List.mem_singleton.1 h1];exact hL c List.mem_cons_self) (fun v hv=>hL v (List.mem_cons_of_mem _ hv))
theorem akS {l:List Ver}(h:eO l=true):∀v∈kP l,bH v=true:=fun v hv=>by
 rw[←(Y8 h).1]at hv;have hc:=(akY h).1;exact ah7 (P:=fun v=>bH v=true) _ _ (fun v hv=>hc v (List.mem_filter.1 hv).1) (fun v hv=>hc v (List.mem_filter.1 ((zN _).mem_iff.1 hv)).1) v ((wG _).mem_iff.1 hv)
def mxP (items:L1)(B:L2)(i:Nat):L2:=(B.take i).map (kZ items)++B.drop i
def mxR (items b:L1)(j:Nat):L1:=kZ items (b.take j)++b.drop j
variable {items:L1}{B:L2}
theorem VZ {i:Nat}(h:i<=B.length):(mxP items B i).length=B.length:=by simp[mxP];omega
theorem al7 {i:Nat}(h:i<B.length):(mxP items B i)[i]?=B[i]?:=by
 unfold mxP;rw[List.getElem?_append_right (by simp;omega),List.getElem?_drop,List.length_map,List.length_take,Nat.min_eq_left (by omega),Nat.sub_self,Nat.add_zero]
variable {b:L1}
theorem awN {i:Nat}(h:B[i]?=some b):(mxP items B i).set i (kZ items b)=mxP items B (i+1):=by
 have hi:=aS h;unfold mxP;have hl:((B.take i).map (kZ items)).length=i:=by simp;omega
 rw[List.set_append,if_neg (by omega),hl,Nat.sub_self,List.drop_eq_getElem_cons hi,List.set_cons_zero,aU h,List.map_append,List.append_assoc];rfl
theorem awD {i:Nat}(h:B[i]?=some b):(mxP items B i).set i b=mxP items B i:=by
 apply List.ext_getElem?;intro m;by_cases hm:i=m
 ·subst hm;have hi:=aS h;rw[List.getElem?_set_self (by rw[VZ (by omega)];exact hi),al7 hi,h]
 ·rw[List.getElem?_set_ne hm]
variable {j:Nat}
theorem azW (h:j<=b.length):(mxR items b j).length=b.length:=by simp[mxR,kZ];omega
theorem ayZ (h:j<b.length):(mxR items b j)[j]?=b[j]?:=by
 unfold mxR kZ;rw[List.getElem?_append_right (by simp;omega),List.getElem?_drop,List.length_map,List.length_take,Nat.min_eq_left (by omega),Nat.sub_self,Nat.add_zero]
theorem azJ (h:j<b.length):(mxR items b j).set j (at1 items (at1 b j).toNat)=mxR items b (j+1):=by
 have hg:=aD h;unfold mxR kZ;have hl:((b.take j).map (at1 items ·.toNat)).length=j:=by simp;omega
 have hd:b.drop j=at1 b j::b.drop (j+1):=by rw[List.drop_eq_getElem_cons h];rw[List.getElem?_eq_getElem h]at hg;rw[Option.some.inj hg]
 rw[List.set_append,if_neg (by omega),hl,Nat.sub_self,hd,List.set_cons_zero,aU hg,List.map_append,List.append_assoc];rfl
theorem aw9 (items b:L1):mxR items b b.length=kZ items b:=by simp[mxR]
def mxQ (items:L1)(B:L2)(i:Nat)(b:L1)(j:Nat):L2:=(mxP items B i).set i (mxR items b j)
theorem asS {i:Nat}(h:B[i]?=some b):mxQ items B i b 0=mxP items B i:=by
 have:mxR items b 0=b:=by simp[mxR,kZ]
 rw[mxQ,this,awD h]
theorem awU {i:Nat}(h:i<=B.length):(mxQ items B i b j).length=B.length:=by rw[mxQ,List.length_set,VZ h]
theorem axD {i:Nat}(h:i<B.length):(mxQ items B i b j)[i]?=some (mxR items b j):=by rw[mxQ,List.getElem?_set_self (by rw[VZ (by omega)];exact h)]
theorem azP {i:Nat}(h:i<B.length)(hj:j<b.length):((mxQ items B i b j).map aF).set i (D.sl (some 3) (((mxR items b j).map dI).set j (dI (at1 items (at1 b j).toNat))))=(mxQ items B i b (j+1)).map aF:=by
 rw[←List.map_set,azJ hj];show((mxQ items B i b j).map aF).set i (aF (mxR items b (j+1)))=_;rw[←List.map_set,mxQ,mxQ,List.set_set]
theorem ayH {i:Nat}(h:B[i]?=some b):mxQ items B i b b.length=mxP items B (i+1):=by rw[mxQ,aw9,awN h]
def UC (c:Cfg)(s:Sto):L2:=if s.recs.length=0 then[]else uO c s
theorem UO (c:Cfg)(s:Sto)(hc:eY c=true)(hs:dA s=true)(hsc:aj9 c):Fk 27 [aaS c,MM s] (.tup [.own (gN (UC c s)),.own (oVers (dQ s.vers))]):=by
 refine fE good [7] func27 ntmps27 fun _ _=> ?_;have hcv:=arY hc;have hsv:=RO hs;have hk8:=aqJ s.vers hsv.2.2.2;have hkv:=akS hsv.2.2.1;simp[go_sem];refine ck (ER s.vers (by omega) hsv.2.2.1) ?_;simp[go_sem];apply gw<;>intro d
 ·have hr:UC c s=[]:=if_pos (by simpa using d);try simp[go_sem]
  refine eQ good [] (JU (L:=[(4,.own (gN [])),(5,.own (oVers (dQ s.vers)))]) (by simp[go_sem])) ?_;simp[go_sem,hr]
 ·have hr:UC c s=uO c s:=if_neg (by simpa using d);have hn:1<=s.recs.length/\s.recs.length<=8:=⟨by have:s.recs.length≠0:=(by simpa using d);omega,hsv.2.1⟩;have hio:=arQ hs;have hperm:=apD hkv hio.1 hio.2;have hmat:=zR c.rules c.sco hn;have hcl:=aaJ hmat hperm;have hcl2:iA (weights s.recs c.rules c.sco) (iI (kP s.vers) (s.recs.map eH))=sK c s:=rfl;rw[hcl2]at hcl;have h16:=NW (kP s.vers) (s.recs.map eH) hk8 (by simp;omega);rw[←hperm.length_eq]at h16;have hlab:=adR (iI (kP s.vers) (s.recs.map eH)) hmat;rw[hcl2]at hlab;have hrc:uO c s=(blocksP (sK c s)).map (kZ (s.recs.map eH)):=rfl;have hwl:(weights s.recs c.rules c.sco).length=s.recs.length:=by simp[weights]
  rw[hwl]at hlab;obtain⟨items,hit⟩:∃items,s.recs.map eH=items:=⟨_,rfl⟩;rw[hit]at hio hperm hcl h16 hrc;have hil:items.length=s.recs.length:=by rw[←hit];simp
  simp[go_sem];refine ck (M7 s (by omega) (fun r hr=>by have:=abM (hsv.1 r hr);unfold eH;simp only[inI];omega)) ?_;simp[go_sem,hit];refine ck (FZ s.recs c.rules c.sco hn hsv.1 hcv.1 hcv.2 hsc.rule hsc.rules hsc.weights) ?_;simp[go_sem];refine ck (ET (kP s.vers) items hk8 (fun v hv=>⟨(jZ (hkv v hv)).1,(jZ (hkv v hv)).2.1⟩) (by omega) hio.1) ?_;simp[go_sem];refine bC (IE (weights s.recs c.rules c.sco) (ag5 (kP s.vers) items) hmat (by omega)) (by simp[go_sem]) ?_;rintro r ⟨c1,e1,g1,rfl⟩;refine⟨by simp[go_sem],?_⟩;simp[go_sem,hcl];refine ck (FM (sK c s) (by omega) (hlab.imp id And.left)) ?_;have hbs:=WH hlab;have hbl:(blocksP (sK c s)).length<=8:=by rcases hlab with h|h;(rw[List.length_eq_zero_iff.1 h];simp[blocksP,loopN]);exact Nat.le_trans (blocksI (isPart_iff.1 h.1).1 (Nat.le_refl _)).len (by omega)
  clear hcl hlab hperm;generalize blocksP (sK c s)=B at*
  have hm0:mxP items B 0=B:=by simp[mxP]
  simp[go_sem];refine wl good (fun(i:Nat)=>[(7,.own (oVers (dQ s.vers))),(8,.own (aF items)),(11,.own (gN (mxP items B i))),(46,.al 11 []),(47,.val (dI B.length)),(48,.val (dI i))]) (fun(i:Nat)=>B.length-i) (fun(i:Nat)=>(i<=B.length)) (0) (by omega) ?_ (h0:=by simp[go_sem,hit,hm0]);rintro i h1;simp[go_sem];apply gw<;>intro a
  ·obtain⟨b,hb⟩:=aC (l:=B) (i:=i) a;have hmg:=al7 (items:=items) a;rw[hb]at hmg;have hml:=VZ (items:=items) h1;have hgb:gat B i=b:=by simp[gat,List.getD,hb]
   have hsel:=hbs i a;rw[hgb]at hsel;have hz:=asS (items:=items) hb;simp[go_sem,hmg];refine wl good (fun(j:Nat)=>[(7,.own (oVers (dQ s.vers))),(8,.own (aF items)),(11,.own (gN (mxQ items B i b j))),(13,.al 11 [i]),(46,.al 11 []),(47,.val (dI B.length)),(48,.val (dI i)),(52,.al 11 [i]),(53,.val (dI b.length)),(54,.val (dI j))]) (fun(j:Nat)=>b.length-j) (fun(j:Nat)=>(j<=b.length)) (0) (by omega) ?_ (h0:=by simp[go_sem,hit,hmg,hml,hz]);rintro j h2;simp[go_sem];apply gw<;>intro f
   ·have hg:=aD f;have hgx:=hsel.1.1 _ (List.mem_of_getElem? hg);have hg3:=aD (l:=items) (i:=(at1 b j).toNat) (by rw[hil];have:=hgx.1;have:=hgx.2;omega);have hq1:=axD (items:=items) (b:=b) (j:=j) a;have hq2:=awU (items:=items) (b:=b) (j:=j) h1;have hq3:=ayZ (items:=items) f;rw[hg]at hq3;have hq4:=azP (items:=items) a f;have hq5:=azW (items:=items) (b:=b) (j:=j) (by omega);obtain⟨x,hx⟩:∃x,at1 b j=x:=⟨_,rfl⟩;rw[hx]at hg3 hq3 hq4 hgx;have hx0:=hgx.1;simp[go_sem,hg3,hq1,hq3,hq4,hx0];refine ai ?_;refine nx (j+1) (by omega)
   ·simp at f;obtain rfl:j=b.length:=by omega
    have hqa:=ayH (items:=items) hb;simp[go_sem,hqa];refine ai ?_;refine nx (i+1) (by omega)
  ·simp at a;obtain rfl:i=B.length:=by omega
   have hfin:uO c s=mxP items B B.length:=by rw[hrc];simp[mxP]
   simp[go_sem,hr,hfin]
theorem OH (c:Cfg)(s:Sto):(pK c s).length<=8/\∀r∈pK c s,r.length<=8:=by
 unfold pK;split
 ·rename_i h;rw[Bool.and_eq_true]at h;split
  ·simp
  ·rename_i hn;have hsv:=RO h.2;have hmat:=zR c.rules c.sco (l:=s.recs) ⟨by omega,hsv.2.1⟩;have hlab:=adR (iI (kP s.vers) (s.recs.map eH)) hmat;have hwl:(weights s.recs c.rules c.sco).length=s.recs.length:=by simp[weights]
   rw[hwl]at hlab;have hbs:=WH hlab
   have hbl:(blocksP (sK c s)).length<=8:=by
    rcases hlab with h|h
    ·unfold sK;rw[List.length_eq_zero_iff.1 h];simp[blocksP,loopN]
    ·exact Nat.le_trans (blocksI (isPart_iff.1 h.1).1 (Nat.le_refl _)).len (by have:=h.2;have:=hsv.2.1;omega)
   unfold uO;refine⟨by rw[List.length_map];exact hbl,fun r hr=> ?_⟩;obtain⟨b,hb,rfl⟩:=List.mem_map.1 hr;obtain⟨v,hv⟩:=List.getElem?_of_mem hb;have hvl:=aS hv;have hg:gat (blocksP (sK c s)) v=b:=by simp[gat,List.getD,hv]
   have:=(hbs v hvl).2;have hg2:gat (blocksP (iA (weights s.recs c.rules c.sco) (iI (kP s.vers) (s.recs.map eH)))) v=b:=hg;rw[hg2]at this;rw[kZ,List.length_map];omega
 ·simp
theorem take_len:∀(L:List Ver) (st:List Ver×List Ver),(L.foldl xZ st).1.length+(L.foldl xZ st).2.length=st.1.length+st.2.length+L.length
 |[],st=>by simp
 |c::L,st=>by
  rw[List.foldl_cons,take_len L,List.length_cons];unfold xZ;split<;>simp<;>omega
theorem QS (c:Cfg)(s:Sto):(vQ c s).length<=8:=by
 unfold vQ;split
 ·rename_i h;rw[Bool.and_eq_true]at h;have hv:=(RO h.2).2.2.1;rw[←(Y8 hv).2,yZ];have h1:=take_len (lZ (mM (bQ s.vers))) (apart (bQ s.vers),[]);have h2:=ad3 (bQ s.vers);have h3:=YU s.vers;have h4:=(RO h.2).2.2.2;rw[ZP]at h1;simp only[List.length_nil]at h1;unfold X3;omega
 ·simp
def sM {α:Type}(f:α->D)(z:D)(l:List α)(i:Nat):List D:=(l.take i).map f++List.replicate (l.length-i) z
section
variable {α:Type}{f:α->D}{z:D}{l:List α}{i:Nat}{c:α}
theorem tO (h:i<=l.length):(sM f z l i).length=l.length:=by simp[sM];omega
theorem tL (h:i<l.length):(sM f z l i)[i]?=some z:=by
 unfold sM;rw[List.getElem?_append_right (by simp;omega)];rw[List.length_map,List.length_take,Nat.min_eq_left (by omega),Nat.sub_self,List.getElem?_replicate,if_pos (by omega)]
theorem tK (h:l[i]?=some c):(sM f z l i).set i (f c)=sM f z l (i+1):=by
 have hi:=aS h;unfold sM;have hl:((l.take i).map f).length=i:=by simp;omega
 rw[List.set_append,if_neg (by omega),hl,Nat.sub_self,pU f h,show l.length-i=(l.length-(i+1))+1 by omega,List.replicate_succ];simp
theorem qQ:List.replicate l.length z=sM f z l 0:=by simp[sM]
theorem uM:sM f z l l.length=l.map f:=by simp[sM]
end
theorem ZY (t:Tst):Fk 323 [qP t] (.val (qP t)):=by
 refine fE good [] func323 ntmps323 fun _ _=> ?_;simp[go_sem]
theorem VJ (l:List Tst)(hl:l.length<=1048576):Fk 263 [.sl none (l.map qP)] (.own (.sl (some 165) (l.map qP))):=by
 refine fE good [] func263 ntmps263 fun _ _=> ?_;have hz:=qQ (f:=qP) (z:=(.agg [dI 0,dI 0,dB false])) (l:=l);simp[go_sem,hz];refine ai ?_;refine wl good (fun(i:Nat)=>[(0,.val (.sl none (l.map qP))),(3,.own (.sl (some 165) (sM qP (.agg [dI 0,dI 0,dB false]) l i))),(4,.val (dI i))]) (fun(i:Nat)=>l.length-i) (fun(i:Nat)=>(i<=l.length)) (0) (by omega) ?_;rintro i h1;simp[go_sem];apply gw<;>intro a
 ·obtain⟨c,hc⟩:=aC (l:=l) (i:=i) (by omega);have hg:=tL (f:=qP) (z:=(.agg [dI 0,dI 0,dB false])) (l:=l) (i:=i) (by omega);have hfl:=tO (f:=qP) (z:=(.agg [dI 0,dI 0,dB false])) h1;have hst:=tK (f:=qP) (z:=(.agg [dI 0,dI 0,dB false])) hc;simp[go_sem,hc];refine ck (ZY c) ?_;simp[go_sem,hg,hst];refine ai ?_;refine nx (i+1) (by first|omega|(simp;omega)|grind)
 ·simp at a;obtain rfl:i=l.length:=by omega
  have hfa:=uM (f:=qP) (z:=(.agg [dI 0,dI 0,dB false])) (l:=l);simp[go_sem,hfa]
abbrev EN (l:List Tst):D:= .agg [.sl (some 165) (l.map qP)]
theorem XM (l:List Tst)(hl:l.length<=1048576):Fk 191 [nH l] (.own (EN l)):=by
 refine fE good [] func191 ntmps191 fun _ _=> ?_;simp[go_sem];refine ck (VJ l hl) ?_;simp[go_sem]
theorem UW (l:List (List Tst))(hl:l.length<=1048576)(hs:∀t∈l,t.length<=1048576):Fk 118 [.sl none (l.map nH)] (.own (.sl (some 163) (l.map EN))):=by
 refine fE good [] func118 ntmps118 fun _ _=> ?_;have hz:=qQ (f:=EN) (z:=(.agg [.sl (some 165) []])) (l:=l);simp[go_sem,hz];refine ai ?_;refine wl good (fun(i:Nat)=>[(0,.val (.sl none (l.map nH))),(3,.own (.sl (some 163) (sM EN (.agg [.sl (some 165) []]) l i))),(4,.val (dI i))]) (fun(i:Nat)=>l.length-i) (fun(i:Nat)=>(i<=l.length)) (0) (by omega) ?_;rintro i h1;simp[go_sem];apply gw<;>intro a
 ·obtain⟨c,hc⟩:=aC (l:=l) (i:=i) (by omega);have hg:=tL (f:=EN) (z:=(.agg [.sl (some 165) []])) (l:=l) (i:=i) (by omega);have hfl:=tO (f:=EN) (z:=(.agg [.sl (some 165) []])) h1;have hst:=tK (f:=EN) (z:=(.agg [.sl (some 165) []])) hc;simp[go_sem,hc];refine ck (XM c (hs c (List.mem_of_getElem? hc))) ?_;simp[go_sem,hg,hst];refine ai ?_;refine nx (i+1) (by first|omega|(simp;omega)|grind)
 ·simp at a;obtain rfl:i=l.length:=by omega
  have hfa:=uM (f:=EN) (z:=(.agg [.sl (some 165) []])) (l:=l);simp[go_sem,hfa]
theorem NN (l:List (List Tst))(hl:l.length<=1048576)(hs:∀t∈l,t.length<=1048576):Fk 51 [fZ l] (.own (.agg [.sl (some 163) (l.map EN)])):=by
 refine fE good [] func51 ntmps51 fun _ _=> ?_;simp[go_sem];refine ck (UW l hl hs) ?_;simp[go_sem]
theorem xX (l:L1)(hl:l.length<=1048576):Fk 53 [nInts l] (.own (aF l)):=by
 refine fE good [] func53 ntmps53 fun _ _=> ?_;have hz:=qQ (f:=dI) (z:=(dI 0)) (l:=l);simp[go_sem,hz];refine ai ?_;refine wl good (fun(i:Nat)=>[(0,.val (nInts l)),(3,.own (.sl (some 3) (sM dI (dI 0) l i))),(4,.val (dI i))]) (fun(i:Nat)=>l.length-i) (fun(i:Nat)=>(i<=l.length)) (0) (by omega) ?_;rintro i h1;simp[go_sem];apply gw<;>intro a
 ·obtain⟨c,hc⟩:=aC (l:=l) (i:=i) (by omega);have hg:=tL (f:=dI) (z:=(dI 0)) (l:=l) (i:=i) (by omega);have hfl:=tO (f:=dI) (z:=(dI 0)) h1;have hst:=tK (f:=dI) (z:=(dI 0)) hc;simp[go_sem,hc,hg,hst];refine ai ?_;refine nx (i+1) (by first|omega|(simp;omega)|grind)
 ·simp at a;obtain rfl:i=l.length:=by omega
  have hfa:=uM (f:=dI) (z:=(dI 0)) (l:=l);simp[go_sem,hfa]
theorem OV (s:Sco)(hl:s.weights.length<=1048576):Fk 52 [yH s] (.own (.agg [aF s.weights,dI s.bias])):=by
 refine fE good [] func52 ntmps52 fun _ _=> ?_;simp[go_sem];refine ck (xX s.weights hl) ?_;simp[go_sem]
theorem OI (l:List Str)(hl:l.length<=1048576):Fk 192 [bE l] (.own (vZ l)):=by
 refine fE good [] func192 ntmps192 fun _ _=> ?_;have hz:=qQ (f:=dS) (z:=(dS [])) (l:=l);simp[go_sem,hz];refine ai ?_;refine wl good (fun(i:Nat)=>[(0,.val (bE l)),(3,.own (.sl (some 9) (sM dS (dS []) l i))),(4,.val (dI i))]) (fun(i:Nat)=>l.length-i) (fun(i:Nat)=>(i<=l.length)) (0) (by omega) ?_;rintro i h1;simp[go_sem];apply gw<;>intro a
 ·obtain⟨c,hc⟩:=aC (l:=l) (i:=i) (by omega);have hg:=tL (f:=dS) (z:=(dS [])) (l:=l) (i:=i) (by omega);have hfl:=tO (f:=dS) (z:=(dS [])) h1;have hst:=tK (f:=dS) (z:=(dS [])) hc;simp[go_sem,hc,hg,hst];refine ai ?_;refine nx (i+1) (by first|omega|(simp;omega)|grind)
 ·simp at a;obtain rfl:i=l.length:=by omega
  have hfa:=uM (f:=dS) (z:=(dS [])) (l:=l);simp[go_sem,hfa]
abbrev WW (r:Rec):D:= .agg [dI r.source,dI r.key,dI r.version,vZ r.fields]
theorem SF (r:Rec)(hl:r.fields.length<=1048576):Fk 119 [vG r] (.own (WW r)):=by
 refine fE good [] func119 ntmps119 fun _ _=> ?_;simp[go_sem];refine ck (OI r.fields hl) ?_;simp[go_sem]
theorem OP (l:List Rec)(hl:l.length<=1048576)(hs:∀r∈l,r.fields.length<=1048576):Fk 54 [iL l] (.own (.sl (some 116) (l.map WW))):=by
 refine fE good [] func54 ntmps54 fun _ _=> ?_;have hz:=qQ (f:=WW) (z:=(.agg [dI 0,dI 0,dI 0,.sl (some 9) []])) (l:=l);simp[go_sem,hz];refine ai ?_;refine wl good (fun(i:Nat)=>[(0,.val (iL l)),(3,.own (.sl (some 116) (sM WW (.agg [dI 0,dI 0,dI 0,.sl (some 9) []]) l i))),(4,.val (dI i))]) (fun(i:Nat)=>l.length-i) (fun(i:Nat)=>(i<=l.length)) (0) (by omega) ?_;rintro i h1;simp[go_sem];apply gw<;>intro a
 ·obtain⟨c,hc⟩:=aC (l:=l) (i:=i) (by omega);have hg:=tL (f:=WW) (z:=(.agg [dI 0,dI 0,dI 0,.sl (some 9) []])) (l:=l) (i:=i) (by omega);have hfl:=tO (f:=WW) (z:=(.agg [dI 0,dI 0,dI 0,.sl (some 9) []])) h1;have hst:=tK (f:=WW) (z:=(.agg [dI 0,dI 0,dI 0,.sl (some 9) []])) hc;simp[go_sem,hc];refine ck (SF c (hs c (List.mem_of_getElem? hc))) ?_;simp[go_sem,hg,hst];refine ai ?_;refine nx (i+1) (by first|omega|(simp;omega)|grind)
 ·simp at a;obtain rfl:i=l.length:=by omega
  have hfa:=uM (f:=WW) (z:=(.agg [dI 0,dI 0,dI 0,.sl (some 9) []])) (l:=l);simp[go_sem,hfa]
theorem QW (v:Ver):Fk 56 [gD v] (.val (gD v)):=by
 refine fE good [] func56 ntmps56 fun _ _=> ?_;simp[go_sem]
theorem xN (l:List Ver)(hl:l.length<=1048576):Fk 20 [nVers l] (.own (oVers l)):=by
 refine fE good [] func20 ntmps20 fun _ _=> ?_;have hz:=qQ (f:=gD) (z:=(.agg [dI 0,dI 0,dB false,dI 0])) (l:=l);simp[go_sem,hz];refine ai ?_;refine wl good (fun(i:Nat)=>[(0,.val (nVers l)),(3,.own (.sl (some 65) (sM gD (.agg [dI 0,dI 0,dB false,dI 0]) l i))),(4,.val (dI i))]) (fun(i:Nat)=>l.length-i) (fun(i:Nat)=>(i<=l.length)) (0) (by omega) ?_;rintro i h1;simp[go_sem];apply gw<;>intro a
 ·obtain⟨c,hc⟩:=aC (l:=l) (i:=i) (by omega);have hg:=tL (f:=gD) (z:=(.agg [dI 0,dI 0,dB false,dI 0])) (l:=l) (i:=i) (by omega);have hfl:=tO (f:=gD) (z:=(.agg [dI 0,dI 0,dB false,dI 0])) h1;have hst:=tK (f:=gD) (z:=(.agg [dI 0,dI 0,dB false,dI 0])) hc;simp[go_sem,hc];refine ck (QW c) ?_;simp[go_sem,hg,hst];refine ai ?_;refine nx (i+1) (by first|omega|(simp;omega)|grind)
 ·simp at a;obtain rfl:i=l.length:=by omega
  have hfa:=uM (f:=gD) (z:=(.agg [dI 0,dI 0,dB false,dI 0])) (l:=l);simp[go_sem,hfa]
theorem XF (t:Tst):Fk 360 [qP t,qP t] (.val (dB true)):=by
 refine fE good [] func360 ntmps360 fun _ _=> ?_;simp[go_sem]
theorem UU (l:List Tst)(hl:l.length<=1048576):Fk 310 [.sl none (l.map qP),.sl none (l.map qP)] (.val (dB true)):=by
 refine fE good [] func310 ntmps310 fun _ _=> ?_;simp[go_sem];refine wl good (fun(i:Nat)=>[(0,.val (.sl none (l.map qP))),(1,.val (.sl none (l.map qP))),(5,.val (dI i))]) (fun(i:Nat)=>l.length-i) (fun(i:Nat)=>(i<=l.length)) (0) (by omega) ?_;rintro i h1;simp[go_sem];apply gw<;>intro a
 ·obtain⟨c,hc⟩:=aC (l:=l) (i:=i) (by omega);simp[go_sem];refine wdr good ?_;simp[go_sem,hc];refine cd (XF c) ?_;simp[go_sem];refine ai ?_;refine nx (i+1) (by first|omega|(simp;omega)|grind)
 ·simp at a;simp[go_sem]
theorem X9 (l:List Tst)(hl:l.length<=1048576):Fk 242 [nH l,nH l] (.val (dB true)):=by
 refine fE good [] func242 ntmps242 fun _ _=> ?_;simp[go_sem];refine ck (UU l hl) ?_;simp[go_sem]
theorem VK (l:List (List Tst))(hl:l.length<=1048576)(hs:∀t∈l,t.length<=1048576):Fk 158 [.sl none (l.map nH),.sl none (l.map nH)] (.val (dB true)):=by
 refine fE good [] func158 ntmps158 fun _ _=> ?_;simp[go_sem];refine wl good (fun(i:Nat)=>[(0,.val (.sl none (l.map nH))),(1,.val (.sl none (l.map nH))),(5,.val (dI i))]) (fun(i:Nat)=>l.length-i) (fun(i:Nat)=>(i<=l.length)) (0) (by omega) ?_;rintro i h1;simp[go_sem];apply gw<;>intro a
 ·obtain⟨c,hc⟩:=aC (l:=l) (i:=i) (by omega);simp[go_sem];refine wdr good ?_;simp[go_sem,hc];refine cd (X9 c (hs c (List.mem_of_getElem? hc))) ?_;simp[go_sem];refine ai ?_;refine nx (i+1) (by first|omega|(simp;omega)|grind)
 ·simp at a;simp[go_sem]
theorem QH (l:List (List Tst))(hl:l.length<=1048576)(hs:∀t∈l,t.length<=1048576):Fk 77 [fZ l,fZ l] (.val (dB true)):=by
 refine fE good [] func77 ntmps77 fun _ _=> ?_;simp[go_sem];refine ck (VK l hl hs) ?_;simp[go_sem]
theorem yD (l:L1)(hl:l.length<=1048576):Fk 79 [nInts l,nInts l] (.val (dB true)):=by
 refine fE good [] func79 ntmps79 fun _ _=> ?_;simp[go_sem];refine wl good (fun(i:Nat)=>[(0,.val (nInts l)),(1,.val (nInts l)),(5,.val (dI i))]) (fun(i:Nat)=>l.length-i) (fun(i:Nat)=>(i<=l.length)) (0) (by omega) ?_;rintro i h1;simp[go_sem];apply gw<;>intro a
 ·obtain⟨c,hc⟩:=aC (l:=l) (i:=i) (by omega);simp[go_sem];refine wdr good ?_;simp[go_sem,hc];refine ai ?_;refine nx (i+1) (by first|omega|(simp;omega)|grind)
 ·simp at a;simp[go_sem]
theorem NC (s:Sco)(hl:s.weights.length<=1048576):Fk 78 [yH s,yH s] (.val (dB true)):=by
 refine fE good [] func78 ntmps78 fun _ _=> ?_;simp[go_sem];refine ck (yD s.weights hl) ?_;simp[go_sem]
theorem RX (c:Cfg)(hl:c.rules.length<=1048576)(hs:∀t∈c.rules,t.length<=1048576)(hw:c.sco.weights.length<=1048576)(hv:c.surv.length<=1048576):Fk 31 [aaS c,aaS c] (.val (dB true)):=by
 refine fE good [] func31 ntmps31 fun _ _=> ?_;simp[go_sem];refine ck (QH c.rules hl hs) ?_;simp[go_sem];refine ck (NC c.sco hw) ?_;simp[go_sem];refine ck (yD c.surv hv) ?_;simp[go_sem]
theorem PD (l:List Str)(hl:l.length<=1048576):Fk 243 [bE l,bE l] (.val (dB true)):=by
 refine fE good [] func243 ntmps243 fun _ _=> ?_;simp[go_sem];refine wl good (fun(i:Nat)=>[(0,.val (bE l)),(1,.val (bE l)),(5,.val (dI i))]) (fun(i:Nat)=>l.length-i) (fun(i:Nat)=>(i<=l.length)) (0) (by omega) ?_;rintro i h1;simp[go_sem];apply gw<;>intro a
 ·obtain⟨c,hc⟩:=aC (l:=l) (i:=i) (by omega);simp[go_sem];refine wdr good ?_;simp[go_sem,hc];refine ai ?_;refine nx (i+1) (by first|omega|(simp;omega)|grind)
 ·simp at a;simp[go_sem]
theorem SK (r:Rec)(hl:r.fields.length<=1048576):Fk 159 [vG r,vG r] (.val (dB true)):=by
 refine fE good [] func159 ntmps159 fun _ _=> ?_;simp[go_sem];refine ck (PD r.fields hl) ?_;simp[go_sem]
theorem PM (l:List Rec)(hl:l.length<=1048576)(hs:∀r∈l,r.fields.length<=1048576):Fk 80 [iL l,iL l] (.val (dB true)):=by
 refine fE good [] func80 ntmps80 fun _ _=> ?_;simp[go_sem];refine wl good (fun(i:Nat)=>[(0,.val (iL l)),(1,.val (iL l)),(5,.val (dI i))]) (fun(i:Nat)=>l.length-i) (fun(i:Nat)=>(i<=l.length)) (0) (by omega) ?_;rintro i h1;simp[go_sem];apply gw<;>intro a
 ·obtain⟨c,hc⟩:=aC (l:=l) (i:=i) (by omega);simp[go_sem];refine wdr good ?_;simp[go_sem,hc];refine cd (SK c (hs c (List.mem_of_getElem? hc))) ?_;simp[go_sem];refine ai ?_;refine nx (i+1) (by first|omega|(simp;omega)|grind)
 ·simp at a;simp[go_sem]
theorem P5 (v:Ver):Fk 82 [gD v,gD v] (.val (dB true)):=by
 refine fE good [] func82 ntmps82 fun _ _=> ?_;simp[go_sem]
theorem xD (l:List Ver)(hl:l.length<=1048576):Fk 34 [nVers l,nVers l] (.val (dB true)):=by
 refine fE good [] func34 ntmps34 fun _ _=> ?_;simp[go_sem];refine wl good (fun(i:Nat)=>[(0,.val (nVers l)),(1,.val (nVers l)),(5,.val (dI i))]) (fun(i:Nat)=>l.length-i) (fun(i:Nat)=>(i<=l.length)) (0) (by omega) ?_;rintro i h1;simp[go_sem];apply gw<;>intro a
 ·obtain⟨c,hc⟩:=aC (l:=l) (i:=i) (by omega);simp[go_sem];refine wdr good ?_;simp[go_sem,hc];refine cd (P5 c) ?_;simp[go_sem];refine ai ?_;refine nx (i+1) (by first|omega|(simp;omega)|grind)
 ·simp at a;simp[go_sem]
theorem VP (s:Sto)(hl:s.recs.length<=1048576)(hs:∀r∈s.recs,r.fields.length<=1048576)(hv:s.vers.length<=1048576):Fk 32 [MM s,MM s] (.val (dB true)):=by
 refine fE good [] func32 ntmps32 fun _ _=> ?_;simp[go_sem];refine ck (PM s.recs hl hs) ?_;simp[go_sem];refine ck (xD s.vers hv) ?_;simp[go_sem]
theorem SH (c:Cfg)(left:Int)(hr:anN c.rules)(hw:c.sco.weights.length<=9223372036854775807)(hs:c.surv.length<=9223372036854775807)(h0:0<=left/\left<=1048576):bK prog 9 [aaS c,dI left] (fun r=>∃v:Int,r= .val (dI v)/\(-1<=v/\v<=left)/\(0<=v->ay4 c.rules left/\(c.sco.weights.length:Int)<=left/\(c.surv.length:Int)<=left)):=by
 refine fE good [] func9 ntmps9 fun _ _=> ?_;simp[go_sem];refine bC (QJ c.rules left hr h0) (by simp[go_sem]) ?_;rintro r ⟨v1,rfl,hv1,hf1⟩;refine⟨by simp[go_sem],?_⟩;simp[go_sem];apply gw<;>intro b
 ·simp[go_sem];omega
 ·simp at b;simp[go_sem];refine bC (ND c.sco v1 hw (by omega)) (by simp[go_sem]) ?_;rintro r ⟨v2,rfl,hv2,hf2⟩;refine⟨by simp[go_sem],?_⟩;simp[go_sem];apply gw<;>intro d
  ·simp[go_sem];omega
  ·simp at d;simp[go_sem];refine bC (xH c.surv v2 hs (by omega)) (by simp[go_sem]) ?_;rintro r ⟨v3,rfl,hv3,hf3⟩;refine⟨by simp[go_sem],?_⟩;simp[go_sem];apply gw<;>intro e
   ·simp[go_sem];omega
   ·simp at e;have k1:=hf1 (by omega);have k2:=hf2 (by omega);have k3:=hf3 (by omega);have k4:(c.sco.weights.length:Int)<=left/\(c.surv.length:Int)<=left:=by omega
    simp[go_sem,k1,k4];refine ai ?_;omega
theorem VC (s:Sto)(left:Int)(hr:as2 s.recs)(hw:s.vers.length<=9223372036854775807)(h0:0<=left/\left<=1048576):bK prog 10 [MM s,dI left] (fun r=>∃v:Int,r= .val (dI v)/\(-1<=v/\v<=left)/\(0<=v->aB8 s.recs left/\(s.vers.length:Int)<=left)):=by
 refine fE good [] func10 ntmps10 fun _ _=> ?_;simp[go_sem];refine bC (OX s.recs left hr h0) (by simp[go_sem]) ?_;rintro r ⟨v1,rfl,hv1,hf1⟩;refine⟨by simp[go_sem],?_⟩;simp[go_sem];apply gw<;>intro b
 ·simp[go_sem];omega
 ·simp at b;simp[go_sem];refine bC (xR s.vers v1 hw (by omega)) (by simp[go_sem]) ?_;rintro r ⟨v2,rfl,hv2,hf2⟩;refine⟨by simp[go_sem],?_⟩;simp[go_sem];apply gw<;>intro d
  ·simp[go_sem];omega
  ·simp at d;have k1:=hf1 (by omega);have k2:=hf2 (by omega);have k4:(s.vers.length:Int)<=left:=by omega
   simp[go_sem,k1,k4];refine ai ?_;omega
theorem RZ (c:Cfg)(hl:c.rules.length<=1048576)(hs:∀t∈c.rules,t.length<=1048576)(hw:c.sco.weights.length<=1048576)(hv:c.surv.length<=1048576):Fk 17 [aaS c] (.own (.agg [.agg [.sl (some 163) (c.rules.map EN)],.agg [aF c.sco.weights,dI c.sco.bias],aF c.surv])):=by
 refine fE good [] func17 ntmps17 fun _ _=> ?_;simp[go_sem];refine ck (NN c.rules hl hs) ?_;simp[go_sem];refine ck (OV c.sco hw) ?_;simp[go_sem];refine ck (xX c.surv hv) ?_;simp[go_sem]
theorem VO (s:Sto)(hl:s.recs.length<=1048576)(hs:∀r∈s.recs,r.fields.length<=1048576)(hv:s.vers.length<=1048576):Fk 18 [MM s] (.own (.agg [dI s.version,.sl (some 116) (s.recs.map WW),oVers s.vers])):=by
 refine fE good [] func18 ntmps18 fun _ _=> ?_;simp[go_sem];refine ck (OP s.recs hl hs) ?_;simp[go_sem];refine ck (xN s.vers hv) ?_;simp[go_sem]
abbrev aeF (e:Ent):D:= .agg [dI e.id,nInts e.mem]
abbrev oO (l:List Ent):D:= .sl none (l.map aeF)
abbrev ahA (e:Ent):D:= .agg [dI e.id,aF e.mem]
abbrev arZ (l:List Ent):D:= .sl (some 68) (l.map ahA)
abbrev nSys (x:MC):D:= .agg [aaS x.cfg,MM x.sto,oO x.ents,dI x.next,nVers x.ref]
def tQ (l:List Ent):Nat:=(l.map fun e=>e.mem.length).sum
theorem afY {l:List Ent}{i:Nat}{c:Ent}(h:l[i]?=some c):tQ (l.take (i+1))=tQ (l.take i)+c.mem.length:=by simp[tQ,aU h]
theorem YW {l:List Ent}{e:Ent}(h:e∈l):e.mem.length<=tQ l:=by
 obtain⟨a,b,rfl⟩:=List.append_of_mem h;simp[tQ];omega
def aAX (l:List Ent):Prop:=l.length<=9223372036854775807/\∀e∈l,e.mem.length<=9223372036854775807
structure K6 (x:MC):Prop where
 cfg:aj9 x.cfg
 sto:avD x.sto
 ents:x.ents.length<=1048576
 mem:tQ x.ents<=1048576
 ref:x.ref.length<=1048576
structure aAT (x:MC):Prop where
 rules:anN x.cfg.rules
 wts:x.cfg.sco.weights.length<=9223372036854775807
 surv:x.cfg.surv.length<=9223372036854775807
 recs:as2 x.sto.recs
 vers:x.sto.vers.length<=9223372036854775807
 ents:aAX x.ents
 ref:x.ref.length<=9223372036854775807
theorem QZ (e:Ent)(left:Int)(hl:e.mem.length<=9223372036854775807)(h0:0<=left/\left<=1048576):bK prog 39 [aeF e,dI left] (fun r=>∃v:Int,r= .val (dI v)/\(-1<=v/\v<=left)/\(0<=v->v+(e.mem.length:Int)<=left)):=by
 refine fE good [] func39 ntmps39 fun _ _=> ?_;simp[go_sem];refine bC (xH e.mem left hl h0) (by simp[go_sem]) ?_;rintro r ⟨v,rfl,hv,hf⟩;refine⟨by simp[go_sem],?_⟩;simp[go_sem];apply gw<;>intro b
 ·simp[go_sem];omega
 ·simp at b;have hfit:=hf (by omega);simp[go_sem,hfit];refine ai ?_;omega
theorem NZ (l:List Ent)(left:Int)(hl:aAX l)(h0:0<=left/\left<=1048576):bK prog 11 [oO l,dI left] (fun r=>∃v:Int,r= .val (dI v)/\(-1<=v/\v<=left)/\(0<=v->v+(l.length:Int)+tQ l<=left)):=by
 refine fE good [] func11 ntmps11 fun _ _=> ?_;have hl1:=hl.1;simp[go_sem];refine ai ?_;apply gw<;>intro e
 ·simp[go_sem];omega
 ·simp at e;simp[go_sem];refine wl good (fun((i,L):(Nat)×(Int))=>[(0,.val (oO l)),(1,.val (dI L)),(5,.val (dI i))]) (fun(i,L)=>l.length-i) (fun(i,L)=>(i<=l.length)/\(0<=L/\L+(l.length:Int)+tQ (l.take i)<=left)) ((0,left-l.length)) ⟨(by omega),(by simp[tQ];omega)⟩ ?_;rintro⟨i,L⟩ ⟨h1,h2⟩;simp[go_sem];apply gw<;>intro a
  ·obtain⟨c,hc⟩:=aC (l:=l) (i:=i) (by omega);have hcl:=hl.2 c (List.mem_of_getElem? hc);have hms:=afY hc;simp[go_sem,hc];refine bC (QZ c L hcl (by omega)) (by simp[go_sem]) ?_;rintro r ⟨v,rfl,hv,hf⟩;refine⟨by simp[go_sem],?_⟩;simp[go_sem];apply gw<;>intro b
   ·simp[go_sem];omega
   ·simp at b;have hfc:=hf (by omega);simp[go_sem];refine ai ?_;refine nx (i+1,v) ⟨(by omega),(by omega)⟩
  ·simp at a;have hfit:L+(l.length:Int)+tQ l<=left:=by rw[aK (by omega)]at h2;omega
   simp[go_sem,hfit];refine ai ?_;omega
theorem RB (x:MC)(left:Int)(hl:aAT x)(h0:0<=left/\left<=1048576):bK prog 4 [nSys x,dI left] (fun r=>∃v:Int,r= .val (dI v)/\(-1<=v/\v<=left)/\(0<=v->K6 x)):=by
 refine fE good [] func4 ntmps4 fun _ _=> ?_;simp[go_sem];refine bC (SH x.cfg left hl.rules hl.wts hl.surv h0) (by simp[go_sem]) ?_;rintro r ⟨v1,rfl,hv1,hf1⟩;refine⟨by simp[go_sem],?_⟩;simp[go_sem];apply gw<;>intro b
 ·simp[go_sem];omega
 ·simp at b;simp[go_sem];refine bC (VC x.sto v1 hl.recs hl.vers (by omega)) (by simp[go_sem]) ?_;rintro r ⟨v2,rfl,hv2,hf2⟩;refine⟨by simp[go_sem],?_⟩;simp[go_sem];apply gw<;>intro d
  ·simp[go_sem];omega
  ·simp at d;simp[go_sem];refine bC (NZ x.ents v2 hl.ents (by omega)) (by simp[go_sem]) ?_;rintro r ⟨v3,rfl,hv3,hf3⟩;refine⟨by simp[go_sem],?_⟩;simp[go_sem];apply gw<;>intro e
   ·simp[go_sem];omega
   ·simp at e;simp[go_sem];refine bC (xR x.ref v3 hl.ref (by omega)) (by simp[go_sem]) ?_;rintro r ⟨v4,rfl,hv4,hf4⟩;refine⟨by simp[go_sem],?_⟩;simp[go_sem];apply gw<;>intro f
    ·simp[go_sem];omega
    ·simp at f;have k1:=hf1 (by omega);have k2:=hf2 (by omega);have k3:=hf3 (by omega);have k4:=hf4 (by omega);have hx:K6 x:=⟨⟨by have:=k1.1.1;omega,fun l hl=>by have:=k1.1.2 l hl;omega,by omega,by omega⟩,⟨by have:=k2.1.1;omega,fun r hr=>⟨by have:=(k2.1.2 r hr).1;omega,fun f hf=>by have:=(k2.1.2 r hr).2 f hf;unfold ZC;omega⟩,by omega⟩,by omega,by omega,by omega⟩;simp[go_sem,hx];refine ai ?_;omega
theorem Q6 (e:Ent)(hl:e.mem.length<=1048576):Fk 55 [aeF e] (.own (ahA e)):=by
 refine fE good [] func55 ntmps55 fun _ _=> ?_;simp[go_sem];refine ck (xX e.mem hl) ?_;simp[go_sem]
theorem O7 (l:List Ent)(hl:l.length<=1048576)(hs:∀e∈l,e.mem.length<=1048576):Fk 19 [oO l] (.own (arZ l)):=by
 refine fE good [] func19 ntmps19 fun _ _=> ?_;have hz:=qQ (f:=ahA) (z:=(.agg [dI 0,.sl (some 3) []])) (l:=l);simp[go_sem,hz];refine ai ?_;refine wl good (fun(i:Nat)=>[(0,.val (oO l)),(3,.own (.sl (some 68) (sM ahA (.agg [dI 0,.sl (some 3) []]) l i))),(4,.val (dI i))]) (fun(i:Nat)=>l.length-i) (fun(i:Nat)=>(i<=l.length)) (0) (by omega) ?_;rintro i h1;simp[go_sem];apply gw<;>intro a
 ·obtain⟨c,hc⟩:=aC (l:=l) (i:=i) (by omega);have hg:=tL (f:=ahA) (z:=(.agg [dI 0,.sl (some 3) []])) (l:=l) (i:=i) (by omega);have hfl:=tO (f:=ahA) (z:=(.agg [dI 0,.sl (some 3) []])) h1;have hst:=tK (f:=ahA) (z:=(.agg [dI 0,.sl (some 3) []])) hc;simp[go_sem,hc];refine ck (Q6 c (hs c (List.mem_of_getElem? hc))) ?_;simp[go_sem,hg,hst];refine ai ?_;refine nx (i+1) (by first|omega|(simp;omega)|grind)
 ·simp at a;obtain rfl:i=l.length:=by omega
  have hfa:=uM (f:=ahA) (z:=(.agg [dI 0,.sl (some 3) []])) (l:=l);simp[go_sem,hfa]
theorem uL (x:MC)(hx:K6 x):Fk 6 [nSys x] (.own (.agg [.agg [.agg [.sl (some 163) (x.cfg.rules.map EN)],.agg [aF x.cfg.sco.weights,dI x.cfg.sco.bias],aF x.cfg.surv],.agg [dI x.sto.version,.sl (some 116) (x.sto.recs.map WW),oVers x.sto.vers],arZ x.ents,dI x.next,oVers x.ref])):=by
 refine fE good [] func6 ntmps6 fun _ _=> ?_;have hme:∀e∈x.ents,e.mem.length<=1048576:=fun e he=>Nat.le_trans (YW he) hx.mem;simp[go_sem];refine ck (RZ x.cfg hx.cfg.rules hx.cfg.rule hx.cfg.weights hx.cfg.surv) ?_;simp[go_sem];refine ck (VO x.sto hx.sto.recs (fun r hr=>(hx.sto.rec1 r hr).1) hx.sto.vers) ?_;simp[go_sem];refine ck (O7 x.ents hx.ents hme) ?_;simp[go_sem];refine ck (xN x.ref hx.ref) ?_;simp[go_sem]
theorem aiB (x:MC)(hx:K6 x):bK prog 6 [nSys x] (fun r=>r= .val (.agg [.agg [.agg [.sl (some 163) (x.cfg.rules.map EN)],.agg [aF x.cfg.sco.weights,dI x.cfg.sco.bias],aF x.cfg.surv],.agg [dI x.sto.version,.sl (some 116) (x.sto.recs.map WW),oVers x.sto.vers],arZ x.ents,dI x.next,oVers x.ref])):=(uL x hx).aCQ
theorem R3 (e:Ent)(hl:e.mem.length<=1048576):Fk 81 [aeF e,aeF e] (.val (dB true)):=by
 refine fE good [] func81 ntmps81 fun _ _=> ?_;simp[go_sem];refine ck (yD e.mem hl) ?_;simp[go_sem]
theorem QN (l:List Ent)(hl:l.length<=1048576)(hs:∀e∈l,e.mem.length<=1048576):Fk 33 [oO l,oO l] (.val (dB true)):=by
 refine fE good [] func33 ntmps33 fun _ _=> ?_;simp[go_sem];refine wl good (fun(i:Nat)=>[(0,.val (oO l)),(1,.val (oO l)),(5,.val (dI i))]) (fun(i:Nat)=>l.length-i) (fun(i:Nat)=>(i<=l.length)) (0) (by omega) ?_;rintro i h1;simp[go_sem];apply gw<;>intro a
 ·obtain⟨c,hc⟩:=aC (l:=l) (i:=i) (by omega);simp[go_sem];refine wdr good ?_;simp[go_sem,hc];refine cd (R3 c (hs c (List.mem_of_getElem? hc))) ?_;simp[go_sem];refine ai ?_;refine nx (i+1) (by first|omega|(simp;omega)|grind)
 ·simp at a;simp[go_sem]
theorem RN (x:MC)(hx:K6 x):Fk 8 [nSys x,nSys x] (.val (dB true)):=by
 refine fE good [] func8 ntmps8 fun _ _=> ?_;have hme:∀e∈x.ents,e.mem.length<=1048576:=fun e he=>Nat.le_trans (YW he) hx.mem;simp[go_sem];refine ck (RX x.cfg hx.cfg.rules hx.cfg.rule hx.cfg.weights hx.cfg.surv) ?_;simp[go_sem];refine ck (VP x.sto hx.sto.recs (fun r hr=>(hx.sto.rec1 r hr).1) hx.sto.vers) ?_;simp[go_sem];refine ck (QN x.ents hx.ents hme) ?_;simp[go_sem];refine ck (xD x.ref hx.ref) ?_;simp[go_sem]
abbrev OQ (m:L2):D:= .sl (some 25) (m.map nInts)
theorem axN (p q:L1)(hp:p.length<=1048576)(hq:q.length<=1048576):Fk 73 [nInts p,nInts q] (.val (dI (bU p q))):=by
 refine fE good [] func73 ntmps73 fun _ _=> ?_;simp[go_sem];refine wl good (fun(i:Nat)=>[(0,.val (nInts p)),(1,.val (nInts q)),(9,.val (nInts p)),(10,.val (dI p.length)),(11,.val (dI i))]) (fun(i:Nat)=>(p).length-i) (fun(i:Nat)=>(i<=(p).length)/\(i<=q.length)/\(p.take i=q.take i)) (0) ⟨(by omega),(by omega),(rfl)⟩ ?_;rintro i ⟨h1,h2,h3⟩;simp[go_sem];apply gw<;>intro a
 ·obtain⟨c,hc⟩:=aC (l:=p) (i:=i) (by omega);simp[go_sem,hc];apply gw<;>intro b
  ·have hx:=YE h3 (aS hc) (by omega);simp[go_sem,hx]
  ·simp at b;obtain⟨d,hd⟩:=aC (l:=q) (i:=i) (by omega);simp[go_sem,hd];refine ck (jM c d) ?_;simp[go_sem];apply gw<;>intro e
   ·have hcd:c≠d:=by rintro rfl;simp[cmpI]at e
    have hx:bU p q=cmpI c d:=by rw[ahY h3 hc hd hcd];unfold cmpI;split<;>(try rfl);rw[if_pos (by omega)]
    simp[go_sem,hx]
   ·have hcd:c=d:=by unfold cmpI at e;split at e;omega;split at e<;>omega
    simp[go_sem];refine ai ?_;refine nx (i+1) ⟨(by omega),(by omega),(take_same h3 hc (by rw[hcd];exact hd))⟩
 ·simp at a;have hip:i=p.length:=by omega
  subst hip;rw[List.take_length]at h3;have hx:=ab2 h3;simp[go_sem];apply gw<;>intro g
  ·rw[if_pos (by omega)]at hx;simp[go_sem,hx]
  ·simp at g;rw[if_neg (by omega)]at hx;simp[go_sem,hx]
theorem ayX (l:L2)(cf:L1->L1->Int)(g:FuncId)(E:Dv.Enters prog g)(U:T (1000000+g)=⟨.no,0,.any 0⟩)(G:∀a∈l,∀b∈l,bK prog g [nInts a,nInts b] (fun r=>r= .val (dI (cf a b))))(hl:l.length<=1048576):FK prog 232 [.one (.bool false),dI 0,dI l.length,.one (.func (.func g) #[] #[])] 0 (OQ l) (fun r d=>r= .tup []/\d=OQ (eG (cfB cf) l)):=by
 refine fM good [] func232 ntmps232 fun w0 ow0 v0=> ?_;have h00:=ah5 cf l;simp[go_sem];refine ai ?_;refine wl good (fun(i:Nat)=>[(0,.own (OQ (XP cf l i))),(1,.val (dI 0)),(2,.val (dI l.length)),(3,.val (.one (.func (.func g) #[] #[]))),(8,.val (dI i))]) (fun(i:Nat)=>l.length-i) (fun(i:Nat)=>(1<=i/\i<=l.length+1)) (1) (by omega) ?_ (h0:=by simp[go_sem,E,U,h00]);rintro i h1;simp[go_sem];apply gw<;>intro a
 ·obtain⟨v,hv⟩:=aC (l:=l) (i:=i) (by omega);have hin:EY cf l i i v=XP cf l i:=amU (p:=cfB cf) hv;have hsl:=qM (p:=cfB cf) (l:=l) (i:=i) (by omega);simp[go_sem];refine wl good (fun(j:Nat)=>[(0,.own (OQ (EY cf l i j v))),(1,.val (dI 0)),(2,.val (dI l.length)),(3,.val (.one (.func (.func g) #[] #[]))),(8,.val (dI i)),(9,.val (dI j))]) (fun(j:Nat)=>j) (fun(j:Nat)=>(j<=i)/\(∀k c,j<=k->(srt cf l i)[k]?=some c->cfB cf v c=true)) (i) ⟨(by omega),(fun k c hk hc=>absurd (aS hc) (by unfold srt;omega))⟩ ?_ (h0:=by simp[go_sem,E,U,h00,hin]);rintro j ⟨h2,h3⟩;have hnow:(EY cf l i j v)[j]?=some v:=ahU a h2;simp[go_sem];refine wdt good 14 ?_;simp[go_sem];apply gv<;>intro e
  ·have e':=e;obtain⟨c,hc⟩:=aC (l:=srt cf l i) (i:=j-1) (by unfold srt;omega);have hprev:(EY cf l i j v)[j-1]?=some c:=by have:=acJ (p:=cfB cf) (v:=v) a (show j-1<i by omega) hc;rwa [show j-1+1=j by omega]at this
   have hj1:((j:Int)-1).toNat=j-1:=by omega
   have hsw:=aa8 nInts (v:=v) a ⟨by omega,h2⟩ hc;have hs2:∀x:D,(((EY cf l i j v).map nInts).set j x)[j-1]?=some (nInts c):=fun x=>by rw[List.getElem?_set_ne (by omega),List.getElem?_map,hprev];rfl
   have hj2:(j:Int)-1=((j-1:Nat):Int):=by omega
   simp[go_sem,E,U,e,hnow,hprev,hj2];refine ai ?_;refine ck ((G v (List.mem_of_getElem? hv) c (amI hc))) ?_;simp[go_sem];apply gw<;>intro b
   ·simp[go_sem];refine wdh good [2,3] [(15,[51,46,0,37,39,42,45,47,49,50]),(17,[52,50,0,37,39,42,45,46,47,49,51])] [(0,.own (OQ (EY cf l i j v))),(1,.val (dI 0)),(2,.val (dI l.length)),(3,.val (.one (.func (.func g) #[] #[]))),(8,.val (dI i)),(9,.val (dI j)),(39,.al 0 []),(40,.val (dI j))] [] ?_;simp[go_sem,hnow,hprev,hsw,hs2,hj2];refine ai ?_;refine nx (j-1) ⟨(by omega),(fun k c2 hk hc2=>by by_cases hkj:k=j-1;(subst hkj;rw[hc]at hc2;cases hc2;exact decide_eq_true b);exact h3 k c2 (by omega) hc2)⟩
   ·simp at b;have ho:EY cf l i j v=XP cf l (i+1):=N7 hv h2 h3 (.inr ⟨c,hc,by unfold cfB;exact decide_eq_false (by omega)⟩);simp[go_sem,ho];refine ai ?_;refine nx (i+1) (by omega)
  ·have e':=e;simp at e';have ho:EY cf l i j v=XP cf l (i+1):=N7 hv h2 h3 (.inl (by omega));simp[go_sem,e,ho];refine ai ?_;refine nx (i+1) (by omega)
 ·simp at a;have ho:=agG cf (l:=l) (i:=i) (by omega);simp[go_sem,ho]
theorem axO (l:L2)(k:Int)(cf:L1->L1->Int)(g:FuncId)(E:Dv.Enters prog g)(U:T (1000000+g)=⟨.no,0,.any 0⟩)(G:∀a∈l,∀b∈l,bK prog g [nInts a,nInts b] (fun r=>r= .val (dI (cf a b))))(hl:l.length<=12):FK prog 156 [.one (.bool false),dI 0,dI l.length,dI k,.one (.func (.func g) #[] #[])] 0 (OQ l) (fun r d=>r= .tup []/\d=OQ (eG (cfB cf) l)):=by
 refine fM good [] func156 ntmps156 fun w0 ow0 v0=> ?_;simp[go_sem];refine wl good (fun(i:Nat)=>[(0,.own (OQ l)),(1,.val (dI 0)),(2,.val (dI l.length)),(3,.val (dI k)),(4,.val (.one (.func (.func g) #[] #[])))]) (fun(i:Nat)=>0) (fun(i:Nat)=>(i=0)) (0) (rfl) ?_;rintro i h1;have hlt:(l.length:Int)<=12:=by omega
 simp[go_sem,hlt];refine ai ?_;refine gX rfl (ayX l cf g E U G (by omega)) ?_;rintro r d ⟨rfl,rfl⟩;simp[go_sem]
theorem aaY (l:L2)(cf:L1->L1->Int)(g:FuncId)(E:Dv.Enters prog g)(U:T (1000000+g)=⟨.no,0,.any 0⟩)(G:∀a∈l,∀b∈l,bK prog g [nInts a,nInts b] (fun r=>r= .val (dI (cf a b))))(hl:l.length<=12):FK prog 72 [.one (.bool false),.one (.func (.func g) #[] #[])] 0 (OQ l) (fun r d=>r= .tup []/\d=OQ (eG (cfB cf) l)):=by
 refine fM good [] func72 ntmps72 fun w0 ow0 v0=> ?_;have hw:IntKind.u64.wrap (l.length:Int)=l.length:=by simp[IntKind.wrap,IntKind.bits,IntKind.signed];omega
 simp[go_sem,hw];refine ck (TF l.length (by omega)) ?_;simp[go_sem];refine gX rfl (axO l (Lib.bitLen l.length) cf g E U G hl) ?_;rintro r d ⟨rfl,rfl⟩;simp[go_sem]
theorem alR {α:Type}{p q:List α}{i:Nat}{c d:α}(hc:p[i]?=some c)(hd:q[i]?=some d)(hn:c≠d):p≠q:=by rintro rfl;rw[hc]at hd;exact hn (Option.some.inj hd)
theorem JJ {α:Type}{p q:List α}{i:Nat}{c:α}(h:p.take i=q.take i)(hc:p[i]?=some c)(hd:q[i]?=some c):p.take (i+1)=q.take (i+1):=by rw[aU hc,aU hd,h]
theorem VV {α:Type}{p q:List α}{i:Nat}(h:p.take i=q.take i)(h1:p.length<=i)(h2:q.length<=i):p=q:=by rwa [aK h1,aK h2]at h
theorem BN (p q:L1)(hp:p.length<=1048576)(hq:q.length<=1048576):Fk 76 [nInts p,nInts q] (.val (dB (decide (p=q)))):=by
 refine fE good [] func76 ntmps76 fun _ _=> ?_;simp[go_sem];apply gw<;>intro e
 ·have hx:¬p=q:=by rintro rfl;omega
  simp[go_sem,hx]
 ·simp[go_sem];refine wl good (fun(i:Nat)=>[(0,.val (nInts p)),(1,.val (nInts q)),(11,.val (nInts p)),(12,.val (dI p.length)),(13,.val (dI i))]) (fun(i:Nat)=>p.length-i) (fun(i:Nat)=>(i<=p.length)/\(p.take i=q.take i)) (0) ⟨(by omega),(rfl)⟩ ?_;rintro i ⟨h1,h2⟩;simp[go_sem];apply gw<;>intro a
  ·obtain⟨c,hc⟩:=aC (l:=p) (i:=i) (by omega);obtain⟨d,hd⟩:=aC (l:=q) (i:=i) (by omega);simp[go_sem];refine wdr good ?_;simp[go_sem,hc,hd];apply gw<;>intro b
   ·have hx:=alR hc hd b;simp[go_sem,hx]
   ·simp[go_sem];refine ai ?_;refine nx (i+1) ⟨(by omega),(JJ h2 hc (by rw[show c=d by omega];exact hd))⟩
  ·simp at a;have hx:=VV h2 (by omega) (by omega);simp[go_sem,hx]
theorem mJ (p q:List Ver)(hp:p.length<=1048576)(hq:q.length<=1048576):Fk 30 [nVers p,nVers q] (.val (dB (decide (p=q)))):=by
 refine fE good [] func30 ntmps30 fun _ _=> ?_;simp[go_sem];apply gw<;>intro e
 ·have hx:¬p=q:=by rintro rfl;omega
  simp[go_sem,hx]
 ·simp[go_sem];refine wl good (fun(i:Nat)=>[(0,.val (nVers p)),(1,.val (nVers q)),(11,.val (nVers p)),(12,.val (dI p.length)),(13,.val (dI i))]) (fun(i:Nat)=>p.length-i) (fun(i:Nat)=>(i<=p.length)/\(p.take i=q.take i)) (0) ⟨(by omega),(rfl)⟩ ?_;rintro i ⟨h1,h2⟩;simp[go_sem];apply gw<;>intro a
  ·obtain⟨c,hc⟩:=aC (l:=p) (i:=i) (by omega);obtain⟨d,hd⟩:=aC (l:=q) (i:=i) (by omega);simp[go_sem];refine wdr good ?_;simp[go_sem,hc,hd];apply gw<;>intro b
   ·simp at b;have hx:=alR hc hd (by rintro rfl;simp at b);simp[go_sem,hx]
   ·simp at b;have hcd:c=d:=by cases c;cases d;simp_all
    simp[go_sem];refine ai ?_;refine nx (i+1) ⟨(by omega),(JJ h2 hc (by rw[hcd];exact hd))⟩
  ·simp at a;have hx:=VV h2 (by omega) (by omega);simp[go_sem,hx]
theorem aA2 (p q:L2)(g:FuncId)(E:Dv.Enters prog g)(U:T (1000000+g)=⟨.no,0,.any 0⟩)(G:∀a∈p,∀b∈q,bK prog g [nInts a,nInts b] (fun r=>r= .val (dB (decide (a=b)))))(hp:p.length<=1048576)(hq:q.length<=1048576):Fk 74 [aM p,aM q,.one (.func (.func g) #[] #[])] (.val (dB (decide (p=q)))):=by
 refine fE good [] func74 ntmps74 fun _ _=> ?_;simp[go_sem];apply gw<;>intro e
 ·have hx:¬p=q:=by rintro rfl;omega
  simp[go_sem,hx]
 ·simp[go_sem];refine wl good (fun(i:Nat)=>[(1,.val (aM q)),(2,.val (.one (.func (.func g) #[] #[]))),(15,.val (aM p)),(16,.val (dI p.length)),(17,.val (dI i))]) (fun(i:Nat)=>p.length-i) (fun(i:Nat)=>(i<=p.length)/\(p.take i=q.take i)) (0) ⟨(by omega),(rfl)⟩ ?_;rintro i ⟨h1,h2⟩;simp[go_sem];apply gw<;>intro a
  ·obtain⟨c,hc⟩:=aC (l:=p) (i:=i) (by omega);obtain⟨d,hd⟩:=aC (l:=q) (i:=i) (by omega);simp[go_sem,E,U,hc,hd];refine ck ((G c (List.mem_of_getElem? hc) d (List.mem_of_getElem? hd))) ?_;simp[go_sem];apply gw<;>intro b
   ·have hx:=alR hc hd b;simp[go_sem,hx]
   ·have hcd:c=d:=by simpa using b
    simp[go_sem];refine ai ?_;refine nx (i+1) ⟨(by omega),(JJ h2 hc (by rw[hcd];exact hd))⟩
  ·simp at a;have hx:=VV h2 (by omega) (by omega);simp[go_sem,hx]
theorem IM (p q:L1)(hp:p.length<=1048576)(hq:q.length<=1048576):Fk 75 [nInts p,nInts q] (.val (dB (decide (p=q)))):=by
 refine fE good [] func75 ntmps75 fun _ _=> ?_;simp[go_sem];refine ck (BN p q hp hq) ?_;simp[go_sem]
theorem aaZ (l:L2)(hl:l.length<=1048576):Fk 71 [aM l] (.own (OQ l)):=by
 refine fE good [2,5] func71 ntmps71 fun _ _=> ?_;have hle:l.length<=1073741824:=by omega
 simp[go_sem];refine aDJ good 1 ?_;simp[go_sem,hle];intro hnil;subst hnil;try simp[go_sem,hle]
 refine eQ good [] (JU (L:=[(2,.own (OQ []))]) (by simp[go_sem])) ?_;simp[go_sem]
theorem gL (l:L2)(hl:∀r∈l,r.length<=1048576):∀a∈l,∀b∈l,bK prog 73 [nInts a,nInts b] (fun r=>r= .val (dI (bU a b))):=fun a ha b hb=>axN a b (hl a ha) (hl b hb)
theorem gE (p q:L2)(hp:∀r∈p,r.length<=1048576)(hq:∀r∈q,r.length<=1048576):∀a∈p,∀b∈q,bK prog 75 [nInts a,nInts b] (fun r=>r= .val (dB (decide (a=b)))):=fun a ha b hb=>IM a b (hp a ha) (hq b hb)
theorem arG (l:L2):eG (cfB bU) l=rA l:=rfl
theorem M0 (p q:L2)(hp:p.length<=12)(hq:q.length<=12)(hp1:∀r∈p,r.length<=1048576)(hq1:∀r∈q,r.length<=1048576):Fk 28 [aM p,aM q] (.val (dB (decide (rA p=rA q)))):=by
 refine fE good [] func28 ntmps28 fun _ _=> ?_;simp[go_sem];refine ck (aaZ p (by omega)) ?_;simp[go_sem];refine ck (aaZ q (by omega)) ?_;have hgp:=arG p;have hgq:=arG q;simp[go_sem];refine gX rfl (aaY p bU 73 aDH aD8 (gL p hp1) (by omega)) ?_;rintro r d ⟨rfl,rfl⟩;simp[go_sem,hgp];refine gX rfl (aaY q bU 73 aDH aD8 (gL q hq1) (by omega)) ?_;rintro r d ⟨rfl,rfl⟩;have hpl:=(nK p).length_eq;have hql:=(nK q).length_eq;simp[go_sem,hgq];refine ck (aA2 (rA p) (rA q) 75 aEN aEV (gE (rA p) (rA q) (fun r hr=>hp1 r ((nK p).mem_iff.1 hr)) (fun r hr=>hq1 r ((nK q).mem_iff.1 hr))) (by omega) (by omega)) ?_;simp[go_sem]
theorem yN (l:List Ent)(hl:l.length<=1048576):Fk 29 [oO l] (.own (OQ (l.map Ent.mem))):=by
 refine fE good [] func29 ntmps29 fun _ _=> ?_;simp[go_sem];refine wl good (fun((i,o):(Nat)×(L2))=>[(3,.own (OQ o)),(6,.val (oO l)),(7,.val (dI l.length)),(8,.val (dI i))]) (fun(i,o)=>l.length-i) (fun(i,o)=>(i<=l.length)/\(o=(l.take i).map Ent.mem)) ((0,[])) ⟨(by omega),(rfl)⟩ ?_;rintro⟨i,o⟩ ⟨h1,h2⟩;simp[go_sem];apply gw<;>intro a
 ·obtain⟨c,hc⟩:=aC (l:=l) (i:=i) (by omega);have hm:=pU Ent.mem hc;have hol:o.length=i:=by rw[h2];simp;omega
  rw[←h2]at hm;simp[go_sem,hc];iterate 2 refine ai ?_
  refine nx (i+1,o++[c.mem]) ⟨(by omega),(by rw[hm])⟩
 ·simp at a;rw[aK (by omega)]at h2;have hr:l.map Ent.mem=o:=h2.symm;simp[go_sem,hr]
variable {o:L1}
theorem IQ {g:L1}{k:Nat}(h:k<g.length)(hp:GI o g k=false):XJ o g=false:=by unfold XJ;rw[gP h hp];rfl
theorem O6 (G:L2)(hG:G.length<=1048576)(hs:∀r∈G,r.length<=1048576):Fk 63 [aM G] (.val (dB (sZ [] G))):=by
 refine fE good [] func63 ntmps63 fun _ _=> ?_;simp[go_sem];refine wl good (fun((i,o):(Nat)×(L1))=>[(3,.own (aF o)),(8,.val (aM G)),(9,.val (dI G.length)),(10,.val (dI i))]) (fun(i,o)=>(G).length-i) (fun(i,o)=>(i<=(G).length)/\(sZ [] G=sZ o (G.drop i))/\(o.length<=8)) ((0,[])) ⟨(by omega),rfl,(by simp)⟩ ?_;rintro⟨i,o⟩ ⟨h1,h2,h3⟩;simp[go_sem];apply gw<;>intro a
 ·obtain⟨c,hc⟩:=aC (l:=G) (i:=i) (by omega);have hcl:=hs c (List.mem_of_getElem? hc);have hdr:=drop_at hc;rw[hdr,sZ]at h2;simp[go_sem,hc];refine wl good (fun(k:Nat)=>[(3,.own (aF o)),(5,.val (nInts c)),(8,.val (aM G)),(9,.val (dI G.length)),(10,.val (dI i)),(14,.val (nInts c)),(15,.val (dI c.length)),(16,.val (dI k))]) (fun(k:Nat)=>c.length-k) (fun(k:Nat)=>(k<=c.length)/\((List.range k).all (GI o c)=true)) (0) ⟨(by omega),(rfl)⟩ ?_;rintro k ⟨h4,h5⟩;simp[go_sem];apply gw<;>intro b
  ·have hx:=aD b;simp[go_sem,hx];refine ck (uJ (at1 c k)) ?_;simp[go_sem];apply gv<;>intro e
   ·have e':=e;simp at e';have hn:=IQ (o:=o) b (by simp[GI];omega);rw[hn,Bool.false_and]at h2;simp[go_sem,e,h2]
   ·have e':=e;simp at e';simp[go_sem,e];apply gv<;>intro f
    ·have f':=f;have hp:=aD (l:=c) (i:=k-1) (by omega);simp[go_sem,f,hp];iterate 2 refine ai ?_
     apply gv<;>intro g
     ·have g':=g;have hn:=IQ (o:=o) b (by simp[GI];omega);rw[hn,Bool.false_and]at h2;simp[go_sem,g,h2]
     ·have g':=g;simp at g';simp[go_sem,g];refine ck (jO o (at1 c k) (by omega)) ?_;simp[go_sem];apply gw<;>intro q
      ·simp at q;have hn:=IQ (o:=o) b (by simp[GI];simp_all);rw[hn,Bool.false_and]at h2;simp[go_sem,h2]
      ·simp at q;simp[go_sem];refine ai ?_;refine nx (k+1) ⟨(by omega),(iO h5 (by simp[GI];exact⟨⟨by omega,by omega⟩,q⟩))⟩
    ·have f':=f;simp at f';simp[go_sem,f];refine ck (jO o (at1 c k) (by omega)) ?_;simp[go_sem];apply gw<;>intro q
     ·simp at q;have hn:=IQ (o:=o) b (by simp[GI];simp_all);rw[hn,Bool.false_and]at h2;simp[go_sem,h2]
     ·simp at q;simp[go_sem];refine ai ?_;refine nx (k+1) ⟨(by omega),(iO h5 (by simp[GI];exact⟨⟨by omega,by omega⟩,q⟩))⟩
  ·simp at b;obtain rfl:k=c.length:=by omega
   simp[go_sem];refine ai ?_;apply gv<;>intro g
   ·have g':=g;rw[show XJ o c=false by rw[g];rfl,Bool.false_and]at h2;simp[go_sem,g,h2]
   ·have g':=g;simp[go_sem,g];apply gw<;>intro r
    ·rw[YD (G.drop (i+1)) (all:=o++c) (by simp;omega),Bool.and_false]at h2;simp[go_sem,h2]
    ·simp at r;rw[show XJ o c=true by unfold XJ;rw[h5];simp[g],Bool.true_and]at h2;simp[go_sem];refine ai ?_;refine nx (i+1,o++c) ⟨(by omega),(h2),(by simp;omega)⟩
 ·simp at a;rw[List.drop_eq_nil_of_le a,sZ]at h2;have hx:sZ [] G=true:=by rw[h2];simp;omega
  simp[go_sem,hx]
theorem J4 (l:List Ent)(hl:l.length<=1048576)(hs:∀e∈l,e.mem.length<=1048576):Fk 23 [oO l] (.val (dB (nC l))):=by
 refine fE good [] func23 ntmps23 fun _ _=> ?_;simp[go_sem];refine wl good (fun(i:Nat)=>[(0,.val (oO l)),(5,.val (oO l)),(6,.val (dI l.length)),(7,.val (dI i))]) (fun(i:Nat)=>(l).length-i) (fun(i:Nat)=>(i<=(l).length)/\((l.take i).all idB=true)/\(adj adN (l.take i)=true)) (0) ⟨(by omega),rfl,rfl⟩ ?_;rintro i ⟨h1,h2,h3⟩;simp[go_sem];apply gw<;>intro a
 ·obtain⟨c,hc⟩:=aC (l:=l) (i:=i) (by omega);simp[go_sem,hc];refine wdr good ?_;simp[go_sem];refine cd (aH c.id 1 9999) ?_;simp[go_sem];apply gv<;>intro e
  ·have e':=e;simp at e';have hn:=bI hc (P:=idB) (by simp[idB];omega);simp[go_sem,e];grind[nC]
  ·have e':=e;simp at e';simp[go_sem,e];apply gv<;>intro f
   ·have f':=f;obtain⟨p,hp⟩:=aC (l:=l) (i:=i-1) (by omega);have hi1:i-1+1=i:=by omega
    simp[go_sem,f,hp];iterate 2 refine ai ?_
    apply gw<;>intro b
    ·have hn:=zW hp (by rw[hi1];exact hc) (R:=adN) (by simp[adN];omega);simp[go_sem];grind[nC]
    ·simp at b;simp[go_sem];refine ai ?_;refine nx (i+1) ⟨(by omega),(aL hc h2 (by simp[idB];omega)),(by have:=pQ (i:=i-1) (by rw[hi1];exact h3) hp (by rw[hi1];exact hc) (by simp[adN];omega);rwa [hi1]at this)⟩
   ·have f':=f;simp at f';simp[go_sem,f];refine ai ?_;refine nx (i+1) ⟨(by omega),(aL hc h2 (by simp[idB];omega)),(by obtain rfl:i=0:=(by omega);exact mU)⟩
 ·simp at a;have hf:=cO h2 a;rw[aK a]at h3;have hms:∀r∈l.map Ent.mem,r.length<=1048576:=fun r hr=>by obtain⟨e,he,rfl⟩:=List.mem_map.1 hr;exact hs e he
  simp[go_sem];refine ck (yN l hl) ?_;simp[go_sem];refine ckz (O6 (l.map Ent.mem) (by simp;omega) hms) ?_;simp[go_sem];grind[nC]
theorem CG (e:Ent)(x:MC):Fk 26 [aeF e,.bx false (nSys x)] (.val (dB (decide (x.next<=e.id)))):=by
 refine fE good [] func26 ntmps26 fun _ _=> ?_;simp[go_sem]
theorem ajO (l:List Ent)(p:Ent->Bool)(g:FuncId)(b:Nat)(d:D)(F:d.fz=d)(E:Dv.Enters prog g)(U:T (1000000+g)=⟨.no,0,.any 0⟩)(G:∀c∈l,bK prog g [aeF c,.bx false d] (fun r=>r= .val (dB (p c))))(hl:l.length<=1048576):qX prog 64 [oO l,.one (.func (.func g) #[] #[.pointer (some ⟨b,0,none⟩)])] [(b,d)] (fun res'=>res'= .val (dI (ix p l))):=by
 refine fB good [] func64 ntmps64 fun _ _=> ?_;simp[go_sem];refine wl good (fun(i:Nat)=>[(0,.val (oO l)),(1,.val (.one (.func (.func g) #[] #[.pointer (some ⟨b,0,none⟩)]))),(7,.val (dI l.length)),(8,.val (dI i)),(1000000+2*b,.rp (d))]) (fun(i:Nat)=>(l).length-i) (fun(i:Nat)=>(i<=(l).length)/\(((l).take i).any p=false)) (0) ⟨(by omega),rfl⟩ ?_;rintro i ⟨h1,h2⟩;simp[go_sem];apply gw<;>intro a
 ·obtain⟨c,hc⟩:=aC (l:=l) (i:=i) (by omega);simp[go_sem,E,U,F,hc];refine ck ((G c (List.mem_of_getElem? hc))) ?_;simp[go_sem];apply gw<;>intro e
  ·have hn:=vH hc h2 (by simp[e]);simp[go_sem,hn]
  ·simp[go_sem];refine ai ?_;refine nx (i+1) ⟨(by omega),(eF hc h2 (by simp[e]))⟩
 ·simp at a;have hf:=jU h2 a;have hx:=kV hf;simp[go_sem,hx]
theorem ao4 (l:List Ent)(p:Ent->Bool)(g:FuncId)(b:Nat)(d:D)(F:d.fz=d)(E:Dv.Enters prog g)(U:T (1000000+g)=⟨.no,0,.any 0⟩)(G:∀c∈l,bK prog g [aeF c,.bx false d] (fun r=>r= .val (dB (p c))))(hl:l.length<=1048576):qX prog 25 [oO l,.one (.func (.func g) #[] #[.pointer (some ⟨b,0,none⟩)])] [(b,d)] (fun res'=>res'= .val (dB (l.any p))):=by
 refine fB good [] func25 ntmps25 fun _ _=> ?_;have hq:decide (0<=ix p l)=l.any p:=by rw[Bool.eq_iff_iff,decide_eq_true_eq];exact dK
 simp[go_sem,F];refine ckB (ajO l p g b d F E U G hl) ?_;simp[go_sem,hq]
def EG (x:MC):Bool:=eY x.cfg&&dA x.sto&&nC x.ents&&inR x.next 1 9999&& !(x.ents.any fun e=>decide (x.next<=e.id))&&decide (rA (x.ents.map Ent.mem)=rA (UC x.cfg x.sto))&&decide (x.ref=dQ x.sto.vers)
theorem nSys_fz (x:MC):(nSys x).fz=nSys x:=by simp[D.fz,D.fzs,D.dM]
theorem FB (x:MC)(hx:K6 x):Fk 7 [nSys x] (.val (dB (EG x))):=by
 refine fE good [] func7 ntmps7 fun _ _=> ?_;have hme:∀e∈x.ents,e.mem.length<=1048576:=fun e he=>Nat.le_trans (YW he) hx.mem;simp[go_sem];refine ck (EQ x.cfg hx.cfg.rules hx.cfg.rule hx.cfg.weights hx.cfg.surv) ?_;simp[go_sem];apply gv<;>intro e
 ·have e':=e;simp at e';simp[go_sem,e];grind[EG]
 ·have e':=e;simp at e';simp[go_sem,e];refine ck (IU x.sto hx.sto.recs hx.sto.rec1 hx.sto.vers) ?_;simp[go_sem];apply gv<;>intro f
  ·have f':=f;simp at f';simp[go_sem,f];grind[EG]
  ·have f':=f;simp at f';simp[go_sem,f];refine ck (J4 x.ents hx.ents hme) ?_;simp[go_sem];apply gv<;>intro g
   ·have g':=g;simp at g';simp[go_sem,g];grind[EG]
   ·have g':=g;simp at g';simp[go_sem,g];refine ck (aH x.next 1 9999) ?_;simp[go_sem];apply gw<;>intro b
    ·simp at b;simp[go_sem];grind[EG]
    ·simp at b;have hr1:pK x.cfg x.sto=UC x.cfg x.sto:=if_pos (by simp[e',f']);have hr2:vQ x.cfg x.sto=dQ x.sto.vers:=if_pos (by simp[e',f']);have hro:=OH x.cfg x.sto;have hrf:=QS x.cfg x.sto;rw[hr1]at hro;rw[hr2]at hrf;have hel:=(XK g').2;have hms:∀r∈x.ents.map Ent.mem,r.length<=1048576:=fun r hr=>by obtain⟨e,he,rfl⟩:=List.mem_map.1 hr;exact hme e he
     simp[go_sem,e',f',g',b];intro bo;refine ckB (ao4 x.ents (fun e=>decide (x.next<=e.id)) 26 bo (nSys x) (nSys_fz x) en26 mu26 (fun c _=>CG c x) hx.ents) ?_;simp[go_sem];apply gw<;>intro q
     ·simp at q;simp[go_sem];grind[EG]
     ·simp at q;simp[go_sem];refine ck (UO x.cfg x.sto e' f' hx.cfg) ?_;simp[go_sem];refine ck (yN x.ents hx.ents) ?_;simp[go_sem];refine ckz (M0 (x.ents.map Ent.mem) (UC x.cfg x.sto) (by simp;omega) (by omega) hms (fun r hr=>by have:=hro.2 r hr;omega)) ?_;simp[go_sem];apply gv<;>intro w
      ·have w':=w;simp[go_sem,w];refine ck (mJ x.ref (dQ x.sto.vers) hx.ref (by omega)) ?_;simp[go_sem];grind[EG]
      ·have w':=w;simp[go_sem,w];grind[EG]
theorem ZR (p q:L1)(hp:p.length<=1048576)(hq:q.length<=1048576):Fk 16 [nInts p,nInts q] (.val (dI (bU p q))):=by
 refine fE good [] func16 ntmps16 fun _ _=> ?_;simp[go_sem];refine wl good (fun(i:Nat)=>[(0,.val (nInts p)),(1,.val (nInts q)),(5,.val (dI i))]) (fun(i:Nat)=>p.length-i) (fun(i:Nat)=>(i<=p.length)/\(i<=q.length)/\(p.take i=q.take i)) (0) ⟨(by omega),(by omega),(rfl)⟩ ?_;rintro i ⟨h1,h2,h3⟩;simp[go_sem];apply gv<;>intro g
 ·have g':=g;simp[go_sem,g];apply gw<;>intro b
  ·obtain⟨c,hc⟩:=aC (l:=p) (i:=i) (by omega);obtain⟨d,hd⟩:=aC (l:=q) (i:=i) (by omega);simp[go_sem];refine wdr good ?_;simp[go_sem,hc,hd];apply gw<;>intro e
   ·have hx:bU p q=cmpI c d:=by rw[ahY h3 hc hd e];unfold cmpI;split<;>(try rfl);rw[if_pos (by omega)]
    simp[go_sem];refine wdt good 9 ?_;simp[go_sem,hc,hd];refine cd (kR c d) ?_;simp[go_sem,hx]
   ·simp[go_sem];refine ai ?_;refine nx (i+1) ⟨(by omega),(by omega),(take_same h3 hc (by rw[show c=d by omega];exact hd))⟩
  ·simp at b;have hx:bU p q=cmpI p.length q.length:=by rw[YE h3 g (by omega)];unfold cmpI;rw[if_neg (by omega),if_pos (by omega)]
   simp[go_sem];refine ck (kR p.length q.length) ?_;simp[go_sem,hx]
 ·have g':=g;simp at g';have hip:i=p.length:=by omega
  subst hip;rw[List.take_length]at h3;have hx:bU p q=cmpI p.length q.length:=by rw[ab2 h3];unfold cmpI;split;rw[if_pos (by omega)];rw[if_neg (by omega),if_neg (by omega)]
  simp[go_sem,g];refine ck (kR p.length q.length) ?_;simp[go_sem,hx]
variable {x:Int}
theorem auR (h:0<=ix (fun y=>decide (y=x)) o):x∈o:=by obtain⟨y,h1,h2⟩:=List.any_eq_true.1 (dK.1 h);rw[←of_decide_eq_true h2];exact h1
theorem alG (h:ix (fun y=>decide (y=x)) o<0):∀y∈o,¬x=y:=fun y hy e=>by have:=(dK (P:=fun y=>decide (y=x)) (l:=o)).2 (List.any_eq_true.2 ⟨y,hy,decide_eq_true e.symm⟩);omega
def MJ (G:L2):Nat:=(G.map List.length).sum
theorem QX (G:L2)(hG:G.length<=1048576)(hs:MJ G<=1048576):Fk 48 [aM G] (.val (dB (sZ [] G))):=by
 refine fE good [] func48 ntmps48 fun _ _=> ?_;simp[go_sem];refine wl good (fun((i,o):(Nat)×(L1))=>[(0,.val (aM G)),(3,.own (aF o)),(4,.val (dI i))]) (fun(i,o)=>(G).length-i) (fun(i,o)=>(i<=(G).length)/\(sZ [] G=sZ o (G.drop i))/\(o.length+MJ (G.drop i)<=1048576)) ((0,[])) ⟨(by omega),(rfl),(by simpa using hs)⟩ ?_;rintro⟨i,o⟩ ⟨h1,h2,h3⟩;simp[go_sem];apply gw<;>intro a
 ·obtain⟨c,hc⟩:=aC (l:=G) (i:=i) (by omega);have hdr:=drop_at hc;rw[hdr,sZ]at h2;rw[hdr]at h3;have hls:MJ (c::G.drop (i+1))=c.length+MJ (G.drop (i+1)):=by simp[MJ]
  simp[go_sem];refine wl good (fun(k:Nat)=>[(0,.val (aM G)),(3,.own (aF o)),(4,.val (dI i)),(5,.val (dI k))]) (fun(k:Nat)=>c.length-k) (fun(k:Nat)=>(k<=c.length)/\((List.range k).all (GI o c)=true)) (0) ⟨(by omega),(rfl)⟩ ?_;rintro k ⟨h4,h5⟩;simp[go_sem,hc];apply gw<;>intro b
  ·have hx:=aD b;simp[go_sem];refine wdr good ?_;simp[go_sem,hc,hx];refine cd (aG (at1 c k) 1 399) ?_;simp[go_sem];apply gv<;>intro e
   ·have e':=e;simp at e';have hn:=IQ (o:=o) b (by simp[GI];omega);rw[hn,Bool.false_and]at h2;simp[go_sem,e,h2]
   ·have e':=e;simp at e';simp[go_sem,e];apply gv<;>intro f
    ·have f':=f;have hp:=aD (l:=c) (i:=k-1) (by omega);simp[go_sem,hc,hx,f,hp];iterate 2 refine ai ?_
     apply gv<;>intro g
     ·have g':=g;have hn:=IQ (o:=o) b (by simp[GI];omega);rw[hn,Bool.false_and]at h2;simp[go_sem,g,h2]
     ·have g':=g;simp at g';simp[go_sem,hc,hx,g];refine cd (iT o (at1 c k) (by omega)) ?_;simp[go_sem];apply gw<;>intro q
      ·have hn:=IQ (o:=o) b (by have:=auR q;simp[GI];simp_all);rw[hn,Bool.false_and]at h2;simp[go_sem,h2]
      ·simp at q;simp[go_sem];refine ai ?_;refine nx (k+1) ⟨(by omega),(iO h5 (by have:=alG q;simp[GI];exact⟨⟨by omega,by omega⟩,this⟩))⟩
    ·have f':=f;simp at f';simp[go_sem,hc,hx,f];refine cd (iT o (at1 c k) (by omega)) ?_;simp[go_sem];apply gw<;>intro q
     ·have hn:=IQ (o:=o) b (by have:=auR q;simp[GI];simp_all);rw[hn,Bool.false_and]at h2;simp[go_sem,h2]
     ·simp at q;simp[go_sem];refine ai ?_;refine nx (k+1) ⟨(by omega),(iO h5 (by have:=alG q;simp[GI];exact⟨⟨by omega,by omega⟩,this⟩))⟩
  ·simp at b;obtain rfl:k=c.length:=by omega
   simp[go_sem,hc];apply gw<;>intro g
   ·rw[show XJ o c=false by rw[g];rfl,Bool.false_and]at h2;simp[go_sem,h2]
   ·rw[show XJ o c=true by unfold XJ;rw[h5];simp[g],Bool.true_and]at h2;simp[go_sem,hc];iterate 2 refine ai ?_
    refine nx (i+1,o++c) ⟨(by omega),(h2),(by rw[List.length_append];omega)⟩
 ·simp at a;rw[List.drop_eq_nil_of_le a,sZ]at h2;simp[go_sem,h2];omega
theorem P7 (l:List Ent)(hl:l.length<=1048576)(hs:∀e∈l,e.mem.length<=1048576):Fk 49 [oO l] (.own (gN (l.map Ent.mem))):=by
 refine fE good [] func49 ntmps49 fun _ _=> ?_;simp[go_sem];refine wl good (fun((i,o):(Nat)×(L2))=>[(0,.val (oO l)),(3,.own (gN o)),(4,.val (dI i))]) (fun(i,o)=>l.length-i) (fun(i,o)=>(i<=l.length)/\(o=(l.take i).map Ent.mem)) ((0,[])) ⟨(by omega),(rfl)⟩ ?_;rintro⟨i,o⟩ ⟨h1,h2⟩;simp[go_sem];apply gw<;>intro a
 ·obtain⟨c,hc⟩:=aC (l:=l) (i:=i) (by omega);have hm:=pU Ent.mem hc;have hol:o.length=i:=by rw[h2];simp;omega
  have hcl:=hs c (List.mem_of_getElem? hc);rw[←h2]at hm;simp[go_sem,hc];iterate 3 refine ai ?_
  refine nx (i+1,o++[c.mem]) ⟨(by omega),(by rw[hm])⟩
 ·simp at a;rw[aK (by omega)]at h2;have hr:l.map Ent.mem=o:=h2.symm;simp[go_sem,hr]
theorem afH (l:List Ent):MJ (l.map Ent.mem)=tQ l:=by simp[MJ,tQ];rfl
theorem J7 (l:List Ent)(hl:l.length<=1048576)(hs:tQ l<=1048576):Fk 14 [oO l] (.val (dB (nC l))):=by
 refine fE good [] func14 ntmps14 fun _ _=> ?_;have hme:∀e∈l,e.mem.length<=1048576:=fun e he=>Nat.le_trans (YW he) hs;simp[go_sem];refine wl good (fun(i:Nat)=>[(0,.val (oO l)),(3,.val (dI i))]) (fun(i:Nat)=>(l).length-i) (fun(i:Nat)=>(i<=(l).length)/\((l.take i).all idB=true)/\(adj adN (l.take i)=true)) (0) ⟨(by omega),rfl,rfl⟩ ?_;rintro i ⟨h1,h2,h3⟩;simp[go_sem];apply gw<;>intro a
 ·obtain⟨c,hc⟩:=aC (l:=l) (i:=i) (by omega);simp[go_sem];refine wdr good ?_;simp[go_sem,hc];refine cd (aG c.id 1 9999) ?_;simp[go_sem];apply gv<;>intro e
  ·have e':=e;simp at e';have hn:=bI hc (P:=idB) (by simp[idB];omega);simp[go_sem,e];grind[nC]
  ·have e':=e;simp at e';simp[go_sem,e];apply gv<;>intro f
   ·have f':=f;obtain⟨p,hp⟩:=aC (l:=l) (i:=i-1) (by omega);have hi1:i-1+1=i:=by omega
    simp[go_sem,hc,f,hp];iterate 2 refine ai ?_
    apply gw<;>intro b
    ·have hn:=zW hp (by rw[hi1];exact hc) (R:=adN) (by simp[adN];omega);simp[go_sem];grind[nC]
    ·simp at b;simp[go_sem];refine ai ?_;refine nx (i+1) ⟨(by omega),(aL hc h2 (by simp[idB];omega)),(by have:=pQ (i:=i-1) (by rw[hi1];exact h3) hp (by rw[hi1];exact hc) (by simp[adN];omega);rwa [hi1]at this)⟩
   ·have f':=f;simp at f';simp[go_sem,f];refine ai ?_;refine nx (i+1) ⟨(by omega),(aL hc h2 (by simp[idB];omega)),(by obtain rfl:i=0:=(by omega);exact mU)⟩
 ·simp at a;have hf:=cO h2 a;rw[aK a]at h3;simp[go_sem];refine ck (P7 l hl hme) ?_;have hls:=afH l;simp[go_sem];refine ckz (QX (l.map Ent.mem) (by simp;omega) (by omega)) ?_;simp[go_sem];grind[nC]
theorem aqL {α:Type}(p:α->Bool){l:List α}{i:Nat}{c:α}(h:l[i]?=some c):(l.take (i+1)).any p=((l.take i).any p||p c):=by rw[aU h];simp
theorem arL (x:MC):EG x=((eY x.cfg&&dA x.sto)&&nC x.ents&&inR x.next 1 9999&&decide (vQ x.cfg x.sto=x.ref)&&decide ((pK x.cfg x.sto).length=x.ents.length)&&x.ents.all (entOk (pK x.cfg x.sto) x.next)):=by
 by_cases hv:(eY x.cfg&&dA x.sto)=true
 ·have hr1:pK x.cfg x.sto=UC x.cfg x.sto:=if_pos hv;have hr2:vQ x.cfg x.sto=dQ x.sto.vers:=if_pos hv;rw[hr1,hr2,EG,hv];by_cases ha:nC x.ents=true
  ·have hs:=asB (UC x.cfg x.sto) x.next ha;have he:decide (x.ref=dQ x.sto.vers)=decide (dQ x.sto.vers=x.ref):=by rw[Bool.eq_iff_iff];simp[eq_comm]
   rw[ha,he,Bool.and_assoc _ _ (x.ents.all _),hs];simp only[Bool.true_and,Bool.and_assoc];rw[Bool.and_comm (decide (rA _=_)) (decide _),Bool.and_left_comm (!_)]
  ·simp[Bool.not_eq_true _▸ha]
 ·rw[Bool.not_eq_true]at hv;rw[EG,hv];rfl
theorem FI (x:MC)(hx:K6 x):Fk 5 [nSys x] (.val (dB (EG x))):=by
 rw[arL];refine fE good [] func5 ntmps5 fun _ _=> ?_;have hro:=OH x.cfg x.sto;have hrf:=QS x.cfg x.sto;simp[go_sem];refine ck (GU x.cfg x.sto hx.cfg hx.sto) ?_;simp[go_sem];apply gv<;>intro e
 ·have e':=e;simp at e';simp[go_sem,e];grind
 ·have e':=e;simp at e';simp[go_sem,e];refine ck (J7 x.ents hx.ents hx.mem) ?_;simp[go_sem];apply gv<;>intro f
  ·have f':=f;simp at f';simp[go_sem,f];grind
  ·have f':=f;simp at f';simp[go_sem,f];refine ck (aG x.next 1 9999) ?_;simp[go_sem];apply gv<;>intro g
   ·have g':=g;simp at g';simp[go_sem,g];omega
   ·have g':=g;simp at g';simp[go_sem,e',f',g'];apply gv<;>intro b
    ·have b':=b;have hn:¬vQ x.cfg x.sto=x.ref:=fun h=>by rw[h]at b;omega
     simp[go_sem,e',f',g',b,hn]
    ·have b':=b;simp[go_sem,b];apply gw<;>intro d
     ·have hn:¬(pK x.cfg x.sto).length=x.ents.length:=fun h=>by omega
      simp[go_sem,e',f',g',hn]
     ·have hge:(pK x.cfg x.sto).length=x.ents.length:=by omega
      have hce:=hx.ents;have hre:(vQ x.cfg x.sto).length=x.ref.length:=by omega
      generalize vQ x.cfg x.sto=R at*
      generalize pK x.cfg x.sto=G at*
      simp[go_sem,hge];refine wl good (fun(i:Nat)=>[(1,.own (.bx true (nSys x))),(3,.val (aM G)),(4,.val (nVers R)),(6,.val (dI i))]) (fun(i:Nat)=>R.length-i) (fun(i:Nat)=>(i<=R.length)/\(R.take i=x.ref.take i)) (0) ⟨(by omega),(rfl)⟩ ?_;rintro i ⟨h1,h2⟩;simp[go_sem,b];apply gw<;>intro a
      ·obtain⟨c,hc⟩:=aC (l:=R) (i:=i) (by omega);obtain⟨v,hd⟩:=aC (l:=x.ref) (i:=i) (by omega);simp[go_sem];refine wdr good ?_;simp[go_sem,hc,hd];apply gw<;>intro k
       ·simp at k;have hn:=alR hc hd (by rintro rfl;simp at k);simp[go_sem,e',f',g',hge,hn]
       ·simp at k;have hcd:c=v:=by cases c;cases v;simp_all
        simp[go_sem];refine ai ?_;refine nx (i+1) ⟨(by omega),(JJ h2 hc (by rw[hcd];exact hd))⟩
      ·simp at a;have hn:=VV h2 (by omega) (by omega);simp[go_sem,hn];refine wl good (fun(i:Nat)=>[(1,.own (.bx true (nSys x))),(3,.val (aM G)),(4,.val (nVers R)),(7,.val (dI i))]) (fun(i:Nat)=>(x.ents).length-i) (fun(i:Nat)=>(i<=(x.ents).length)/\(((x.ents).take i).all (entOk G x.next)=true)) (0) ⟨(by omega),rfl⟩ ?_ (h0:=by simp[go_sem,e,f,g,e',f',g',b,hge,hn]);rintro i ⟨h1,h2⟩;simp[go_sem,hn];apply gw<;>intro a
       ·obtain⟨c,hc⟩:=aC (l:=x.ents) (i:=i) (by omega);have hcl:c.mem.length<=1048576:=Nat.le_trans (YW (List.mem_of_getElem? hc)) hx.mem;obtain⟨p,hp⟩:∃p:L1->Bool,(fun y=>decide (y=c.mem))=p:=⟨_,rfl⟩;simp[go_sem];refine wl good (fun((k,s):(Nat)×(Bool))=>[(1,.own (.bx true (nSys x))),(3,.val (aM G)),(4,.val (nVers R)),(7,.val (dI i)),(8,.val (dB s)),(9,.val (dI k))]) (fun(k,s)=>G.length-k) (fun(k,s)=>(k<=G.length)/\(s=(G.take k).any p)) ((0,false)) ⟨(by omega),(by simp)⟩ ?_ (h0:=by simp[go_sem,e,f,g,e',f',g',b,hge,hn,hc]);rintro⟨k,s⟩ ⟨h3,h4⟩;simp[go_sem,hge,hn];apply gw<;>intro b2
        ·obtain⟨r,hr⟩:=aC (l:=G) (i:=k) (by omega);have hrl:=hro.2 r (List.mem_of_getElem? hr);have hany:=aqL p hr;rw[←h4]at hany;simp[go_sem];refine wdt good 15 ?_;simp[go_sem];apply gv<;>intro w
         ·have w':=w;simp[go_sem,w];refine ai ?_;refine nx (k+1,true) ⟨(by omega),(by rw[hany,w];rfl)⟩ (h3:=by simp[go_sem,e,f,g,e',f',g',b,hge,hn,hc,hr,w])
         ·have w':=w;simp[go_sem,hc,hr,w];refine cd (ZR r c.mem (by omega) hcl) ?_;simp[go_sem];refine ai ?_;refine nx (k+1,decide (bU r c.mem=0)) ⟨(by omega),(by rw[hany,w',←hp];simp[akJ])⟩ (h3:=by simp[go_sem,e,f,g,e',f',g',b,hge,hn,hc,hr,w])
        ·simp at b2;have hso:s=as7 G c:=by rw[h4,aK (by omega),←hp];rfl
         simp[go_sem];refine wdr good ?_;simp[go_sem];apply gv<;>intro w
         ·have w':=w;simp at w';have hn:=bI hc (P:=(entOk G x.next)) (by rw[entOk,←hso];simp_all);simp[go_sem,e',f',g',hge,w,hn]
         ·have w':=w;simp at w';simp[go_sem,hc,w];apply gw<;>intro q
          ·have hn:=bI hc (P:=(entOk G x.next)) (by rw[entOk,←hso];simp;omega);simp[go_sem,e',f',g',hge,hn]
          ·simp at q;simp[go_sem];refine ai ?_;refine nx (i+1) ⟨(by omega),(aL hc h2 (by rw[entOk,←hso];simp_all))⟩ (h3:=by simp[go_sem,e,f,g,e',f',g',b,hge,hn,hc,w])
       ·simp at a;have hf:=cO h2 a;simp[go_sem,e',f',g',hge,hf];omega
theorem vU (x:MC)(hb:aAT x):Fk 3 [nSys x] (.val (dB true)):=by
 refine fE good [] func3 ntmps3 fun _ _=> ?_;simp[go_sem];refine bC (RB x 1048576 hb (by omega)) (by simp[go_sem]) ?_;rintro r ⟨v,rfl,hv,hf⟩;refine⟨by simp[go_sem],?_⟩;simp[go_sem];apply gw<;>intro a
 ·simp[go_sem]
 ·simp at a;have hx:=hf (by omega);simp[go_sem];refine ck (uL x hx) ?_;simp[go_sem];refine ck (FI x hx) ?_;simp[go_sem];refine ck (uL x hx) ?_;simp[go_sem];refine ck (FB x hx) ?_;simp[go_sem];refine wdr good ?_;simp[go_sem];refine cd (aiB x hx) ?_;simp[go_sem];refine cd (RN x hx) ?_;simp[go_sem]
end Go.Proofs.YtemiopbofamgcaaGreatDoor
end
section
namespace Go.Proofs.YtemiopbofamgcaaGreatDoor
open Go.Dv Go.Pl
open Go.ChangeShapes Go.WideShapes Go.ChangeAt Go.RowKit Go.Er
section
variable {H:Type}{enc:TypeId×Value->H}{W:World}{cs:List Value}
theorem aCP (h:Tr enc Tryz.prog W 90 cs):∃e:Ent,e.mem.length<=9223372036854775807/\Rd Tryz.prog W (aeF e) cs:=by
 have hl:=pY Tryz.underlying90 (n:=2) (by kernel_rfl) h;have hf:=pO Tryz.underlying90 h;obtain⟨a,h0⟩:=open_int Tryz.underlying3 (hf 0 _ rfl 0 1 rfl (by kernel_rfl));obtain⟨l,q,h1⟩:=aeN (hf 1 _ rfl 1 1 rfl (by kernel_rfl));exact⟨⟨a,l⟩,q,AB (dL h0 (dL h1 (zY hl)))⟩
theorem aw6 (h:Tr enc Tryz.prog W 34 cs):∃l:List Ent,aAX l/\Rd Tryz.prog W (oO l) cs:=
 DX Tryz.underlying34 (k:=2) (by kernel_rfl) (by decide) (fun vs h=>aCP h) h
theorem aBG (h:Tr enc Tryz.prog W 36 cs):∃x:MC,aAT x/\Rd Tryz.prog W (nSys x) cs:=by
 have hl:=pY Tryz.underlying36 (n:=10) (by kernel_rfl) h;have hf:=pO Tryz.underlying36 h;obtain⟨c,⟨q1,q2,q3⟩,h0⟩:=aB0 (hf 0 _ rfl 0 4 rfl (by kernel_rfl));obtain⟨s,⟨q4,q5⟩,h1⟩:=aBV (hf 1 _ rfl 4 3 rfl (by kernel_rfl));obtain⟨e,q6,h2⟩:=aw6 (hf 2 _ rfl 7 1 rfl (by kernel_rfl));obtain⟨n,h3⟩:=open_int Tryz.underlying3 (hf 3 _ rfl 8 1 rfl (by kernel_rfl));obtain⟨l,q7,h4⟩:=amX (hf 4 _ rfl 9 1 rfl (by kernel_rfl));exact⟨⟨c,s,e,n,l⟩,⟨q1,q2,q3,q4,q5,q6,q7⟩,AB (dL h0 (dL h1 (dL h2 (dL h3 (dL h4 (zY hl))))))⟩
end
theorem aAZ:(Tryz.prog.readableRec 36&&decide (36<Tryz.prog.types.size))=true:=by kernel_rfl
theorem aBN:(Tryz.prog.readableRec 335&&decide (335<Tryz.prog.types.size))=true:=by kernel_rfl
set_option maxRecDepth 100000 in
theorem ayL (os:Os)(started:os.Started)(H:Type)(enc:TypeId×Value->H):
  ReturnsInHanded {} Tryz.checked os 3 .any (fun w args=>(Rows.fnExactIsValidSystemSpec.pre enc Tryz.prog Tryz.f3 Rows.fnExactIsValidSystemRow.domain false w args/\laidMet Tryz.prog tables w)/\sizedMet enc Tryz.prog Tryz.f3 (OpenSpec.ofChange Rows.fnExactIsValidSystemSpec) false w args) (Rows.fnExactIsValidSystemSpec.post enc Tryz.prog Tryz.f3 false true false false):=by
 refine UQ (C:=Tryz.checked) (s:=Rows.fnExactIsValidSystemSpec) (n:= "loop.example/g01923/impl.soundCodes") (g:=0) (t:=335) started own laidOut (by kernel_rfl) Tryz.func3 rfl ?_ (by kernel_rfl) (by kernel_rfl) (aiN aBN) rfl Tryz.underlying4 ?_
  (ChangeSpec.witness_at (enc:=enc) (C:=Tryz.checked) (os:=os) (X:=fun w _=>laidMet Tryz.prog tables w) false (abG os) #[.agg #[.slice none 0 0,.slice none 0 0,.int .i64 0,.slice none 0 0,.int .i64 0,.slice none 0 0,.slice none 0 0,.slice none 0 0,.int .i64 0,.slice none 0 0]] 8 rfl (by kernel_rfl) (by kernel_rfl) (by kernel_rfl) (by kernel_rfl) (by kernel_rfl) (arK os _)) ?_
 ·intro ds v hds
  match ds,hds with
  |[d0],_=>rfl
 ·intro t ht;rw[Tryz.params3]at ht;simp only[List.mem_cons,List.not_mem_nil,or_false]at ht;rcases ht with rfl
  ·exact aiN aAZ
 ·intro W base args ds p hS hval hA hL;rw[Tryz.params3]at hA hval;obtain⟨v0,vs0,d0,ds0,p0,q0,hargs,rfl,rfl,h0,r0⟩:=trodAll_cons hA;obtain⟨rfl,rfl,rfl⟩:=trodAll_nil r0;obtain rfl:args= #[v0]:=by cases args;simp_all
  obtain⟨cs0,rfl,_⟩:=okWide_struct Tryz.underlying36 (hval 0 36 v0 rfl rfl);obtain⟨nf0,h0⟩:=h0;obtain⟨x0,q0',hr0⟩:=aBG (cs:=cs0.toList) ⟨nf0,_,h0⟩;have hsz:=aC7 hS;refine ap1 (vU x0 q0') (axB hS hL hsz) rfl fun i d hd=> ?_
  match i,hd with
  |0,hd=>
   obtain rfl:=Option.some.inj hd;rw[nSys_fz];exact aD0 hr0
  |i+1,hd=>simp at hd
abbrev c0:OpenClaim:=Rows.fnExactIsValidSystemRow
abbrev s0:ChangeSpec:=Rows.fnExactIsValidSystemSpec
theorem y1:c0.wf (OpenSpec.ofChange s0)=true:=by kernel_rfl
theorem y2:laidOutB Tryz.prog=true:=by kernel_rfl
theorem y3:mapsRowed Tryz.prog=true:=by kernel_rfl
theorem y4:Tryz.f3.params.all (Tryz.prog.readableRec ·)=true:=by kernel_rfl
theorem y5:namedTie Tryz.prog c0.named s0.vars=true:=by kernel_rfl
theorem y6:(c0.stops==[])=true:=by kernel_rfl
theorem y7:(Tryz.prog.stops==[])=true:=by kernel_rfl
theorem y8:(c0.knobs==[])=true:=by kernel_rfl
theorem y9:(Tryz.prog.stopKnobs==[])=true:=by kernel_rfl
theorem y10:(c0.inPlace==Tryz.prog.inPlace 3)=true:=by kernel_rfl
theorem y11:(c0.unfollowed==Tryz.prog.unfollowed 3)=true:=by kernel_rfl
theorem y12:(c0.recurses==Tryz.prog.recurses 3)=true:=by kernel_rfl
theorem y13:(c0.named==Tryz.prog.varsNamed 3)=true:=by kernel_rfl
theorem facts:joinedFacts Tryz.prog 3 Tryz.f3 s0 c0=true:=(an (an (an (an (an (an (an (an (an (an (an (an (an (an (an (an (an (an (an (an (an (an (an (an (an (an (an (an (an (an (an y1 y2) y3) y4) y5) y6) y7) y8) y9) y10) y11) y12) y13) (by kernel_rfl)) (by kernel_rfl)) (by kernel_rfl)) (by kernel_rfl)) (by kernel_rfl)) (by kernel_rfl)) (by kernel_rfl)) (by kernel_rfl)) (by kernel_rfl)) (by kernel_rfl)) (by kernel_rfl)) (by kernel_rfl)) (by kernel_rfl)) (by kernel_rfl)) (by kernel_rfl)) (by kernel_rfl)) (by kernel_rfl)) (by kernel_rfl)) (by kernel_rfl))
theorem aBI:Rows.FnExactIsValidSystemSaid:=
 OpenClaim.holds_of_wide 3 Tryz.f3 rfl rfl rfl rfl rfl rfl rfl ⟨rfl,rfl,rfl,rfl,rfl⟩ rfl rfl rfl rfl rfl (by kernel_rfl) Tryz.func3 facts
  (of_decide_eq_true (by kernel_rfl)) (by unfold Func.isWrapper;first|(rw[if_pos (by decide+kernel)];kernel_rfl)|(rw[if_neg (by decide+kernel)];exact⟨rfl,rfl⟩))
  (fun os started H enc _=>ayL os started H enc)
theorem fnExactIsValidSystem.proved:Rows.FnExactIsValidSystemCardSaid:=
 Claim7.holds_tied_plain_at .later [] [.data,.data,.data,.data,.sentinel,.sentinel,.data,.pinned] true (true,"636d39117b37561fb10a476e63b40264e85cd8d2673377a17250a488789280ac") true
  aBI (fun _ h=>by cases h) (by kernel_rfl) (fun _ h=>by cases h) fnExactIsValidSystem_row_tie rfl ⟨rfl,rfl⟩ (by kernel_rfl)
  rfl
  (fun f fn hf hfn=>by
   obtain rfl:f=3:=Option.some.inj ((show Tryz.prog.funcNamed "loop.example/g01923/laws.FnExactIsValidSystem" =some 3 by kernel_rfl).symm.trans hf)|>.symm;obtain rfl:fn=Tryz.f3:=(Option.some.inj (Tryz.func3.symm.trans hfn)).symm
   exact⟨by kernel_rfl,fun j t ht=>by
    rw[Tryz.params3]at ht;rcases j with _|j
    ·obtain rfl:t=36:=by simpa using ht.symm
     exact(show Tryz.prog.wantsStandIn 36=false by kernel_rfl)
    ·simp at ht⟩)
  (ayQ anF rfl)
end Go.Proofs.YtemiopbofamgcaaGreatDoor
end
