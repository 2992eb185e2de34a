/- Lemmas and walks that the law leans on, part V6. No condition. -/
import Derived.Test.YtebopbncplpdgaaGreatDoorV5
set_option linter.unusedVariables false
set_option linter.defProp false
set_option linter.unusedSimpArgs false
set_option linter.unusedSectionVars false
set_option maxRecDepth 10000
set_option maxHeartbeats 1000000
section
namespace Go.Proofs.YtebopbncplpdgaaGreatDoor
open Go.Dv Go.Pl Go.Proofs.Tryz
abbrev XL (e:Ent):D:= .agg [dI e.id,nInts e.mem]
abbrev BQ (l:List Ent):D:= .sl none (l.map XL)
abbrev oEnt (e:Ent):D:= .agg [dI e.id,bV e.mem]
abbrev akO (l:List Ent):D:= .sl (some 90) (l.map oEnt)
abbrev nSys (x:lM):D:= .agg [ai6 x.cfg,XM x.sto,BQ x.ents,dI x.next,nVers x.ref]
def EU (l:List Ent):Nat:=(l.map fun e=>e.mem.length).sum
variable {l:List Ent}
def aqK {i:Nat}{c:Ent}(h:l[i]?=some c):EU (l.take (i+1))=EU (l.take i)+c.mem.length:=by simp[EU,dE h]
def BD {e:Ent}(h:e∈l):e.mem.length<=EU l:=by
 obtain⟨a,b,rfl⟩:=List.append_of_mem h;simp[EU];omega
def aJJ (l:List Ent):Prop:=l.length<=9223372036854775807/\∀e∈l,e.mem.length<=9223372036854775807
structure kD (x:lM):Prop where
 cfg:ar9 x.cfg
 sto:aAB x.sto
 ents:Qle x.ents
 mem:EU x.ents<=1048576
 ref:Qle x.ref
structure asJ (x:lM):Prop where
 rules:axC x.cfg.rules
 wts:x.cfg.sco.weights.length<=9223372036854775807
 surv:x.cfg.surv.length<=9223372036854775807
 recs:aAO x.sto.recs
 vers:x.sto.vers.length<=9223372036854775807
 ents:aJJ x.ents
 ref:x.ref.length<=9223372036854775807
def abJ (e:Ent)(left:Int)(hl:e.mem.length<=9223372036854775807)(h0:0<=left/\left<=1048576):fA prog 88 [XL e,dI left] (fun r=>∃v:Int,r=vI v/\(-1<=v/\v<=left)/\(0<=v->v+(e.mem.length:Int)<=left)):=by
 refine fE [] ntmps88 fun _ _=> ?_;simp;refine eB (JC e.mem left hl h0) (by simp) ?_;rintro r ⟨v,rfl,hv,hf⟩;refine⟨by simp,?_⟩;simp;apply gw<;>intro b
 ·simp;omega
 ·simp at b;have hfit:=hf (by omega);simp[hfit];refine ai ?_;omega
def Y3 (l:List Ent)(left:Int)(hl:aJJ l)(h0:0<=left/\left<=1048576):fA prog 37 [BQ l,dI left] (fun r=>∃v:Int,r=vI v/\(-1<=v/\v<=left)/\(0<=v->v+(l.length:Int)+EU l<=left)):=by
 refine fE [] ntmps37 fun _ _=> ?_;have hl1:=hl.1;simp;refine ai ?_;apply gw<;>intro e
 ·simp;omega
 ·simp at e;simp;refine wlt (Nat×Int) (fun(i,L)=>([(0,.val (BQ l)),(1,vI L),(5,vI i)],l.length-i,(i<=l.length)/\(0<=L/\L+(l.length:Int)+EU (l.take i)<=left))) ((0,left-l.length)) ⟨by omega,by simp[EU];omega⟩ ?_;rintro⟨i,L⟩ ⟨h1,h2⟩;simp;apply gw<;>intro a
  ·obtain⟨c,hc⟩:=aO (l:=l) (i:=i);have hcl:=hl.2 c (aA hc);have hms:=aqK hc;simp[hc];refine eB (abJ c L hcl (by omega)) (by simp) ?_;rintro r ⟨v,rfl,hv,hf⟩;refine⟨by simp,?_⟩;simp;apply gw<;>intro b
   ·simp;omega
   ·simp at b;have hfc:=hf (by omega);simp;refine nxa (i+1,v) ⟨by omega,by omega⟩
  ·simp at a;have hfit:L+(l.length:Int)+EU l<=left:=by rw[bJ]at h2;omega
   simp[hfit];refine ai ?_;omega
def tX (x:lM)(left:Int)(hl:asJ x)(h0:0<=left/\left<=1048576:=by omega):fA prog 8 [nSys x,dI left] (fun r=>∃v:Int,r=vI v/\(-1<=v/\v<=left)/\(0<=v->kD x)):=by
 refine fE [] ntmps8 fun _ _=> ?_;simp;refine eB (abI x.cfg left hl.rules hl.wts hl.surv h0) (by simp) ?_;rintro r ⟨v1,rfl,hv1,hf1⟩;refine⟨by simp,?_⟩;simp;apply gw<;>intro b
 ·simp;omega
 ·simp at b;simp;refine eB (adT x.sto v1 hl.recs hl.vers (by omega)) (by simp) ?_;rintro r ⟨v2,rfl,hv2,hf2⟩;refine⟨by simp,?_⟩;simp;apply gw<;>intro d
  ·simp;omega
  ·simp at d;simp;refine eB (Y3 x.ents v2 hl.ents (by omega)) (by simp) ?_;rintro r ⟨v3,rfl,hv3,hf3⟩;refine⟨by simp,?_⟩;simp;apply gw<;>intro e
   ·simp;omega
   ·simp at e;simp;refine eB (JD x.ref v3 hl.ref (by omega)) (by simp) ?_;rintro r ⟨v4,rfl,hv4,hf4⟩;refine⟨by simp,?_⟩;simp;apply gw<;>intro f
    ·simp;omega
    ·simp at f;have k1:=hf1 (by omega);have k2:=hf2 (by omega);have k3:=hf3 (by omega);have k4:=hf4 (by omega);have hx:kD x:=⟨⟨by have:=k1.1.1;omega,fun l hl=>by have:=k1.1.2 l hl;omega,by omega,by omega⟩,⟨by have:=k2.1.1;omega,fun r hr=>⟨by have:=(k2.1.2 r hr).1;omega,fun f hf=>by have:=(k2.1.2 r hr).2 f hf;unfold ab2;omega⟩,by omega⟩,by omega,by omega,by omega⟩;simp[hx];refine ai ?_;omega
def abL (e:Ent)(hl:Qle e.mem):Fk 100 [XL e] (.own (oEnt e)):=by
 refine fE [] ntmps100 fun _ _=> ?_;simp;refine ck (JE e.mem hl) ?_;simp
def Y8 (l:List Ent)(hl:Qle l)(hs:∀e∈l,Qle e.mem):Fk 44 [BQ l] (.own (akO l)):=by
 refine fE [] ntmps44 fun _ _=> ?_;have hz:=BC (f:=oEnt) (z:=(.agg [dI 0,.sl (some 3) []])) (l:=l);simp[hz];refine ai ?_;refine wl (fun(i:Nat)=>[(0,.val (BQ l)),(3,.own (.sl (some 90) (DT oEnt (.agg [dI 0,.sl (some 3) []]) l i))),(4,vI i)]) (fun(i:Nat)=>l.length-i) (fun(i:Nat)=>(i<=l.length)) (0) (by omega) ?_;rintro i h1;simp;apply gw<;>intro a
 ·obtain⟨c,hc⟩:=aO (l:=l) (i:=i);have hg:=EG (f:=oEnt) (z:=(.agg [dI 0,.sl (some 3) []])) (l:=l) (i:=i);have hfl:=EH (f:=oEnt) (z:=(.agg [dI 0,.sl (some 3) []])) h1;have hst:=EI (f:=oEnt) (z:=(.agg [dI 0,.sl (some 3) []])) hc;simp[hc];refine ck (abL c (hs c (aA hc))) ?_;simp[hg,hst];refine nxa (i+1) (by first|omega|(simp;omega)|grind)
 ·simp at a;obtain rfl:i=l.length:=by omega
  have hfa:=EF (f:=oEnt) (z:=(.agg [dI 0,.sl (some 3) []])) (l:=l);simp[hfa]
def fK (x:lM)(hx:kD x):Fk 10 [nSys x] (.own (.agg [.agg [.agg [.sl (some 207) (x.cfg.rules.map yE)],.agg [bV x.cfg.sco.weights,dI x.cfg.sco.bias],bV x.cfg.surv],.agg [dI x.sto.version,.sl (some 68) (x.sto.recs.map F7),oVers x.sto.vers],akO x.ents,dI x.next,oVers x.ref])):=by
 refine fE [] ntmps10 fun _ _=> ?_;have hme:∀e∈x.ents,Qle e.mem:=fun e he=>k_Nat_le_trans (BD he) hx.mem;simp;refine ck (abK x.cfg hx.cfg.rules hx.cfg.rule hx.cfg.weights hx.cfg.surv) ?_;simp;refine ck (adW x.sto hx.sto.recs (fun r hr=>(hx.sto.rec1 r hr).1) hx.sto.vers) ?_;simp;refine ck (Y8 x.ents hx.ents hme) ?_;simp;refine ck (JF x.ref hx.ref) ?_;simp
def yG (x:lM)(hx:kD x):fA prog 10 [nSys x] (fun r=>r= .val (.agg [.agg [.agg [.sl (some 207) (x.cfg.rules.map yE)],.agg [bV x.cfg.sco.weights,dI x.cfg.sco.bias],bV x.cfg.surv],.agg [dI x.sto.version,.sl (some 68) (x.sto.recs.map F7),oVers x.sto.vers],akO x.ents,dI x.next,oVers x.ref])):=(fK x hx).al9
def abH (e:Ent)(hl:Qle e.mem):Fk 120 [XL e,XL e] (vB true):=by
 refine fE [] ntmps120 fun _ _=> ?_;simp;refine ck (JA e.mem hl) ?_;simp
def YW (l:List Ent)(hl:Qle l)(hs:∀e∈l,Qle e.mem):Fk 51 [BQ l,BQ l] (vB true):=by
 refine fE [] ntmps51 fun _ _=> ?_;simp;refine wl (fun(i:Nat)=>[(0,.val (BQ l)),(1,.val (BQ l)),(5,vI i)]) (fun(i:Nat)=>l.length-i) (fun(i:Nat)=>(i<=l.length)) (0) (by omega) ?_;rintro i h1;simp;apply gw<;>intro a
 ·obtain⟨c,hc⟩:=aO (l:=l) (i:=i);simp;refine wdr ?_;simp[hc];refine cd (abH c (hs c (aA hc))) ?_;simp;refine nxa (i+1) (by first|omega|(simp;omega)|grind)
 ·simp at a;simp
def tV (x:lM)(hx:kD x):Fk 13 [nSys x,nSys x] (vB true):=by
 refine fE [] ntmps13 fun _ _=> ?_;have hme:∀e∈x.ents,Qle e.mem:=fun e he=>k_Nat_le_trans (BD he) hx.mem;simp;refine ck (abG x.cfg hx.cfg.rules hx.cfg.rule hx.cfg.weights hx.cfg.surv) ?_;simp;refine ck (adQ x.sto hx.sto.recs (fun r hr=>(hx.sto.rec1 r hr).1) hx.sto.vers) ?_;simp;refine ck (YW x.ents hx.ents hme) ?_;simp;refine ck (JB x.ref hx.ref) ?_;simp
end Go.Proofs.YtebopbncplpdgaaGreatDoor
end
section
namespace Go.Proofs.YtebopbncplpdgaaGreatDoor
open Go.Dv Go.Pl
@[go_sem,simp] abbrev vG (x:List Ent):S:= .val (BQ x)
end Go.Proofs.YtebopbncplpdgaaGreatDoor
end
section
namespace Go.Proofs.YtebopbncplpdgaaGreatDoor
open Go.Dv Go.Pl Go.Proofs.Tryz
abbrev Z9 (m:L2):D:= .sl (some 25) (m.map nInts)
def aGD (p q:L1)(hp:Qle p)(hq:Qle q):Fk 193 [nInts p,nInts q] (vI (iA p q)):=by
 refine fE [] ntmps193 fun _ _=> ?_;simp;refine wlt Nat (fun i=>([(0,vN p),(1,vN q),(9,vN p),(10,vI p.length),(11,vI i)],p.length-i,(i<=p.length)/\i<=q.length/\(p.take i=q.take i))) (0) ⟨by omega,by omega,rfl⟩ ?_;rintro i ⟨h1,h2,h3⟩;simp;apply gw<;>intro a
 ·obtain⟨c,hc⟩:=aO (l:=p) (i:=i);simp[hc];apply gw<;>intro b
  ·have hx:=afT h3 (dH hc) (by omega);simp[hx]
  ·simp at b;obtain⟨d,hd⟩:=aO (l:=q) (i:=i);simp[hd];refine ck (kW c d) ?_;simp;apply gw<;>intro e
   ·have hcd:c≠d:=by rintro rfl;simp[cmpI]at e
    have hx:iA p q=cmpI c d:=by rw[an9 h3 hc hd hcd];unfold cmpI;split<;>(try rfl);rw[if_pos (by omega)]
    simp[hx]
   ·have hcd:c=d:=by unfold cmpI at e;split at e;omega;split at e<;>omega
    simp;refine nxa (i+1) ⟨by omega,by omega,(take_same h3 hc (by rw[hcd];exact hd))⟩
 ·simp at a;have hip:i=p.length:=by omega
  subst hip;rw[bS]at h3;have hx:=ajQ h3;simp;apply gw<;>intro g
  ·rw[if_pos (by omega)]at hx;simp[hx]
  ·simp at g;rw[if_neg (by omega)]at hx;simp[hx]
def aGI (l:L2)(cf:L1->L1->Int)(g:FuncId)(E:Dv.Enters prog g)(U:T (1000000+g)=⟨.no,0,.any 0⟩)(G:∀a∈l,∀b∈l,fA prog g [nInts a,nInts b] (fun r=>r=vI (cf a b)))(hl:Qle l):D8 prog 381 [.one (.bool false),dI 0,dI l.length,.one (.func (.func g) #[] #[])] 0 (Z9 l) (fun r d=>r= .tup []/\d=Z9 (iD (cfB cf) l)):=by
 refine fM [] ntmps381 fun w0 ow0 v0=> ?_;have h00:=aiG cf l;simp;refine ai ?_;refine wl (fun(i:Nat)=>[(0,.own (Z9 (XX cf l i))),(1,vI 0),(2,vI l.length),(3,.val (.one (.func (.func g) #[] #[]))),(8,vI i)]) (fun(i:Nat)=>l.length-i) (fun(i:Nat)=>(1<=i/\i<=l.length+1)) (1) (by omega) ?_ (h0:=by simp[E,U,h00]);rintro i h1;simp;apply gw<;>intro a
 ·obtain⟨v,hv⟩:=aO (l:=l) (i:=i);have hin:GA cf l i i v=XX cf l i:=am4 (p:=cfB cf) hv;have hsl:=xY (p:=cfB cf) (l:=l) (i:=i);simp;refine wlt Nat (fun j=>([(0,.own (Z9 (GA cf l i j v))),(1,vI 0),(2,vI l.length),(3,.val (.one (.func (.func g) #[] #[]))),(8,vI i),(9,vI j)],j,(j<=i)/\(∀k c,j<=k->(srt cf l i)[k]?=some c->cfB cf v c=true))) (i) ⟨by omega,(fun k c hk hc=>absurd (dH hc) (by unfold srt;omega))⟩ ?_ (h0:=by simp[E,U,h00,hin]);rintro j ⟨h2,h3⟩;have hnow:(GA cf l i j v)[j]?=some v:=ah8 a h2;simp;refine wdt 14 ?_;simp;apply gv<;>intro e
  ·have e':=e;obtain⟨c,hc⟩:=aO (l:=srt cf l i) (i:=j-1) (by unfold srt;omega);have hprev:(GA cf l i j v)[j-1]?=some c:=by have:=ab3 (p:=cfB cf) (v:=v) a (show j-1<i by omega) hc;rwa [show j-1+1=j by omega]at this
   have hj1:((j:Int)-1).toNat=j-1:=by omega
   have hsw:=ab4 nInts (v:=v) a ⟨by omega,h2⟩ hc;have hs2:∀x:D,(((GA cf l i j v).map nInts).set j x)[j-1]?=some (nInts c):=fun x=>by rw[bI (by omega),aS,hprev];rfl
   have hj2:(j:Int)-1=((j-1:Nat):Int):=by omega
   simp[E,U,e,hnow,hprev,hj2];refine ai ?_;refine ck ((G v (aA hv) c (am6 hc))) ?_;simp;apply gw<;>intro b
   ·simp;refine wdh [2,3] [(15,[51,46,0,37,39,42,45,47,49,50]),(17,[52,50,0,37,39,42,45,46,47,49,51])] [(0,.own (Z9 (GA cf l i j v))),(1,vI 0),(2,vI l.length),(3,.val (.one (.func (.func g) #[] #[]))),(8,vI i),(9,vI j),(39,.al 0 []),(40,vI j)] [] ?_;simp[hnow,hprev,hsw,hs2,hj2];refine ai ?_;refine nx (j-1) ⟨by omega,(fun k c2 hk hc2=>by by_cases hkj:k=j-1;(subst hkj;rw[hc]at hc2;cases hc2;exact decide_eq_true b);exact h3 k c2 (by omega) hc2)⟩
   ·simp at b;have ho:GA cf l i j v=XX cf l (i+1):=NQ hv h2 h3 (.inr ⟨c,hc,by unfold cfB;exact decide_eq_false (by omega)⟩);simp[ho];refine nxa (i+1) (by omega)
  ·have e':=e;simp at e';have ho:GA cf l i j v=XX cf l (i+1):=NQ hv h2 h3 (.inl (by omega));simp[e,ho];refine nxa (i+1) (by omega)
 ·simp at a;have ho:=aiF cf (l:=l) (i:=i);simp[ho]
def aGL (l:L2)(k:Int)(cf:L1->L1->Int)(g:FuncId)(E:Dv.Enters prog g)(U:T (1000000+g)=⟨.no,0,.any 0⟩)(G:∀a∈l,∀b∈l,fA prog g [nInts a,nInts b] (fun r=>r=vI (cf a b)))(hl:l.length<=12):D8 prog 298 [.one (.bool false),dI 0,dI l.length,dI k,.one (.func (.func g) #[] #[])] 0 (Z9 l) (fun r d=>r= .tup []/\d=Z9 (iD (cfB cf) l)):=by
 refine fM [] ntmps298 fun w0 ow0 v0=> ?_;simp;refine wl (fun(i:Nat)=>[(0,.own (Z9 l)),(1,vI 0),(2,vI l.length),(3,vI k),(4,.val (.one (.func (.func g) #[] #[])))]) (fun(i:Nat)=>0) (fun(i:Nat)=>(i=0)) (0) (rfl) ?_;rintro i h1;have hlt:(l.length:Int)<=12:=by omega
 simp[hlt];refine ai ?_;refine eO rfl (aGI l cf g E U G (by omega)) ?_;rintro r d ⟨rfl,rfl⟩;simp
def aj7 (l:L2)(cf:L1->L1->Int)(g:FuncId)(E:Dv.Enters prog g)(U:T (1000000+g)=⟨.no,0,.any 0⟩)(G:∀a∈l,∀b∈l,fA prog g [nInts a,nInts b] (fun r=>r=vI (cf a b)))(hl:l.length<=12):D8 prog 192 [.one (.bool false),.one (.func (.func g) #[] #[])] 0 (Z9 l) (fun r d=>r= .tup []/\d=Z9 (iD (cfB cf) l)):=by
 refine fM [] ntmps192 fun w0 ow0 v0=> ?_;have hw:IntKind.u64.wrap (l.length:Int)=l.length:=by simp[IntKind.wrap,IntKind.bits,IntKind.signed];omega
 simp[hw];refine ck (Q3 l.length) ?_;simp;refine eO rfl (aGL l (Lib.bitLen l.length) cf g E U G hl) ?_;rintro r d ⟨rfl,rfl⟩;simp
variable {α:Type}{p q:List α}{i:Nat}{c:α}
def avO {d:α}(hc:p[i]?=some c)(hd:q[i]?=some d)(hn:c≠d):p≠q:=by rintro rfl;rw[hc]at hd;exact hn (k_Option_some_inj hd)
def UK (h:p.take i=q.take i)(hc:p[i]?=some c)(hd:q[i]?=some c):p.take (i+1)=q.take (i+1):=by rw[dE hc,dE hd,h]
def ae2 (h:p.take i=q.take i)(h1:p.length<=i:=by omega)(h2:q.length<=i:=by omega):p=q:=by rwa [bJ h1,bJ h2]at h
def M7 (p q:L1)(hp:Qle p)(hq:Qle q):Fk 196 [nInts p,nInts q] (vB (decide (p=q))):=by
 refine fE [] ntmps196 fun _ _=> ?_;simp;apply gw<;>intro e
 ·have hx:¬p=q:=by rintro rfl;omega
  simp[hx]
 ·simp;refine wlt Nat (fun i=>([(0,vN p),(1,vN q),(11,vN p),(12,vI p.length),(13,vI i)],p.length-i,(i<=p.length)/\(p.take i=q.take i))) (0) ⟨by omega,rfl⟩ ?_;rintro i ⟨h1,h2⟩;simp;apply gw<;>intro a
  ·obtain⟨c,hc⟩:=aO (l:=p) (i:=i);obtain⟨d,hd⟩:=aO (l:=q) (i:=i);simp;refine wdr ?_;simp[hc,hd];apply gw<;>intro b
   ·have hx:=avO hc hd b;simp[hx]
   ·simp;refine nxa (i+1) ⟨by omega,(UK h2 hc (by rw[show c=d by omega];exact hd))⟩
  ·simp at a;have hx:=ae2 h2;simp[hx]
def vW (p q:List Ver)(hp:Qle p)(hq:Qle q):Fk 113 [nVers p,nVers q] (vB (decide (p=q))):=by
 refine fE [] ntmps113 fun _ _=> ?_;simp;apply gw<;>intro e
 ·have hx:¬p=q:=by rintro rfl;omega
  simp[hx]
 ·simp;refine wlt Nat (fun i=>([(0,vV p),(1,vV q),(11,vV p),(12,vI p.length),(13,vI i)],p.length-i,(i<=p.length)/\(p.take i=q.take i))) (0) ⟨by omega,rfl⟩ ?_;rintro i ⟨h1,h2⟩;simp;apply gw<;>intro a
  ·obtain⟨c,hc⟩:=aO (l:=p) (i:=i);obtain⟨d,hd⟩:=aO (l:=q) (i:=i);simp;refine wdr ?_;simp[hc,hd];apply gw<;>intro b
   ·simp at b;have hx:=avO hc hd (by rintro rfl;simp at b);simp[hx]
   ·simp at b;have hcd:c=d:=by cases c;cases d;simp_all
    simp;refine nxa (i+1) ⟨by omega,(UK h2 hc (by rw[hcd];exact hd))⟩
  ·simp at a;have hx:=ae2 h2;simp[hx]
def aJU (p q:L2)(g:FuncId)(E:Dv.Enters prog g)(U:T (1000000+g)=⟨.no,0,.any 0⟩)(G:∀a∈p,∀b∈q,fA prog g [nInts a,nInts b] (fun r=>r=vB (decide (a=b))))(hp:Qle p)(hq:Qle q):Fk 194 [cK p,cK q,.one (.func (.func g) #[] #[])] (vB (decide (p=q))):=by
 refine fE [] ntmps194 fun _ _=> ?_;simp;apply gw<;>intro e
 ·have hx:¬p=q:=by rintro rfl;omega
  simp[hx]
 ·simp;refine wlt Nat (fun i=>([(1,.val (cK q)),(2,.val (.one (.func (.func g) #[] #[]))),(15,.val (cK p)),(16,vI p.length),(17,vI i)],p.length-i,(i<=p.length)/\(p.take i=q.take i))) (0) ⟨by omega,rfl⟩ ?_;rintro i ⟨h1,h2⟩;simp;apply gw<;>intro a
  ·obtain⟨c,hc⟩:=aO (l:=p) (i:=i);obtain⟨d,hd⟩:=aO (l:=q) (i:=i);simp[E,U,hc,hd];refine ck ((G c (aA hc) d (aA hd))) ?_;simp;apply gw<;>intro b
   ·have hx:=avO hc hd b;simp[hx]
   ·have hcd:c=d:=by simpa using b
    simp;refine nxa (i+1) ⟨by omega,(UK h2 hc (by rw[hcd];exact hd))⟩
  ·simp at a;have hx:=ae2 h2;simp[hx]
def RN (p q:L1)(hp:Qle p)(hq:Qle q):Fk 195 [nInts p,nInts q] (vB (decide (p=q))):=by
 refine fE [] ntmps195 fun _ _=> ?_;simp;refine ck (M7 p q hp hq) ?_;simp
def aj4 (l:L2)(hl:Qle l):Fk 191 [cK l] (.own (Z9 l)):=by
 refine fE [2,5] ntmps191 fun _ _=> ?_;have hle:l.length<=1073741824:=by omega
 simp;refine aML 1 ?_;simp[hle];intro hnil;subst hnil;try simp[hle]
 refine jL [] (wP (L:=[(2,.own (Z9 []))]) (by simp)) ?_;simp
def gL (l:L2)(hl:∀r∈l,Qle r):∀a∈l,∀b∈l,fA prog 193 [nInts a,nInts b] (fun r=>r=vI (iA a b)):=fun a ha b hb=>aGD a b (hl a ha) (hl b hb)
def gE (p q:L2)(hp:∀r∈p,Qle r)(hq:∀r∈q,Qle r):∀a∈p,∀b∈q,fA prog 195 [nInts a,nInts b] (fun r=>r=vB (decide (a=b))):=fun a ha b hb=>RN a b (hp a ha) (hq b hb)
def aCA (l:L2):iD (cfB iA) l=BM l:=rfl
def WO (p q:L2)(hp:p.length<=12)(hq:q.length<=12)(hp1:∀r∈p,Qle r)(hq1:∀r∈q,Qle r):Fk 111 [cK p,cK q] (vB (decide (BM p=BM q))):=by
 refine fE [] ntmps111 fun _ _=> ?_;simp;refine ck (aj4 p (by omega)) ?_;simp;refine ck (aj4 q (by omega)) ?_;have hgp:=aCA p;have hgq:=aCA q;simp;refine eO rfl (aj7 p iA 193 aIX aI6 (gL p hp1) (by omega)) ?_;rintro r d ⟨rfl,rfl⟩;simp[hgp];refine eO rfl (aj7 q iA 193 aIX aI6 (gL q hq1) (by omega)) ?_;rintro r d ⟨rfl,rfl⟩;have hpl:=(xW p).length_eq;have hql:=(xW q).length_eq;simp[hgq];refine ck (aJU (BM p) (BM q) 195 aLJ aLY (gE (BM p) (BM q) (fun r hr=>hp1 r ((xW p).mem_iff.1 hr)) (fun r hr=>hq1 r ((xW q).mem_iff.1 hr))) (by omega) (by omega)) ?_;simp
def KY (l:List Ent)(hl:Qle l):Fk 112 [BQ l] (.own (Z9 (l.map Ent.mem))):=by
 refine fE [] ntmps112 fun _ _=> ?_;simp;refine wlt (Nat×L2) (fun(i,o)=>([(3,.own (Z9 o)),(6,vG l),(7,vI l.length),(8,vI i)],l.length-i,(i<=l.length)/\(o=(l.take i).map Ent.mem))) ((0,[])) ⟨by omega,rfl⟩ ?_;rintro⟨i,o⟩ ⟨h1,h2⟩;simp;apply gw<;>intro a
 ·obtain⟨c,hc⟩:=aO (l:=l) (i:=i);have hm:=uI Ent.mem hc;have hol:o.length=i:=by rw[h2];simp;omega
  rw[←h2]at hm;simp[hc];refine nxb (i+1,o++[c.mem]) ⟨by omega,by rw[hm]⟩
 ·simp at a;rw[bJ]at h2;have hr:l.map Ent.mem=o:=h2.symm;simp[hr]
def R8 {o g:L1}{k:Nat}(h:k<g.length)(hp:SF o g k=false):ag1 o g=false:=by unfold ag1;rw[nM h hp];rfl
def YO (G:L2)(hG:Qle G)(hs:∀r∈G,Qle r):Fk 184 [cK G] (vB (DY [] G)):=by
 refine fE [] ntmps184 fun _ _=> ?_;simp;refine wlt (Nat×L1) (fun(i,o)=>([(3,vS o),(8,.val (cK G)),(9,vI G.length),(10,vI i)],G.length-i,(i<=G.length)/\(DY [] G=DY o (G.drop i))/\(o.length<=8))) ((0,[])) ⟨by omega,rfl,by simp⟩ ?_;rintro⟨i,o⟩ ⟨h1,h2,h3⟩;simp;apply gw<;>intro a
 ·obtain⟨c,hc⟩:=aO (l:=G) (i:=i);have hcl:=hs c (aA hc);have hdr:=drop_at hc;rw[hdr,DY]at h2;simp[hc];refine wlt Nat (fun k=>([(3,vS o),(5,vN c),(8,.val (cK G)),(9,vI G.length),(10,vI i),(14,vN c),(15,vI c.length),(16,vI k)],c.length-k,(k<=c.length)/\((List.range k).all (SF o c)=true))) (0) ⟨by omega,rfl⟩ ?_;rintro k ⟨h4,h5⟩;simp;apply gw<;>intro b
  ·have hx:=aY b;simp[hx];refine ck (EJ (at1 c k)) ?_;simp;apply gv<;>intro e
   ·have e':=e;simp at e';have hn:=R8 (o:=o) b (by simp[SF];omega);rw[hn,iM]at h2;simp[e,h2]
   ·have e':=e;simp at e';simp[e];apply gv<;>intro f
    ·have f':=f;have hp:=aY (l:=c) (i:=k-1);simp[f,hp];iterate 2 refine ai ?_
     apply gv<;>intro g
     ·have g':=g;have hn:=R8 (o:=o) b (by simp[SF];omega);rw[hn,iM]at h2;simp[g,h2]
     ·have g':=g;simp at g';simp[g];refine ck (lY o (at1 c k) (by omega)) ?_;simp;apply gw<;>intro q
      ·simp at q;have hn:=R8 (o:=o) b (by simp[SF];simp_all);rw[hn,iM]at h2;simp[h2]
      ·simp at q;simp;refine nxa (k+1) ⟨by omega,(oZ h5 (by simp[SF];exact⟨⟨by omega,by omega⟩,q⟩))⟩
    ·have f':=f;simp at f';simp[f];refine ck (lY o (at1 c k) (by omega)) ?_;simp;apply gw<;>intro q
     ·simp at q;have hn:=R8 (o:=o) b (by simp[SF];simp_all);rw[hn,iM]at h2;simp[h2]
     ·simp at q;simp;refine nxa (k+1) ⟨by omega,(oZ h5 (by simp[SF];exact⟨⟨by omega,by omega⟩,q⟩))⟩
  ·simp at b;obtain rfl:k=c.length:=by omega
   simp;refine ai ?_;apply gv<;>intro g
   ·have g':=g;rw[show ag1 o c=false by rw[g];rfl,iM]at h2;simp[g,h2]
   ·have g':=g;simp[g];apply gw<;>intro r
    ·rw[ag2 (G.drop (i+1)) (all:=o++c) (by simp;omega),Bool.and_false]at h2;simp[h2]
    ·simp at r;rw[show ag1 o c=true by unfold ag1;rw[h5];simp[g],fD]at h2;simp;refine nxa (i+1,o++c) ⟨by omega,h2,by simp;omega⟩
 ·simp at a;rw[bX a,DY]at h2;have hx:DY [] G:=by rw[h2];simp;omega
  simp[hx]
def UO (l:List Ent)(hl:Qle l)(hs:∀e∈l,Qle e.mem):Fk 106 [BQ l] (vB (uT l)):=by
 refine fE [] ntmps106 fun _ _=> ?_;simp;refine wlt Nat (fun i=>([(0,vG l),(5,vG l),(6,vI l.length),(7,vI i)],l.length-i,(i<=l.length)/\((l.take i).all idB=true)/\(adj amH (l.take i)=true))) (0) ⟨by omega,rfl,rfl⟩ ?_;rintro i ⟨h1,h2,h3⟩;simp;apply gw<;>intro a
 ·obtain⟨c,hc⟩:=aO (l:=l) (i:=i);simp[hc];refine wdr ?_;simp;refine cd (bK c.id 1 9999) ?_;simp;apply gv<;>intro e
  ·have e':=e;simp at e';have hn:=fV hc (P:=idB) (by simp[idB];omega);simp[e];grind[uT]
  ·have e':=e;simp at e';simp[e];apply gv<;>intro f
   ·have f':=f;obtain⟨p,hp⟩:=aO (l:=l) (i:=i-1);have hi1:i-1+1=i:=by omega
    simp[f,hp];iterate 2 refine ai ?_
    apply gw<;>intro b
    ·have hn:=LJ hp (by rw[hi1];exact hc) (R:=amH) (by simp[amH];omega);simp;grind[uT]
    ·simp at b;simp;refine nxa (i+1) ⟨by omega,(bW hc h2 (by simp[idB];omega)),by have:=zX (i:=i-1) (by rw[hi1];exact h3) hp (by rw[hi1];exact hc) (by simp[amH];omega);rwa [hi1]at this⟩
   ·have f':=f;simp at f';simp[f];refine nxa (i+1) ⟨by omega,(bW hc h2 (by simp[idB];omega)),(by obtain rfl:i=0:=(by omega);exact wO)⟩
 ·simp at a;have hf:=iX h2 a;rw[bJ a]at h3;have hms:∀r∈l.map Ent.mem,Qle r:=fun r hr=>by obtain⟨e,he,rfl⟩:=dG.1 hr;exact hs e he
  simp;refine ck (KY l hl) ?_;simp;refine ckz (YO (l.map Ent.mem) (by simp;omega) hms) ?_;simp;grind[uT]
def MV (e:Ent)(x:lM):Fk 109 [XL e,.bx false (nSys x)] (vB (decide (x.next<=e.id))):=by
 refine fE [] ntmps109 fun _ _=> ?_;simp
def WQ (l:List Ent)(p:Ent->Bool)(g:FuncId)(b:Nat)(d:D)(F:d.fz=d)(E:Dv.Enters prog g)(U:T (1000000+g)=⟨.no,0,.any 0⟩)(G:∀c∈l,fA prog g [XL c,.bx false d] (fun r=>r=vB (p c)))(hl:Qle l):yX prog 102 [BQ l,.one (.func (.func g) #[] #[.pointer (some ⟨b,0,none⟩)])] [(b,d)] (fun res'=>res'=vI (ix p l)):=by
 refine fB [] ntmps102 fun _ _=> ?_;simp;refine wlt Nat (fun i=>([(0,vG l),(1,.val (.one (.func (.func g) #[] #[.pointer (some ⟨b,0,none⟩)]))),(7,vI l.length),(8,vI i),(1000000+2*b,.rp (d))],l.length-i,(i<=l.length)/\((l.take i).any p=false))) (0) ⟨by omega,rfl⟩ ?_;rintro i ⟨h1,h2⟩;simp;apply gw<;>intro a
 ·obtain⟨c,hc⟩:=aO (l:=l) (i:=i);simp[E,U,F,hc];refine ck ((G c (aA hc))) ?_;simp;apply gw<;>intro e
  ·have hn:=DZ hc h2 (by simp[e]);simp[hn]
  ·simp;refine nxa (i+1) ⟨by omega,(kN hc h2 (by simp[e]))⟩
 ·simp at a;have hf:=pK h2 a;have hx:=sF hf;simp[hx]
def axW (l:List Ent)(p:Ent->Bool)(g:FuncId)(b:Nat)(d:D)(F:d.fz=d)(E:Dv.Enters prog g)(U:T (1000000+g)=⟨.no,0,.any 0⟩)(G:∀c∈l,fA prog g [XL c,.bx false d] (fun r=>r=vB (p c)))(hl:Qle l):yX prog 108 [BQ l,.one (.func (.func g) #[] #[.pointer (some ⟨b,0,none⟩)])] [(b,d)] (fun res'=>res'=vB (l.any p)):=by
 refine fB [] ntmps108 fun _ _=> ?_;have hq:decide (0<=ix p l)=l.any p:=by rw[bM,decide_eq_true_eq];exact jC
 simp[F];refine ckB (WQ l p g b d F E U G hl) ?_;simp[hq]
def xK (x:lM):Bool:=kR x.cfg&&iW x.sto&&uT x.ents&&inR x.next 1 9999&& !(x.ents.any fun e=>decide (x.next<=e.id))&&decide (BM (x.ents.map Ent.mem)=BM (ac2 x.cfg x.sto))&&decide (x.ref=jY x.sto.vers)
def nSys_fz (x:lM):(nSys x).fz=nSys x:=by simp[D.fz,D.fzs,D.jS]
def wW (x:lM)(hx:kD x):Fk 47 [nSys x] (vB (xK x)):=by
 refine fE [] ntmps47 fun _ _=> ?_;have hme:∀e∈x.ents,Qle e.mem:=fun e he=>k_Nat_le_trans (BD he) hx.mem;simp;refine ck (PY x.cfg hx.cfg.rules hx.cfg.rule hx.cfg.weights hx.cfg.surv) ?_;simp;apply gv<;>intro e
 ·have e':=e;simp at e';simp[e];grind[xK]
 ·have e':=e;simp at e';simp[e];refine ck (Q9 x.sto hx.sto.recs hx.sto.rec1 hx.sto.vers) ?_;simp;apply gv<;>intro f
  ·have f':=f;simp at f';simp[f];grind[xK]
  ·have f':=f;simp at f';simp[f];refine ck (UO x.ents hx.ents hme) ?_;simp;apply gv<;>intro g
   ·have g':=g;simp at g';simp[g];grind[xK]
   ·have g':=g;simp at g';simp[g];refine ck (bK x.next 1 9999) ?_;simp;apply gw<;>intro b
    ·simp at b;simp;grind[xK]
    ·simp at b;have hr1:zV x.cfg x.sto=ac2 x.cfg x.sto:=if_pos (by simp[e',f']);have hr2:GU x.cfg x.sto=jY x.sto.vers:=if_pos (by simp[e',f']);have hro:=aaN x.cfg x.sto;have hrf:=aaO x.cfg x.sto;rw[hr1]at hro;rw[hr2]at hrf;have hel:=(xP g').2;have hms:∀r∈x.ents.map Ent.mem,Qle r:=fun r hr=>by obtain⟨e,he,rfl⟩:=dG.1 hr;exact hme e he
     simp[e',f',g',b];intro bo;refine ckB (axW x.ents (fun e=>decide (x.next<=e.id)) 109 bo (nSys x) (nSys_fz x) en109 mu109 (fun c _=>MV c x) hx.ents) ?_;simp;apply gw<;>intro q
     ·simp at q;simp;grind[xK]
     ·simp at q;simp;refine ck (adN x.cfg x.sto e' f' hx.cfg) ?_;simp;refine ck (KY x.ents hx.ents) ?_;simp;refine ckz (WO (x.ents.map Ent.mem) (ac2 x.cfg x.sto) (by simp;omega) (by omega) hms (fun r hr=>by have:=hro.2 r hr;omega)) ?_;simp;apply gv<;>intro w
      ·have w':=w;simp[w];refine ck (vW x.ref (jY x.sto.vers) hx.ref (by omega)) ?_;simp;grind[xK]
      ·have w':=w;simp[w];grind[xK]
end Go.Proofs.YtebopbncplpdgaaGreatDoor
end
section
namespace Go.Proofs.YtebopbncplpdgaaGreatDoor
open Go.Dv Go.Pl
open Go.ChangeShapes Go.WideShapes Go.ChangeAt Go.RowKit Go.Er
section
variable {H:Type}{enc:TypeId×Value->H}{W:World}{cs:List Value}
def aK1 (h:Tr enc Tryz.prog W 122 cs):∃e:Ent,e.mem.length<=9223372036854775807/\Rd Tryz.prog W (XL e) cs:=by
 have hl:=AP Tryz.underlying122 (n:=2) (by kernel_rfl) h;have hf:=AO Tryz.underlying122 h;obtain⟨a,h0⟩:=open_int Tryz.underlying3 (hf 0 _ rfl 0 1 rfl (by kernel_rfl));obtain⟨l,q,h1⟩:=anE (hf 1 _ rfl 1 1 rfl (by kernel_rfl));exact⟨⟨a,l⟩,q,L6 (jT h0 (jT h1 (LZ hl)))⟩
def aIG (h:Tr enc Tryz.prog W 34 cs):∃l:List Ent,aJJ l/\Rd Tryz.prog W (BQ l) cs:=
 OZ Tryz.underlying34 (k:=2) (by kernel_rfl) (by decide) (fun vs h=>aK1 h) h
def aiK (h:Tr enc Tryz.prog W 36 cs):∃x:lM,asJ x/\Rd Tryz.prog W (nSys x) cs:=by
 have hl:=AP Tryz.underlying36 (n:=10) (by kernel_rfl) h;have hf:=AO Tryz.underlying36 h;obtain⟨c,⟨q1,q2,q3⟩,h0⟩:=aK0 (hf 0 _ rfl 0 4 rfl (by kernel_rfl));obtain⟨s,⟨q4,q5⟩,h1⟩:=aK3 (hf 1 _ rfl 4 3 rfl (by kernel_rfl));obtain⟨e,q6,h2⟩:=aIG (hf 2 _ rfl 7 1 rfl (by kernel_rfl));obtain⟨n,h3⟩:=open_int Tryz.underlying3 (hf 3 _ rfl 8 1 rfl (by kernel_rfl));obtain⟨l,q7,h4⟩:=awS (hf 4 _ rfl 9 1 rfl (by kernel_rfl));exact⟨⟨c,s,e,n,l⟩,⟨q1,q2,q3,q4,q5,q6,q7⟩,L6 (jT h0 (jT h1 (jT h2 (jT h3 (jT h4 (LZ hl))))))⟩
end
end Go.Proofs.YtebopbncplpdgaaGreatDoor
end
section
namespace Go.Proofs.YtebopbncplpdgaaGreatDoor
open Go.Dv Go.Pl Go.Proofs.Tryz
def inL (l:L1)(x:Int):Bool:=l.any fun y=>decide (x=y)
def aMV (l:L1)(x:Int):(l.any fun y=>decide (x=y))=inL l x:=rfl
def aJ7 (l:L1)(x:Int):decide (0<=ix (fun y=>decide (y=x)) l)=inL l x:=by
 rw[bM,decide_eq_true_eq,jC,inL,cZ,cZ];simp only[eq_comm]
abbrev v0:Ver:=⟨0,0,false,0⟩
def pJ {x:lM}(h:xK x):kR x.cfg=true/\iW x.sto=true/\uT x.ents=true:=by
 simp only[xK,k_Bool_and_eq_true]at h;exact⟨h.1.1.1.1.1.1,h.1.1.1.1.1.2,h.1.1.1.1.2⟩
structure Rsn where
 a:Int
 b:Int
 kind:Int
 rule:Int
deriving instance DecidableEq,Inhabited for Rsn
abbrev r0:Rsn:=⟨0,0,0,0⟩
def aoT (a b:Rec)(ha:aV a)(hb:aV b):fA prog 71 [nV a,nV b] (fun r=>r= .val (bV (pF a b))):=(MZ a b ha hb).al9
def aEE (a b:Rec)(ha:aV a)(hb:aV b):fA prog 65 [nV a,nV b] (fun r=>r= .val (bV (pF a b))):=(FW a b ha hb).al9
def VQ (k:Int):Str:=109::(if k<=0 then[48]else mI k.natAbs)
def M5 (k:Int)(hk:k<=9000000000000000000):Fk 83 [dI k] (wN (VQ k)):=by
 refine fE [] ntmps83 fun _ _=> ?_;simp;apply gw<;>intro e
 ·have hr:VQ k=[109,48]:=by rw[VQ,if_pos e]
  simp[hr]
 ·simp at e;simp;refine wlt (Int×Str) (fun(j,s)=>([(0,vI j),(3,wN s)],j.toNat,(0<=j/\j<=k)/\(mI j.natAbs++s=mI k.natAbs))) ((k,[])) ⟨by omega,by simp⟩ ?_;rintro⟨j,s⟩ ⟨h0,h1⟩;have hlen:s.length<=19:=by have h3:=congrArg List.length h1;have h4:=OY k.natAbs 19 (by (try unfold Qle);rw[show(10:Nat)^19=10000000000000000000 by rfl];omega);simp only[aR]at h3;omega
  simp;apply gw<;>intro a
  ·have ht:j.tmod 10=(j.natAbs % 10:Nat):=by rw[Int.tmod_eq_emod_of_nonneg (by omega)];omega
   have hq:j.tdiv 10=(j.natAbs/10:Nat):=by rw[kT (by omega)];omega
   have hdec:=vL (m:=j.natAbs);obtain⟨c,hc⟩:∃c:UInt8,c=UInt8.ofNat (48+j.natAbs % 10):=⟨_,rfl⟩;have hu8:(48+(j.natAbs:Int) % 10) % 256=(c.toNat:Int):=by rw[hc,sI];omega
   have hu9:IntKind.u8.wrap (48+(j.natAbs:Int) % 10)=(c.toNat:Int):=by rw[←hu8];simp[IntKind.wrap,IntKind.bits,IntKind.signed]
   have hnt:(j.natAbs:Int)=j:=by omega
   simp[ht,hq,hu9];refine nxd ((j.natAbs/10:Nat),c::s) ⟨by omega,by rw[Int.natAbs_natCast,←h1,hdec,hc];simp⟩
  ·simp at a;have hj:j=0:=by omega
   rw[hj]at h1;have hs:s=mI k.natAbs:=by simpa[uS]using h1
   have hr:VQ k=109::s:=by rw[VQ,if_neg (by omega),hs]
   simp[hr];omega
def XJ (l:List Str)(k:Int)(i:Nat):List Str:=(List.range i).map (fun j:Nat=>VQ (k+(j:Int)))++l.drop i
variable {l:List Str}{k:Int}{i:Nat}
def aDD (h:i<=l.length):(XJ l k i).length=l.length:=by simp[XJ];omega
def aDC (h:i<l.length):(XJ l k i)[i]?=l[i]?:=by
 unfold XJ;rw[aN (by simp)];simp
def aDE (h:i<l.length):(XJ l k i).set i (VQ (k+i))=XJ l k (i+1):=by
 unfold XJ;rw[List.set_append,if_neg (by simp),aQ,List.length_range,cB,aW h,eG,dN,fH];simp
def ayP (l:List Str)(k:Int):XJ l k 0=l:=by simp[XJ]
def JW (n:Nat)(k:Int):List Str:=(List.range n).map fun j:Nat=>VQ (k+(j:Int))
def aDB (l:List Str)(k:Int):XJ l k l.length=JW l.length k:=by simp[XJ,JW]
def atP {n:Nat}(h:i<n):(JW n k)[i]?=some (VQ (k+i)):=by simp[JW,h]
def atQ (n:Nat)(k:Int):(JW n k).length=n:=by simp[JW]
def zJ (l:List Str)(k:Int)(hl:Qle l)(hk:0<=k/\k<=1000000000000000):D8 prog 33 [.one (.bool false),dI k] 0 (J5 l) (fun r d=>r=vI (k+l.length)/\d=J5 (JW l.length k)):=by
 refine fM [] ntmps33 fun w0 ow0 v0=> ?_;have hz:=ayP l k;rw[show J5 l=J5 (XJ l k 0) by rw[hz]];simp;refine wl (fun(i:Nat)=>[(0,wC (XJ l k i)),(1,vI (k+i)),(5,vI i)]) (fun(i:Nat)=>l.length-i) (fun(i:Nat)=>(i<=l.length)) (0) (by omega) ?_;rintro i h1;have hml:=aDD (k:=k) h1;simp[hml];apply gw<;>intro a
 ·obtain⟨c,hc⟩:=aO (l:=l) (i:=i);have hg:=aDC (k:=k) (l:=l) (i:=i) (by omega);rw[hc]at hg;have hst:((XJ l k i).map dS).set i (dS (VQ (k+i)))=(XJ l k (i+1)).map dS:=by rw[←List.map_set,aDE (by omega)]
  simp;refine ck (M5 (k+i) (by omega)) ?_;have hadd:k+(i:Int)+1=k+((i:Int)+1):=by omega
  simp[hg,hst,hadd];refine nxb (i+1) (by first|omega|(simp;omega)|grind)
 ·simp at a;obtain rfl:i=l.length:=by omega
  have hfa:=aDB l k;simp[hfa]
def marksI (n:Nat)(k:Int):L1:=(List.range n).map fun j:Nat=>k+(j:Int)
def XI (l:L1)(k:Int)(i:Nat):L1:=marksI i k++l.drop i
def aC5 {l:L1}(h:i<=l.length):(XI l k i).length=l.length:=by simp[XI,marksI];omega
def aC4 {l:L1}(h:i<l.length):(XI l k i)[i]?=l[i]?:=by
 unfold XI marksI;rw[aN (by simp)];simp
def aC6 {l:L1}(h:i<l.length):(XI l k i).set i (k+i)=XI l k (i+1):=by
 unfold XI marksI;rw[List.set_append,if_neg (by simp),aQ,List.length_range,cB,aW h,eG,dN,fH];simp
def ayN (l:L1)(k:Int):XI l k 0=l:=by simp[XI,marksI]
def aC3 (l:L1)(k:Int):XI l k l.length=marksI l.length k:=by simp[XI]
def EM (l:L1)(k:Int)(hl:Qle l)(hk:0<=k/\k<=1000000000000000):D8 prog 124 [.one (.bool false),dI k] 0 (bV l) (fun r d=>r=vI (k+l.length)/\d=bV (marksI l.length k)):=by
 refine fM [] ntmps124 fun w0 ow0 v0=> ?_;have hz:=ayN l k;rw[show bV l=bV (XI l k 0) by rw[hz]];simp;refine wl (fun(i:Nat)=>[(0,vS (XI l k i)),(1,vI (k+i)),(5,vI i)]) (fun(i:Nat)=>l.length-i) (fun(i:Nat)=>(i<=l.length)) (0) (by omega) ?_;rintro i h1;have hml:=aC5 (k:=k) h1;simp[hml];apply gw<;>intro a
 ·obtain⟨c,hc⟩:=aO (l:=l) (i:=i);have hg:=aC4 (k:=k) (l:=l) (i:=i) (by omega);rw[hc]at hg;have hst:((XI l k i).map dI).set i (dI (k+i))=(XI l k (i+1)).map dI:=by rw[←List.map_set,aC6 (by omega)]
  have hadd:k+(i:Int)+1=k+((i:Int)+1):=by omega
  simp[hg,hst,hadd];refine nxb (i+1) (by first|omega|(simp;omega)|grind)
 ·simp at a;obtain rfl:i=l.length:=by omega
  have hfa:=aC3 l k;simp[hfa]
def aHC (k:Int):Tst:=⟨k,k+1,decide ((k+2).tmod 3=0)⟩
def yD (n:Nat)(k:Int):List Tst:=(List.range n).map fun j:Nat=>aHC (k+3*(j:Int))
def zS (l:List Tst)(k:Int)(i:Nat):List Tst:=yD i k++l.drop i
def atV {l:List Tst}(h:i<=l.length):(zS l k i).length=l.length:=by simp[zS,yD];omega
def atU {l:List Tst}(h:i<l.length):(zS l k i)[i]?=l[i]?:=by
 unfold zS yD;rw[aN (by simp)];simp
def atW {l:List Tst}(h:i<l.length):(zS l k i).set i (aHC (k+3*i))=zS l k (i+1):=by
 unfold zS yD;rw[List.set_append,if_neg (by simp),aQ,List.length_range,cB,aW h,eG,dN,fH];simp
def aqM (l:List Tst)(k:Int):zS l k 0=l:=by simp[zS,yD]
def atT (l:List Tst)(k:Int):zS l k l.length=yD l.length k:=by simp[zS]
def Y2 (l:List Tst)(k:Int)(hl:Qle l)(hk:0<=k/\k<=1000000000000000):D8 prog 300 [.one (.bool false),dI k] 0 (.sl (some 250) (l.map uP)) (fun r d=>r=vI (k+3*l.length)/\d= .sl (some 250) ((yD l.length k).map uP)):=by
 refine fM [] ntmps300 fun w0 ow0 v0=> ?_;have hz:=aqM l k;rw[show l.map uP=(zS l k 0).map uP by rw[hz]];simp;refine wl (fun(i:Nat)=>[(0,.own (.sl (some 250) ((zS l k i).map uP))),(1,vI (k+3*i)),(5,vI i)]) (fun(i:Nat)=>l.length-i) (fun(i:Nat)=>(i<=l.length)) (0) (by omega) ?_;rintro i h1;have hml:=atV (k:=k) h1;simp[hml];apply gw<;>intro a
 ·obtain⟨c,hc⟩:=aO (l:=l) (i:=i);have hg:=atU (k:=k) (l:=l) (i:=i) (by omega);rw[hc]at hg;have hst:((zS l k i).map uP).set i (uP (aHC (k+3*i)))=(zS l k (i+1)).map uP:=by rw[←List.map_set,atW (by omega)]
  have hsg:∀v:D,(((zS l k i).map uP).set i v)[i]?=some v:=fun v=>by rw[bG (by (try unfold Qle);rw[aQ];omega)]
  have hqn:k+3*(i:Int)+3=k+3*((i:Int)+1):=by omega
  obtain⟨q,hq⟩:∃q,k+3*(i:Int)=q:=⟨_,rfl⟩;have hqb:0<=q/\q<=1000010000000000:=by omega
  rw[hq]at hst hqn;have a2:q+1+1=q+2:=by omega
  have a3:q+2+1=q+3:=by omega
  have a4:q+3+1=q+4:=by omega
  simp only[aHC]at hst;simp[hg,hq,hsg,a2,a3,hst,hqn];iterate 4 refine ai ?_
  refine nx (i+1) (by omega)
 ·simp at a;obtain rfl:i=l.length:=by omega
  have hfa:=atT l k;simp[hfa]
def aHD (k:Int):Ver:=⟨k,k+1,decide ((k+2).tmod 3=0),k+3⟩
def JX (n:Nat)(k:Int):List Ver:=(List.range n).map fun j:Nat=>aHD (k+4*(j:Int))
def zT (l:List Ver)(k:Int)(i:Nat):List Ver:=JX i k++l.drop i
def atZ {l:List Ver}(h:i<=l.length):(zT l k i).length=l.length:=by simp[zT,JX];omega
def atY {l:List Ver}(h:i<l.length):(zT l k i)[i]?=l[i]?:=by
 unfold zT JX;rw[aN (by simp)];simp
def at5 {l:List Ver}(h:i<l.length):(zT l k i).set i (aHD (k+4*i))=zT l k (i+1):=by
 unfold zT JX;rw[List.set_append,if_neg (by simp),aQ,List.length_range,cB,aW h,eG,dN,fH];simp
def aqN (l:List Ver)(k:Int):zT l k 0=l:=by simp[zT,JX]
def atX (l:List Ver)(k:Int):zT l k l.length=JX l.length k:=by simp[zT]
def FQ (l:List Ver)(k:Int)(hl:Qle l)(hk:0<=k/\k<=1000000000000000):D8 prog 56 [.one (.bool false),dI k] 0 (.sl (some 129) (l.map kK)) (fun r d=>r=vI (k+4*l.length)/\d= .sl (some 129) ((JX l.length k).map kK)):=by
 refine fM [] ntmps56 fun w0 ow0 v0=> ?_;have hz:=aqN l k;rw[show l.map kK=(zT l k 0).map kK by rw[hz]];simp;refine wl (fun(i:Nat)=>[(0,.own (.sl (some 129) ((zT l k i).map kK))),(1,vI (k+4*i)),(5,vI i)]) (fun(i:Nat)=>l.length-i) (fun(i:Nat)=>(i<=l.length)) (0) (by omega) ?_;rintro i h1;have hml:=atZ (k:=k) h1;simp[hml];apply gw<;>intro a
 ·obtain⟨c,hc⟩:=aO (l:=l) (i:=i);have hg:=atY (k:=k) (l:=l) (i:=i) (by omega);rw[hc]at hg;have hst:((zT l k i).map kK).set i (kK (aHD (k+4*i)))=(zT l k (i+1)).map kK:=by rw[←List.map_set,at5 (by omega)]
  have hsg:∀v:D,(((zT l k i).map kK).set i v)[i]?=some v:=fun v=>by rw[bG (by (try unfold Qle);rw[aQ];omega)]
  have hqn:k+4*(i:Int)+4=k+4*((i:Int)+1):=by omega
  obtain⟨q,hq⟩:∃q,k+4*(i:Int)=q:=⟨_,rfl⟩;have hqb:0<=q/\q<=1000010000000000:=by omega
  rw[hq]at hst hqn;have a2:q+1+1=q+2:=by omega
  have a3:q+2+1=q+3:=by omega
  have a4:q+3+1=q+4:=by omega
  simp only[aHD]at hst;simp[hg,hq,hsg,a2,a3,a4,hst,hqn];iterate 5 refine ai ?_
  refine nx (i+1) (by omega)
 ·simp at a;obtain rfl:i=l.length:=by omega
  have hfa:=atX l k;simp[hfa]
def AQ (m:List (List Tst)):Int:=(m.map fun r=>3*(r.length:Int)).sum
def mRu:List (List Tst)->Int->List (List Tst)
 |[],_=>[]
 |r::m,k=>yD r.length k::mRu m (k+3*r.length)
def aeU:∀(m:List (List Tst)) (k:Int),(mRu m k).length=m.length
 |[],_=>rfl
 |r::m,k=>by simp[mRu,aeU m]
variable {m:List (List Tst)}{c:List Tst}
def auM (h:m[i]?=some c):AQ (m.take (i+1))=AQ (m.take i)+3*c.length:=by unfold AQ;rw[uI _ h];simp
def av4:∀(m:List (List Tst)) (k:Int) (c:List Tst),mRu (m++[c]) k=mRu m k++[yD c.length (k+AQ m)]
 |[],k,c=>by simp[mRu,AQ]
 |r::m,k,c=>by
  simp only[fZ,mRu,av4 m];simp[AQ,Int.add_assoc]
def ah6 (hs:∀r∈m,Qle r):0<=AQ m/\AQ m<=3145728*m.length:=by
 induction m with
 |nil=>simp[AQ]
 |cons r m ih=>
  have h1:=ih (fun x hx=>hs x (bC _ hx));have h2:=hs r lF;simp only[AQ,fI,List.sum_cons,k_List_length_cons]at h1|-
  omega
def XK (m:List (List Tst))(k:Int)(i:Nat):List (List Tst):=mRu (m.take i) k++m.drop i
def aDH (h:i<=m.length):(XK m k i).length=m.length:=by simp[XK,aeU];omega
def aDG (h:i<m.length):(XK m k i)[i]?=m[i]?:=by
 have hl:(mRu (m.take i) k).length=i:=by simp[aeU];omega
 unfold XK;rw[aN (by omega),hl];simp
def aDI (h:m[i]?=some c):(XK m k i).set i (yD c.length (k+AQ (m.take i)))=XK m k (i+1):=by
 have hi:=dH h;have hl:(mRu (m.take i) k).length=i:=by simp[aeU];omega
 unfold XK;rw[List.set_append,if_neg (by omega),hl,cB,aW hi,eG,dE h,av4];simp
def ayQ (m:List (List Tst))(k:Int):XK m k 0=m:=by simp[XK,mRu]
def aDF (m:List (List Tst))(k:Int):XK m k m.length=mRu m k:=by simp[XK]
def Y0 (m:List (List Tst))(k:Int)(hn:Qle m)(hs:∀r∈m,Qle r)(hk:0<=k/\k<=100000000000):D8 prog 200 [.one (.bool false),dI k] 0 (.sl (some 207) (m.map yE)) (fun r d=>r=vI (k+AQ m)/\d= .sl (some 207) ((mRu m k).map yE)):=by
 refine fM [] ntmps200 fun w0 ow0 v0=> ?_;have hz:=ayQ m k;rw[show m.map yE=(XK m k 0).map yE by rw[hz]];have hr0:AQ []=0:=rfl;simp;refine wl (fun(i:Nat)=>[(0,.own (.sl (some 207) ((XK m k i).map yE))),(1,vI (k+AQ (m.take i))),(5,vI i)]) (fun(i:Nat)=>m.length-i) (fun(i:Nat)=>(i<=m.length)) (0) (by omega) ?_ (h0:=by simp[hr0]);rintro i h1;have hml:=aDH (k:=k) h1;have hrs:=ah6 (m:=m.take i) (fun r hr=>hs r (eU hr));have htl:Qle (m.take i):=by simp;omega
 simp[hml];apply gw<;>intro a
 ·obtain⟨c,hc⟩:=aO (l:=m) (i:=i);have hg:=aDG (k:=k) (m:=m) (i:=i) (by omega);rw[hc]at hg;have hcl:=hs c (aA hc);have hsn:=auM hc;have hst:=aDI (k:=k) hc;obtain⟨q,hq⟩:∃q,k+AQ (m.take i)=q:=⟨_,rfl⟩;have hqb:0<=q/\q<=1000000000000000:=by omega
  rw[hq]at hst;have hst2:((XK m k i).map yE).set i (yE (yD c.length q))=(XK m k (i+1)).map yE:=by rw[←List.map_set,hst]
  have hqn:q+3*(c.length:Int)=k+AQ (m.take (i+1)):=by rw[hsn];omega
  simp[hg,hq];refine eO rfl (Y2 c q hcl hqb) ?_;rintro r d ⟨rfl,rfl⟩;simp[hg,hst2,hqn];refine nxa (i+1) (by omega)
 ·simp at a;have hil:i=m.length:=by omega
  subst hil;have hfa:=aDF m k;have hta:m.take m.length=m:=bS;simp[hfa,hta]
def rM (m:List Rec):Int:=(m.map fun r=>3+(r.fields.length:Int)).sum
def ahX {m:List Rec}{c:Rec}(h:m[i]?=some c):rM (m.take (i+1))=rM (m.take i)+(3+c.fields.length):=by unfold rM;rw[uI _ h];simp
def SX {m:List Rec}(hs:∀r∈m,Qle r.fields):0<=rM m/\rM m<=1048579*m.length:=by
 induction m with
 |nil=>simp[rM]
 |cons r m ih=>
  have h1:=ih (fun x hx=>hs x (bC _ hx));have h2:=hs r lF;simp only[rM,fI,List.sum_cons,k_List_length_cons]at h1|-
  omega
def aCZ (r:Rec)(k:Int):Rec:=⟨k,k+1,k+2,JW r.fields.length (k+3)⟩
def mRc:List Rec->Int->List Rec
 |[],_=>[]
 |r::m,k=>aCZ r k::mRc m (k+(3+r.fields.length))
def aaA:∀(m:List Rec) (k:Int),(mRc m k).length=m.length
 |[],_=>rfl
 |r::m,k=>by simp[mRc,aaA m]
def av2:∀(m:List Rec) (k:Int) (c:Rec),mRc (m++[c]) k=mRc m k++[aCZ c (k+rM m)]
 |[],k,c=>by simp[mRc,rM]
 |r::m,k,c=>by
  simp only[fZ,mRc,av2 m];simp[rM,Int.add_assoc]
def VB (m:List Rec)(k:Int)(i:Nat):List Rec:=mRc (m.take i) k++m.drop i
def aC9 {m:List Rec}(h:i<=m.length):(VB m k i).length=m.length:=by simp[VB,aaA];omega
def aC8 {m:List Rec}(h:i<m.length):(VB m k i)[i]?=m[i]?:=by
 have hl:(mRc (m.take i) k).length=i:=by simp[aaA];omega
 unfold VB;rw[aN (by omega),hl];simp
def aDA {m:List Rec}{c:Rec}(h:m[i]?=some c):(VB m k i).set i (aCZ c (k+rM (m.take i)))=VB m k (i+1):=by
 have hi:=dH h;have hl:(mRc (m.take i) k).length=i:=by simp[aaA];omega
 unfold VB;rw[List.set_append,if_neg (by omega),hl,cB,aW hi,eG,dE h,av2];simp
def ayO (m:List Rec)(k:Int):VB m k 0=m:=by simp[VB,mRc]
def aC7 (m:List Rec)(k:Int):VB m k m.length=mRc m k:=by simp[VB]
def G5 (l:List Rec)(k:Int)(hn:Qle l)(hs:∀r∈l,Qle r.fields)(hk:0<=k/\k<=10000000000000):D8 prog 15 [.one (.bool false),dI k] 0 (.sl (some 68) (l.map F7)) (fun r d=>r=vI (k+rM l)/\d= .sl (some 68) ((mRc l k).map F7)):=by
 refine fM [] ntmps15 fun w0 ow0 v0=> ?_;have hz:=ayO l k;rw[show l.map F7=(VB l k 0).map F7 by rw[hz]];have hr0:rM []=0:=rfl;simp;refine wl (fun(i:Nat)=>[(0,.own (.sl (some 68) ((VB l k i).map F7))),(1,vI (k+rM (l.take i))),(5,vI i)]) (fun(i:Nat)=>l.length-i) (fun(i:Nat)=>(i<=l.length)) (0) (by omega) ?_ (h0:=by simp[hr0]);rintro i h1;have hml:=aC9 (k:=k) h1;have hrs:=SX (m:=l.take i) (fun r hr=>hs r (eU hr));have htl:Qle (l.take i):=by simp;omega
 simp[hml];apply gw<;>intro a
 ·obtain⟨c,hc⟩:=aO (l:=l) (i:=i);have hg:=aC8 (k:=k) (m:=l) (i:=i) (by omega);rw[hc]at hg;have hcl:=hs c (aA hc);have hsn:=ahX hc;have hst:=aDA (k:=k) hc;obtain⟨q,hq⟩:∃q,k+rM (l.take i)=q:=⟨_,rfl⟩;have hqb:0<=q/\q<=1000000000000000:=by omega
  rw[hq]at hst;have a2:q+1+1=q+2:=by omega
  have a3:q+2+1=q+3:=by omega
  have hsg:∀v:D,(((VB l k i).map F7).set i v)[i]?=some v:=fun v=>by rw[bG (by (try unfold Qle);rw[aQ];omega)]
  have hqn:q+3+(c.fields.length:Int)=k+rM (l.take (i+1)):=by rw[hsn];omega
  simp[hg,hq,a2,a3,hsg];iterate 3 refine ai ?_
  refine eO rfl (zJ c.fields (q+3) hcl (by omega)) ?_;rintro r d ⟨rfl,rfl⟩;have hst2:((VB l k i).map F7).set i (.agg [dI q,dI (q+1),dI (q+2),J5 (JW c.fields.length (q+3))])=(VB l k (i+1)).map F7:=by rw[←hst,jB];rfl
  simp[hsg,hst2,hqn];refine nxa (i+1) (by omega)
 ·simp at a;have hil:i=l.length:=by omega
  subst hil;have hfa:=aC7 l k;have hta:l.take l.length=l:=bS;simp[hfa,hta]
def U2 (m:List (List Tst))(k:Int)(hn:Qle m)(hs:∀r∈m,Qle r)(hk:0<=k/\k<=100000000000):adE prog 122 [.one (.bool false),dI k] 0 (.agg [.sl (some 207) (m.map yE)]) (fun res'=>res'=vI (k+AQ m)):=by
 refine fT [] ntmps122 fun _ _=> ?_;simp;refine eO rfl (Y0 m k hn hs hk) ?_;rintro r d ⟨rfl,rfl⟩;simp
def U3 (s:Sco)(k:Int)(hs:Qle s.weights)(hk:0<=k/\k<=1000000000000000):adE prog 123 [.one (.bool false),dI k] 0 (.agg [bV s.weights,dI s.bias]) (fun res'=>res'=vI (k+s.weights.length)):=by
 refine fT [] ntmps123 fun _ _=> ?_;simp;refine eO rfl (EM s.weights k hs hk) ?_;rintro r d ⟨rfl,rfl⟩;simp
def WR (c:Cfg)(k:Int)(hn:Qle c.rules)(hs:∀r∈c.rules,Qle r)(hw:Qle c.sco.weights)(hv:Qle c.surv)(hk:0<=k/\k<=1000000):adE prog 53 [.one (.bool false),dI k] 0 (.agg [.agg [.sl (some 207) (c.rules.map yE)],.agg [bV c.sco.weights,dI c.sco.bias],bV c.surv]) (fun res'=>res'=vI (k+AQ c.rules+c.sco.weights.length+c.surv.length)):=by
 refine fT [] ntmps53 fun _ _=> ?_;have hrb:=ah6 hs;obtain⟨q,hq⟩:∃q,k+AQ c.rules=q:=⟨_,rfl⟩;have hqb:0<=q/\q<=10000000000000:=by omega
 simp;refine rT rfl (U2 c.rules k hn hs (by omega)) ?_;simp[hq];refine rT rfl (U3 c.sco q hw (by omega)) ?_;simp;refine eO rfl (EM c.surv (q+c.sco.weights.length) hv (by omega)) ?_;rintro r d ⟨rfl,rfl⟩;simp[hq]
def Y1 (s:Sto)(k:Int)(hn:Qle s.recs)(hs:∀r∈s.recs,Qle r.fields)(hv:Qle s.vers)(hk:0<=k/\k<=10000000000000):adE prog 54 [.one (.bool false),dI k] 0 (.agg [dI s.version,.sl (some 68) (s.recs.map F7),oVers s.vers]) (fun res'=>res'=vI (k+rM s.recs+4*s.vers.length)):=by
 refine fT [] ntmps54 fun _ _=> ?_;have hrb:=SX hs;obtain⟨q,hq⟩:∃q,k+rM s.recs=q:=⟨_,rfl⟩;have hqb:0<=q/\q<=1000000000000000:=by omega
 simp;refine eO rfl (G5 s.recs k hn hs (by omega)) ?_;rintro r d ⟨rfl,rfl⟩;simp[hq];refine eO rfl (FQ s.vers q hv hqb) ?_;rintro r d ⟨rfl,rfl⟩;simp[hq]
def agS (p q:L1)(hp:Qle p)(hq:Qle q):Fk 92 [nInts p,nInts q] (vI (iA p q)):=by
 refine fE [] ntmps92 fun _ _=> ?_;simp;refine wlt Nat (fun i=>([(0,vN p),(1,vN q),(5,vI i)],p.length-i,(i<=p.length)/\i<=q.length/\(p.take i=q.take i))) (0) ⟨by omega,by omega,rfl⟩ ?_;rintro i ⟨h1,h2,h3⟩;simp;apply gv<;>intro g
 ·have g':=g;simp[g];apply gw<;>intro b
  ·obtain⟨c,hc⟩:=aO (l:=p) (i:=i);obtain⟨d,hd⟩:=aO (l:=q) (i:=i);simp;refine wdr ?_;simp[hc,hd];apply gw<;>intro e
   ·have hx:iA p q=cmpI c d:=by rw[an9 h3 hc hd e];unfold cmpI;split<;>(try rfl);rw[if_pos (by omega)]
    simp;refine wdt 9 ?_;simp[hc,hd];refine cd (sO c d) ?_;simp[hx]
   ·simp;refine nxa (i+1) ⟨by omega,by omega,(take_same h3 hc (by rw[show c=d by omega];exact hd))⟩
  ·simp at b;have hx:iA p q=cmpI p.length q.length:=by rw[afT h3 g (by omega)];unfold cmpI;rw[if_neg (by omega),if_pos (by omega)]
   simp;refine ck (sO p.length q.length) ?_;simp[hx]
 ·have g':=g;simp at g';have hip:i=p.length:=by omega
  subst hip;rw[bS]at h3;have hx:iA p q=cmpI p.length q.length:=by rw[ajQ h3];unfold cmpI;split;rw[if_pos (by omega)];rw[if_neg (by omega),if_neg (by omega)]
  simp[g];refine ck (sO p.length q.length) ?_;simp[hx]
variable {o:L1}{x:Int}
def aCK (h:0<=ix (fun y=>decide (y=x)) o):x∈o:=by obtain⟨y,h1,h2⟩:=cZ.1 (jC.1 h);rw[←of_decide_eq_true h2];exact h1
def avY (h:ix (fun y=>decide (y=x)) o<0):∀y∈o,¬x=y:=fun y hy e=>by have:=(jC (P:=fun y=>decide (y=x)) (l:=o)).2 (cZ.2 ⟨y,hy,decide_eq_true e.symm⟩);omega
def XE (G:L2):Nat:=(G.map List.length).sum
def ZF (G:L2)(hG:Qle G)(hs:XE G<=1048576):Fk 178 [cK G] (vB (DY [] G)):=by
 refine fE [] ntmps178 fun _ _=> ?_;simp;refine wlt (Nat×L1) (fun(i,o)=>([(0,.val (cK G)),(3,vS o),(4,vI i)],G.length-i,(i<=G.length)/\(DY [] G=DY o (G.drop i))/\(o.length+XE (G.drop i)<=1048576))) ((0,[])) ⟨by omega,rfl,by simpa using hs⟩ ?_;rintro⟨i,o⟩ ⟨h1,h2,h3⟩;simp;apply gw<;>intro a
 ·obtain⟨c,hc⟩:=aO (l:=G) (i:=i);have hdr:=drop_at hc;rw[hdr,DY]at h2;rw[hdr]at h3;have hls:XE (c::G.drop (i+1))=c.length+XE (G.drop (i+1)):=by simp[XE]
  simp;refine wlt Nat (fun k=>([(0,.val (cK G)),(3,vS o),(4,vI i),(5,vI k)],c.length-k,(k<=c.length)/\((List.range k).all (SF o c)=true))) (0) ⟨by omega,rfl⟩ ?_;rintro k ⟨h4,h5⟩;simp[hc];apply gw<;>intro b
  ·have hx:=aY b;simp;refine wdr ?_;simp[hc,hx];refine cd (bH (at1 c k) 1 399) ?_;simp;apply gv<;>intro e
   ·have e':=e;simp at e';have hn:=R8 (o:=o) b (by simp[SF];omega);rw[hn,iM]at h2;simp[e,h2]
   ·have e':=e;simp at e';simp[e];apply gv<;>intro f
    ·have f':=f;have hp:=aY (l:=c) (i:=k-1);simp[hc,hx,f,hp];iterate 2 refine ai ?_
     apply gv<;>intro g
     ·have g':=g;have hn:=R8 (o:=o) b (by simp[SF];omega);rw[hn,iM]at h2;simp[g,h2]
     ·have g':=g;simp at g';simp[hc,hx,g];refine cd (mZ o (at1 c k) (by omega)) ?_;simp;apply gw<;>intro q
      ·have hn:=R8 (o:=o) b (by have:=aCK q;simp[SF];simp_all);rw[hn,iM]at h2;simp[h2]
      ·simp at q;simp;refine nxa (k+1) ⟨by omega,(oZ h5 (by have:=avY q;simp[SF];exact⟨⟨by omega,by omega⟩,this⟩))⟩
    ·have f':=f;simp at f';simp[hc,hx,f];refine cd (mZ o (at1 c k) (by omega)) ?_;simp;apply gw<;>intro q
     ·have hn:=R8 (o:=o) b (by have:=aCK q;simp[SF];simp_all);rw[hn,iM]at h2;simp[h2]
     ·simp at q;simp;refine nxa (k+1) ⟨by omega,(oZ h5 (by have:=avY q;simp[SF];exact⟨⟨by omega,by omega⟩,this⟩))⟩
  ·simp at b;obtain rfl:k=c.length:=by omega
   simp[hc];apply gw<;>intro g
   ·rw[show ag1 o c=false by rw[g];rfl,iM]at h2;simp[h2]
   ·rw[show ag1 o c=true by unfold ag1;rw[h5];simp[g],fD]at h2;simp[hc];refine nxb (i+1,o++c) ⟨by omega,h2,by rw[aR];omega⟩
 ·simp at a;rw[bX a,DY]at h2;simp[h2];omega
def ZO (l:List Ent)(hl:Qle l)(hs:∀e∈l,Qle e.mem):Fk 179 [BQ l] (.own (nL (l.map Ent.mem))):=by
 refine fE [] ntmps179 fun _ _=> ?_;simp;refine wlt (Nat×L2) (fun(i,o)=>([(0,vG l),(3,.own (nL o)),(4,vI i)],l.length-i,(i<=l.length)/\(o=(l.take i).map Ent.mem))) ((0,[])) ⟨by omega,rfl⟩ ?_;rintro⟨i,o⟩ ⟨h1,h2⟩;simp;apply gw<;>intro a
 ·obtain⟨c,hc⟩:=aO (l:=l) (i:=i);have hm:=uI Ent.mem hc;have hol:o.length=i:=by rw[h2];simp;omega
  have hcl:=hs c (aA hc);rw[←h2]at hm;simp[hc];refine nxd (i+1,o++[c.mem]) ⟨by omega,by rw[hm]⟩
 ·simp at a;rw[bJ]at h2;have hr:l.map Ent.mem=o:=h2.symm;simp[hr]
def aqA (l:List Ent):XE (l.map Ent.mem)=EU l:=by simp[XE,EU];rfl
def U4 (l:List Ent)(hl:Qle l)(hs:EU l<=1048576):Fk 90 [BQ l] (vB (uT l)):=by
 refine fE [] ntmps90 fun _ _=> ?_;have hme:∀e∈l,Qle e.mem:=fun e he=>k_Nat_le_trans (BD he) hs;simp;refine wlt Nat (fun i=>([(0,vG l),(3,vI i)],l.length-i,(i<=l.length)/\((l.take i).all idB=true)/\(adj amH (l.take i)=true))) (0) ⟨by omega,rfl,rfl⟩ ?_;rintro i ⟨h1,h2,h3⟩;simp;apply gw<;>intro a
 ·obtain⟨c,hc⟩:=aO (l:=l) (i:=i);simp;refine wdr ?_;simp[hc];refine cd (bH c.id 1 9999) ?_;simp;apply gv<;>intro e
  ·have e':=e;simp at e';have hn:=fV hc (P:=idB) (by simp[idB];omega);simp[e];grind[uT]
  ·have e':=e;simp at e';simp[e];apply gv<;>intro f
   ·have f':=f;obtain⟨p,hp⟩:=aO (l:=l) (i:=i-1);have hi1:i-1+1=i:=by omega
    simp[hc,f,hp];iterate 2 refine ai ?_
    apply gw<;>intro b
    ·have hn:=LJ hp (by rw[hi1];exact hc) (R:=amH) (by simp[amH];omega);simp;grind[uT]
    ·simp at b;simp;refine nxa (i+1) ⟨by omega,(bW hc h2 (by simp[idB];omega)),by have:=zX (i:=i-1) (by rw[hi1];exact h3) hp (by rw[hi1];exact hc) (by simp[amH];omega);rwa [hi1]at this⟩
   ·have f':=f;simp at f';simp[f];refine nxa (i+1) ⟨by omega,(bW hc h2 (by simp[idB];omega)),(by obtain rfl:i=0:=(by omega);exact wO)⟩
 ·simp at a;have hf:=iX h2 a;rw[bJ a]at h3;simp;refine ck (ZO l hl hme) ?_;have hls:=aqA l;simp;refine ckz (ZF (l.map Ent.mem) (by simp;omega) (by omega)) ?_;simp;grind[uT]
def aAJ {α:Type}(p:α->Bool){l:List α}{c:α}(h:l[i]?=some c):(l.take (i+1)).any p=((l.take i).any p||p c):=by rw[dE h];simp
def aDY (x:lM):xK x=((kR x.cfg&&iW x.sto)&&uT x.ents&&inR x.next 1 9999&&decide (GU x.cfg x.sto=x.ref)&&decide ((zV x.cfg x.sto).length=x.ents.length)&&x.ents.all (entOk (zV x.cfg x.sto) x.next)):=by
 by_cases hv:(kR x.cfg&&iW x.sto)=true
 ·have hr1:zV x.cfg x.sto=ac2 x.cfg x.sto:=if_pos hv;have hr2:GU x.cfg x.sto=jY x.sto.vers:=if_pos hv;rw[hr1,hr2,xK,hv];by_cases ha:uT x.ents=true
  ·have hs:=aE3 (ac2 x.cfg x.sto) x.next ha;have he:decide (x.ref=jY x.sto.vers)=decide (jY x.sto.vers=x.ref):=by rw[bM];simp[eq_comm]
   rw[ha,he,yN _ _ (x.ents.all _),hs];simp only[fD,yN];rw[Bool.and_comm (decide (BM _=_)) (decide _),Bool.and_left_comm (!_)]
  ·simp[Bool.not_eq_true _▸ha]
 ·rw[Bool.not_eq_true]at hv;rw[xK,hv];rfl
def rF (x:lM)(hx:kD x):Fk 40 [nSys x] (vB (xK x)):=by
 rw[aDY];refine fE [] ntmps40 fun _ _=> ?_;have hro:=aaN x.cfg x.sto;have hrf:=aaO x.cfg x.sto;simp;refine ck (RY x.cfg x.sto hx.cfg hx.sto) ?_;simp;apply gv<;>intro e
 ·have e':=e;simp at e';simp[e];grind
 ·have e':=e;simp at e';simp[e];refine ck (U4 x.ents hx.ents hx.mem) ?_;simp;apply gv<;>intro f
  ·have f':=f;simp at f';simp[f];grind
  ·have f':=f;simp at f';simp[f];refine ck (bH x.next 1 9999) ?_;simp;apply gv<;>intro g
   ·have g':=g;simp at g';simp[g];omega
   ·have g':=g;simp at g';simp[e',f',g'];apply gv<;>intro b
    ·have b':=b;have hn:¬GU x.cfg x.sto=x.ref:=fun h=>by rw[h]at b;omega
     simp[e',f',g',b,hn]
    ·have b':=b;simp[b];apply gw<;>intro d
     ·have hn:¬(zV x.cfg x.sto).length=x.ents.length:=fun h=>by omega
      simp[e',f',g',hn]
     ·have hge:(zV x.cfg x.sto).length=x.ents.length:=by omega
      have hce:=hx.ents;have hre:(GU x.cfg x.sto).length=x.ref.length:=by omega
      generalize GU x.cfg x.sto=R at*
      generalize zV x.cfg x.sto=G at*
      simp[hge];refine wlt Nat (fun i=>([(1,.own (.bx true (nSys x))),(3,.val (cK G)),(4,vV R),(6,vI i)],R.length-i,(i<=R.length)/\(R.take i=x.ref.take i))) (0) ⟨by omega,rfl⟩ ?_;rintro i ⟨h1,h2⟩;simp[b];apply gw<;>intro a
      ·obtain⟨c,hc⟩:=aO (l:=R) (i:=i);obtain⟨v,hd⟩:=aO (l:=x.ref) (i:=i);simp;refine wdr ?_;simp[hc,hd];apply gw<;>intro k
       ·simp at k;have hn:=avO hc hd (by rintro rfl;simp at k);simp[e',f',g',hge,hn]
       ·simp at k;have hcd:c=v:=by cases c;cases v;simp_all
        simp;refine nxa (i+1) ⟨by omega,(UK h2 hc (by rw[hcd];exact hd))⟩
      ·simp at a;have hn:=ae2 h2;simp[hn];refine wlt Nat (fun i=>([(1,.own (.bx true (nSys x))),(3,.val (cK G)),(4,vV R),(7,vI i)],(x.ents).length-i,(i<=(x.ents).length)/\(((x.ents).take i).all (entOk G x.next)=true))) (0) ⟨by omega,rfl⟩ ?_ (h0:=by simp[e,f,g,e',f',g',b,hge,hn]);rintro i ⟨h1,h2⟩;simp[hn];apply gw<;>intro a
       ·obtain⟨c,hc⟩:=aO (l:=x.ents) (i:=i);have hcl:Qle c.mem:=k_Nat_le_trans (BD (aA hc)) hx.mem;obtain⟨p,hp⟩:∃p:L1->Bool,(fun y=>decide (y=c.mem))=p:=⟨_,rfl⟩;simp;refine wlt (Nat×Bool) (fun(k,s)=>([(1,.own (.bx true (nSys x))),(3,.val (cK G)),(4,vV R),(7,vI i),(8,vB s),(9,vI k)],G.length-k,(k<=G.length)/\(s=(G.take k).any p))) ((0,false)) ⟨by omega,by simp⟩ ?_ (h0:=by simp[e,f,g,e',f',g',b,hge,hn,hc]);rintro⟨k,s⟩ ⟨h3,h4⟩;simp[hge,hn];apply gw<;>intro b2
        ·obtain⟨r,hr⟩:=aO (l:=G) (i:=k);have hrl:=hro.2 r (aA hr);have hany:=aAJ p hr;rw[←h4]at hany;simp;refine wdt 15 ?_;simp;apply gv<;>intro w
         ·have w':=w;simp[w];refine nxa (k+1,true) ⟨by omega,by rw[hany,w];rfl⟩ (h3:=by simp[e,f,g,e',f',g',b,hge,hn,hc,hr,w])
         ·have w':=w;simp[hc,hr,w];refine cd (agS r c.mem (by omega) hcl) ?_;simp;refine nxa (k+1,decide (iA r c.mem=0)) ⟨by omega,by rw[hany,w',←hp];simp[asN]⟩ (h3:=by simp[e,f,g,e',f',g',b,hge,hn,hc,hr,w])
        ·simp at b2;have hso:s=aC2 G c:=by rw[h4,bJ,←hp];rfl
         simp;refine wdr ?_;simp;apply gv<;>intro w
         ·have w':=w;simp at w';have hn:=fV hc (P:=(entOk G x.next)) (by rw[entOk,←hso];simp_all);simp[e',f',g',hge,w,hn]
         ·have w':=w;simp at w';simp[hc,w];apply gw<;>intro q
          ·have hn:=fV hc (P:=(entOk G x.next)) (by rw[entOk,←hso];simp;omega);simp[e',f',g',hge,hn]
          ·simp at q;simp;refine nxa (i+1) ⟨by omega,(bW hc h2 (by rw[entOk,←hso];simp_all))⟩ (h3:=by simp[e,f,g,e',f',g',b,hge,hn,hc,w])
       ·simp at a;have hf:=iX h2 a;simp[e',f',g',hge,hf];omega
def IX (m:List Ent):Int:=(m.map fun r=>1+(r.mem.length:Int)).sum
def as0 {m:List Ent}{c:Ent}(h:m[i]?=some c):IX (m.take (i+1))=IX (m.take i)+(1+c.mem.length):=by unfold IX;rw[uI _ h];simp
def af8 {m:List Ent}(hs:∀r∈m,Qle r.mem):0<=IX m/\IX m<=1048577*m.length:=by
 induction m with
 |nil=>simp[IX]
 |cons r m ih=>
  have h1:=ih (fun x hx=>hs x (bC _ hx));have h2:=hs r lF;simp only[IX,fI,List.sum_cons,k_List_length_cons]at h1|-
  omega
def U1 (l:List Ent)(k:Int)(hn:Qle l)(hs:∀r∈l,Qle r.mem)(hk:0<=k/\k<=100000000000000):adE prog 55 [.one (.bool false),dI k] 0 (akO l) (fun res'=>res'=vI (k+IX l)):=by
 refine fT [] ntmps55 fun _ _=> ?_;have hr0:IX []=0:=rfl;simp;refine wlt (Nat×List Ent) (fun(i,rs)=>([(0,.own (akO rs)),(1,vI (k+IX (l.take i))),(5,vI i)],l.length-i,(i<=l.length)/\rs.length=l.length/\(∀j,i<=j->rs[j]?=l[j]?))) ((0,l)) ⟨by omega,rfl,(fun _ _=>rfl)⟩ ?_ (h0:=by simp[hr0]);rintro⟨i,rs⟩ ⟨h1,h2,h3⟩;have hrs:=af8 (m:=l.take i) (fun r hr=>hs r (eU hr));have htl:Qle (l.take i):=by simp;omega
 simp[h2];apply gw<;>intro a
 ·obtain⟨c,hc⟩:=aO (l:=l) (i:=i);have hg:rs[i]?=some c:=(h3 i (k_Nat_le_refl _)).trans hc;have hcl:=hs c (aA hc);have hsn:=as0 hc;obtain⟨q,hq⟩:∃q,k+IX (l.take i)=q:=⟨_,rfl⟩;have hqb:0<=q/\q<=1000000000000000:=by omega
  have hst:∀r:Ent,(rs.map oEnt).set i (oEnt r)=(rs.set i r).map oEnt:=fun r=>by rw[jB]
  have hsg:∀v:D,((rs.map oEnt).set i v)[i]?=some v:=fun v=>by rw[bG (by (try unfold Qle);rw[aQ];omega)]
  have hqn:q+1+(c.mem.length:Int)=k+IX (l.take (i+1)):=by rw[hsn];omega
  simp[hg,hq,hsg];refine ai ?_;refine eO rfl (EM c.mem (q+1) hcl (by omega)) ?_;rintro r d ⟨rfl,rfl⟩;obtain⟨rs2,hr2⟩:∃rs2,rs2=rs.set i ⟨q,marksI c.mem.length (q+1)⟩:=⟨_,rfl⟩;have hst2:(rs.map oEnt).set i (.agg [dI q,bV (marksI c.mem.length (q+1))])=rs2.map oEnt:=by rw[hr2];exact hst ⟨q,marksI c.mem.length (q+1)⟩
  simp[hsg,hst2,hqn];refine nxa (i+1,rs2) ⟨by omega,by rw[hr2,oM];exact h2,(fun j hj=>by rw[hr2,bI (by omega)];exact h3 j (by omega))⟩
 ·simp at a;have hil:i=l.length:=by omega
  subst hil;have hta:l.take l.length=l:=bS;simp[hta]
def afP (c:Cfg)(k:Int):Int:=k+AQ c.rules+c.sco.weights.length+c.surv.length
def arN (s:Sto)(k:Int):Int:=k+rM s.recs+4*s.vers.length
def PT (x:lM)(k:Int):Int:=arN x.sto (afP x.cfg k)+IX x.ents+4*x.ref.length
def NR {x:lM}(hx:kD x):1<=afP x.cfg 1/\afP x.cfg 1<=10000000000000/\1<=arN x.sto (afP x.cfg 1)/\arN x.sto (afP x.cfg 1)<=100000000000000/\1<=PT x 1/\PT x 1<=1000000000000000:=by
 have hru:=ah6 hx.cfg.rule;have hrc:=SX (fun r hr=>(hx.sto.rec1 r hr).1);have hen:=af8 (fun e he=>k_Nat_le_trans (BD he) hx.mem);have h1:=hx.cfg.rules;have h2:=hx.cfg.weights;have h3:=hx.cfg.surv;have h4:=hx.sto.recs;have h5:=hx.sto.vers;have h6:=hx.ents;have h7:=hx.ref;unfold PT arN afP;omega
def qU (x:lM)(hx:kD x):adE prog 14 [.one (.bool false),dI 1] 0 (.agg [.agg [.agg [.sl (some 207) (x.cfg.rules.map yE)],.agg [bV x.cfg.sco.weights,dI x.cfg.sco.bias],bV x.cfg.surv],.agg [dI x.sto.version,.sl (some 68) (x.sto.recs.map F7),oVers x.sto.vers],akO x.ents,dI x.next,oVers x.ref]) (fun res'=>res'=vI (PT x 1)):=by
 refine fT [] ntmps14 fun _ _=> ?_;have hb:=NR hx;obtain⟨q,hq⟩:∃q,afP x.cfg 1=q:=⟨_,rfl⟩;have hq':1+AQ x.cfg.rules+x.cfg.sco.weights.length+x.cfg.surv.length=q:=hq;obtain⟨q2,hq2⟩:∃q2,arN x.sto q=q2:=⟨_,rfl⟩;have hq2':q+rM x.sto.recs+4*x.sto.vers.length=q2:=hq2;have hq3:PT x 1=q2+IX x.ents+4*x.ref.length:=by rw[PT,hq,hq2]
 rw[hq,hq2,hq3]at hb;have hen:=af8 (fun e he=>k_Nat_le_trans (BD he) hx.mem);simp;refine rT rfl (WR x.cfg 1 hx.cfg.rules hx.cfg.rule hx.cfg.weights hx.cfg.surv (by omega)) ?_;simp[hq'];refine rT rfl (Y1 x.sto q hx.sto.recs (fun r hr=>(hx.sto.rec1 r hr).1) hx.sto.vers (by omega)) ?_;simp[hq2'];refine rT rfl (U1 x.ents q2 hx.ents (fun e he=>k_Nat_le_trans (BD he) hx.mem) (by omega)) ?_;obtain⟨q4,hq4⟩:∃q4,q2+IX x.ents=q4:=⟨_,rfl⟩;simp[hq4];refine eO rfl (FQ x.ref q4 hx.ref (by omega)) ?_;rintro r d ⟨rfl,rfl⟩;simp[hq3,hq4]
def zI (n:Nat)(k:Int)(hn:n<=1048576:=by omega)(hk:0<=k/\k<=1000000000000000:=by omega):Fk 34 [mH (JW n k),dI k] (vI (k+n)):=by
 refine fE [] ntmps34 fun _ _=> ?_;have hml:=atQ n k;simp;refine wl (fun(i:Nat)=>[(0,vT (JW n k)),(1,vI (k+i)),(5,vI i)]) (fun(i:Nat)=>n-i) (fun(i:Nat)=>(i<=n)) (0) (by omega) ?_;rintro i h1;simp[hml];apply gw<;>intro a
 ·have hg:=atP (k:=k) (show i<n by omega);have hadd:k+(i:Int)+1=k+((i:Int)+1):=by omega
  simp;refine wdr ?_;simp[hg];refine cd (M5 (k+i) (by omega)) ?_;simp[hadd];refine nxb (i+1) (by first|omega|(simp;omega)|grind)
 ·simp at a;obtain rfl:i=n:=by omega
  simp
def av3:∀{m:List Rec}{k:Int}{i:Nat}{c:Rec},m[i]?=some c->(mRc m k)[i]?=some (aCZ c (k+rM (m.take i)))
 |[],_,_,_,h=>by simp at h
 |r::m,k,0,c,h=>by
  obtain rfl:r=c:=by simpa using h
  simp[mRc,rM]
 |r::m,k,i+1,c,h=>by
  have:=av3 (m:=m) (k:=k+(3+r.fields.length)) (i:=i) (c:=c) (by simpa using h);simp only[mRc,nG,this,jG];simp[rM,Int.add_assoc]
def GZ (l:List Rec)(k:Int)(hn:Qle l)(hs:∀r∈l,Qle r.fields)(hk:0<=k/\k<=10000000000000):Fk 16 [uR (mRc l k),dI k] (vI (k+rM l)):=by
 refine fE [] ntmps16 fun _ _=> ?_;have hml:=aaA l k;have hr0:rM []=0:=rfl;simp;refine wl (fun(i:Nat)=>[(0,vR (mRc l k)),(1,vI (k+rM (l.take i))),(5,vI i)]) (fun(i:Nat)=>l.length-i) (fun(i:Nat)=>(i<=l.length)) (0) (by omega) ?_ (h0:=by simp[hml,hr0]);rintro i h1;have hrs:=SX (m:=l.take i) (fun r hr=>hs r (eU hr));have htl:Qle (l.take i):=by simp;omega
 simp[hml];apply gw<;>intro a
 ·obtain⟨c,hc⟩:=aO (l:=l) (i:=i);have hg:=av3 (k:=k) hc;have hcl:=hs c (aA hc);have hsn:=ahX hc;obtain⟨q,hq⟩:∃q,k+rM (l.take i)=q:=⟨_,rfl⟩;have hqb:0<=q/\q<=1000000000000000:=by omega
  rw[hq]at hg;have a2:q+1+1=q+2:=by omega
  have a3:q+2+1=q+3:=by omega
  have hqn:q+3+(c.fields.length:Int)=k+rM (l.take (i+1)):=by rw[hsn];omega
  simp only[aCZ]at hg;have hnn:¬k+rM (l.take (i+1))<0:=by rw[←hqn];omega
  simp[hg,hq,a2,a3];iterate 3 refine ai ?_
  refine ck (zI c.fields.length (q+3) hcl) ?_;simp[hqn,hnn];refine nxa (i+1) (by omega)
 ·simp at a;have hil:i=l.length:=by omega
  subst hil;have hta:l.take l.length=l:=bS;simp[hta]
def idE (id:Int)(e:Ent):Bool:=decide (e.id=id)
def FP (e:Ent)(id:Int):Fk 103 [XL e,.bx false (dI id)] (vB (idE id e)):=by
 refine fE [] ntmps103 fun _ _=> ?_;simp;grind[idE]
abbrev e0:Ent:=⟨0,[]⟩
def CL (l:List Ent)(id:Int):Int:=ix (idE id) l
def af9 (l:List Ent)(id:Int):Ent:=(l[(CL l id).toNat]?).getD e0
def aJY (l:List Ent)(id:Int)(hl:Qle l)(hf:0<=CL l id):Fk 46 [BQ l,dI id] (.tup [.val (XL (af9 l id)),vB true]):=by
 refine fE [] ntmps46 fun _ _=> ?_;have hq:ix (idE id) l=CL l id:=rfl;have hlt:=apJ (idE id) l;rw[hq]at hlt;obtain⟨c,hc⟩:=aO (l:=l) (i:=(CL l id).toNat);have hd:af9 l id=c:=by unfold af9;rw[hc];rfl
 simp;intro b;refine ckB (WQ l (idE id) 103 b (dI id) rfl aIV aI4 (fun c _=>FP c id) hl) ?_;simp[hq];apply gw<;>intro h1
 ·simp[hd];omega
 ·simp at h1;simp[hf,hc,hd]
def aJX (l:List Ent)(id:Int)(hl:Qle l)(hf:CL l id<0):Fk 46 [BQ l,dI id] (.tup [.own (.agg [dI 0,bV []]),vB false]):=by
 refine fE [] ntmps46 fun _ _=> ?_;have hq:ix (idE id) l=CL l id:=rfl;simp;intro b;refine ckB (WQ l (idE id) 103 b (dI id) rfl aIV aI4 (fun c _=>FP c id) hl) ?_;simp[hq,hf]
abbrev PQ (l:List Rec):D:= .sl (some 68) (l.map F7)
def UX (r:Rec)(hr:aV r):Fk 116 [nV r] (.own (F7 r)):=by
 refine fE [] ntmps116 fun _ _=> ?_;have h4:r.fields.length=4:=by simp only[aV,k_Bool_and_eq_true,decide_eq_true_eq]at hr;exact hr.2
 simp;refine ck (CO r.fields (by omega)) ?_;simp
def agR (r:Rec)(hr:aV r):Fk 95 [nV r] (.own (F7 r)):=by
 refine fE [] ntmps95 fun _ _=> ?_;have h4:r.fields.length=4:=by simp only[aV,k_Bool_and_eq_true,decide_eq_true_eq]at hr;exact hr.2
 have hle:r.fields.length<=1073741824:=by omega
 simp;refine wdf [(6,[9]),(9,[9,11,12]),(10,[4,6,8,12,13]),(11,[2,13])] [(1,.own (.bx true (nV r))),(2,.own (.bx true (.agg [dI 0,dI 0,dI 0,J5 []])))] [] (by simp) ?_;simp[hle]
def jW (s:Sto)(M:L1):List Rec:=s.recs.filter fun r=>inL M (jQ r)
def wY (x:lM)(e:Ent)(hx:kD x)(hv:∀r∈x.sto.recs,aV r)(h8:x.sto.recs.length<=8)(he:Qle e.mem):Fk 48 [nSys x,XL e] (.own (PQ (jW x.sto e.mem))):=by
 refine fE [] ntmps48 fun _ _=> ?_;simp;refine wlt (Nat×List Rec) (fun(i,o)=>([(2,.own (.bx true (nSys x))),(3,.own (.bx true (XL e))),(5,.own (PQ o)),(10,vR x.sto.recs),(11,vI x.sto.recs.length),(12,vI i)],(x.sto.recs).length-i,(i<=(x.sto.recs).length)/\(o=(x.sto.recs.take i).filter (fun r=>inL e.mem (jQ r)))/\(o.length<=i))) ((0,[])) ⟨by omega,rfl,by simp⟩ ?_;rintro⟨i,o⟩ ⟨h1,h2,h3⟩;simp;apply gw<;>intro a
 ·obtain⟨c,hc⟩:=aO (l:=x.sto.recs) (i:=i);have hcv:=hv c (aA hc);have k1:=UI hcv;have i1:inI .i64 (jQ c):=by unfold jQ;simp only[inI];omega
  simp[hc];refine wdr ?_;simp;refine cd (yK c i1 (by simp only[inI];omega)) ?_;simp;refine cd (lY e.mem (jQ c) he) ?_;simp[aMV];apply gw<;>intro b
  ·simp;refine ck (UX c hcv) ?_;simp;refine nxb (i+1,o++[c]) ⟨by omega,by rw[dE hc,eD,h2];simp[b],by simp;omega⟩
  ·simp;refine nxa (i+1,o) ⟨by omega,by rw[dE hc,eD,h2];simp[b],by omega⟩
 ·simp at a;rw[bJ a]at h2;have hr:jW x.sto e.mem=o:=h2.symm;simp[hr]
def aiX (l:List Ent)(id:Int)(hl:Qle l):Fk 39 [BQ l,dI id] (vI (CL l id)):=by
 refine fE [] ntmps39 fun _ _=> ?_;have hq:ix (idE id) l=CL l id:=rfl;simp;refine wlt Nat (fun i=>([(0,vG l),(1,vI id),(5,vI i)],l.length-i,(i<=l.length)/\((l.take i).any (idE id)=false))) (0) ⟨by omega,rfl⟩ ?_;rintro i ⟨h1,h2⟩;simp;apply gw<;>intro a
 ·obtain⟨c,hc⟩:=aO (l:=l) (i:=i);simp[hc];apply gw<;>intro b
  ·have hx:=DZ hc h2 (by simp[idE,b]);rw[hq]at hx;simp[hx]
  ·simp;refine nxa (i+1) ⟨by omega,(kN hc h2 (by simp[idE,b]))⟩
 ·simp at a;have hf:=pK h2 a;have hx:=sF hf;rw[hq]at hx;simp[hx]
def uZ (x:lM)(k:Nat)(e:Ent)(hk:x.ents[k]?=some e)(hx:kD x)(hv:∀r∈x.sto.recs,aV r)(h8:x.sto.recs.length<=8)(he:Qle e.mem):Fk 41 [nSys x,dI k] (.own (PQ (jW x.sto e.mem))):=by
 refine fE [] ntmps41 fun _ _=> ?_;simp;refine wlt (Nat×List Rec) (fun(i,o)=>([(1,vI k),(2,.own (.bx true (nSys x))),(5,.own (PQ o)),(6,vI i)],(x.sto.recs).length-i,(i<=(x.sto.recs).length)/\(o=(x.sto.recs.take i).filter (fun r=>inL e.mem (jQ r)))/\(o.length<=i))) ((0,[])) ⟨by omega,rfl,by simp⟩ ?_;rintro⟨i,o⟩ ⟨h1,h2,h3⟩;simp;apply gw<;>intro a
 ·obtain⟨c,hc⟩:=aO (l:=x.sto.recs) (i:=i);have hcv:=hv c (aA hc);have k1:=UI hcv;simp;refine wdr ?_;simp[hk,hc];refine cd (yM c (by simp;omega) (by simp;omega)) ?_;simp;refine cd (mZ e.mem (jQ c) he) ?_;simp[aJ7];apply gw<;>intro b
  ·simp[hc];refine ck (agR c hcv) ?_;simp;refine nxb (i+1,o++[c]) ⟨by omega,by rw[dE hc,eD,h2];simp[b],by simp;omega⟩
  ·simp;refine nxa (i+1,o) ⟨by omega,by rw[dE hc,eD,h2];simp[b],by omega⟩
 ·simp at a;rw[bJ a]at h2;have hr:jW x.sto e.mem=o:=h2.symm;simp[hr]
def zY (x:lM)(id:Int):List Rec:=if 0<=CL x.ents id/\xK x=true then jW x.sto (af9 x.ents id).mem else[]
def avN {l:List Ent}{id:Int}(h:0<=CL l id):l[(CL l id).toNat]?=some (af9 l id):=by
 have hlt:=apJ (idE id) l;have hq:ix (idE id) l=CL l id:=rfl;rw[hq]at hlt;obtain⟨c,hc⟩:=aO (l:=l) (i:=(CL l id).toNat);rw[af9,hc];rfl
def aJW (x:lM)(id:Int)(hx:kD x)(hf:0<=CL x.ents id):Fk 11 [nSys x,dI id] (.own (PQ (zY x id))):=by
 refine fE [7] ntmps11 fun _ _=> ?_;have hme:∀e∈x.ents,Qle e.mem:=fun e he=>k_Nat_le_trans (BD he) hx.mem;have hea:=avN hf;have hel:=hme _ (aA hea);simp;refine ck (aJY x.ents id hx.ents hf) ?_;simp;refine ck (wW x hx) ?_;simp;apply gw<;>intro e
 ·simp at e;have hd:zY x id=[]:=if_neg (by rintro⟨_,h⟩;rw[h]at e;cases e);try simp
  refine jL [] (wP (L:=[(4,.own (PQ []))]) (by simp)) ?_;simp[hd]
 ·simp at e;have ho:xK x:=by simpa using e
  have hd:zY x id=jW x.sto (af9 x.ents id).mem:=if_pos ⟨hf,ho⟩;have hsv:=BH (pJ ho).2.1;simp;refine ck (wY x (af9 x.ents id) hx hsv.1 hsv.2.1 hel) ?_;simp[hd]
def aJV (x:lM)(id:Int)(hx:kD x)(hf:CL x.ents id<0):Fk 11 [nSys x,dI id] (.own (PQ (zY x id))):=by
 refine fE [7] ntmps11 fun _ _=> ?_;have hd:zY x id=[]:=if_neg (by rintro⟨h,_⟩;omega);simp;refine ck (aJX x.ents id hx.ents hf) ?_;try simp
 refine jL [] (wP (L:=[(4,.own (PQ []))]) (by simp)) ?_;simp[hd]
def wS (x:lM)(id:Int)(hx:kD x):fA prog 11 [nSys x,dI id] (fun r=>r= .own (PQ (zY x id))):=by
 rcases uB (CL x.ents id) 0 with h|h
 ·exact aJV x id hx h
 ·exact aJW x id hx h
def DW (x:lM)(id:Int)(hx:kD x):Fk 9 [nSys x,dI id] (.own (PQ (zY x id))):=by
 refine fE [] ntmps9 fun _ _=> ?_;have hme:∀e∈x.ents,Qle e.mem:=fun e he=>k_Nat_le_trans (BD he) hx.mem;simp;refine ck (aiX x.ents id hx.ents) ?_;simp;apply gv<;>intro g
 ·have g':=g;have hd:zY x id=[]:=if_neg (by rintro⟨h,_⟩;omega);simp[g,hd]
 ·have g':=g;simp at g';have hea:=avN (l:=x.ents) (id:=id) (by omega);have hel:=hme _ (aA hea);simp[g];refine ck (rF x hx) ?_;simp;apply gw<;>intro e
  ·simp at e;have hd:zY x id=[]:=if_neg (by rintro⟨_,h⟩;rw[h]at e;cases e);simp[hd]
  ·simp at e;have ho:xK x:=by simpa using e
   have hd:zY x id=jW x.sto (af9 x.ents id).mem:=if_pos ⟨by omega,ho⟩;have hsv:=BH (pJ ho).2.1;obtain⟨k,hk⟩:∃k:Nat,CL x.ents id=k:=⟨(CL x.ents id).toNat,by omega⟩;rw[hk]at hea;simp[hk];refine ck (uZ x k (af9 x.ents id) hea hx hsv.1 hsv.2.1 hel) ?_;simp[hd]
def aF9 (x:lM)(id:Int):(zY x id).length<=8/\∀r∈zY x id,r.fields.length=4:=by
 unfold zY;split
 ·rename_i h;have hsv:=BH (pJ h.2).2.1;refine⟨k_Nat_le_trans (aZ _ _) hsv.2.1,fun r hr=> ?_⟩;have hv:=hsv.1 r (bQ.1 hr).1;simp only[aV,k_Bool_and_eq_true,decide_eq_true_eq]at hv;exact hv.2
 ·simp
def GN (x:lM)(id:Int)(hb:asJ x):Fk 3 [nSys x,dI id] (vB true):=by
 refine fE [] ntmps3 fun _ _=> ?_;simp;refine eB (tX x 1048576 hb) (by simp) ?_;rintro r ⟨v,rfl,hv,hf⟩;refine⟨by simp,?_⟩;simp;apply gw<;>intro e
 ·simp
 ·simp at e;have hx:=hf (by omega);have hok:=aF9 x id;obtain⟨R,hR⟩:∃R,zY x id=R:=⟨_,rfl⟩;rw[hR]at hok;have hrl:∀r∈R,Qle r.fields:=fun r hr=>by have:=hok.2 r hr;omega
  have hlen:=hok.1;have hsy:=NR hx;have hs3:¬PT x 1<0:=by omega
  have hrs:=SX hrl;have hm2:¬1+rM R<0:=by omega
  simp;refine ck (fK x hx) ?_;simp;refine ck (DW x id hx) ?_;simp[hR];refine ck (fK x hx) ?_;simp;refine ck (wS x id hx) ?_;simp[hR];refine ck (xG R (by omega) hrl) ?_;simp;refine wdr ?_;simp;refine cd (yG x hx) ?_;simp;refine cd (tV x hx) ?_;simp;refine rT rfl (qU x hx) ?_;simp[hs3];refine ck (xG R (by omega) hrl) ?_;simp;refine eO rfl (G5 R 1 (by omega) hrl (by omega)) ?_;rintro r d ⟨rfl,rfl⟩;simp;refine ck (GZ R 1 (by omega) hrl (by omega)) ?_;simp[hm2];refine ck (fK x hx) ?_;simp;refine ck (wS x id hx) ?_;simp[hR];refine ck (xG R (by omega) hrl) ?_;simp;refine ck (GZ R 1 (by omega) hrl (by omega)) ?_;simp[hm2]
end Go.Proofs.YtebopbncplpdgaaGreatDoor
end
section
namespace Go.Proofs.YtebopbncplpdgaaGreatDoor
open Go.Dv Go.Pl Go.Proofs.Tryz
open Go.ChangeShapes Go.WideShapes Go.ChangeAt Go.RowKit Go.Er
def ahZ:(prog.readableRec 36&&decide (36<prog.types.size))=true:=by kernel_rfl
def auH:(prog.readableRec 3&&decide (3<prog.types.size))=true:=by kernel_rfl
def ahY:(prog.readableRec 344&&decide (344<prog.types.size))=true:=by kernel_rfl
def pf2:laidOutB prog=true:=by kernel_rfl
def pf3:mapsRowed prog=true:=by kernel_rfl
def pf7:(prog.stops==[])=true:=by kernel_rfl
def pf9:(prog.stopKnobs==[])=true:=by kernel_rfl
end Go.Proofs.YtebopbncplpdgaaGreatDoor
end
