/- Lemmas and walks that the law leans on, part Vbcd1. No condition. -/
import Derived.Test.YtebopbncplpdgaaGreatDoorV6
set_option linter.unusedVariables false
set_option linter.defProp false
set_option linter.unusedSimpArgs false
set_option linter.unusedSectionVars false
set_option maxRecDepth 10000
set_option maxHeartbeats 1000000
section
namespace Go.Proofs.YtebopbncplpdgaaGreatDoor
open Go.Dv Go.Pl Go.Proofs.Tryz
structure Hi where
 ent:Int
 sc:Int
deriving instance DecidableEq,Inhabited for Hi
abbrev dHi (p:Hi):D:= .agg [dI p.ent,dI p.sc]
abbrev ai7 (l:List Hi):D:= .sl none (l.map dHi)
abbrev NK (l:List Hi):D:= .sl (some 104) (l.map dHi)
def aGH (l:List Hi)(cf:Hi->Hi->Int)(g:FuncId)(E:Dv.Enters prog g)(U:T (1000000+g)=⟨.no,0,.any 0⟩)(G:∀a∈l,∀b∈l,fA prog g [dHi a,dHi b] (fun r=>r=vI (cf a b)))(hl:Qle l):D8 prog 301 [.one (.bool false),dI 0,dI l.length,.one (.func (.func g) #[] #[])] 0 (NK l) (fun r d=>r= .tup []/\d=NK (iD (cfB cf) l)):=by
 refine fM [] ntmps301 fun w0 ow0 v0=> ?_;have h00:=aiG cf l;simp;refine ai ?_;refine wl (fun(i:Nat)=>[(0,.own (NK (XX cf l i))),(1,vI 0),(2,vI l.length),(3,.val (.one (.func (.func g) #[] #[]))),(8,vI i)]) (fun(i:Nat)=>l.length-i) (fun(i:Nat)=>(1<=i/\i<=l.length+1)) (1) (by omega) ?_ (h0:=by simp[E,U,h00]);rintro i h1;simp;apply gw<;>intro a
 ·obtain⟨v,hv⟩:=aO (l:=l) (i:=i);have hin:GA cf l i i v=XX cf l i:=am4 (p:=cfB cf) hv;have hsl:=xY (p:=cfB cf) (l:=l) (i:=i);simp;refine wlt Nat (fun j=>([(0,.own (NK (GA cf l i j v))),(1,vI 0),(2,vI l.length),(3,.val (.one (.func (.func g) #[] #[]))),(8,vI i),(9,vI j)],j,(j<=i)/\(∀k c,j<=k->(srt cf l i)[k]?=some c->cfB cf v c=true))) (i) ⟨by omega,(fun k c hk hc=>absurd (dH hc) (by unfold srt;omega))⟩ ?_ (h0:=by simp[E,U,h00,hin]);rintro j ⟨h2,h3⟩;have hnow:(GA cf l i j v)[j]?=some v:=ah8 a h2;simp;refine wdt 14 ?_;simp;apply gv<;>intro e
  ·have e':=e;obtain⟨c,hc⟩:=aO (l:=srt cf l i) (i:=j-1) (by unfold srt;omega);have hprev:(GA cf l i j v)[j-1]?=some c:=by have:=ab3 (p:=cfB cf) (v:=v) a (show j-1<i by omega) hc;rwa [show j-1+1=j by omega]at this
   have hj1:((j:Int)-1).toNat=j-1:=by omega
   have hsw:=ab4 dHi (v:=v) a ⟨by omega,h2⟩ hc;have hs2:∀x:D,(((GA cf l i j v).map dHi).set j x)[j-1]?=some (dHi c):=fun x=>by rw[bI (by omega),aS,hprev];rfl
   have hj2:(j:Int)-1=((j-1:Nat):Int):=by omega
   simp[E,U,e,hnow,hprev,hj2];refine ai ?_;refine ck ((G v (aA hv) c (am6 hc))) ?_;simp;apply gw<;>intro b
   ·simp;refine wdh [2,3] [(15,[51,46,0,37,39,42,45,47,49,50]),(17,[52,50,0,37,39,42,45,46,47,49,51])] [(0,.own (NK (GA cf l i j v))),(1,vI 0),(2,vI l.length),(3,.val (.one (.func (.func g) #[] #[]))),(8,vI i),(9,vI j),(39,.al 0 []),(40,vI j)] [] ?_;simp[hnow,hprev,hsw,hs2,hj2];refine ai ?_;refine nx (j-1) ⟨by omega,(fun k c2 hk hc2=>by by_cases hkj:k=j-1;(subst hkj;rw[hc]at hc2;cases hc2;exact decide_eq_true b);exact h3 k c2 (by omega) hc2)⟩
   ·simp at b;have ho:GA cf l i j v=XX cf l (i+1):=NQ hv h2 h3 (.inr ⟨c,hc,by unfold cfB;exact decide_eq_false (by omega)⟩);simp[ho];refine nxa (i+1) (by omega)
  ·have e':=e;simp at e';have ho:GA cf l i j v=XX cf l (i+1):=NQ hv h2 h3 (.inl (by omega));simp[e,ho];refine nxa (i+1) (by omega)
 ·simp at a;have ho:=aiF cf (l:=l) (i:=i);simp[ho]
def aGK (l:List Hi)(k:Int)(cf:Hi->Hi->Int)(g:FuncId)(E:Dv.Enters prog g)(U:T (1000000+g)=⟨.no,0,.any 0⟩)(G:∀a∈l,∀b∈l,fA prog g [dHi a,dHi b] (fun r=>r=vI (cf a b)))(hl:l.length<=12):D8 prog 201 [.one (.bool false),dI 0,dI l.length,dI k,.one (.func (.func g) #[] #[])] 0 (NK l) (fun r d=>r= .tup []/\d=NK (iD (cfB cf) l)):=by
 refine fM [] ntmps201 fun w0 ow0 v0=> ?_;simp;refine wl (fun(i:Nat)=>[(0,.own (NK l)),(1,vI 0),(2,vI l.length),(3,vI k),(4,.val (.one (.func (.func g) #[] #[])))]) (fun(i:Nat)=>0) (fun(i:Nat)=>(i=0)) (0) (rfl) ?_;rintro i h1;have hlt:(l.length:Int)<=12:=by omega
 simp[hlt];refine ai ?_;refine eO rfl (aGH l cf g E U G (by omega)) ?_;rintro r d ⟨rfl,rfl⟩;simp
def aj6 (l:List Hi)(cf:Hi->Hi->Int)(g:FuncId)(E:Dv.Enters prog g)(U:T (1000000+g)=⟨.no,0,.any 0⟩)(G:∀a∈l,∀b∈l,fA prog g [dHi a,dHi b] (fun r=>r=vI (cf a b)))(hl:l.length<=12):D8 prog 126 [.one (.bool false),.one (.func (.func g) #[] #[])] 0 (NK l) (fun r d=>r= .tup []/\d=NK (iD (cfB cf) l)):=by
 refine fM [] ntmps126 fun w0 ow0 v0=> ?_;have hw:IntKind.u64.wrap (l.length:Int)=l.length:=by simp[IntKind.wrap,IntKind.bits,IntKind.signed];omega
 simp[hw];refine ck (Q3 l.length) ?_;simp;refine eO rfl (aGK l (Lib.bitLen l.length) cf g E U G hl) ?_;rintro r d ⟨rfl,rfl⟩;simp
def CG (a b:Hi):Int:=orI [cmpI b.sc a.sc,cmpI a.ent b.ent]
def agF (a b:Hi):Fk 127 [dHi a,dHi b] (vI (CG a b)):=by
 refine fE [] ntmps127 fun _ _=> ?_;simp;refine wdf [(10,[9,14,15]),(12,[16,4])] [(2,.own (.bx true (dHi a))),(3,.own (.bx true (dHi b))),(4,vI 0)] [] (by simp) ?_;simp;refine cd (kW b.sc a.sc) ?_;simp;refine cd (kW a.ent b.ent) ?_;simp;refine cd (VK [cmpI b.sc a.sc,cmpI a.ent b.ent] (by simp)) ?_;simp;grind[CG]
def hiB (v c:Hi):Bool:=cfB CG v c
def aeR (v c:Hi):hiB v c=true↔(c.sc<v.sc\/c.sc=v.sc/\v.ent<c.ent):=by
 unfold hiB cfB CG orI cmpI;simp only[List.find?_cons];by_cases h1:c.sc<v.sc
 ·simp[h1]
 ·by_cases h2:c.sc>v.sc
  ·simp[h1,h2];omega
  ·have h3:c.sc=v.sc:=by omega
   by_cases h4:v.ent<c.ent
   ·simp[h3,h4]
   ·by_cases h5:v.ent>c.ent
    ·simp[h3,h4,h5]
    ·simp[h3,h4,h5]
def JN (l:List Hi)(v:Hi)(hl:Qle l:=by omega):Fk 58 [ai7 l,dHi v] (.own (NK (gN (hiB v) l v))):=by
 refine fE [3] ntmps58 fun _ _=> ?_;simp;refine QJ (fun(k:Nat)=>[(0,.val (ai7 l)),(3,.own (.bx true (dHi v))),(5,vI k)]) (fun(k:Nat)=>(gN (hiB v) l v=l.take k++[v]++l.drop k)/\k<=l.length) ?_ ?_
 ·simp;refine wlt Nat (fun k=>([(0,.val (ai7 l)),(3,.own (.bx true (dHi v))),(5,vI k)],k,(k<=l.length)/\(∀j,k<=j->(h:j<l.length)->hiB v l[j]=true))) (l.length) ⟨by omega,(fun j h1 h2=>absurd h2 (by omega))⟩ ?_;rintro k ⟨h1k,h2k⟩;simp;refine wdr ?_;simp;apply gv<;>intro e
  ·have e':=e;obtain⟨d,hd⟩:=aO (l:=l) (i:=k-1);have hk1:((k:Int)-1).toNat=k-1:=by omega
   have hk2:(k:Int)-1=((k-1:Nat):Int):=by omega
   simp[e,hd,hk2];refine ai ?_;apply gv<;>intro f
   ·have f':=f;simp[hk2,f];refine nxa (k-1) ⟨by omega,(fun j h1 h2=>by by_cases hj:j=k-1;(subst hj;have hdd:l[k-1]=d:=(by simpa[aB h2]using hd);rw[hdd,aeR];omega);exact h2k j (by omega) h2)⟩
   ·have f':=f;simp at f';simp[hd,hk2,f];refine ai ?_;apply gv<;>intro g
    ·have g':=g;simp[hd,hk2,g];refine ai ?_;apply gw<;>intro m
     ·simp[hk2];refine nxa (k-1) ⟨by omega,(fun j h1 h2=>by by_cases hj:j=k-1;(subst hj;have hdd:l[k-1]=d:=(by simpa[aB h2]using hd);rw[hdd,aeR];omega);exact h2k j (by omega) h2)⟩
     ·simp at m;simp;refine jn (k) ⟨by rw[gN,FM h1k h2k (.inr ⟨d,hd,by rw[←Bool.not_eq_true,aeR];omega⟩)],h1k⟩
    ·have g':=g;simp[g];refine jn (k) ⟨by rw[gN,FM h1k h2k (.inr ⟨d,hd,by rw[←Bool.not_eq_true,aeR];omega⟩)],h1k⟩
  ·have e':=e;simp at e';simp[e];refine jn (k) ⟨by rw[gN,FM h1k h2k (.inl (by omega))],h1k⟩
 rintro k ⟨h5,h6⟩;simp;refine wdf [(0,[45]),(4,[45,48,49]),(6,[50,51]),(7,[49,51,52]),(11,[52,55,56]),(12,[56,4])] [(0,.val (ai7 l)),(3,.own (.bx true (dHi v))),(5,vI k)] [] (by simp) ?_;simp[h5];iterate 4 refine ai ?_
 omega
end Go.Proofs.YtebopbncplpdgaaGreatDoor
end
section
namespace Go.Proofs.YtebopbncplpdgaaGreatDoor
open Go.Dv Go.Pl
@[go_sem,simp] abbrev vC (x:List Hi):S:= .own (NK x)
end Go.Proofs.YtebopbncplpdgaaGreatDoor
end
section
namespace Go.Proofs.YtebopbncplpdgaaGreatDoor
open Go.Dv Go.Pl Go.Proofs.Tryz
def kV (sc:Rec->Int)(l:List Rec):Int:=l.foldl (fun m r=>max m (sc r)) (-1)
def FY (x:lM)(sc:Rec->Int)(e:Ent):Option Hi:=if 0<=kV sc (jW x.sto e.mem)then some ⟨e.id,kV sc (jW x.sto e.mem)⟩else none
def rP (x:lM)(sc:Rec->Int):List Hi:=if xK x=true then iD (cfB CG) (x.ents.filterMap (FY x sc))else[]
def gH (l:List Hi):∀a∈l,∀b∈l,fA prog 127 [dHi a,dHi b] (fun r=>r=vI (CG a b)):=fun a _ b _=>agF a b
def aBO (x:lM)(sc:Rec->Int)(g:FuncId)(bo:Nat)(D0:D)(F:D0.fz=D0)(E:Dv.Enters prog g)(U:T (1000000+g)=⟨.no,0,.any 0⟩)(G:∀r,aV r=true->fA prog g [nV r,.bx false D0] (fun r'=>r'=vI (sc r)))(hsc:∀r, -1<=sc r/\sc r<=1000000)(hx:kD x):yX prog 59 [nSys x,.one (.func (.func g) #[] #[.pointer (some ⟨bo,0,none⟩)])] [(bo,D0)] (fun res'=>res'=vC (rP x sc)):=by
 refine fB [5] ntmps59 fun _ _=> ?_;have hme:∀e∈x.ents,Qle e.mem:=fun e he=>k_Nat_le_trans (BD he) hx.mem;simp;refine ck (wW x hx) ?_;simp;apply gw<;>intro e
 ·simp at e;have hd:rP x sc=[]:=if_neg (by simp[e]);try simp
  refine jL [] (wP (L:=[(4,.own (NK []))]) (by simp)) ?_;simp[hd]
 ·simp at e;have ho:xK x:=by simpa using e
  have hd:rP x sc=iD (cfB CG) (x.ents.filterMap (FY x sc)):=if_pos ho;have hsv:=BH (pJ ho).2.1;have h8:=(xP (pJ ho).2.2).2;simp;refine wlt (Nat×List Hi) (fun(i,o)=>([(1,.val (.one (.func (.func g) #[] #[.pointer (some ⟨bo,0,none⟩)]))),(2,.own (.bx true (nSys x))),(5,vC o),(15,vG x.ents),(16,vI x.ents.length),(17,vI i),(1000000+2*bo,.rp (D0))],(x.ents).length-i,(i<=(x.ents).length)/\(o=(x.ents.take i).filterMap (FY x sc))/\(o.length<=i))) ((0,[])) ⟨by omega,rfl,by simp⟩ ?_;rintro⟨i,o⟩ ⟨h1,h2,h3⟩;simp;apply gw<;>intro a
  ·obtain⟨c,hc⟩:=aO (l:=x.ents) (i:=i);have hcl:=hme c (aA hc);have hm:=lV (FY x sc) hc;rw[←h2]at hm;have hR8:(jW x.sto c.mem).length<=8:=k_Nat_le_trans (aZ _ _) hsv.2.1;have hRv:∀r∈jW x.sto c.mem,aV r:=fun r hr=>hsv.1 r (bQ.1 hr).1;have hE:FY x sc c=if 0<=kV sc (jW x.sto c.mem)then some ⟨c.id,kV sc (jW x.sto c.mem)⟩else none:=rfl
   simp[hc];refine ck (wY x c hx hsv.1 hsv.2.1 hcl) ?_;generalize jW x.sto c.mem=R at*
   simp;refine wld [23] (Nat×Int) (fun(j,m)=>([(1,.val (.one (.func (.func g) #[] #[.pointer (some ⟨bo,0,none⟩)]))),(2,.own (.bx true (nSys x))),(5,vC o),(7,.own (.bx true (XL c))),(8,vI m),(15,vG x.ents),(16,vI x.ents.length),(17,vI i),(23,vR R),(24,vI R.length),(25,vI j),(1000000+2*bo,.rp (D0))],R.length-j,(j<=R.length)/\(m=kV sc (R.take j))/\(-1<=m/\m<=1000000))) ((0, -1)) ⟨by omega,by simp[kV],by omega⟩ ?_;rintro⟨j,m⟩ ⟨h4,h5,h6⟩;simp;apply gw<;>intro b
   ·obtain⟨r,hr⟩:=aO (l:=R) (i:=j) b;have hs1:=hsc r;have hsn:kV sc (R.take (j+1))=max (kV sc (R.take j)) (sc r):=dK _ _ hr;simp[E,U,F,hr];refine ck ((G r (hRv r (aA hr)))) ?_;simp;refine ai ?_;refine nxc (j+1,max m (sc r)) [23] ⟨by omega,by rw[hsn,h5],by omega⟩
   ·simp at b;rw[bJ]at h5;rw[←h5]at hE;simp;apply gw<;>intro f
    ·rw[if_pos f]at hE;simp;refine nxb (i+1,o++[⟨c.id,m⟩]) ⟨by omega,by rw[hm,hE];rfl,by simp;omega⟩
    ·simp at f;rw[if_neg (by omega)]at hE;simp;refine nxa (i+1,o) ⟨by omega,by rw[hm,hE];simp,by omega⟩
  ·simp at a;rw[bJ a]at h2;rw[←h2]at hd;simp;refine eO rfl (aj6 o CG 127 aIW aI5 (gH o) (by omega)) ?_;rintro r d ⟨rfl,rfl⟩;simp[hd]
variable {i:Nat}
def al4 {r:Rec}(hr:aV r)(hi:i<4:=by omega):r.fields[i]?=some (fld r i)/\(fld r i).length<=40:=by
 simp only[aV,k_Bool_and_eq_true,decide_eq_true_eq,aH]at hr;have h1:r.fields[i]?=some (fld r i):=by simp[fld,aC,show i<r.fields.length by omega]
 have h2:=hr.1.1.1.1 _ (aA h1);simp only[kS,isText,k_Bool_and_eq_true,decide_eq_true_eq]at h2;exact⟨h1,h2.2.2⟩
def ahV (x y:Str): -1<=iR x y/\iR x y<=1000:=by
 unfold iR IB;split<;>(try omega);all_goals(repeat' split)<;>omega
def J6 (y:Str)(r:Rec):Int:=if 0<iR (fld r 3) y then iR (fld r 3) y else -1
def aH6 (y:Str)(r:Rec): -1<=J6 y r/\J6 y r<=1000000:=by
 have:=ahV (fld r 3) y;unfold J6;split<;>omega
def P5 (r:Rec)(y:Str)(hr:aV r)(hy:Qle y):Fk 60 [nV r,.bx false (dS y)] (vI (J6 y r)):=by
 refine fE [] ntmps60 fun _ _=> ?_;have hf:=al4 hr (i:=3);have hf1:=hf.1;simp;refine wdt 6 ?_;simp[hf1];refine cd (I1 (fld r 3) y (by omega) hy) ?_;obtain⟨z,hz⟩:∃z,iR (fld r 3) y=z:=⟨_,rfl⟩;have hs:J6 y r=if 0<z then z else -1:=by rw[J6,hz]
 simp[hz];apply gw<;>intro b
 ·rw[if_pos b]at hs;simp[hs]
 ·simp at b;rw[if_neg (by omega)]at hs;simp[hs]
def GY (x:lM)(y:Str)(hx:kD x)(hy:Qle y):Fk 18 [nSys x,dS y] (vC (rP x (J6 y))):=by
 refine fE [] ntmps18 fun _ _=> ?_;simp;intro bo;refine ckB (aBO x (J6 y) 60 bo (dS y) rfl aMR aMW (fun r hr=>P5 r y hr hy) (aH6 y) hx) ?_;simp
def VF (y:Str)(R:List Rec)(b:Int):Int:=R.foldl (fun m r=>max m (iR (fld r 3) y)) b
def avD (y:Str):∀(R:List Rec) (b:Int),0<=b->0<=VF y R b/\R.foldl (fun m r=>max m (J6 y r)) (if 0<b then b else -1)=if 0<VF y R b then VF y R b else -1
 |[],b,h=>⟨h,rfl⟩
 |r::R,b,h=>by
  have ih:=avD y R (max b (iR (fld r 3) y)) (by omega);refine⟨ih.1,Eq.trans ?_ ih.2⟩;rw[k_List_foldl_cons];congr 1;unfold J6;have:=ahV (fld r 3) y;split<;>split<;>split<;>omega
def asI (y:Str)(R:List Rec):0<=VF y R 0/\kV (J6 y) R=if 0<VF y R 0 then VF y R 0 else -1:=avD y R 0 (by omega)
def XB {α:Type}(p:α->α->Bool)(L:List α)(v:α):iD p (L++[v])=gN (p v) (iD p L) v:=by simp[iD,kG]
def U9 (x:lM)(y:Str)(hx:kD x)(hy:Qle y):Fk 17 [nSys x,dS y] (vC (rP x (J6 y))):=by
 refine fE [] ntmps17 fun _ _=> ?_;have hme:∀e∈x.ents,Qle e.mem:=fun e he=>k_Nat_le_trans (BD he) hx.mem;simp;refine ck (rF x hx) ?_;simp;apply gw<;>intro e
 ·simp at e;have hd:rP x (J6 y)=[]:=if_neg (by simp[e]);simp[hd]
 ·simp at e;have ho:xK x:=by simpa using e
  have hd:rP x (J6 y)=iD (cfB CG) (x.ents.filterMap (FY x (J6 y))):=if_pos ho;have hsv:=BH (pJ ho).2.1;have h8:=(xP (pJ ho).2.2).2;simp;refine wlt (Nat×List Hi) (fun(i,o)=>([(1,wN y),(2,.own (.bx true (nSys x))),(5,vC o),(6,vI i)],(x.ents).length-i,(i<=(x.ents).length)/\(o=iD (cfB CG) ((x.ents.take i).filterMap (FY x (J6 y))))/\(o.length<=i))) ((0,[])) ⟨by omega,rfl,by simp⟩ ?_;rintro⟨i,o⟩ ⟨h1,h2,h3⟩;simp;apply gw<;>intro a
  ·obtain⟨c,hc⟩:=aO (l:=x.ents) (i:=i);have hcl:=hme c (aA hc);have hm:=lV (FY x (J6 y)) hc;have hRv:∀r∈jW x.sto c.mem,aV r:=fun r hr=>hsv.1 r (bQ.1 hr).1;have hR8:(jW x.sto c.mem).length<=8:=k_Nat_le_trans (aZ _ _) hsv.2.1;have hE:FY x (J6 y) c=if 0<=kV (J6 y) (jW x.sto c.mem)then some ⟨c.id,kV (J6 y) (jW x.sto c.mem)⟩else none:=rfl
   simp;refine ck (uZ x i c hc hx hsv.1 hsv.2.1 hcl) ?_;generalize jW x.sto c.mem=R at*
   have hbp:=asI y R;simp;refine wld [7] (Nat×Int) (fun(k,b)=>([(1,wN y),(2,.own (.bx true (nSys x))),(5,vC o),(6,vI i),(7,vR R),(8,vI b),(9,vI k)],R.length-k,(k<=R.length)/\(b=VF y (R.take k) 0)/\(0<=b/\b<=1000000))) ((0,0)) ⟨by omega,by simp[VF],by omega⟩ ?_;rintro⟨k,b⟩ ⟨h4,h5,h6⟩;simp;apply gw<;>intro q
   ·obtain⟨r,hr⟩:=aO (l:=R) (i:=k) q;have hrv:=hRv r (aA hr);have hfl:=al4 hrv (i:=3);have hf1:=hfl.1;have hpl:=ahV (fld r 3) y;have hsn:VF y (R.take (k+1)) 0=max (VF y (R.take k) 0) (iR (fld r 3) y):=dK _ _ hr;simp[hr,hf1];refine ck (JI (fld r 3) y (by omega) hy) ?_;simp;refine ai ?_;refine nxc (k+1,max b (iR (fld r 3) y)) [7] ⟨by omega,by rw[hsn,h5],by omega⟩
   ·simp at q;rw[bJ]at h5;rw[←h5]at hbp;rw[hbp.2]at hE;simp;apply gw<;>intro f
    ·rw[if_pos f,if_pos hbp.1]at hE;have hil:=BN (hiB ⟨c.id,b⟩) o ⟨c.id,b⟩;have hst:iD (cfB CG) ((x.ents.take (i+1)).filterMap (FY x (J6 y)))=gN (hiB ⟨c.id,b⟩) o ⟨c.id,b⟩:=by rw[hm,hE,h2];exact XB _ _ _
     simp[hc];refine ck (JN o ⟨c.id,b⟩) ?_;simp;refine nxa (i+1,gN (hiB ⟨c.id,b⟩) o ⟨c.id,b⟩) ⟨by omega,by rw[hst],by omega⟩
    ·simp at f;have hbb:(if 0<b then b else(-1:Int))= -1:=if_neg (by omega);rw[hbb,if_neg (by omega)]at hE;simp;refine nxa (i+1,o) ⟨by omega,by rw[hm,hE,h2];simp,by omega⟩
  ·simp at a;rw[bJ a,←hd]at h2;simp[h2]
def aiW (p:Hi):Fk 62 [dHi p,dHi p] (vB true):=by
 refine fE [] ntmps62 fun _ _=> ?_;simp
def lX (l:List Hi)(hl:Qle l:=by omega):Fk 19 [ai7 l,ai7 l] (vB true):=by
 refine fE [] ntmps19 fun _ _=> ?_;simp;refine wl (fun(i:Nat)=>[(0,.val (ai7 l)),(1,.val (ai7 l)),(5,vI i)]) (fun(i:Nat)=>l.length-i) (fun(i:Nat)=>(i<=l.length)) (0) (by omega) ?_;rintro i h1;simp;apply gw<;>intro a
 ·obtain⟨c,hc⟩:=aO (l:=l) (i:=i);simp;refine wdr ?_;simp[hc];refine cd (aiW c) ?_;simp;refine nxa (i+1) (by first|omega|(simp;omega)|grind)
 ·simp at a;simp
def mHi (k:Int):Hi:=⟨k,k+1⟩
def xI (n:Nat)(k:Int):List Hi:=(List.range n).map fun j:Nat=>mHi (k+2*(j:Int))
def G8 (l:List Hi)(k:Int)(i:Nat):List Hi:=xI i k++l.drop i
def aqJ (n:Nat)(k:Int):(xI n k).length=n:=by simp[xI]
variable {k:Int}
def aqI {n:Nat}(h:i<n):(xI n k)[i]?=some (mHi (k+2*i)):=by simp[xI,h]
variable {l:List Hi}
def ayL (h:i<=l.length):(G8 l k i).length=l.length:=by simp[G8,xI];omega
def ayK (h:i<l.length):(G8 l k i)[i]?=l[i]?:=by
 unfold G8 xI;rw[aN (by simp)];simp
def ayM (h:i<l.length):(G8 l k i).set i (mHi (k+2*i))=G8 l k (i+1):=by
 unfold G8 xI;rw[List.set_append,if_neg (by simp),aQ,List.length_range,cB,aW h,eG,dN,fH];simp
def atS (l:List Hi)(k:Int):G8 l k 0=l:=by simp[G8,xI]
def ayJ (l:List Hi)(k:Int):G8 l k l.length=xI l.length k:=by simp[G8]
def EK (l:List Hi)(k:Int)(hl:Qle l:=by omega)(hk:0<=k/\k<=1000000000000000:=by omega):D8 prog 20 [.one (.bool false),dI k] 0 (NK l) (fun r d=>r=vI (k+2*l.length)/\d=NK (xI l.length k)):=by
 refine fM [] ntmps20 fun w0 ow0 v0=> ?_;have hz:=atS l k;rw[show NK l=NK (G8 l k 0) by rw[hz]];simp;refine wl (fun(i:Nat)=>[(0,vC (G8 l k i)),(1,vI (k+2*i)),(5,vI i)]) (fun(i:Nat)=>l.length-i) (fun(i:Nat)=>(i<=l.length)) (0) (by omega) ?_;rintro i h1;have hml:=ayL (k:=k) h1;simp[hml];apply gw<;>intro a
 ·obtain⟨c,hc⟩:=aO (l:=l) (i:=i);have hg:=ayK (k:=k) (l:=l) (i:=i) (by omega);rw[hc]at hg;have hst:((G8 l k i).map dHi).set i (dHi (mHi (k+2*i)))=(G8 l k (i+1)).map dHi:=by rw[←List.map_set,ayM (by omega)]
  have hsg:∀v:D,(((G8 l k i).map dHi).set i v)[i]?=some v:=fun v=>by rw[bG (by (try unfold Qle);rw[aQ];omega)]
  have hqn:k+2*(i:Int)+2=k+2*((i:Int)+1):=by omega
  obtain⟨q,hq⟩:∃q,k+2*(i:Int)=q:=⟨_,rfl⟩;have hqb:0<=q/\q<=1000010000000000:=by omega
  rw[hq]at hst hqn;have a2:q+1+1=q+2:=by omega
  simp only[mHi]at hst;simp[hg,hq,hsg,a2,hst,hqn];refine nxd (i+1) (by omega)
 ·simp at a;obtain rfl:i=l.length:=by omega
  have hfa:=ayJ l k;simp[hfa]
def qH (n:Nat)(k:Int)(hn:n<=1048576:=by omega)(hk:0<=k/\k<=1000000000000000:=by omega):Fk 21 [ai7 (xI n k),dI k] (vI (k+2*n)):=by
 refine fE [] ntmps21 fun _ _=> ?_;have hml:=aqJ n k;simp;refine wl (fun(i:Nat)=>[(0,.val (ai7 (xI n k))),(1,vI (k+2*i)),(5,vI i)]) (fun(i:Nat)=>n-i) (fun(i:Nat)=>(i<=n)) (0) (by omega) ?_;rintro i h1;simp[hml];apply gw<;>intro a
 ·have hg:=aqI (k:=k) (show i<n by omega);have hqn:k+2*(i:Int)+2=k+2*((i:Int)+1):=by omega
  obtain⟨q,hq⟩:∃q,k+2*(i:Int)=q:=⟨_,rfl⟩;have hqb:0<=q/\q<=1000010000000000:=by omega
  rw[hq]at hg hqn;have a2:q+1+1=q+2:=by omega
  simp only[mHi]at hg;simp[hg,hq,a2,hqn];refine nxd (i+1) (by omega)
 ·simp at a;obtain rfl:i=n:=by omega
  simp
def ag4 (x:lM)(sc:Rec->Int):(rP x sc).length<=8:=by
 unfold rP;split
 ·rename_i h;have h8:=(xP (pJ h).2.2).2;rw[akC];exact k_Nat_le_trans (iQ _ _) h8
 ·simp
def I9 (x:lM)(y:Str)(hb:asJ x)(hy:y.length<=9223372036854775807):Fk 4 [nSys x,dS y] (vB true):=by
 refine fE [] ntmps4 fun _ _=> ?_;simp;apply gw<;>intro q
 ·simp
 ·simp at q;have hyl:Qle y:=by omega
  simp;refine eB (tX x 1048576 hb) (by simp) ?_;rintro r ⟨v,rfl,hv,hf⟩;refine⟨by simp,?_⟩;simp;apply gw<;>intro e
  ·simp
  ·simp at e;have hx:=hf (by omega);have hlen:=ag4 x (J6 y);obtain⟨R,hR⟩:∃R,rP x (J6 y)=R:=⟨_,rfl⟩;rw[hR]at hlen;have hsy:=NR hx;have hs3:¬PT x 1<0:=by omega
   simp;refine ck (fK x hx) ?_;simp;refine ck (U9 x y hx hyl) ?_;simp[hR];refine ck (fK x hx) ?_;simp;refine ck (GY x y hx hyl) ?_;simp[hR];refine ck (lX R) ?_;simp;refine wdr ?_;simp;refine cd (yG x hx) ?_;simp;refine cd (tV x hx) ?_;simp;refine rT rfl (qU x hx) ?_;simp[hs3];refine ck (lX R) ?_;simp;refine eO rfl (EK R 1) ?_;rintro r d ⟨rfl,rfl⟩;have hm2:¬1+2*(R.length:Int)<0:=by omega
   simp;refine ck (qH R.length 1) ?_;simp[hm2];refine ck (fK x hx) ?_;simp;refine ck (GY x y hx hyl) ?_;simp[hR];refine ck (lX R) ?_;simp;refine ck (qH R.length 1) ?_;simp[hm2]
end Go.Proofs.YtebopbncplpdgaaGreatDoor
end
