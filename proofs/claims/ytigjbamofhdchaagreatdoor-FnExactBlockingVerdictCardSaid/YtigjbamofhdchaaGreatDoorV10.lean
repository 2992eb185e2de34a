/- Lemmas and walks that the law leans on, part 10. No condition. -/
import Derived.Laws.CopyOwn
import Derived.Lib.AtoiAllCases
import Derived.Lib.AtoiErrMem
import Derived.Lib.OwnBridge
import Derived.Lib.SortBridge
import Derived.LoopTactic
import Derived.Sort.Grow
import Derived.Still
import Derived.StillTactics
import Derived.Test.YtigjbamofhdchaaGreatDoorV7
set_option linter.unusedVariables false
set_option linter.defProp false
set_option linter.unusedSimpArgs false
set_option linter.unusedSectionVars false
set_option maxRecDepth 10000
set_option maxHeartbeats 1000000
section
namespace Go.Proofs.YtigjbamofhdchaaGreatDoor
open Go.Dv Go.Pl Go.Proofs.Tryz
def zP (x:Int):Bool:= !inR x 0 1000
def GY (x:Int):Fk 304 [dI x] (vB (zP x)):=by
 refine fE [] ntmps304 fun _ _=> ?_;simp;refine ck (bD x 0 1000) ?_;simp;grind[zP]
def akV (l:L1)(hl:Qle l):Fk 221 [nInts l,.one (.func (.func 304) #[] #[])] (vI (ix zP l)):=by
 refine fE [] ntmps221 fun _ _=> ?_;simp;refine wlt Nat (fun i=>([(0,vN l),(1,.val (.one (.func (.func 304) #[] #[]))),(7,vI l.length),(8,vI i)],l.length-i,(i<=l.length)/\((l.take i).any zP=false))) (0) ⟨by omega,rfl⟩ ?_;rintro i ⟨h1,h2⟩;simp;apply gw<;>intro a
 ·obtain⟨c,hc⟩:=aQ (l:=l) (i:=i);simp[hc];refine ck (GY c) ?_;simp;apply gw<;>intro b
  ·have hn:=DK hc h2 (by simp[b]);simp[hn]
  ·simp;refine nxa (i+1) ⟨by omega,(gV hc h2 (by simp[b]))⟩
 ·simp at a;have hf:=mJ h2 a;have hx:=rV hf;simp[hx]
def aoW (l:L1)(hl:Qle l):Fk 154 [nInts l,.one (.func (.func 304) #[] #[])] (vB (l.any zP)):=by
 refine fE [] ntmps154 fun _ _=> ?_;have hq:decide (0<=ix zP l)=l.any zP:=by rw[bH,decide_eq_true_eq];exact iV
 simp;refine ck (akV l hl) ?_;simp[hq]
def auK (l:L1):l.any zP= !(l.all GM):=by
 induction l with
 |nil=>rfl
 |cons x l ih=>rw[List.any_cons,uJ,ih,zP,GM];simp
def nO (l:L1)(hl:Qle l:=by first|omega|grind):Fk 242 [nInts l] (vB (uI l)):=by
 refine fE [] ntmps242 fun _ _=> ?_;simp;apply gv<;>intro e
 ·have e':=e;simp[e];refine ck (aoW l hl) ?_;simp;rw[auK,uI,decide_eq_true (show l.length=6 by omega)];simp
 ·have e':=e;simp[e];rw[uI,decide_eq_false (show¬l.length=6 by omega)];simp
def MJ (l w:L1)(hl:Qle l:=by first|omega|grind)(hw:Qle w:=by first|omega|grind):Fk 305 [nInts l,nInts w] (vI (oI l w)):=by
 refine fE [] ntmps305 fun _ _=> ?_;simp;apply gw<;>intro e
 ·simp;simp[oI];omega
 ·simp;refine wlt (Nat×Int×Int) (fun(i,s,t)=>([(0,vN l),(1,vN w),(5,vI s),(6,vI t),(14,vN l),(15,vI l.length),(16,vI i)],l.length-i,(i<=l.length)/\((List.range i).all (sF l w)=true)/\(s=wO l w i)/\(t=tT w i))) ((0,0,0)) ⟨by omega,rfl,rfl,rfl⟩ ?_;rintro⟨i,s,t⟩ ⟨h1,h2,h3,h4⟩;simp;apply gw<;>intro a
  ·have hl1:=aV (l:=l) (i:=i);have hw1:=aV (l:=w) (i:=i);have hb:∀j<i,sF l w j:=fun j hj=>aI.1 h2 j (aZ.2 hj);have hN:=BJ i hb;have hD:=BI i hb;simp[hl1];refine ck (bD (at1 l i) 0 1000) ?_;simp;apply gv<;>intro e
   ·have e':=e;simp at e';have hn:=mR a (P:=sF l w) (by simp[sF]at*;omega);simp[e];all_goals simp[oI,hn]
   ·have e':=e;simp at e';simp[hw1,e];refine ck (bD (at1 w i) 0 1000) ?_;simp;apply gw<;>intro f
    ·simp at f;have hn:=mR a (P:=sF l w) (by simp[sF]at*;omega);simp;all_goals simp[oI,hn]
    ·simp at f;have hc:sF l w i:=by simp[sF]at*;omega
     have hp1:0<=at1 l i*at1 w i:=Int.mul_nonneg (by simp at*;omega) (by simp at*;omega);have hp2:at1 l i*at1 w i<=1000*1000:=Int.mul_le_mul (by simp at*;omega) (by simp at*;omega) (by simp at*;omega) (by omega);simp[hw1];iterate 4 refine ai ?_
     refine nx (i+1,s+at1 l i*at1 w i,t+at1 w i) ⟨by omega,(oC h2 hc),by rw[h3,wO,wO,aL],by rw[h4,tT,tT,aL]⟩
  ·simp at a;have hi:l.length=i:=by omega
   subst hi;have hb:∀j<l.length,sF l w j:=fun j hj=>aI.1 h2 j (aZ.2 hj);have hN:=BJ l.length hb;have hD:=BI l.length hb;simp;apply gw<;>intro b
   ·simp;all_goals simp[oI,←h4,b]
   ·simp;iterate 2 refine ai ?_
    all_goals(rw[oI,if_pos ⟨by omega,h2⟩,←h4,if_neg b,←h3])
def U5 (s:Sco)(f:L1)(hs:Qle s.weights:=by first|omega|grind)(hf:Qle f:=by first|omega|grind):Fk 243 [GI s,nInts f] (vI (lW s f)):=by
 refine fE [] ntmps243 fun _ _=> ?_;simp;refine ck (oJ s hs) ?_;simp;apply gv<;>intro e
 ·have e':=e;simp at e';simp[e];grind[lW]
 ·have e':=e;simp at e';simp[e];refine ck (nO f hf) ?_;simp;apply gw<;>intro b
  ·simp at b;simp;grind[lW]
  ·simp at b;simp;refine ck (MJ _ _) ?_;simp;grind[lW]
def U8 (t:Tst)(f:L1)(hf:Qle f:=by first|omega|grind):Fk 381 [yT t,nInts f] (vB (pG f t)):=by
 refine fE [] ntmps381 fun _ _=> ?_;simp;refine wdt 20 ?_;simp;refine cd (nO _) ?_;simp;apply gv<;>intro e
 ·have e':=e;simp[e];refine cd (H7 _) ?_;simp;apply gv<;>intro g
  ·have g':=g;simp at g';have h6:f.length=6:=by simp only[uI,k_Bool_and_eq_true,decide_eq_true_eq]at e;exact e.2
   have hx:=aV (l:=f) (i:=t.feature.toNat);simp[g,hx];refine ai ?_;all_goals(simp only[pG];rw[e',show inR t.feature 0 5=true by simp;omega];simp;by_cases hq:at1 f t.feature.toNat<t.threshold<;>simp[hq,Int.not_lt.symm]<;>omega)
  ·have g':=g;simp at g';simp[g];all_goals(simp only[pG];rw[e',show inR t.feature 0 5=false by simp;omega];simp)
 ·have e':=e;simp[e];all_goals simp[pG,e']
def QR (t:Tst)(f:L1)(hf:Qle f):Fk 380 [yT t,.bx false (nInts f)] (vB (!pG f t)):=by
 refine fE [] ntmps380 fun _ _=> ?_;simp;refine ck (U8 _ _) ?_;simp
def ao2 (l:List Tst)(p:Tst->Bool)(g:FuncId)(b:Nat)(d:D)(F:d.fz=d)(E:Dv.Enters prog g)(U:T (1000000+g)=⟨.no,0,.any 0⟩)(G:∀c∈l,fP prog g [yT c,.bx false d] (fun r=>r=vB (p c)))(hl:Qle l):yZ prog 398 [D.sl none (l.map yT),.one (.func (.func g) #[] #[.pointer (some ⟨b,0,none⟩)])] [(b,d)] (fun res'=>res'=vI (ix p l)):=by
 refine fB [] ntmps398 fun _ _=> ?_;simp;refine wlt Nat (fun i=>([(0,.val (D.sl none (l.map yT))),(1,.val (.one (.func (.func g) #[] #[.pointer (some ⟨b,0,none⟩)]))),(7,vI l.length),(8,vI i),(1000000+2*b,.rp (d))],l.length-i,(i<=l.length)/\((l.take i).any p=false))) (0) ⟨by omega,rfl⟩ ?_;rintro i ⟨h1,h2⟩;simp;apply gw<;>intro a
 ·obtain⟨c,hc⟩:=aQ (l:=l) (i:=i);simp[E,U,F,hc];refine ck ((G c (aA hc))) ?_;simp;apply gw<;>intro e
  ·have hn:=DK hc h2 (by simp[e]);simp[hn]
  ·simp;refine nxa (i+1) ⟨by omega,(gV hc h2 (by simp[e]))⟩
 ·simp at a;have hf:=mJ h2 a;have hx:=rV hf;simp[hx]
def asX (l:List Tst)(p:Tst->Bool)(g:FuncId)(b:Nat)(d:D)(F:d.fz=d)(E:Dv.Enters prog g)(U:T (1000000+g)=⟨.no,0,.any 0⟩)(G:∀c∈l,fP prog g [yT c,.bx false d] (fun r=>r=vB (p c)))(hl:Qle l):yZ prog 379 [D.sl none (l.map yT),.one (.func (.func g) #[] #[.pointer (some ⟨b,0,none⟩)])] [(b,d)] (fun res'=>res'=vB (l.any p)):=by
 refine fB [] ntmps379 fun _ _=> ?_;have hq:decide (0<=ix p l)=l.any p:=by rw[bH,decide_eq_true_eq];exact iV
 simp[F];refine ckB (ao2 l p g b d F E U G hl) ?_;simp[hq]
def ao0 (l:List (List Tst))(p:List Tst->Bool)(g:FuncId)(b:Nat)(d:D)(F:d.fz=d)(E:Dv.Enters prog g)(U:T (1000000+g)=⟨.no,0,.any 0⟩)(G:∀c∈l,fP prog g [vH c,.bx false d] (fun r=>r=vB (p c)))(hl:Qle l):yZ prog 347 [.sl none (l.map vH),.one (.func (.func g) #[] #[.pointer (some ⟨b,0,none⟩)])] [(b,d)] (fun res'=>res'=vI (ix p l)):=by
 refine fB [] ntmps347 fun _ _=> ?_;simp;refine wlt Nat (fun i=>([(0,.val (.sl none (l.map vH))),(1,.val (.one (.func (.func g) #[] #[.pointer (some ⟨b,0,none⟩)]))),(7,vI l.length),(8,vI i),(1000000+2*b,.rp (d))],l.length-i,(i<=l.length)/\((l.take i).any p=false))) (0) ⟨by omega,rfl⟩ ?_;rintro i ⟨h1,h2⟩;simp;apply gw<;>intro a
 ·obtain⟨c,hc⟩:=aQ (l:=l) (i:=i);simp[E,U,F,hc];refine ck ((G c (aA hc))) ?_;simp;apply gw<;>intro e
  ·have hn:=DK hc h2 (by simp[e]);simp[hn]
  ·simp;refine nxa (i+1) ⟨by omega,(gV hc h2 (by simp[e]))⟩
 ·simp at a;have hf:=mJ h2 a;have hx:=rV hf;simp[hx]
def U6 (r:List Tst)(f:L1)(hr:Qle r:=by first|omega|grind)(hf:Qle f:=by first|omega|grind):Fk 349 [vH r,nInts f] (vB (tH f r)):=by
 refine fE [] ntmps349 fun _ _=> ?_;simp;refine ck (nO f hf) ?_;simp;apply gv<;>intro e
 ·have e':=e;simp[e];intro b;refine ckB (asX r (fun t=> !pG f t) 380 b (nInts f) (V8 _) aFU aF8 (fun t _=>QR t f hf) hr) ?_;simp;all_goals simp[tH,e',ahQ]
 ·have e':=e;simp[e];all_goals simp[tH,e']
def QP (r:List Tst)(f:L1)(hr:Qle r)(hf:Qle f):Fk 348 [vH r,.bx false (nInts f)] (vB (tH f r)):=by
 refine fE [] ntmps348 fun _ _=> ?_;simp;refine ck (U6 _ _) ?_;simp
def U3 (rs:List (List Tst))(f:L1)(hs:Qle rs:=by first|omega|grind)(hr:∀l∈rs,Qle l:=by first|omega|grind)(hf:Qle f:=by first|omega|grind):Fk 306 [mI rs,nInts f] (vI (uR rs f)):=by
 refine fE [] ntmps306 fun _ _=> ?_;simp;refine ck (qV rs hs hr) ?_;simp;apply gw<;>intro a
 ·simp at a;simp;grind[uR]
 ·simp at a;simp;intro b;refine ckB (ao0 rs (tH f) 348 b (nInts f) (V8 _) aFS aF7 (fun r hm=>QP r f (hr r hm) hf) hs) ?_;simp;grind[uR]
def U7 (rs:List (List Tst))(f:L1)(hs:Qle rs:=by first|omega|grind)(hr:∀l∈rs,Qle l:=by first|omega|grind)(hf:Qle f:=by first|omega|grind):Fk 244 [mI rs,nInts f] (vB (decide (0<=uR rs f))):=by
 refine fE [] ntmps244 fun _ _=> ?_;simp;refine ck (U3 _ _) ?_;simp
def SE (rs:List (List Tst))(s:Sco)(f:L1)(hs:Qle rs)(hr:∀l∈rs,Qle l)(hw:Qle s.weights)(hf:Qle f):Fk 173 [mI rs,GI s,nInts f] (vI (iT rs s f)):=by
 refine fE [] ntmps173 fun _ _=> ?_;simp;refine ck (qV rs hs hr) ?_;simp;apply gv<;>intro e
 ·have e':=e;simp at e';simp[e];grind[iT]
 ·have e':=e;simp at e';simp[e];refine ck (oJ s hw) ?_;simp;apply gv<;>intro g
  ·have g':=g;simp at g';simp[g];grind[iT]
  ·have g':=g;simp at g';simp[g];refine ck (nO f hf) ?_;simp;apply gw<;>intro b
   ·simp at b;simp;grind[iT]
   ·simp at b;have hp:=WT s f hf;have hb:0<=s.bias/\s.bias<=1000:=by simp only[lM,k_Bool_and_eq_true,decide_eq_true_eq]at g';exact g'.2
    simp;refine wdt 6 ?_;simp;refine cd (U5 _ _) ?_;simp;refine ai ?_;refine ck (U7 _ _) ?_;simp;apply gw<;>intro d
    ·simp;grind[iT]
    ·simp at d;simp;grind[iT]
end Go.Proofs.YtigjbamofhdchaaGreatDoor
end
section
namespace Go.Proofs.YtigjbamofhdchaaGreatDoor
open Go.Dv Go.Pl Go.RowKit Go.Lib Go.Sort Go.Proofs.Tryz
def abJ (x:Str):encStr x= .string ⟨x.toArray⟩:=by simp[encStr]
variable {os:Array Obj}{v:Value}
def auC {w:World}{base:Nat}{e:TypeId}{n:Nat}{xs:List Value}(h:w.ownsRow base e 1 v n xs):(grow w os).ownsRow base e 1 v n xs:=by
 refine⟨h.1,h.2.imp_right ?_⟩;rintro⟨g,cap,cur,h1,h2,h3,h4⟩;exact⟨g,cap,cur,h1,h2,by show(w.heap++os)[g]?=_;rw[eU (Go.Dv.lt_of_heap h3)];exact h3,h4⟩
variable {w':World}
def ajT {B:Nat}{w:World}(h:Below B w w')(hB:B<=w'.heap.size):Below B w (Go.Sort.grow w' os):=h.trans ⟨rfl,rfl,rfl,by simp[Go.Sort.grow],fun b hb=>by
 show(w'.heap++os)[b]?=_;rw[eU (by omega)]⟩
def acJ (l:List Str)(a:Addr)(cap:Nat)(w:World)(hl:l.length<=262144)(hc:l=[]\/(a.spot=none/\∀(j:Nat) x,l[j]?=some x->w.cell? ⟨a.block,a.off+j,none⟩=some (.string ⟨x.toArray⟩))):
  Calls prog 357 #[.slice (some a) l.length cap] w fun e w1=>∃v1,e= .returned v1/\w1.ownsRow w.heap.size 9 1 v1 l.length (l.map encStr)/\v1≠ .slice none 0 0/\Below w.heap.size w w1:=by
 rcases hc with rfl|⟨ha,hcell⟩
 ·exact Tryz.slices_Clone_string_zero a cap w
 ·have:=Tryz.slices_Clone_string a.block a.off l.length cap (l.map fun x=>(⟨x.toArray⟩:ByteArray)) w (by simp) (by omega) (fun j hj=>by
   have hj':j<l.length:=by simpa using hj
   rw[hcell j _ (aB hj')];simp[List.getD,hj'])
  have hae:(⟨a.block,a.off,none⟩:Addr)=a:=by cases a;cases ha;rfl
  rw[hae]at this;refine this.mono fun e w1 ⟨v1,h1,h2,h4,h3⟩=>⟨v1,h1,?_,h4,h3⟩
  have he:(((l.map fun x=>(⟨x.toArray⟩:ByteArray)).take l.length).map Value.string)=l.map encStr:=by
   rw[k_List_take_of_length_le (by simp),sQ];exact uZ fun x _=>(abJ x).symm
  rwa [he]at h2
def auN (l:List Str)(g c base:Nat)(w1:World)(hl:l.length<=262144)(h:w1.ownsRow base 9 1 (.slice (some ⟨g,0,none⟩) l.length c) l.length (l.map encStr))(hb:base<=w1.heap.size):
  Calls prog 358 #[.slice (some ⟨g,0,none⟩) l.length c] w1 fun e w2=>e= .returned (.tuple #[])/\w2.ownsRow base 9 1 (.slice (some ⟨g,0,none⟩) l.length c) l.length ((rU l).map encStr)/\Below base w1 w2:=by
 obtain⟨g',c',he,hbg,hlt,hn,hm,_,hH⟩:=holds_of_ownsRow h (by simp);obtain⟨rfl,rfl⟩:g=g'/\c=c':=by simpa using he
 refine(Tryz.slices_Sort_string g 0 c l w1 hH hlt (by omega)).mono ?_;rintro e w2 ⟨h1,n,os,rfl⟩;have hy:=ownsRow_putRow (q:=n) (ys:=rU l) (k:=l.length) h (tK l) (k_Nat_le_refl _);rw[k_List_take_of_length_le (by (try unfold Qle);rw[tK];omega)]at hy;refine⟨h1,auC hy,?_⟩;exact ajT (below_putRow (Below.refl _ _) hbg) (k_Nat_le_trans hb (below_putRow (Below.refl base w1) hbg).size)
def asI (l:List Str)(g c base:Nat)(w1:World)(hl:l.length<=262144)(hk:(Lib.compact l).length<=l.length)(h:w1.ownsRow base 9 1 (.slice (some ⟨g,0,none⟩) l.length c) l.length (l.map encStr)):
  Calls prog 359 #[.slice (some ⟨g,0,none⟩) l.length c] w1 fun e w2=>e= .returned (.slice (some ⟨g,0,none⟩) (Lib.compact l).length c)/\w2.ownsRow base 9 1 (.slice (some ⟨g,0,none⟩) (Lib.compact l).length c) (Lib.compact l).length ((Lib.compact l).map encStr)/\Below base w1 w2:=by
 obtain⟨g',c',he,hbg,hlt,hn,hm,_,hH⟩:=holds_of_ownsRow h (by simp);obtain⟨rfl,rfl⟩:g=g'/\c=c':=by simpa using he
 refine(Tryz.slices_Compact_string g 0 c l w1 hH (by omega) hn).mono ?_;rintro e w2 ⟨h1,n,rfl⟩;have hy:=ownsRow_putRow (q:=n) (ys:=Lib.compact l++List.replicate (l.length-(Lib.compact l).length) []) (k:=(Lib.compact l).length) h (by simp;omega) hk;rw[List.take_left' rfl]at hy;exact⟨h1,hy,below_putRow (Below.refl _ _) hbg⟩
def aiB:fP prog 119 [.one (.int .u64 0)] (fun r=>r=vI 0):=
 DD (u:= .int .i64 0) rfl fun w ow vs hL hs ha=>by
  obtain rfl:=XQ hs ha;have:=Tryz.bits_Len 0 w (by decide) (by decide);exact this.mono fun e w' h=>⟨h.1,h.2▸Below.refl _ _⟩
def aAY:Fk 403 [.one (.slice none 0 0),dI 0,dI 0] (.tup []):=by
 refine fE [] ntmps403 fun _ _=> ?_;simp;refine ai ?_;refine wl (fun(i:Nat)=>[(0,.val (.one (.slice none 0 0))),(1,vI 0),(2,vI 0),(6,vI 1)]) (fun(i:Nat)=>0) (fun(i:Nat)=>(i=1)) (1) (rfl) ?_;rintro i h1;simp
def aA0 (k:Int):Fk 391 [.one (.slice none 0 0),dI 0,dI 0,dI k] (.tup []):=by
 refine fE [] ntmps391 fun _ _=> ?_;simp;refine wl (fun(i:Nat)=>[(0,.val (.one (.slice none 0 0))),(1,vI 0),(2,vI 0),(3,vI k)]) (fun(i:Nat)=>0) (fun(i:Nat)=>(i=0)) (0) (rfl) ?_;rintro i h1;simp;refine ai ?_;refine ck (aAY) ?_;simp
def awW:Fk 358 [.one (.slice none 0 0)] (.tup []):=by
 refine fE [] ntmps358 fun _ _=> ?_;simp;refine ck (aiB) ?_;simp;refine ck (aA0 0) ?_;simp
def apZ (cap:Nat)(w:World)(hs:Calls prog 358 #[.slice none 0 0] w fun e w'=>e= .returned (.tuple #[])/\Below w.heap.size w w'):Calls prog 310 #[.slice none 0 cap] w fun e w'=>e= .returned (.slice none 0 0)/\Below w.heap.size w w':=by
 have h1:=Tryz.slices_Clone_string_nil 0 cap w;have h3:=fun w2=>Tryz.slices_Compact_string_empty none 0 w2;go_enter func310,ntmps310
 go_wp2_with (first|(go_at_call 357;refine h1.mono ?_;rintro e w1 ⟨rfl,hw1⟩;obtain rfl:=hw1.symm)|(go_at_call 358;refine hs.mono ?_;rintro e w2 ⟨rfl,q2⟩)|(go_at_call 359;refine(h3 w2).mono ?_;rintro e w3 ⟨rfl,hw3⟩;obtain rfl:=hw3.symm))
 exact bodyPost_ret (v:= .slice none 0 0) (by simp[results,Tryz.f310,loadVar]) rfl ⟨rfl,q2⟩
def ap0 (l:List Str)(a:Addr)(cap:Nat)(w:World)(hl:l.length<=262144)(hc:l=[]\/(a.spot=none/\∀(j:Nat) x,l[j]?=some x->w.cell? ⟨a.block,a.off+j,none⟩=some (.string ⟨x.toArray⟩))):
  Calls prog 310 #[.slice (some a) l.length cap] w fun e w'=>∃v,e= .returned v/\w'.ownsRow w.heap.size 9 1 v (AP l).length ((AP l).map encStr)/\Below w.heap.size w w':=by
 have h1:=acJ l a cap w hl hc;have h2:=fun g c w1=>auN l g c w.heap.size w1 hl;have h3:=fun g c w1=>asI (rU l) g c w.heap.size w1 (by rw[tK];exact hl) (by rw[tK];exact O8 l);simp only[tK]at h3;go_enter func310,ntmps310
 go_wp2_with (first|(go_at_call 357;refine h1.mono ?_;rintro e w1 ⟨v1,rfl,k1,k2,k3⟩;obtain⟨g,c,rfl,k4,k5,_⟩:=holds_of_ownsRow k1 k2)|(go_at_call 358;refine(h2 g c w1 k1 k3.size).mono ?_;rintro e w2 ⟨rfl,q1,q2⟩)|(go_at_call 359;refine(h3 g c w2 q1).mono ?_;rintro e w3 ⟨rfl,r1,r2⟩))
 exact bodyPost_ret (v:= .slice (some ⟨g,0,none⟩) (Lib.compact (rU l)).length c) (by simp[results,Tryz.f310,loadVar]) rfl ⟨_,rfl,r1,(k3.trans q2).trans r2⟩
variable {ow:Own}{l:List Str}
def aeF {w:World}{t:Nat}(hB:Below w.heap.size w w')(h:w'.ownsRow w.heap.size 9 1 v l.length (l.map encStr)):∃ow',After w ow w' ow'/\∀(s:St) (a:Act),SV prog w' ow' s a t (.own (EK l)) v:=by
 rcases h.2 with⟨rfl,h0⟩|⟨g,cap,cur,rfl,hg,hrow,hn,hm,hs,ht⟩
 ·obtain rfl:l=[]:=bB h0;refine⟨fun b=>if b<w.heap.size then ow b else none,⟨hB.os,hB.tape,hB.output,hB.size,fun b hb=>⟨hB.block b hb,if_pos hb⟩,fun b hb=>if_neg (by have:=hB.size;omega)⟩,fun s a=> ?_⟩;exact aiW
 ·have hlt:g<w'.heap.size:=Go.Dv.lt_of_heap hrow;refine⟨fun b=>if b=g then some [t]else if b<w.heap.size then ow b else none,⟨hB.os,hB.tape,hB.output,hB.size,fun b hb=>⟨hB.block b hb,?_⟩,fun b hb=> ?_⟩,fun s' a=> ?_⟩
  ·rw[if_neg (by omega),if_pos hb]
  ·have:=hB.size;rw[if_neg (by omega),if_neg (by omega)]
  ·simp only[SV,V,R];refine⟨some ⟨g,0,none⟩,cap,by simp,by simpa using hn,hm,.inr (.inr ⟨g,0,1,_,9,(0,0),rfl,hrow,(by intro h;cases h),fun t' ht'=> ?_,?_⟩)⟩
   ·obtain rfl:=k_Option_some_inj ht';obtain⟨_,i,zv,hi,hsz,_⟩:=(good 9).of (fun x h e=>by rw[e]at h;cases h);exact⟨by simp,rfl,unfz0 _,rfl,by simpa using hs,i,hi,hsz⟩
   ·rw[Rs.iff hrow];intro j x hx;rw[aN,aK]at hx;obtain⟨y,hy,rfl⟩:=hx
    have hc:cur[j]?=some (.string ⟨y.toArray⟩):=by
     have hj:=dM hy;have h1:(cur.toList.take (l.length*1))[j]?=some (encStr y):=by rw[ht,aN,hy];rfl
     rw[bA,if_pos (by omega)]at h1;rw[←Array.getElem?_toList,h1,abJ]
    refine⟨rfl,_,_,_,[.string ⟨y.toArray⟩],hrow,fun k hk=> ?_,?_⟩
    ·obtain rfl:k=0:=by simpa[D.w]using hk
     simpa using hc
    ·simp[R,Value.oneCell']
def arM {w:World}(h:V prog w ow (D.fz (mF l)) [] v):∃a cap,v= .slice a l.length cap/\l.length<=cap/\(l=[]\/∃b off,a=some ⟨b,off,none⟩/\b<w.heap.size/\∀(j:Nat) x,l[j]?=some x->w.cell? ⟨b,off+j,none⟩=some (.string ⟨x.toArray⟩)):=by
 have hfz:D.fz (mF l)=mF l:=by simp[D.fz,D.J2]
 rw[hfz]at h;simp only[V,R]at h;obtain⟨a,cap,h1,h2,h3,h4⟩:=h;have h1:v= .slice a (l.map dS).length cap:=by simpa using h1
 rw[aX]at h1 h2;refine⟨a,cap,h1,h2,?_⟩;rcases h4 with h4|h4|⟨b,off,s,C,e,fz,ha,hh,hn,hs,hr⟩
 ·exact .inl (by simpa using h4.2.1)
 ·exact .inl (by simpa using h4.2)
 ·refine .inr ⟨b,off,ha,Go.Dv.lt_of_heap hh,fun j x hx=> ?_⟩;have:=(Rs.iff hh).1 hr j (dS x) (by rw[aN,hx];rfl);obtain⟨hw,C',e',fz',cs,g1,g2,g3⟩:=this;have hs1:s=1:=hw.symm;subst hs1;rw[hh]at g1;obtain⟨rfl,rfl,rfl⟩:C=C'/\e=e'/\fz=fz':=by simpa using g1
  simp only[R]at g3;obtain⟨rfl,_⟩:=g3;rw[cell_of_row w b (off+j) C e fz hh];have:=g2 0 (by simp[D.w]);simpa using this
def H9 (l:List Str)(hl:l.length<=262144):fP prog 310 [mF l] (fun r=>r= .own (EK (AP l))):=by
 intro w ow vs t ht hL hnew hsz ha;obtain⟨a,cap,hv,hcap,hc⟩:=arM (ha 0 _ rfl)
 obtain rfl:vs= #[.slice a l.length cap]:=by
  apply Array.ext
  ·simpa using hsz
  ·intro i hi h2;obtain rfl:i=0:=by simpa using h2
   simpa[aF,hi]using hv
 cases a with
 |none=>
  obtain rfl:l=[]:=by
   rcases hc with h|⟨b,off,h,_⟩
   ·exact h
   ·cases h
  have he:AP []=[]:=bB (by have:=O8 [];simpa using this)
  have hsort:Calls prog 358 #[.slice none 0 0] w fun e w'=>e= .returned (.tuple #[])/\Below w.heap.size w w':=by
   refine(awW w ow _ t ht hL hnew rfl fun i d hd=> ?_).mono ?_
   ·match i,hd with
    |0,hd=>obtain rfl:=k_Option_some_inj hd;simp[D.fz,V,R,Value.oneCell']
    |i+1,hd=>simp at hd
   ·rintro e w' ⟨v,ow',r,rfl,rfl,h3,_,h5⟩;have hv:=h5 (fun _=> .un) ⟨#[],[]⟩;obtain⟨us,rfl,hu,_⟩:=hv;have:us= #[]:=by apply Array.eq_empty_of_size_eq_zero;simpa using hu
    subst this;exact⟨rfl,⟨h3.os,h3.tape,h3.output,h3.size,fun b hb=>(h3.old b hb).1⟩⟩
  refine(apZ cap w hsort).mono ?_;rintro e w' ⟨rfl,hB⟩;refine⟨_,fun b=>if b<w.heap.size then ow b else none,_,rfl,rfl,⟨hB.os,hB.tape,hB.output,hB.size,fun b hb=>⟨hB.block b hb,if_pos hb⟩,fun b hb=>if_neg (by have:=hB.size;omega)⟩,rfl,fun s a=> ?_⟩;rw[he];exact aiW
 |some a=>
  have hc':l=[]\/(a.spot=none/\∀(j:Nat) x,l[j]?=some x->w.cell? ⟨a.block,a.off+j,none⟩=some (.string ⟨x.toArray⟩)):=by
   rcases hc with h|⟨b,off,h,_,h2⟩
   ·exact .inl h
   ·cases h;exact .inr ⟨rfl,h2⟩
  refine(ap0 l a cap w hl hc').mono ?_;rintro e w' ⟨v,rfl,h1,h2⟩;obtain⟨ow',h3,h4⟩:=aeF (ow:=ow) (t:=t) h2 h1;exact⟨_,ow',_,rfl,rfl,h3,rfl,h4⟩
end Go.Proofs.YtigjbamofhdchaaGreatDoor
end
section
namespace Go.Proofs.YtigjbamofhdchaaGreatDoor
open Go.Dv Go.Pl Go.RowKit Go.Proofs.Tryz
def L6 (c:UInt8):Fk 392 [dC c] (vB (decide (97<=c.toNat)&&decide (c.toNat<=122))):=by
 refine fE [] ntmps392 fun _ _=> ?_;simp;apply gv<;>intro e
 ·have e':=e;simp[e];grind
 ·have e':=e;simp at e';simp[e];omega
def yL (c:UInt8):Fk 364 [dC c] (vB (decide (48<=c.toNat)&&decide (c.toNat<=57))):=by
 refine fE [] ntmps364 fun _ _=> ?_;simp;apply gv<;>intro e
 ·have e':=e;simp[e];grind
 ·have e':=e;simp at e';simp[e];omega
def SL (c:UInt8):Fk 386 [dC c] (vB (wL c)):=by
 refine fE [] ntmps386 fun _ _=> ?_;simp;refine ck (L6 _) ?_;simp;apply gv<;>intro e
 ·have e':=e;simp at e';simp[e];grind[wL]
 ·have e':=e;simp at e';simp[e];apply gv<;>intro f
  ·have f':=f;simp[f];apply gv<;>intro g1
   ·have g1':=g1;simp[g1];grind[wL]
   ·have g1':=g1;simp at g1';simp[g1];refine ck (yL _) ?_;simp;grind[wL]
  ·have f':=f;simp at f';simp[f];refine ck (yL _) ?_;simp;grind[wL]
def SC (c:UInt8):Fk 387 [dC c] (.val (dC (iL c))):=by
 refine fE [] ntmps387 fun _ _=> ?_;simp;apply gv<;>intro e
 ·have e':=e;simp[e];apply gw<;>intro f
  ·have hu:=abN (c:=c) (by omega) (by omega);simp[hu];simp only[inI];omega
  ·simp at f;have hu:=P6 (c:=c);simp[hu]
 ·have e':=e;simp at e';have hu:=P6 (c:=c);simp[e,hu]
def NR (c:UInt8):Fk 385 [dC c] (.val (dC (PM c))):=by
 refine fE [] ntmps385 fun _ _=> ?_;simp;refine ck (SL _) ?_;simp;apply gw<;>intro b
 ·have hu:PM c=c:=if_pos b;simp[hu]
 ·have hu:PM c=32:=if_neg (by simpa using b);simp[hu]
def aF0 {s:Str}{i:Nat}{c:UInt8}{f:UInt8->UInt8}(h:s[i]?=some c):((s.take i).map f++s.drop i)[i]?=some c/\((s.take i).map f++s.drop i).set i (f c)=(s.take (i+1)).map f++s.drop (i+1):=by
 have hi:=dM h;have hl:((s.take i).map f).length=i:=by simp;omega
 have hd:s.drop i=c::s.drop (i+1):=by rw[bN hi];rw[aB hi]at h;rw[k_Option_some_inj h]
 constructor
 ·rw[aY (by omega),hl,hd];simp
 ·rw[gG _ _ (by omega),hl,hd,List.take_succ_eq_append_getElem hi];rw[aB hi]at h;rw[k_Option_some_inj h];simp
def ax4 (f:UInt8->UInt8)(s:Str):Str:=s.map f
def apG (f:UInt8->UInt8)(s:Str)(i:Nat):Str:=(s.take i).map f++s.drop i
def agF (s:Str)(f:UInt8->UInt8)(g:FuncId)(E:Dv.Enters prog g)(U:T (1000000+g)=⟨.no,0,.any 0⟩)(G:∀c∈s,fP prog g [dC c] (fun r=>r= .val (dC (f c))))(hs:Qle s):Fk 383 [dS s,.one (.func (.func g) #[] #[])] (vS (ax4 f s)):=by
 refine fE [] ntmps383 fun _ _=> ?_;have hm0:apG f s 0=s:=rfl;simp;refine ai ?_;refine wl (fun(i:Nat)=>[(0,vS s),(1,.val (.one (.func (.func g) #[] #[]))),(5,.own (oBs (apG f s i))),(10,.al 5 []),(11,vI s.length),(12,vI i)]) (fun(i:Nat)=>s.length-i) (fun(i:Nat)=>(i<=s.length)) (0) (by omega) ?_ (h0:=by simp[E,U,hm0]);rintro i h1;simp;apply gw<;>intro a
 ·obtain⟨c,hc⟩:=aQ (l:=s) (i:=i);have hm:=aF0 (f:=f) hc;have hc1:(apG f s i)[i]?=some c:=hm.1;have hc2:((apG f s i).map dU).set i (dC (f c))=(apG f s (i+1)).map dU:=by rw[←List.map_set (f:=dU)];exact congrArg _ hm.2
  simp[E,U,hc1];refine ck ((G c (aA hc))) ?_;simp[hc1,hc2];refine nxa (i+1) (by omega)
 ·simp at a;have hm:apG f s i=ax4 f s:=by have:i=List.length s:=(by omega);subst this;simp[apG,ax4]
  simp[hm]
def aDL {w:World}{ow:Own}{vs:Array Value}{u u' u2:Value}(hs:vs.size=3)(h:∀(i:Nat) (d:D),[D.one u,D.one u',D.one u2][i]?=some d->V prog w ow d.fz [] (vs.getD i undef)):vs= #[u,u',u2]:=by
 have h0:=KN (h 0 _ rfl);have h1:=KN (h 1 _ rfl);have h3:=KN (h 2 _ rfl);apply Array.ext
 ·simpa using hs
 ·intro i hi h2;have:i=0\/i=1\/i=2:=by simp at h2;omega
  rcases this with rfl|rfl|rfl
  ·simpa[aF,hi]using h0
  ·simpa[aF,hi]using h1
  ·simpa[aF,hi]using h3
def amN (s:Str):Str:=s.filter fun c=> !decide (c=39)
def MU (s:Str)(hs:Qle s):fP prog 384 [dS s,dS [39],dS []] (fun r=>r=vS (amN s)):=
 DD (u:= .string ⟨(amN s).toArray⟩) rfl fun w ow vs hL hsz ha=>by
  obtain rfl:=aDL hsz ha;obtain⟨m,hm⟩:=(LA hL).2.2.2.1;have hc:Lib.countB ⟨s.toArray⟩ ⟨[39].toArray⟩=s.count 39:=Lib.count_one 39 s;refine(Tryz.strings_ReplaceAll ⟨s.toArray⟩ ⟨[39].toArray⟩ ⟨[].toArray⟩ m w (by simp[ByteArray.size];omega) hm (by simp[ByteArray.size]) (by rw[hc];simp[ByteArray.size];omega)).mono fun e w' ⟨h1,h2⟩=>⟨?_,h2⟩;rw[h1];show Ending.returned (.string ⟨(Lib.replaceAll s [39] []).toArray⟩)=_;rw[aeK];rfl
def MV (s:Str)(hs:Qle s:=by first|omega|grind):fP prog 382 [dS s,dS [32]] (fun r=>r=vS (ahK s)):=
 DD (u:= .string ⟨(ahK s).toArray⟩) rfl fun w ow vs hL hsz ha=>by
  obtain rfl:=ahR hsz ha;rw[azW,←azY];exact(Tryz.strings_TrimSuffix ⟨s.toArray⟩ ⟨[32].toArray⟩ w (by simp[ByteArray.size];omega)).mono fun e w' ⟨h1,h2⟩=>⟨h1,h2▸Below.refl _ _⟩
def aqC (x:Nat)(hx:x<=1114111)(w:World):Calls prog 361 #[.int .i32 x] w fun e w'=>e= .returned (.bool (isSp x))/\Below w.heap.size w w':=by
 go_enter func361,ntmps361
 go_wp2
 refine bodyPost_ret (v:= .bool (decide ((x:Int)=32))) (by simp[results,Tryz.f361,loadVar]) rfl ⟨?_,Below.refl _ _⟩;have:decide ((x:Int)=32)=isSp x:=by unfold isSp;rw[bH,decide_eq_true_eq,decide_eq_true_eq];omega
 rw[this]
def JO (s:Str)(hs:Qle s:=by first|omega|grind):Fk 352 [dS s] (vS (vG s)):=by
 refine fE [] ntmps352 fun _ _=> ?_;have hm:ax4 iL s=vG s:=rfl;simp;refine ck (agF s iL 387 aFW aGA (fun c _=>SC c) hs) ?_;simp[hm]
def SG (s:Str)(hs:Qle s):Fk 351 [dS s] (vS (xZ s)):=by
 refine fE [] ntmps351 fun _ _=> ?_;have hm:ax4 PM (amN s)=xZ s:=azJ s;have hl:(amN s).length<=s.length:=bM _ _;simp;refine ck (MU s hs) ?_;simp;refine ck (agF (amN s) PM 385 aFV aF9 (fun c _=>NR c) (by omega)) ?_;simp[hm]
def KV (s:Str)(hs:Qle s):Fk 350 [dS s] (vS (C8 s)):=by
 refine fE [] ntmps350 fun _ _=> ?_;simp;refine wlt (Nat×Str) (fun(i,o)=>([(0,vS s),(3,.own (oBs o)),(5,vS s),(6,vI s.length),(7,vI i)],s.length-i,(i<=s.length)/\(o=(s.take i).foldl UN [])/\(o.length<=i))) ((0,[])) ⟨by omega,rfl,by simp⟩ ?_;rintro⟨i,o⟩ ⟨h1,h2,h3⟩;simp;apply gw<;>intro a
 ·obtain⟨c,hc⟩:=aQ (l:=s) (i:=i);have hm:=fA UN [] hc;rw[←h2]at hm;simp[hc];apply gv<;>intro e
  ·have e':=e;have hu:UN o c=o++[c]:=if_pos (.inl (by rintro rfl;simp at e));simp[hc,e];refine nxb (i+1,o++[c]) ⟨by omega,by rw[hm,hu],by simp;omega⟩
  ·have e':=e;have hc32:c=32:=k_UInt8_toNat_inj.1 (show c.toNat=32 by omega);simp[e];apply gv<;>intro f
   ·have f':=f;obtain⟨x,hx⟩:=aQ (l:=o) (i:=o.length-1);have hj:((o.length:Int)-1).toNat=o.length-1:=by omega
    have hg:o.getLast?=some x:=by rw[List.getLast?_eq_getElem?];exact hx
    simp[f,hx,hj];iterate 2 refine ai ?_
    apply gw<;>intro b
    ·have hu:UN o c=o++[c]:=if_pos (.inr ⟨by rintro rfl;simp at f,by rw[hg];rintro h;cases h;simp at b⟩);simp[hc,e];refine nxb (i+1,o++[c]) ⟨by omega,by rw[hm,hu],by simp;omega⟩ (h3:=by simp[hc,e,f,hx,hj])
    ·have hx32:x=32:=k_UInt8_toNat_inj.1 (show x.toNat=32 by omega);have hu:UN o c=o:=if_neg (by rw[hg,hc32,hx32];simp);simp;refine nxa (i+1,o) ⟨by omega,by rw[hm,hu],by omega⟩
   ·have f':=f;simp at f';have ho:o=[]:=bB (by omega);have hu:UN o c=o:=if_neg (by rw[ho,hc32];simp);simp[f];refine nxa (i+1,o) ⟨by omega,by rw[hm,hu],by omega⟩
 ·simp at a;rw[bS a]at h2;have hce:=Y7 s;rw[←h2]at hce;simp;refine ck (MV _) ?_;simp[hce]
def nP (s:Str)(hs:Qle s:=by omega):Fk 307 [dS s] (vS (normal s)):=by
 refine fE [] ntmps307 fun _ _=> ?_;have h1:=BX s;have h2:=GQ (vG s);have hn:C8 (xZ (vG s))=normal s:=rfl;simp;refine ck (JO s (by omega)) ?_;simp;refine ck (SG (vG s) (by omega)) ?_;simp;refine ck (KV (xZ (vG s)) (by omega)) ?_;simp[hn]
end Go.Proofs.YtigjbamofhdchaaGreatDoor
end
section
namespace Go.Proofs.YtigjbamofhdchaaGreatDoor
open Go.Dv Go.Pl Go.RowKit Go.Lib Go.Proofs.Tryz
def akB:∀(s o:Str) (c:UInt8),c∈s.foldl UN o->c∈o\/c∈s
 |[],o,c,h=> .inl h
 |d::s,o,c,h=>by
  rcases akB s (UN o d) c h with h|h
  ·unfold UN at h;split at h
   ·rcases k_List_mem_append.1 h with h|h
    ·exact .inl h
    ·exact .inr (by rw[k_List_mem_singleton.1 h];exact wE)
   ·exact .inl h
  ·exact .inr (bG _ h)
variable {s:Str}{c:UInt8}
def auS (h:c∈xZ s):c.toNat<128:=by
 unfold xZ at h;obtain⟨d,_,hd⟩:=List.mem_flatMap.1 h;unfold AQ at hd;split at hd
 ·rename_i hw;rw[k_List_mem_singleton.1 hd];rcases hw with hw|hw
  ·unfold wL at hw;simp only[bI,k_Bool_and_eq_true,decide_eq_true_eq]at hw;omega
  ·omega
 ·split at hd
  ·rw[k_List_mem_singleton.1 hd];decide
  ·cases hd
def apJ (h:c∈normal s):c.toNat<128:=by
 unfold normal at h;rw[Y7]at h
 have h2:c∈(xZ (vG s)).foldl UN []:=by
  unfold ahK at h;split at h
  ·exact(List.dropLast_sublist _).subset h
  ·exact h
 rcases akB _ _ _ h2 with h3|h3
 ·cases h3
 ·exact auS h3
def J8 (s:Str):(normal s).length<=2*s.length:=by
 have h1:=BX s;have h2:=GQ (vG s);have h3:=UO (xZ (vG s));unfold normal;omega
def ahM (s:Str):(LW s).length<=s.length+1:=k_Nat_le_trans (bM _ _) (NG 32 s []).1
def asZ (s:Str)(hs:Qle s)(hA:∀c∈s,c.toNat<128):fP prog 360 [dS s,.one (.func (.func 361) #[] #[])] (fun r=>r= .own (EK (LW s))):=by
 intro w ow vs t ht hL hnew hsz ha;obtain rfl:=ahR hsz ha;refine(Tryz.strings_FieldsFunc_grows 361 #[] aFT isSp ⟨s.toArray⟩ w (by simp[ByteArray.size];omega) (fun W x hx hb=>aqC x hx W)).mono ?_;rintro e w' ⟨A,rfl,_,h1,h2⟩;have hm:=map_encStr (Lib.goFieldsP isSp ⟨s.toArray⟩);rw[af8 hA]at hm;have hl:(Lib.goFieldsP isSp ⟨s.toArray⟩).length=(LW s).length:=by rw[←af8 hA,aX]
 rw[←hm,hl]at h1;obtain⟨ow',h3,h4⟩:=aeF (ow:=ow) (t:=t) h2 h1;exact⟨_,ow',_,by rw[hl],rfl,h3,rfl,h4⟩
def ae8 (s:Str)(hs:Qle s)(hA:∀c∈s,c.toNat<128):Fk 311 [dS s] (.own (EK (LW s))):=by
 refine fE [] ntmps311 fun _ _=> ?_;simp;refine ck (asZ s hs hA) ?_;simp
def FO (s:Str)(hs:s.length<=65536:=by omega):Fk 247 [dS s] (.own (EK (tokens s))):=by
 refine fE [] ntmps247 fun _ _=> ?_;have hn:=J8 s;have hw:=ahM (normal s);have ht:=RQ s;simp;first|refine ck (nP s) ?_|refine ckz (nP s) ?_
 simp;refine ck (ae8 (normal s) (by omega) (fun c hc=>apJ hc)) ?_;simp;refine ck (H9 (LW (normal s)) (by omega)) ?_;simp[ht]
end Go.Proofs.YtigjbamofhdchaaGreatDoor
end
section
namespace Go.Proofs.YtigjbamofhdchaaGreatDoor
open Go.Dv Go.Pl Go.Proofs.Tryz
def K3 (s:Str)(hs:Qle s):Fk 402 [dS s] (vB (s.all IU)):=by
 refine fE [] ntmps402 fun _ _=> ?_;simp;refine wlt Nat (fun i=>([(0,vS s),(5,vI s.length),(6,vI i)],s.length-i,(i<=s.length)/\((s.take i).all IU=true))) (0) ⟨by omega,rfl⟩ ?_;rintro i ⟨h1,h2⟩;simp;apply gw<;>intro a
 ·obtain⟨c,hc⟩:=aQ (l:=s) (i:=i);simp[hc];refine ck (L6 c) ?_;simp;apply gv<;>intro e
  ·have e':=e;simp at e';simp[hc,e];refine ck (yL c) ?_;simp;apply gw<;>intro b
   ·simp at b;have hn:=fK hc (P:=IU) (by simp[IU]at*;omega);simp[hn]
   ·simp at b;simp;refine nxa (i+1) ⟨by omega,(bV hc h2 (by simp[IU]at*;omega))⟩
  ·have e':=e;simp at e';simp[e];refine nxa (i+1) ⟨by omega,(bV hc h2 (by simp[IU]at*;omega))⟩
 ·simp at a;have hf:=iP h2 a;simp[hf]
def aCP {c:Str}(h:c≠[]):Q5 c=c.all IU:=by rw[aCQ];simp[h]
def FN (l:List Str)(hl:Qle l)(hs:∀x∈l,Qle x):Fk 389 [mF l] (vB (pR l)):=by
 refine fE [] ntmps389 fun _ _=> ?_;simp;refine wlt Nat (fun i=>([(0,vR l),(5,vR l),(6,vI l.length),(7,vI i)],l.length-i,(i<=l.length)/\((l.take i).all Q5=true)/\(adj ltL (l.take i)=true))) (0) ⟨by omega,rfl,rfl⟩ ?_;rintro i ⟨h1,h2,h3⟩;simp;apply gw<;>intro a
 ·obtain⟨c,hc⟩:=aQ (l:=l) (i:=i);simp[hc];apply gv<;>intro e
  ·have e':=e;have hn:=fK hc (P:=Q5) (by simp[Q5,e]);simp[e];grind[pR]
  ·have e':=e;have hne:c≠[]:=by simpa using e
   have hta:=aCP hne;simp[e];refine ck (K3 c (hs c (I7 hc))) ?_;simp;apply gv<;>intro g
   ·have g':=g;simp at g';have hn:=fK hc (P:=Q5) (by rw[hta];simpa using g);simp[g];grind[pR]
   ·have g':=g;simp at g';simp[g];apply gv<;>intro f
    ·have f':=f;obtain⟨p,hp⟩:=aQ (l:=l) (i:=i-1);have hi1:i-1+1=i:=by omega
     have hj1:((i:Int)-1).toNat=i-1:=by omega
     simp[f,hp,hj1];iterate 2 refine ai ?_
     apply gw<;>intro b
     ·simp at b;have hn:=IR hp (by rw[hi1];exact hc) (R:=ltL) (by simpa using b);simp;grind[pR]
     ·simp at b;simp;refine nxa (i+1) ⟨by omega,(bV hc h2 (by rw[hta];simpa using g)),by have:=yA (i:=i-1) (by rw[hi1];exact h3) hp (by rw[hi1];exact hc) (R:=ltL) (by simpa using b);rwa [hi1]at this⟩
    ·have f':=f;simp at f';simp[f];refine nxa (i+1) ⟨by omega,(bV hc h2 (by rw[hta];simpa using g)),(by obtain rfl:i=0:=(by omega);exact uQ)⟩
 ·simp at a;have hf:=iP h2 a;rw[bS a]at h3;simp;grind[pR]
def NT (a b:List Str)(ha:Qle a)(hsa:∀x∈a,Qle x)(hb:Qle b)(hsb:∀x∈b,Qle x):Fk 354 [mF a,mF b] (vB (vL a b)):=by
 refine fE [] ntmps354 fun _ _=> ?_;simp;refine ck (FN a ha hsa) ?_;simp;apply gv<;>intro e
 ·have e':=e;simp[e];refine ck (FN b hb hsb) ?_;simp;grind[vL]
 ·have e':=e;simp[e];grind[vL]
def X7 (n d:Int)(hn:0<=n/\n<=1000000000000)(hd:0<=d/\d<=1000000000):Fk 356 [dI n,dI d] (vI (if d=0 then 1000 else n.tdiv d)):=by
 refine fE [] ntmps356 fun _ _=> ?_;simp;apply gw<;>intro b
 ·simp;omega
 ·simp;iterate 2 refine ai ?_
  omega
end Go.Proofs.YtigjbamofhdchaaGreatDoor
end
section
namespace Go.Proofs.YtigjbamofhdchaaGreatDoor
open Go.Dv Go.Pl Go.RowKit Go.Proofs.Tryz
def auQ:∀k<26,O9.getD k 0=codeOf (97+k):=by decide
def aeQ {w:World}(h:BG w){k:Nat}(hk:k<26):w.cell? ⟨0,k,none⟩=some (.int .i64 (codeOf (97+k))):=by
 have hv:=h.2.2.2.2;have hg:prog.globalNamed "loop.example/g01923/impl.soundCodes" =some 0:=by kernel_rfl
 rw[←auQ k hk];simp only[World.var?,hg,mX]at hv;have hl:k<O9.length:=hk;cases hh:w.heap[0]? with
 |none=>rw[hh]at hv;simp at hv
 |some o=>
  rw[hh]at hv;cases o with
  |cells cs e fz=>
   simp only[mX]at hv;obtain rfl:=k_Option_some_inj hv;simp only[World.cell?,hh];simp[List.getD,hl]
  |_=>simp at hv
def aET (c:UInt8)(w:World)(h:BG w):Calls prog 362 #[.int .u8 c.toNat] w fun e w'=>e= .returned (.int .i64 (aM c))/\Below w.heap.size w w':=by
 have hc:c.toNat<256:=c.toNat_lt;have hs:=aa9 c;by_cases h1:65<=c.toNat/\c.toNat<=90
 ·have hu:=abN h1.1 h1.2;have hcell:=aeQ h (k:=c.toNat-65) (by omega);rw[if_pos (by omega),hu]at hs;rw[show 97+(c.toNat-65)=c.toNat+32 by omega]at hcell;go_enter func362,ntmps362
  go_wp2
  all_goals first
   |(refine bodyPost_ret (v:= .int .i64 (aM c)) ?_ rfl ⟨rfl,Below.refl _ _⟩;simp[results,Tryz.f362,loadVar,hs];done)
   |(refine bodyPost_ret (v:= .int .i64 (-2)) ?_ rfl ⟨rfl,Below.refl _ _⟩;simp[results,Tryz.f362,loadVar];done)
   |(exfalso;rename_i h9;simp at h9;omega)
   |(exfalso;omega)
   |(exfalso;rename_i h8 h9;simp at h8 h9;omega)
 ·have hu:=P6 h1;rw[hu]at hs;by_cases h2:97<=c.toNat/\c.toNat<=122
  ·have hcell:=aeQ h (k:=c.toNat-97) (by omega);rw[if_pos h2]at hs;rw[show 97+(c.toNat-97)=c.toNat by omega]at hcell;go_enter func362,ntmps362
   go_wp2
   all_goals first
    |(refine bodyPost_ret (v:= .int .i64 (aM c)) ?_ rfl ⟨rfl,Below.refl _ _⟩;simp[results,Tryz.f362,loadVar,hs];done)
    |(refine bodyPost_ret (v:= .int .i64 (-2)) ?_ rfl ⟨rfl,Below.refl _ _⟩;simp[results,Tryz.f362,loadVar];done)
    |(exfalso;rename_i h9;simp at h9;omega)
    |(exfalso;omega)
    |(exfalso;rename_i h8 h9;simp at h8 h9;omega)
  ·rw[if_neg h2]at hs;go_enter func362,ntmps362
   go_wp2
   all_goals first
    |(refine bodyPost_ret (v:= .int .i64 (aM c)) ?_ rfl ⟨rfl,Below.refl _ _⟩;simp[results,Tryz.f362,loadVar,hs];done)
    |(refine bodyPost_ret (v:= .int .i64 (-2)) ?_ rfl ⟨rfl,Below.refl _ _⟩;simp[results,Tryz.f362,loadVar];done)
    |(exfalso;rename_i h9;simp at h9;omega)
    |(exfalso;omega)
    |(exfalso;rename_i h8 h9;simp at h8 h9;omega)
    |(exfalso;simp only[Bool.not_eq_eq_eq_not,wT,decide_eq_true_eq]at*;omega)
def H5 (c:UInt8):fP prog 362 [dC c] (fun r=>r=vI (aM c)):=
 DD (u:= .int .i64 (aM c)) rfl fun w ow vs hL hs ha=>by
  obtain rfl:=XQ hs ha;exact aET c w (LA hL)
end Go.Proofs.YtigjbamofhdchaaGreatDoor
end
section
namespace Go.Proofs.YtigjbamofhdchaaGreatDoor
open Go.Dv Go.Pl Go.Proofs.Tryz
def okC (c:UInt8):Bool:=decide (aM c≠ -2)
def aCM (c0:UInt8)(r:Str)(i:Nat):Str×Int:=(r.take (i-1)).foldl rR ([iL c0],aM c0)
variable {i:Nat}
def auM (c0:UInt8)(r:Str){c:UInt8}(hi:0<i)(h:(c0::r)[i]?=some c):aCM c0 r (i+1)=rR (aCM c0 r i) c:=by
 obtain⟨j,rfl⟩:∃j,i=j+1:=⟨i-1,by omega⟩;rw[qN]at h;exact fA rR _ h
def aaD (s:Str)(hs:s.length<=65536):Fk 312 [dS s] (vS (jD s)):=by
 refine fE [] ntmps312 fun _ _=> ?_;simp;apply gw<;>intro a
 ·have hx:jD s=[]:=if_pos (.inl (by simpa using a));simp[hx]
 ·obtain⟨c0,r,rfl⟩:∃c r,s=c::r:=by cases s with|nil=>simp at a|cons c r=>exact⟨c,r,rfl⟩
  have hf:vG [c0]=[iL c0]:=rfl;have hrl:r.length<=65536:=by simp at hs;omega
  simp;refine ck (JO [c0]) ?_;simp[hf];refine ck (H5 c0) ?_;simp;refine wlt (Nat×Str×Int) (fun(i,o,p)=>([(0,vS (c0::r)),(3,.own (oBs o)),(4,vI p),(16,vS (c0::r)),(17,vI (r.length+1)),(18,vI i)],(r.length+1)-i,(i<=r.length+1)/\(((c0::r).take i).all okC=true)/\((o,p)=aCM c0 r i)/\(1<=o.length/\o.length<=i+1))) ((0,[iL c0],aM c0)) ⟨by omega,rfl,rfl,by simp⟩ ?_;rintro⟨i,o,p⟩ ⟨h1,h2,h3,h4⟩;simp;apply gw<;>intro b
  ·obtain⟨c,hc⟩:=aQ (l:=c0::r) (i:=i) (by simp;omega);have hle:=XG c;simp[hc];refine ck (H5 c) ?_;simp;apply gw<;>intro d
   ·have hn:=fK hc (P:=okC) (by simp[okC,d]);have hx:=ap2 hn;simp[hx]
   ·have hok:okC c:=by simp[okC,d]
    simp;apply gv<;>intro e
    ·have e':=e;obtain rfl:i=0:=by omega
     simp;refine nxa (1,o,p) ⟨by omega,(bV hc h2 hok),h3,by omega⟩
    ·have e':=e;have hst:=auM c0 r (by omega) hc;rw[←h3]at hst;simp[e];apply gw<;>intro f
     ·have hs1:rR (o,p) c=(o,p):=by simp only[rR];rw[if_neg (by omega),if_neg (by omega)]
      simp;refine nxa (i+1,o,p) ⟨by omega,(bV hc h2 hok),by rw[hst,hs1],by omega⟩
     ·simp at f;simp;apply gv<;>intro g
      ·have g':=g;simp[g];apply gw<;>intro k
       ·have hs1:rR (o,p) c=(o++[UInt8.ofNat (48+aM c).toNat],aM c):=by simp only[rR];rw[if_pos ⟨by omega,k⟩,if_pos (by omega)]
        have hu:((UInt8.ofNat (48+aM c).toNat).toNat:Int)=48+aM c:=by simp;omega
        have hw:IntKind.u8.wrap (48+aM c)=max (48+aM c) 0 % 256:=by simp[IntKind.wrap,IntKind.bits,IntKind.signed];omega
        simp[hw];refine nxd (i+1,o++[UInt8.ofNat (48+aM c).toNat],aM c) ⟨by omega,(bV hc h2 hok),by rw[hst,hs1],by simp;omega⟩
       ·have hs1:rR (o,p) c=(o,aM c):=by simp only[rR];rw[if_neg (by rintro⟨_,h⟩;exact h (by omega)),if_pos (by omega)]
        simp;refine nxa (i+1,o,aM c) ⟨by omega,(bV hc h2 hok),by rw[hst,hs1],by omega⟩
      ·have g':=g;simp at g';have hs1:rR (o,p) c=(o,aM c):=by simp only[rR];rw[if_neg (by omega),if_pos (by omega)]
       simp[g];refine nxa (i+1,o,aM c) ⟨by omega,(bV hc h2 hok),by rw[hst,hs1],by omega⟩
  ·simp at b;obtain rfl:i=r.length+1:=by omega
   rw[k_List_take_of_length_le (by simp)]at h2;have hse:=ap1 c0 r h2;have ho:(r.foldl rR ([iL c0],aM c0)).1=o:=by have:=congrArg Prod.fst h3;simpa[aCM]using this.symm
   rw[ho]at hse;simp[hse];refine ai ?_;omega
def auV (s:Str):(tokens s).length<=2*s.length+1:=by
 rw[←RQ];have h1:=O8 (LW (normal s));have h2:=ahM (normal s);have h3:=J8 s;omega
def adV (l:List Str)(i:Nat):List Str:=alK (l.take i)
def apD {l:List Str}{c:Str}(h:l[i]?=some c):adV l (i+1)=adV l i++if jD c=[]then[]else[jD c]:=by
 unfold adV alK;rw[dX h,jB,gY];congr 1;by_cases hc:jD c=[]<;>simp[hc]
def H6 (s:Str)(hs:s.length<=4096):Fk 248 [dS s] (.own (EK (lY s))):=by
 refine fE [] ntmps248 fun _ _=> ?_;have hk:=alL s;have ht:=auV s;have hel:∀x∈tokens s,x.length<=65536:=fun x hx=>by have h1:=((UC s).2 x).1 hx;have h2:=(NG 32 (normal s) []).2 x h1.1;have h3:=J8 s;simp at h2;omega
 simp;refine ck (FO s) ?_;generalize tokens s=l at*
 simp;refine wlt (Nat×List Str) (fun(i,o)=>([(3,.own (EK o)),(8,.own (EK l)),(9,vI l.length),(10,vI i)],l.length-i,(i<=l.length)/\(o=adV l i)/\(o.length<=i))) ((0,[])) ⟨by omega,rfl,by simp⟩ ?_;rintro⟨i,o⟩ ⟨h1,h2,h3⟩;simp;apply gw<;>intro a
 ·obtain⟨c,hc⟩:=aQ (l:=l) (i:=i);have hst:=apD hc;simp[hc];refine ck (aaD c (hel c (aA hc))) ?_;simp;apply gw<;>intro b
  ·have hu:adV l (i+1)=o++[jD c]:=by rw[hst,if_neg b,h2]
   simp;refine nxb (i+1,o++[jD c]) ⟨by omega,hu.symm,by simp;omega⟩
  ·have hu:adV l (i+1)=o:=by rw[hst,if_pos b,dQ,h2]
   simp;refine nxa (i+1,o) ⟨by omega,hu.symm,by omega⟩
 ·simp at a;have ho:o=alK l:=by rw[h2,adV,k_List_take_of_length_le (by omega)]
  rw[←ho]at hk;simp;refine ck (H9 o (by omega)) ?_;simp[hk]
end Go.Proofs.YtigjbamofhdchaaGreatDoor
end
section
namespace Go.Proofs.YtigjbamofhdchaaGreatDoor
open Go.Dv Go.Pl Go.RowKit Go.Proofs.Tryz
def aa2 (n:Int)(hn: -9223372036854775808<=n/\n<=9223372036854775807):fP prog 414 [dI n] (fun r=>r=vS (xL n)):=
 DD (u:= .string ⟨(xL n).toArray⟩) rfl fun w ow vs hL hs ha=>by
  obtain rfl:=XQ hs ha;rw[←aBA];exact(Tryz.strconv_Itoa n hn.1 hn.2 w (LA hL).1).mono fun e w' ⟨h1,k,os,h2⟩=>⟨h1,h2▸below_grow⟩
def F6 (s:Str)(v:Int)(hs:Qle s)(h:Lib.atoiAll s= .ok v):fP prog 393 [dS s] (fun r=>r= .tup [vI v,.val (.one .nilIface)]):=by
 refine awX (us:=[.int .i64 v,.nilIface]) (by simp[Value.oneCell']) fun w ow vs hL hsz ha=> ?_;obtain rfl:=XQ hsz ha;refine(Tryz.strconv_Atoi_ok ⟨s.toArray⟩ (by simp[ByteArray.size];omega) v h w).mono fun e w' ⟨h1,h2⟩=>⟨h1,?_⟩;rcases h2 with rfl|⟨t,rfl⟩
 ·exact Below.refl _ _
 ·exact Lib.bytesWorld_below w _ t
def TB (s:Str)(hs:Qle s)(h:∀v,Lib.atoiAll s≠ .ok v):fP prog 393 [dS s] (fun r=>∃k tp p,r= .tup [vI k,.val (.one (.iface tp p))]):=by
 have hsz:(⟨s.toArray⟩:ByteArray).size<=281474976710656:=by simp[ByteArray.size];omega
 have key:∀(w:World) (ow:Own) (vs:Array Value) (t:Nat),Laid w ow->vs.size=1->(∀(i:Nat) (d:D),[dS s][i]?=some d->V prog w ow d.fz [] (vs.getD i undef))->Calls prog 393 vs w fun e w'=>∃k tp p,e= .returned (.tuple #[.int .i64 k,.iface tp p])/\Below w.heap.size w w':=by
  intro w ow vs t hL h1 h2;obtain rfl:=XQ h1 h2;obtain⟨_,⟨t1,p1,hv1⟩,⟨t2,p2,hv2⟩,_⟩:=LA hL;by_cases hr:Lib.atoiAll s= .range
  ·exact(Tryz.strconv_Atoi_range_var ⟨s.toArray⟩ hsz hr t2 p2 w hv2).mono fun e w' ⟨N,g1,_,_,g4⟩=>⟨_,_,_,g1,g4⟩
  ·exact(Tryz.strconv_Atoi_syntax_var ⟨s.toArray⟩ hsz h hr t1 p1 w hv1).mono fun e w' ⟨N,g1,_,_,g4⟩=>⟨_,_,_,g1,g4⟩
 intro w ow vs t ht hL hnew hvs hargs;refine(key w ow vs t hL hvs hargs).mono ?_;rintro e w' ⟨k,tp,p,rfl,hB⟩;refine⟨_,fun b=>if b<w.heap.size then ow b else none,_,rfl,⟨k,tp,p,rfl⟩,⟨hB.os,hB.tape,hB.output,hB.size,fun b hb=>⟨hB.block b hb,if_pos hb⟩,fun b hb=>if_neg (by have:=hB.size;omega)⟩,rfl,fun s a=> ?_⟩;refine⟨_,rfl,by simp,fun k x hx=> ?_⟩
 match k,hx with
 |0,hx=>obtain rfl:=k_Option_some_inj hx;simp[D.fz,V,R,aF,Value.oneCell']
 |1,hx=>obtain rfl:=k_Option_some_inj hx;simp[D.fz,V,R,aF,Value.oneCell']
def aiH (s:Str):Int:=if nA s=true then lJ s else 0
def abL (s:Str):aiH s=if nA s=true then lJ s else 0:=rfl
def HY (n:Int)(hn: -9223372036854775808<=n/\n<=9223372036854775807):Fk 394 [dI n] (vS (xL n)):=by
 refine fE [] ntmps394 fun _ _=> ?_;simp;refine ck (aa2 n hn) ?_;simp
def as2 (s:Str)(hs:Qle s)(hp:nA s):Fk 363 [dS s] (.tup [vI (aiH s),vB (nA s)]):=by
 refine fE [] ntmps363 fun _ _=> ?_;have hv:=auE hp;have hf:xL (lJ s)=s:=by simp only[nA,k_Bool_and_eq_true,decide_eq_true_eq]at hp;exact hp.2
 have ha:Lib.atoiAll s= .ok (lJ s):=(congrArg Lib.atoiAll hf.symm).trans (avO hv);have hg:aiH s=lJ s:=by rw[abL,if_pos hp]
 simp;refine ck (F6 s (lJ s) hs ha) ?_;simp;refine ck (HY (lJ s) (by omega)) ?_;simp[hf];refine ck (bD (lJ s) (-999999999) 999999999) ?_;simp;apply gw<;>intro g
 ·simp at g;simp;refine ai ?_;exfalso;omega
 ·simp at g;simp;refine ai ?_;simp[hp]
def as0 (s:Str)(v:Int)(hs:Qle s)(hp:nA s=false)(ha:Lib.atoiAll s= .ok v)(hv: -9223372036854775808<=v/\v<=9223372036854775807):Fk 363 [dS s] (.tup [vI (aiH s),vB (nA s)]):=by
 refine fE [] ntmps363 fun _ _=> ?_;have hg:aiH s=0:=by rw[abL,if_neg (by simp[hp])]
 simp;refine ck (F6 s v hs ha) ?_;simp;refine ck (HY v hv) ?_;simp;apply gv<;>intro e
 ·have e':=e;simp[e];refine ai ?_;simp[hp]
 ·have e':=e;simp[e];refine ck (bD v (-999999999) 999999999) ?_;simp;apply gw<;>intro g
  ·simp at g;simp;refine ai ?_;simp[hp]
  ·simp at g;simp;have h2:=(auF (n:=v) (by omega)).1;all_goals(rw[e']at h2;rw[hp]at h2;cases h2)
def as1 (s:Str)(hs:Qle s)(hp:nA s=false)(ha:∀v,Lib.atoiAll s≠ .ok v):Fk 363 [dS s] (.tup [vI (aiH s),vB (nA s)]):=by
 refine fE [] ntmps363 fun _ _=> ?_;have hg:aiH s=0:=by rw[abL,if_neg (by simp[hp])]
 simp;refine fC (TB s hs ha) (by simp) ?_;rintro r ⟨k,tp,p,rfl⟩;refine⟨by simp,?_⟩;simp;refine ai ?_;simp[hp]
def X5 (s:Str)(hs:Qle s):Fk 363 [dS s] (.tup [vI (aiH s),vB (nA s)]):=by
 cases hp:nA s with
 |true=>rw[←hp];exact as2 s hs hp
 |false=>
  rw[←hp];by_cases ha:∃v,Lib.atoiAll s= .ok v
  ·obtain⟨v,ha⟩:=ha;exact as0 s v hs hp ha (Lib.atoiAll_bounds ha)
  ·exact as1 s hs hp fun v h=>ha ⟨v,h⟩
def HZ (s:Str)(hs:Qle s):Fk 313 [dS s] (vI (iW s)):=by
 refine fE [] ntmps313 fun _ _=> ?_;have hg:=abL s;simp;refine ck (X5 s hs) ?_;simp;apply gv<;>intro a
 ·have a':=a;have hgv:aiH s=lJ s:=by rw[hg,if_pos a]
  simp[a,hgv];refine ck (bD (lJ s) 1000 9999) ?_;simp;apply gw<;>intro b
  ·simp at b;simp;grind[iW]
  ·simp at b;simp;grind[iW]
 ·have a':=a;simp[a];grind[iW]
def WU (s:Str):0<=iW s/\iW s<=9999:=by
 unfold iW;split
 ·rename_i h;simp only[inR,decide_eq_true_eq]at h;omega
 ·omega
def ayC (x y z:Int):max (x-y) (y-x)=max x y-min x y:=by omega
def QQ (x y z:Int):Fk 314 [dI x,dI y,dI z] (vI (mP x y z)):=by
 refine fE [] ntmps314 fun _ _=> ?_;simp;refine ck (bD x 0 9999) ?_;simp;apply gv<;>intro e
 ·have e':=e;simp at e';simp[e];all_goals(simp only[mP];rw[if_neg (by intro h;simp_all;omega)])
 ·have e':=e;simp at e';simp[e];refine ck (bD y 0 9999) ?_;simp;apply gv<;>intro f
  ·have f':=f;simp at f';simp[f];all_goals(simp only[mP];rw[if_neg (by intro h;simp_all;omega)])
  ·have f':=f;simp at f';simp[f];refine ck (bD z 1 9999) ?_;simp;apply gw<;>intro g
   ·simp at g;simp;all_goals(simp only[mP];rw[if_neg (by intro h;simp_all;omega)])
   ·simp at g;have hxy:inR x 0 9999=true/\inR y 0 9999=true/\inR z 1 9999:=by simp_all
    have hnc:=ayC x y z;obtain⟨D,hD⟩:∃D,max x y-min x y=D:=⟨_,rfl⟩;have hns:mP x y z=if D>=z then 0 else(1000*(z-D)).tdiv z:=by rw[mP,if_pos hxy,hD]
    rw[hD]at hnc;have hb:0<=D/\D<=9999/\ -9999<=x-y/\x-y<=9999/\1<=z/\z<=9999:=by simp at hxy;omega
    clear hxy;have hm:(1000*max (z-D) 0).tdiv z=mP x y z:=by rw[hns];split;(rw[show max (z-D) 0=0 by omega];simp);(rw[show max (z-D) 0=z-D by omega])
    have hz0:¬z=0:=by omega
    have hq:=J4 (a:=1000*max (z-D) 0) (b:=z);simp[hnc,hm,hz0];iterate 4 refine ai ?_
    grind
def VA (x y:Str)(hx:Qle x)(hy:Qle y):Fk 249 [dS x,dS y] (vI (tL x y)):=by
 refine fE [] ntmps249 fun _ _=> ?_;have hxp:=WU x;have hyp:=WU y;simp;refine ck (HZ x hx) ?_;simp;refine ck (HZ y hy) ?_;simp;apply gv<;>intro e
 ·have e':=e;have hs:tL x y=0:=if_neg (by omega);simp[e,hs]
 ·have e':=e;simp[e];apply gw<;>intro f
  ·have hs:tL x y=0:=if_neg (by omega);simp[hs]
  ·have hs:tL x y=mP (iW x) (iW y) 10:=if_pos (by omega);simp;refine ck (QQ _ _ _) ?_;simp[hs]
def JN (s:Str)(hs:Qle s):Fk 315 [dS s] (vS (digits s)):=by
 refine fE [] ntmps315 fun _ _=> ?_;simp;refine wlt (Nat×Str) (fun(i,o)=>([(0,vS s),(3,.own (oBs o)),(5,vS s),(6,vI s.length),(7,vI i)],s.length-i,(i<=s.length)/\(o=(s.take i).filter (fun c=>decide (48<=c.toNat/\c.toNat<=57)))/\(o.length<=i))) ((0,[])) ⟨by omega,rfl,by simp⟩ ?_;rintro⟨i,o⟩ ⟨h1,h2,h3⟩;simp;apply gw<;>intro a
 ·obtain⟨c,hc⟩:=aQ (l:=s) (i:=i);have hm:=zA (fun c:UInt8=>decide (48<=c.toNat/\c.toNat<=57)) hc;rw[←h2]at hm;simp[hc];refine ck (yL c) ?_;simp;apply gw<;>intro f
  ·simp at f;have hd:(decide (48<=c.toNat/\c.toNat<=57))=true:=by simp at f|-;omega
   simp[hc];refine nxb (i+1,o++[c]) ⟨by omega,by rw[hm,hd];rfl,by simp;omega⟩
  ·simp at f;have hd:(decide (48<=c.toNat/\c.toNat<=57))=false:=by simp at f|-;omega
   simp;refine nxa (i+1,o) ⟨by omega,by rw[hm,hd];simp,by omega⟩
 ·simp at a;rw[bS a]at h2;simp;grind[digits]
def DJ (s p:Str)(hs:Qle s:=by first|omega|grind):fP prog 316 [dS s,dS p] (fun r=>r=vB (p.isSuffixOf s)):=
 DD (u:= .bool (p.isSuffixOf s)) rfl fun w ow vs hL hsz ha=>by
  obtain rfl:=ahR hsz ha;exact(Tryz.strings_HasSuffix ⟨s.toArray⟩ ⟨p.toArray⟩ w (by simp[ByteArray.size];omega)).mono fun e w' ⟨h1,h2⟩=>⟨h1,h2▸Below.refl _ _⟩
def SF (x y:Str)(hx:Qle x)(hy:Qle y):Fk 250 [dS x,dS y] (vI (rQ x y)):=by
 refine fE [5] ntmps250 fun _ _=> ?_;have hdx:(digits x).length<=x.length:=bM _ _;have hdy:(digits y).length<=y.length:=bM _ _;have hps:rQ x y=IL (digits x) (digits y):=rfl;simp;refine ck (JN x hx) ?_;simp;refine ck (JN y hy) ?_;generalize digits x=p at*
 generalize digits y=q at*
 simp;refine an0 (fun(n:Nat)=>[(5,vS p),(6,vS q),(7,vI n)]) (fun(n:Nat)=>(shared p.reverse q.reverse=n)/\(n<=p.length/\n<=q.length)) ?_ ?_
 ·simp;refine wlt Nat (fun n=>([(5,vS p),(6,vS q),(7,vI n)],p.length-n,(n<=p.length/\n<=q.length)/\(shared p.reverse q.reverse=n+shared (p.reverse.drop n) (q.reverse.drop n)))) (0) ⟨by omega,by simp⟩ ?_;rintro n ⟨h1,h2⟩;simp;refine wdr ?_;simp;apply gv<;>intro a
  ·have a':=a;simp[a];apply gv<;>intro b
   ·have b':=b;have hk:((p.length:Int)-1-n).toNat=p.length-1-n:=by omega
    have hk2:((q.length:Int)-1-n).toNat=q.length-1-n:=by omega
    have hcx:=abS (s:=p) (i:=n);have hcy:=abS (s:=q) (i:=n);have hss:=Z0 (p:=p.reverse) (q:=q.reverse) (i:=n) (by simp;omega) (by simp;omega);simp[b,hk,hk2,hcx,hcy];iterate 6 refine ai ?_
    apply gw<;>intro f
    ·simp;refine nxa (n+1) ⟨by omega,by rw[h2,hss,if_pos (by simpa using f)];omega⟩
    ·simp;refine jn (n) ⟨by rw[h2,hss,if_neg (by simpa using f)];rfl,h1⟩
   ·have b':=b;simp at b';simp[b];refine jn (n) ⟨by rw[h2,LK (.inr (by simp;omega))];rfl,h1⟩
  ·have a':=a;simp at a';simp[a];refine jn (n) ⟨by rw[h2,LK (.inl (by simp;omega))];rfl,h1⟩
 rintro n ⟨h5,h6⟩;have hpe:=apO p q;rw[h5,←hps]at hpe;refine MX (fun(_:Unit)=>[(5,vS p)]) (fun(_:Unit)=>(rQ x y=400)) ?_ ?_
 ·simp;apply gv<;>intro a
  ·have a':=a;rw[if_pos (by omega)]at hpe;simp[a,hpe]
  ·have a':=a;simp at a';simp[a];apply gv<;>intro b
   ·have b':=b;rw[if_pos (by omega)]at hpe;simp[b,hpe]
   ·have b':=b;simp at b';simp[b];apply gw<;>intro d
    ·rw[if_pos (by omega)]at hpe;simp[hpe]
    ·simp at d;rw[if_neg (by omega)]at hpe;simp;apply gw<;>intro e
     ·rw[if_pos (by simpa using e)]at hpe;simp[hpe]
     ·rw[if_neg (by simpa using e)]at hpe;simp;apply gv<;>intro f
      ·have f':=f;rw[if_pos (.inl (by omega))]at hpe;simp[f,hpe]
      ·have f':=f;simp at f';simp[f];refine ck (DJ p q) ?_;simp;apply gv<;>intro g
       ·have g':=g;simp at g';rw[if_pos (.inr (.inl (by simpa using g)))]at hpe;simp[g,hpe]
       ·have g':=g;simp[g];refine ck (DJ q p) ?_;simp;apply gw<;>intro l
        ·simp at l;rw[if_pos (.inr (.inr (nY.2 l)))]at hpe;simp[hpe]
        ·rw[if_neg (by rintro(h|h|h);(omega);(exact absurd (h.symm.trans g) (by simp));(exact absurd (h.symm.trans l) (by simp)))]at hpe;simp;refine jn (()) (hpe)
 rintro⟨⟩ h7;simp;omega
end Go.Proofs.YtigjbamofhdchaaGreatDoor
end
section
namespace Go.Proofs.YtigjbamofhdchaaGreatDoor
open Go.Dv Go.Pl Go.Proofs.Tryz
def edB (x y:Str)(i:Nat):L2:=edT x y false i++List.replicate (x.length+1-i) []
def awF (x y:Str):List.replicate (x.length+1) (D.sl (some 3) [])=(edB x y 0).map dG:=by
 show _=(List.replicate (x.length+1) ([]:L1)).map dG;rw[wD];rfl
variable {i:Nat}
def aAE (x y:Str)(h:i<=x.length+1):(edB x y i).length=x.length+1:=by simp[edB,CU];omega
def aDT (x y:Str)(h:i<=x.length):(edB x y i)[i]?=some []:=by
 unfold edB;rw[aY (by (try unfold Qle);rw[CU];omega),CU,eZ,if_pos (by omega)]
def aAG (x y:Str)(h:i<=x.length)(r:L1):(edB x y i).set i r=edT x y false i++r::List.replicate (x.length-i) []:=by
 unfold edB;rw[gG _ _ (by (try unfold Qle);rw[CU];omega),CU,eH,show x.length+1-i=(x.length-i)+1 by omega,fJ];rfl
def aAF (x y:Str)(h:i<=x.length):((edB x y i).map dG).set i (D.sl (some 3) (List.replicate (y.length+1) (dI 0)))=(edU x y false i 0).map dG:=by
 have e:(D.sl (some 3) (List.replicate (y.length+1) (dI 0)))=dG (List.replicate (y.length+1) 0):=by rw[←List.map_replicate]
 rw[e,←List.map_set,aAG x y h];rfl
def aAL (x y:Str)(h:i<=x.length):edU x y false i (y.length+1)=edB x y (i+1):=by
 unfold edU edB;rw[aAH,awH,show x.length+1-(i+1)=x.length-i by omega,bO];rfl
def aAN (x y:Str){k:Nat}(hk:k<=y.length):((edU x y false i k).map dG).set i (D.sl (some 3) (((edP x y false i k).map dI).set k (dI (ed x y false i k))))=(edU x y false i (k+1)).map dG:=by
 have h1:((edP x y false i k).map dI).set k (dI (ed x y false i k))=(edP x y false i (k+1)).map dI:=by rw[←List.map_set,aAK hk]
 rw[h1];have h2:(edU x y false i k).set i (edP x y false i (k+1))=edU x y false i (k+1):=by rw[aAO];rfl
 rw[←h2,kD]
def aAQ (x y:Str)(i k:Nat):min (min (ed x y false i (k+1)+1) (ed x y false (i+1) k+1)) (ed x y false i k+if chr x i=chr y k then 0 else 1)=ed x y false (i+1) (k+1):=by
 rw[aDW];unfold edV;rw[ed];simp[vK]
def aiC (x y:Str)(hx:x.length<=40)(hy:y.length<=40):Fk 401 [dS x,dS y,dB false] (.own (mQ (edB x y (x.length+1)))):=by
 refine fE [] ntmps401 fun _ _=> ?_;have hz:=awF x y;have hz2:=aAE x y (i:=0) (by omega);simp[hz,hz2];iterate 3 refine ai ?_
 refine wl (fun(i:Nat)=>[(0,vS x),(1,vS y),(2,vB false),(7,.own (mQ (edB x y i))),(16,vI (x.length+1)),(17,vI i)]) (fun(i:Nat)=>x.length+1-i) (fun(i:Nat)=>(i<=x.length+1)) (0) (by omega) ?_;rintro i h1;simp;apply gw<;>intro a
 ·have hb1:=aDT x y (i:=i) (by omega);have hb2:=aAF x y (i:=i) (by omega);have hb3:=aqU (x:=x) (y:=y) (tr:=false) i 0;have hb4:=aAJ (x:=x) (y:=y) (tr:=false) (i:=i) (k:=0) (by omega);simp[hb1,hb2,hb3,hb4];iterate 3 refine ai ?_
  refine wl (fun(k:Nat)=>[(0,vS x),(1,vS y),(2,vB false),(7,.own (mQ (edU x y false i k))),(8,vI i),(16,vI (x.length+1)),(17,vI i),(31,vI (y.length+1)),(32,vI k)]) (fun(k:Nat)=>y.length+1-k) (fun(k:Nat)=>(k<=y.length+1)) (0) (by omega) ?_;rintro k h2;simp;apply gw<;>intro b
  ·have hn:=aqU (x:=x) (y:=y) (tr:=false) i k;have hp:=aDU (x:=x) (y:=y) (tr:=false) (i:=i) (k:=k) (by omega);have hput:=aAN x y (i:=i) (k:=k) (by omega);simp;apply gw<;>intro c
   ·have he:ed x y false i k=k:=by rw[show i=0 by omega,ed]
    rw[he]at hput;simp[hn,hp,hput];refine nxa (k+1) (by omega)
   ·simp;apply gw<;>intro d
    ·have he:ed x y false i k=i:=by obtain⟨j,rfl⟩:∃j,i=j+1:=⟨i-1,by omega⟩;rw[show k=0 by omega,ed]
     rw[he]at hput;simp[hn,hp,hput];refine nxa (k+1) (by omega)
    ·obtain⟨i,rfl⟩:∃j,i=j+1:=⟨i-1,by omega⟩;obtain⟨k,rfl⟩:∃j,k=j+1:=⟨k-1,by omega⟩;have e1:((i+1:Nat):Int)-1=i:=by omega
     have e2:((k+1:Nat):Int)-1=k:=by omega
     have hcx:=zQ (s:=x) (i:=i);have hcy:=zQ (s:=y) (i:=k);have ho:=aAM (x:=x) (y:=y) (tr:=false) (i:=i+1) (k:=k+1) (j:=i) (by omega);have r1:=abI (x:=x) (y:=y) (tr:=false) (i:=i) (k:=y.length+1) (j:=k+1);have r2:=abI (x:=x) (y:=y) (tr:=false) (i:=i) (k:=y.length+1) (j:=k);have r3:=aAI (x:=x) (y:=y) (tr:=false) (i:=i+1) (k:=k+1) (j:=k) (by omega);have l1:=aoR (x:=x) (y:=y) (tr:=false) i (k+1);have l2:=aoR (x:=x) (y:=y) (tr:=false) i k;have l3:=aoR (x:=x) (y:=y) (tr:=false) (i+1) k;have hst:=aAQ x y i k;simp;refine wdr ?_;simp[hcx,hcy];iterate 2 refine ai ?_
     apply gw<;>intro f
     ·rw[if_pos f,Int.add_zero]at hst;have hs2:min (min (ed x y false i (k+1)) (ed x y false (i+1) k)+1) (ed x y false i k)=ed x y false (i+1) (k+1):=by omega
      simp;refine wdt 36 ?_;simp[hn,hp,ho,r1,r2,r3,hs2,hput];iterate 11 refine ai ?_
      refine wdr ?_;simp;refine nxa (k+1+1) (by omega)
     ·rw[if_neg f]at hst;have hs2:min (ed x y false i (k+1)) (min (ed x y false (i+1) k) (ed x y false i k))+1=ed x y false (i+1) (k+1):=by omega
      simp;refine wdt 36 ?_;simp[hn,hp,ho,r1,r2,r3,hs2,hput];iterate 11 refine ai ?_
      refine wdr ?_;simp;refine nxa (k+1+1) (by omega)
  ·simp at b;have hk:edU x y false i k=edB x y (i+1):=by rw[show k=y.length+1 by omega];exact aAL x y (by omega)
   simp[hk];refine nxa (i+1) (by omega)
 ·simp at a;have hi:edB x y i=edB x y (x.length+1):=by rw[show i=x.length+1 by omega]
  simp[hi]
variable {x y:Str}
def aFK (hx:x.length<=40)(hy:y.length<=40):qK x y=ed x y false x.length y.length:=by rw[X3,if_pos (by simp[FK];omega)]
def awE (x y:Str):(edB x y (x.length+1))[x.length]?=some (edR x y false x.length (y.length+1)):=by
 unfold edB;rw[eH,List.replicate_zero,dQ];exact aqT (by omega)
def aFL (h:40<x.length\/40<y.length):qK x y= -1:=by
 unfold qK;rw[if_neg];simp only[FK,k_Bool_and_eq_true,decide_eq_true_eq];omega
def aAW (x y:Str)(hx:Qle x)(hy:Qle y):Fk 388 [dS x,dS y,dB false] (vI (qK x y)):=by
 refine fE [] ntmps388 fun _ _=> ?_;simp;apply gv<;>intro a
 ·have a':=a;have hn:=aFL (x:=x) (y:=y) (.inl (by omega));simp[a,hn]
 ·have a':=a;simp at a';simp[a];apply gw<;>intro b
  ·have hn:=aFL (x:=x) (y:=y) (.inr (by omega));simp[hn]
  ·simp at b;have hf:=aFK (x:=x) (y:=y) (by omega) (by omega);have h1:=awE x y;have h2:=abI (x:=x) (y:=y) (tr:=false) (i:=x.length) (k:=y.length+1) (j:=y.length);simp;refine ck (aiC x y (by omega) (by omega)) ?_;simp[h1,h2,hf]
def NL (x y:Str)(hx:Qle x)(hy:Qle y):Fk 353 [dS x,dS y] (vI (qK x y)):=by
 refine fE [] ntmps353 fun _ _=> ?_;simp;refine ck (aAW x y hx hy) ?_;simp
def U2 (x y:Str)(hx:Qle x)(hy:Qle y):Fk 308 [dS x,dS y] (vI (wP x y)):=by
 refine fE [] ntmps308 fun _ _=> ?_;have hb:=af5 x y;have hed:wP x y=if qK x y<0 then 0 else if max (x.length:Int) y.length=0 then 1000 else(1000*(max (x.length:Int) y.length-qK x y)).tdiv (max (x.length:Int) y.length):=rfl
 obtain⟨M,hM⟩:∃M,max (x.length:Int) y.length=M:=⟨_,rfl⟩;have hMb:0<=M/\M<=1048576:=by omega
 rw[hM]at hed;simp;refine ck (NL x y hx hy) ?_;simp[hM];apply gw<;>intro a
 ·rw[if_pos (by omega)]at hed;simp[hed]
 ·simp at a;rw[if_neg (by omega)]at hed;simp;apply gw<;>intro b
  ·rw[if_pos (by omega)]at hed;simp[hed]
  ·rw[if_neg (by omega)]at hed;have hq:=J4 (a:=1000*(M-qK x y)) (b:=M);simp[hed,hq];iterate 2 refine ai ?_
   omega
def IA (x y:Str)(hx:x.length<=65536:=by omega)(hy:y.length<=65536:=by omega):Fk 245 [dS x,dS y] (vI (pI x y)):=by
 refine fE [] ntmps245 fun _ _=> ?_;have h1:=J8 x;have h2:=J8 y;simp;first|refine ck (nP x) ?_|refine ckz (nP x) ?_
 simp;first|refine ck (nP y) ?_|refine ckz (nP y) ?_
 simp;apply gv<;>intro a
 ·have a':=a;have ht:pI x y=0:=if_pos (.inl (by simpa using a));simp[a,ht]
 ·have a':=a;simp[a];apply gw<;>intro b
  ·have ht:pI x y=0:=if_pos (.inr (by simpa using b));simp[ht]
  ·have ht:pI x y=wP (normal x) (normal y):=if_neg (by rintro(h|h);(exact a (by simpa using h));(exact b (by simpa using h)));simp;refine ck (U2 (normal x) (normal y) (by omega) (by omega)) ?_;simp[ht]
end Go.Proofs.YtigjbamofhdchaaGreatDoor
end
section
namespace Go.Proofs.YtigjbamofhdchaaGreatDoor
open Go.Dv Go.Pl Go.RowKit Go.Lib Go.Sort Go.Proofs.Tryz
def HV (l:List Str)(hl:1<=l.length/\l.length<=262144):fP prog 357 [mF l] (fun r=>r= .own (EK l)):=by
 intro w ow vs t ht hL hnew hsz ha;obtain⟨a,cap,hv,hcap,hc⟩:=arM (ha 0 _ rfl)
 obtain rfl:vs= #[.slice a l.length cap]:=by
  apply Array.ext
  ·simpa using hsz
  ·intro i hi h2;obtain rfl:i=0:=by simpa using h2
   simpa[aF,hi]using hv
 rcases hc with rfl|⟨b,off,rfl,_,h2⟩
 ·simp at hl
 ·refine(acJ l ⟨b,off,none⟩ cap w hl.2 (.inr ⟨rfl,h2⟩)).mono ?_;rintro e w' ⟨v,rfl,h1,_,h3⟩;obtain⟨ow',h4,h5⟩:=aeF (ow:=ow) (t:=t) h3 h1;exact⟨_,ow',_,rfl,rfl,h4,rfl,h5⟩
def FX (l:List Str)(hl:1<=l.length/\l.length<=262144:=by first|assumption|omega):MZ prog 358 [.one (.bool false)] 0 (EK l) (fun r d=>r= .tup []/\d=EK (rU l)):=by
 intro w ow vs t lab ht hL hnew hsz hm hargs hV;simp only[V,R]at hV;obtain⟨a,cap,hv,hc1,hc2,h4⟩:=hV;rw[aX]at hv hc1;have hv:vs.getD 0 undef= .slice a l.length cap:=by simpa using hv
 obtain rfl:vs= #[.slice a l.length cap]:=by
  apply Array.ext
  ·simpa using hsz
  ·intro i hi h2;obtain rfl:i=0:=by simpa using h2
   simpa[aF,hi]using hv
 rcases h4 with⟨_,h4,_⟩|⟨h4,_⟩|⟨b,off,s,C,e',fz,rfl,hb,_,h5,hrow⟩
 ·have:l=[]:=by simpa using h4
  rw[this]at hl;simp at hl
 ·cases h4
 obtain⟨hob,rfl,hU,rfl,hC,i,hi,his⟩:=h5 _ rfl;have hr:=(Rs.iff hb).1 hrow
 have hget:∀(j:Nat) (x:Str),l[j]?=some x->s=1/\C[j]?=some (Value.string ⟨x.toArray⟩):=fun j x hx=>by
  obtain⟨hw,C',e2,fz',cs,g1,g2,g3⟩:=hr j (dS x) (by rw[aN,hx];rfl);have hs1:s=1:=hw.symm;subst hs1;rw[hb]at g1;obtain⟨rfl,rfl,rfl⟩:C=C'/\_=e2/\fz=fz':=by simpa using g1
  simp only[R]at g3;obtain⟨rfl,_⟩:=g3;have:=g2 0 (by simp[D.w]);exact⟨rfl,by simpa using this⟩
 have hs1:s=1:=(hget 0 _ (aB (by omega))).1;subst hs1;have hCl:l.length<=C.size:=by omega
 have hlt:=Go.Dv.lt_of_heap hb
 have hH:Holds encStr w b 0 l.toArray:=fun j hj=>by
  have hj':j<l.length:=by simpa using hj
  have h1:=(hget j _ (aB hj')).2;refine⟨?_,?_⟩
  ·rw[cell_of_row w b (0+j) C _ fz hb,bU,h1,abJ];rw[getElem!_pos l.toArray j hj];simp
  ·have:=hU j (by omega);simp only[World.frozen?,hb,bU];simp only[kL,decide_eq_false_iff_not];omega
 refine(Tryz.slices_Sort_string b 0 cap l w hH hlt (by omega)).mono ?_;rintro e w2 ⟨h1,n,os,rfl⟩
 have hold:∀b2,b2<w.heap.size->(grow (putRow encStr (Go.Sort.ahead w n) b 0 (l.mergeSort fun x y=>decide (x<=y)).toArray) os).heap[b2]?=(w.heap.modify b (onCells (putCells encStr 0 (rU l).toArray)))[b2]?:=fun b2 hb2=>by
  show((w.heap.modify b (onCells (putCells encStr 0 (rU l).toArray)))++os)[b2]?=_;rw[eU (by simpa using hb2)]
 have hnb:=hold b hlt;rw[sO,if_pos rfl,hb]at hnb;refine⟨_,ow,.tup [],_,h1,⟨rfl,rfl⟩,rfl,rfl,rfl,by simp[grow,putRow,mapBlock,Go.Sort.ahead],fun b2 hb2 hno=>⟨?_,rfl⟩,fun b2 hb2=>hnew b2 (by simp[grow,putRow,mapBlock,Go.Sort.ahead]at hb2;omega),?_,rfl,fun s a=>⟨#[],rfl,rfl,fun k x hx=>by simp at hx⟩⟩
 ·rw[hold b2 hb2,sO,if_neg (fun e=>hno [] (by rw[←e,hob];rfl))]
 ·simp only[V,R];rw[aX,tK];refine⟨_,_,rfl,by omega,hc2,.inr (.inr ⟨b,0,1,_,_,fz,rfl,hnb,(by intro h;cases h),fun t' ht'=> ?_,?_⟩)⟩
  ·obtain rfl:=k_Option_some_inj ht';exact⟨hob,rfl,by simpa[putCells]using hU,rfl,by simpa[putCells]using hC,i,hi,his⟩
  ·rw[Rs.iff hnb];intro j x hx;rw[aN,aK]at hx;obtain⟨y,hy,rfl⟩:=hx;have hj:j<l.length:=by have:=dM hy;rw[tK]at this;exact this
   refine⟨rfl,_,_,_,[.string ⟨y.toArray⟩],hnb,fun k hk=> ?_,by simp[R,Value.oneCell']⟩;obtain rfl:k=0:=by simpa[D.w]using hk
   have hjC:C[j]?=some C[j]:=iB (by omega);simp only[putCells,bU,Nat.mul_one,kE,Array.getElem?_mapIdx,hjC,dA];have hjs:j<(rU l).toArray.size:=by simpa[tK]using hj
   rw[if_pos ⟨Nat.zero_le _,hjs⟩,Nat.sub_zero,getElem!_pos (rU l).toArray j hjs];rw[aB (by simpa using hjs)]at hy;simp[abJ,k_Option_some_inj hy]
end Go.Proofs.YtigjbamofhdchaaGreatDoor
end
