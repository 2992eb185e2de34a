/- The law FnExactResolveStore holds: the program's ResolveStore answers as the reference's for all arguments. No condition beyond the given statement's own. -/
import Derived.ChangeArms
import Derived.ChangeShapes
import Derived.OpenShut
import Derived.ShutString
import Derived.ChangeOld
import Derived.Carry
import Derived.SizedLaws
import Derived.Lib.Hide
import Derived.BigQuiet
import Derived.Deep.QuietTactic
import Derived.StillTailTactics
import Derived.Deep.RegionLaw
import Derived.JoinedTies
import Derived.KernelRfl
import Derived.ChangeVars
import Derived.Handed
import Derived.LaidLaws
import Derived.Stop.LaidErr
import Derived.Test.YtnglphdfhegnmaaGreatDoorCards
import Derived.Test.YtnglphdfhegnmaaGreatDoorTie
import Derived.Test.YtnglphdfhegnmaaGreatDoorV5
set_option linter.unusedVariables false
set_option linter.unusedSimpArgs false
set_option linter.unusedSectionVars false
set_option maxRecDepth 10000
set_option maxHeartbeats 1000000
section
namespace Go.Proofs.YtnglphdfhegnmaaGreatDoor
open Go.Dv Go.Pl Go.Proofs.Tryz
theorem QC {α β:Type}(f:α->β)(l:List α):List.take l.length (l.map f)=l.map f:=List.take_of_length_le (by simp)
theorem VU (x:List Str):mcount x []=0:=by cases x<;>rw[mcount]
theorem SC (u v:Str)(x y:List Str):mcount (u::x) (v::y)=if ltL u v=true then mcount x (v::y)else if ltL v u=true then mcount (u::x) y else mcount x y+1:=by rw[mcount]
theorem JJ (a b:List Str)(ha:1<=a.length/\a.length<=262144)(hb:1<=b.length/\b.length<=262144):Fk 361 [bD a,bD b] (.val (dI (mcount (kL a) (kL b)))):=by
 refine fE good [8] func361 ntmps361 fun w0 ow0=> ?_;simp[go_sem];refine ck (yR a ha) ?_;simp[go_sem];refine ck (yR b hb) ?_;simp[go_sem];refine dJ rfl (xW a ha) ?_;rintro r d ⟨rfl,rfl⟩;simp[go_sem];refine dJ rfl (xW b hb) ?_;rintro r d ⟨rfl,rfl⟩;have hsa:=lC a;have hsb:=lC b;simp[go_sem];refine eD good [] (mG.trans (aR 5) (aR 6)) ?_;generalize kL a=A at*
 generalize kL b=B at*
 simp[go_sem];refine wl good (fun(x':(List Str)×(List Str)×(Nat))=>match x' with|(x,y,k)=>[(5,.val (bD x)),(6,.val (bD y)),(7,.val (dI k))]) (fun(x':(List Str)×(List Str)×(Nat))=>match x' with|(x,y,k)=>x.length+y.length) (fun(x':(List Str)×(List Str)×(Nat))=>match x' with|(x,y,k)=>(mcount A B=k+mcount x y)/\(x.length<=262144/\y.length<=262144)/\(k+x.length<=262144)) ((A,B,0)) ⟨(by omega),(by omega),(by omega)⟩ ?_;rintro⟨x,y,k⟩ ⟨h1,h2,h3⟩;simp[go_sem];refine gv (fun g=> ?_) (fun g=> ?_)
 ·have g':=g;simp[go_sem,g];refine gw (fun e=> ?_) (fun e=> ?_)
  ·obtain⟨u,x2,rfl⟩:=List.exists_cons_of_length_pos (l:=x) (by omega);obtain⟨v,y2,rfl⟩:=List.exists_cons_of_length_pos (l:=y) (by omega);have hmc:=SC u v x2 y2;simp only[List.length_cons]at h2 h3;simp[go_sem];refine wdr good ?_;simp[go_sem];refine gw (fun f=> ?_) (fun f=> ?_)
   ·simp[go_sem,QC];refine nx (x2,v::y2,k) ⟨(by rw[h1,hmc,if_pos f]),(by simp;omega),(by omega)⟩
   ·simp[go_sem];refine wdr good ?_;simp[go_sem];refine gw (fun q=> ?_) (fun q=> ?_)
    ·simp[go_sem,QC];refine nx (u::x2,y2,k) ⟨(by rw[h1,hmc,if_neg (by simp[f]),if_pos q]),(by simp;omega),(by simp;omega)⟩
    ·simp[go_sem];refine wdr good ?_;simp[go_sem,QC];refine ai ?_;refine nx (x2,y2,k+1) ⟨(by rw[h1,hmc,if_neg (by simp[f]),if_neg (by simp[q])];omega),(by omega),(by omega)⟩
  ·simp at e;have hy:y=[]:=by first|exact e|exact List.eq_nil_of_length_eq_zero (by omega)
   rw[hy,VU]at h1;have hr:(mcount A B:Int)=k:=by omega
   simp[go_sem,hr]
 ·have g':=g;simp at g';have hx:x=[]:=by first|exact g|exact List.eq_nil_of_length_eq_zero (by omega)
  rw[hx,mcount]at h1;have hr:(mcount A B:Int)=k:=by omega
  simp[go_sem,g,hr]
theorem TW (a b:List Str)(ha:1<=a.length/\a.length<=262144)(hb:1<=b.length/\b.length<=262144):Fk 330 [bD a,bD b] (.val (dI (mcount (kL a) (kL b)))):=by
 refine fE good [] func330 ntmps330 fun w0 ow0=> ?_;simp[go_sem];refine ck (JJ a b ha hb) ?_;simp[go_sem]
theorem BI:∀(a b:List Str),mcount a b<=a.length
 |[],b=>by rw[mcount];simp
 |u::x,[]=>by rw[VU];simp
 |u::x,v::y=>by
  rw[SC];have h1:=BI x (v::y);have h2:=BI (u::x) y;have h3:=BI x y;simp only[List.length_cons]at h2|-
  split
  ·omega
  ·split<;>omega
termination_by a b=>a.length+b.length
theorem au1 {a b:List Str}(h:mY a b=true):Asc a/\Asc b:=by
 simp only[mY,jM,Bool.and_eq_true]at h;exact⟨O9.1 h.1.2,O9.1 h.2.2⟩
theorem UO (a b:List Str)(ha:1<=a.length/\a.length<=262144)(hb:1<=b.length/\b.length<=262144)(hsa:∀x∈a,x.length<=1048576)(hsb:∀x∈b,x.length<=1048576):Fk 289 [bD a,bD b] (.val (dI (rD a b))):=by
 refine fE good [] func289 ntmps289 fun w0 ow0=> ?_;have hj:=KO a b;simp[go_sem];refine ck (GI a b (by omega) hsa (by omega) hsb) ?_;simp[go_sem];refine gw (fun e=> ?_) (fun e=> ?_)
 ·simp at e;have hr:rD a b=0:=by rw[hj,if_neg (by simp[e])]
  simp[go_sem,hr]
 ·simp at e;rw[if_pos e]at hj;have hA:=au1 e;have h1:=aaM hA.1;have h2:=aaM hA.2;have hl1:=BI a b;have hl2:=BI b a;rw[uX b a]at hl2;simp[go_sem];refine ck (TW a b ha hb) ?_;obtain⟨m,hm⟩:∃m:Nat,mcount a b=m:=⟨_,rfl⟩;rw[hm]at hl1 hl2 hj;simp[go_sem,h1,h2,hm];iterate 3 refine ai ?_
  refine ck (QS (1000*(m:Int)) ((a.length:Int)+b.length-m) (by omega) (by omega)) ?_;simp[go_sem,hj]
theorem BL (a b:List Str)(ha:a.length<=262144)(hb:b.length<=262144)(hsa:∀x∈a,x.length<=1048576)(hsb:∀x∈b,x.length<=1048576):Fk 234 [bD a,bD b] (.val (dI (lG a b))):=by
 refine fE good [] func234 ntmps234 fun w0 ow0=> ?_;simp[go_sem];refine gv (fun e=> ?_) (fun e=> ?_)
 ·have e':=e;have hr:lG a b=0:=if_pos (.inl e);simp[go_sem,e];grind
 ·have e':=e;simp[go_sem,e];refine gw (fun f=> ?_) (fun f=> ?_)
  ·have hr:lG a b=0:=if_pos (.inr f);simp[go_sem,hr]
  ·have hr:lG a b=rD a b:=if_neg (by rintro(h|h);exact e h;exact f h);have he:1<=a.length:=List.length_pos_iff.2 e;have hf:1<=b.length:=List.length_pos_iff.2 f;simp[go_sem];refine ck (UO a b ⟨he,ha⟩ ⟨hf,hb⟩ hsa hsb) ?_;simp[go_sem,hr]
theorem Q5 (a b:Rec)(ha:aJ a=true)(hb:aJ b=true):Fk 169 [tY a,tY b] (.own (aD (uY a b))):=by
 refine fE good [] func169 ntmps169 fun w0 ow0=> ?_;obtain⟨a0,hal0⟩:=(bU ha).2 0 (by omega);obtain⟨a1,hal1⟩:=(bU ha).2 1 (by omega);obtain⟨a2,hal2⟩:=(bU ha).2 2 (by omega);obtain⟨a3,hal3⟩:=(bU ha).2 3 (by omega);obtain⟨b0,hbl0⟩:=(bU hb).2 0 (by omega);obtain⟨b1,hbl1⟩:=(bU hb).2 1 (by omega);obtain⟨b2,hbl2⟩:=(bU hb).2 2 (by omega);obtain⟨b3,hbl3⟩:=(bU hb).2 3 (by omega);have ta:=CW _ hal0;have tb:=CW _ hbl0;have ka:=DN _ hal0;have kb:=DN _ hbl0;simp[go_sem];refine wdf good [(13,[17,18]),(18,[22,23]),(24,[28,29]),(29,[33,34]),(58,[13,24,35,44,53,62,63]),(59,[63,4])] [(2,.own (.bx true (tY a))),(3,.own (.bx true (tY b)))] [] (by simp[go_sem]) ?_;simp[go_sem,a0,b0];refine cd (yA (fld a 0) (fld b 0) (by omega) (by omega)) ?_;simp[go_sem,a0];refine cf (xS (fld a 0) (by omega)) ?_;simp[go_sem,b0];refine cf (xS (fld b 0) (by omega)) ?_;simp[go_sem];refine cd (BL (tokens (fld a 0)) (tokens (fld b 0)) ta.1 tb.1 ta.2 tb.2) ?_;simp[go_sem,a0];refine cf (yG (fld a 0) (by omega)) ?_;simp[go_sem,b0];refine cf (yG (fld b 0) (by omega)) ?_;simp[go_sem];refine cd (BL (fQ (fld a 0)) (fQ (fld b 0)) ka.1 kb.1 ka.2 kb.2) ?_;simp[go_sem,a1,b1];refine cd (yA (fld a 1) (fld b 1) (by omega) (by omega)) ?_;simp[go_sem,a2,b2];refine cd (O7 (fld a 2) (fld b 2) (by omega) (by omega)) ?_;simp[go_sem,a3,b3];refine cd (MJ (fld a 3) (fld b 3) (by omega) (by omega)) ?_;simp[go_sem];simp_all[uY];done
def zC (l:List Rec)(i:Nat):List Rec:=l.take i
theorem EW (l:List Rec)(rs:List (List Tst))(s:Sco)(hl:1<=l.length/\l.length<=8)(hv:∀r∈l,aJ r=true)(hr:dF rs=true)(hs:fG s=true)(hrl:∀t∈rs,t.length<=1048576)(hrn:rs.length<=1048576)(hw:s.weights.length<=1048576):Fk 99 [iG l,gG rs,xK s] (.own (eB (weights l rs s))):=by
 refine fE good [] func99 ntmps99 fun w0 ow0=> ?_;have hin:inR (l.length:Int) 1 8=true:=by simp[inR];omega
 have hal:l.all aJ=true:=List.all_eq_true.2 hv;have hbw:=aBV l rs s;obtain⟨n,hn⟩:∃n,l.length=n:=⟨_,rfl⟩;simp[go_sem];refine ck (aG l.length 1 8) ?_;simp[go_sem,hin];refine ck (ME l (by omega) (fun r hr=>I4 (hv r hr))) ?_;simp[go_sem,hal];refine ck (jY rs hrn hrl) ?_;simp[go_sem,hr];refine ck (iV s hw) ?_;have hz:List.replicate l.length (aD (List.replicate l.length 0))=(zeros l.length).map aD:=by simp[zeros]
 simp[go_sem,hs];refine ck (kX l.length (by omega)) ?_;simp[go_sem,hz];refine wl good (fun(x':(Nat)×(List (List Int)))=>match x' with|(i,m)=>[(0,.val (iG l)),(4,.own (.bx true (gG rs))),(5,.own (.bx true (xK s))),(7,.own (eB m)),(35,.val (iG l)),(36,.val (dI l.length)),(37,.val (dI i))]) (fun(x':(Nat)×(List (List Int)))=>match x' with|(i,m)=>l.length-i) (fun(x':(Nat)×(List (List Int)))=>match x' with|(i,m)=>(i<=l.length)/\(m=loopN i (zeros l.length) (ag8 l rs s))/\(sq2 l.length m)) ((0,zeros l.length)) ⟨(by omega),(rfl),(jD l.length)⟩ ?_ (h0:=by simp[go_sem,hin,hal,hr,hs,hz]);rintro⟨i,m⟩ ⟨h1,h2,h3⟩;simp[go_sem];refine gw (fun a=> ?_) (fun a=> ?_)
 ·have hci:=I7 a;obtain⟨ci,hcie⟩:∃ci,recAt l i=ci:=⟨_,rfl⟩;rw[hcie]at hci;have hvi:=hv ci (List.mem_of_getElem? hci);have hii:i<=l.length:=by omega
  have hto1:List.take i (l.map tY)=(zC l i).map tY:=by rw[zC,List.map_take]
  have hto2:(l.take i).map tY=(zC l i).map tY:=rfl;have htl:(zC l i).length=i:=by rw[zC,List.length_take];omega
  simp[go_sem,hci,hii,hto1,htl];refine wl good (fun(x':(Nat)×(List (List Int)))=>match x' with|(k,q)=>[(0,.val (iG l)),(4,.own (.bx true (gG rs))),(5,.own (.bx true (xK s))),(7,.own (eB q)),(8,.val (dI i)),(9,.own (.bx true (tY ci))),(35,.val (iG l)),(36,.val (dI l.length)),(37,.val (dI i)),(44,.val (iG (zC l i))),(45,.val (dI i)),(46,.val (dI k))]) (fun(x':(Nat)×(List (List Int)))=>match x' with|(k,q)=>i-k) (fun(x':(Nat)×(List (List Int)))=>match x' with|(k,q)=>(k<=i)/\(q=loopN k m (acI l rs s i))/\(sq2 l.length q)) ((0,m)) ⟨(by omega),(rfl),(h3)⟩ ?_;rintro⟨k,q⟩ ⟨h4,h5,h6⟩;simp[go_sem];refine gw (fun d=> ?_) (fun d=> ?_)
  ·have hck:=I7 (l:=l) (i:=k) (by omega);obtain⟨ck,hcke⟩:∃ck,recAt l k=ck:=⟨_,rfl⟩;rw[hcke]at hck;have hvk:=hv ck (List.mem_of_getElem? hck);have hckt:(zC l i)[k]?=some ck:=by rw[zC,List.getElem?_take,if_pos d];exact hck
   simp[go_sem,hckt];refine wdf good [(4,[53,54,55]),(6,[56,12])] [(0,.val (iG l)),(4,.own (.bx true (gG rs))),(5,.own (.bx true (xK s))),(7,.own (eB q)),(8,.val (dI i)),(9,.own (.bx true (tY ci))),(10,.val (dI k)),(11,.own (.bx true (tY ck))),(35,.val (iG l)),(36,.val (dI l.length)),(37,.val (dI i)),(44,.val (iG (zC l i))),(45,.val (dI i)),(46,.val (dI k))] [] (by simp[go_sem]) ?_;simp[go_sem];refine cf (Q5 ci ck hvi hvk) ?_;simp[go_sem];refine cd (LG rs s (uY ci ck) hrn hrl hw (by simp[uY])) ?_;obtain⟨w,hwe⟩:∃w,cO rs s (uY ci ck)=w:=⟨_,rfl⟩;have hwa:wAt l rs s i k=w:=by rw[wAt,hcie,hcke,hwe]
   obtain⟨hA,hA2⟩:=kN h6 (i:=i) (by omega);obtain⟨hB,hB2⟩:=kN h6 (i:=k) (by omega);have hgA:=CR h6 (i:=i) (k:=k) (by omega) (by omega);have hgB:=CR h6 (i:=k) (k:=i) (by omega) (by omega);have hml:i<q.length:=by rw[h6.1];omega
   have hml2:k<q.length:=by rw[h6.1];omega
   have hne:¬i=k:=by omega
   have hset:=akU (m:=q) (v:=w) (w:=w) hne;have hmm:acI l rs s i k q=set2 (set2 q i k w) k i w:=by rw[acI,hwa]
   rw[←hmm]at hset;simp[go_sem,hwe];refine wdf good [(13,[69,67,7,57,59,60,62,64,65]),(15,[70,68,7,57,59,60,62,64,65,69])] [(0,.val (iG l)),(4,.own (.bx true (gG rs))),(5,.own (.bx true (xK s))),(7,.own (eB q)),(8,.val (dI i)),(9,.own (.bx true (tY ci))),(10,.val (dI k)),(12,.val (dI w)),(35,.val (iG l)),(36,.val (dI l.length)),(37,.val (dI i)),(44,.val (iG (zC l i))),(45,.val (dI i)),(46,.val (dI k))] [] (by simp[go_sem]) ?_;simp[go_sem,hA,hB,hgA,hgB,hne,hset];refine ai ?_;refine nx (k+1,acI l rs s i k q) ⟨(by omega),(by rw[aA,←h5]),(abK h6 (by omega) d)⟩
  ·simp at d;obtain rfl:k=i:=by omega
   simp[go_sem];refine ai ?_;refine nx (k+1,q) ⟨(by omega),(by rw[aA,←h2,h5];rfl),(h6)⟩
 ·simp at a;have hfin:weights l rs s=m:=by rw[←hbw,h2,show i=l.length by omega];rfl
  simp[go_sem,hfin]
theorem arX (l:List Ver)(hl:l.length<=8):(kH l).length<=8:=by
 unfold kH;rw[yP];have h0:(apart (bS l)).length<=8:=Nat.le_trans (List.length_filter_le _ _) (Nat.le_trans (RY l) hl)
 have key:∀(L:List Ver) (st:List (List Int)×List Ver×List Ver) (C:List Ver),st.2.1.length<=8->(L.foldl (mH C) st).2.1.length<=8:=by
  intro L C0 C
  induction L generalizing C0 with
  |nil=>exact fun h=>h
  |cons v L ih=>
   intro h;rw[List.foldl_cons];refine ih _ ?_;unfold mH;split
   ·exact as0 v (by rw[yP];exact h)
   ·exact h
 exact key _ _ _ h0
theorem NM (kept:List Ver)(items:List Int)(hk:kept.length<=8)(hi:items.length<=8):(iI kept items).length<=16:=by
 have h1:(vO (apart kept) items).length<=kept.length:=Nat.le_trans (List.length_filterMap_le _ _) (List.length_filter_le _ _)
 have h2:∀n,((List.range n).flatMap (kM (joined kept) items)).length<=n:=by
  intro n
  induction n with
  |zero=>simp
  |succ n ih=>
   rw[List.range_succ,List.flatMap_append,List.length_append];have:=TC (joined kept) items n;simp only[List.flatMap_cons,List.flatMap_nil,List.append_nil];omega
 have h3:=h2 items.length;unfold iI zY;rw[List.length_append];omega
def lI (items:List Int)(b:List Int):List Int:=b.map (at1 items ·.toNat)
def qM (c:Cfg)(s:Sto):List Int:=iC (weights s.recs c.rules c.sco) (iI (kH s.vers) (s.recs.map eG))
def tT (c:Cfg)(s:Sto):List (List Int):=(blocksP (qM c s)).map (lI (s.recs.map eG))
def iU (c:Cfg)(s:Sto):List (List Int):=if(fJ c&&cZ s)=true then(if s.recs.length=0 then[]else tT c s)else[]
def jT (c:Cfg)(s:Sto):List Ver:=if(fJ c&&cZ s)=true then iD s.vers else[]
structure QQ (c:Cfg):Prop where
 rules:c.rules.length<=1048576
 rule:∀l∈c.rules,l.length<=1048576
 weights:c.sco.weights.length<=1048576
 surv:c.surv.length<=1048576
structure YO (s:Sto):Prop where
 recs:s.recs.length<=1048576
 rec1:∀r∈s.recs,u7 r
 vers:s.vers.length<=1048576
theorem abN {m:List (List Int)}(cs:List Con)(hm:aI m=true):(iC m cs).length=0\/(bJ (iC m cs)=true/\(iC m cs).length=m.length):=by
 have hml:=aP hm;unfold iC;split
 ·right;have h1:(iE m cs).length=m.length:=by rw[iE,jI,RQ]
  exact⟨isPart_iff.2 ⟨zV _,by omega,by omega⟩,h1⟩
 ·left;rfl
theorem X6 {l:List Int}{n:Nat}(h:l.length=0\/(bJ l=true/\l.length=n))(v:Nat)(hv:v<(blocksP l).length):GK n (gat (blocksP l) v)/\(gat (blocksP l) v).length<=n:=by
 rcases h with h|⟨h1,h2⟩
 ·rw[List.length_eq_zero_iff.1 h]at hv;simp[blocksP,loopN]at hv
 ·have:=JA (isPart_iff.1 h1).1 hv;rw[h2]at this;exact⟨this.1,this.2.2⟩
theorem ar5 {c:Cfg}(h:fJ c=true):dF c.rules=true/\fG c.sco=true:=by
 simp only[fJ,Bool.and_eq_true]at h;exact h.1
theorem RB {s:Sto}(h:cZ s=true):(∀r∈s.recs,aJ r=true)/\s.recs.length<=8/\eO s.vers=true/\s.vers.length<=8:=by
 simp only[cZ,Bool.and_eq_true,decide_eq_true_eq,List.all_eq_true]at h;have h2:=h.2;simp only[eO,Bool.and_eq_true,decide_eq_true_eq]at h2;exact⟨h.1.1.1.1,h.1.2,h.2,h2.2⟩
theorem FQ (c:Cfg)(s:Sto)(hc:QQ c)(hs:YO s):Fk 6 [F6 c,xZ s] (.tup [.val (aL (iU c s)),.val (aU (jT c s)),.val (dB (fJ c&&cZ s))]):=by
 refine fE good [7,13,43] func6 ntmps6 fun w0 ow0=> ?_;simp[go_sem];refine ck (EB c hc.rules hc.rule hc.weights hc.surv) ?_;simp[go_sem];refine gv (fun a=> ?_) (fun a=> ?_)
 ·have a':=a;simp at a';have a2:fJ c=false:=by simpa using a
  have hr1:iU c s=[]:=if_neg (by simp[a2]);have hr2:jT c s=[]:=if_neg (by simp[a2]);simp[go_sem,a2];refine eD good [] ((aR 4).trans (aR 5)) ?_;simp[go_sem,a2,hr1,hr2]
 ·have a':=a;simp at a';have a2:fJ c=true:=by simpa using a
  simp[go_sem,a2];refine ck (uM s hs.recs hs.rec1 hs.vers) ?_;simp[go_sem];refine gw (fun b=> ?_) (fun b=> ?_)
  ·simp at b;have hr1:iU c s=[]:=if_neg (by simp[b]);have hr2:jT c s=[]:=if_neg (by simp[b]);simp[go_sem,b];refine eD good [] ((aR 4).trans (aR 5)) ?_;simp[go_sem,a2,b,hr1,hr2]
  ·simp at b;have hcv:=ar5 a2;have hsv:=RB b;have hr1:iU c s=if s.recs.length=0 then[]else tT c s:=if_pos (by simp[a2,b])
   have hr2:jT c s=iD s.vers:=if_pos (by simp[a2,b]);simp[go_sem,b];refine ck (EJ s.vers (by omega) hsv.2.2.1) ?_;simp[go_sem];refine gw (fun d=> ?_) (fun d=> ?_)
   ·have hr3:iU c s=[]:=by rw[hr1];exact if_pos (by simpa using d)
    simp[go_sem];refine eD good [] ((aR 4).trans (aR 5)) ?_;simp[go_sem,a2,b,hr3,hr2]
   ·have hr3:iU c s=tT c s:=by rw[hr1];exact if_neg (by simpa using d)
    have hn:1<=s.recs.length/\s.recs.length<=8:=⟨by have:s.recs.length≠0:=(by simpa using d);omega,hsv.2.1⟩;obtain⟨items,hit⟩:∃items,items=s.recs.map eG:=⟨_,rfl⟩;have hit2:s.recs.map eG=items:=hit.symm;have hil:items.length=s.recs.length:=by rw[hit];simp
    have hmat:=zR c.rules c.sco hn;have hk8:=arX s.vers hsv.2.2.2;simp[go_sem];refine ck (K9 s hs.recs hs.rec1 hs.vers b) ?_;simp[go_sem,hit2];refine ck (HZ s.recs c.rules c.sco hn hsv.1 hcv.1 hcv.2 hc.rule hc.rules hc.weights) ?_;simp[go_sem];refine ck (UC (kH s.vers) items hk8 (by omega)) ?_;have hsc:=NM (kH s.vers) items hk8 (by omega);simp[go_sem];refine bP (FI (weights s.recs c.rules c.sco) (iI (kH s.vers) items) hmat (by omega)) (by simp[go_sem]) ?_;rintro r ⟨c1,e1,g1,rfl⟩;refine⟨by simp[go_sem],?_⟩;have hlab:=abN (iI (kH s.vers) items) hmat;have hlO:iC (weights s.recs c.rules c.sco) (iI (kH s.vers) items)=qM c s:=by rw[hit];rfl
    have hwl:(weights s.recs c.rules c.sco).length=s.recs.length:=by simp[weights]
    rw[hlO,hwl]at hlab;simp[go_sem,hlO];refine ck (qC (qM c s) (by omega) (hlab.imp id And.left)) ?_;have hbs:=X6 hlab;have hrc:tT c s=(blocksP (qM c s)).map (lI items):=by rw[hit];rfl
    have hbl:(blocksP (qM c s)).length<=8:=by rcases hlab with h|h;(rw[List.length_eq_zero_iff.1 h];simp[blocksP,loopN]);exact Nat.le_trans (blocksI (isPart_iff.1 h.1).1 (Nat.le_refl _)).len (by omega)
    clear hlO hlab;generalize blocksP (qM c s)=bs at*
    simp[go_sem];refine wl good (fun(x':(Nat)×(List (List Int)))=>match x' with|(i,o)=>[(7,.own (eB o)),(9,.val (aU (iD s.vers))),(10,.own (aD items)),(15,.own (eB bs)),(16,.val (dI i))]) (fun(x':(Nat)×(List (List Int)))=>match x' with|(i,o)=>bs.length-i) (fun(x':(Nat)×(List (List Int)))=>match x' with|(i,o)=>(i<=bs.length)/\(o=(bs.take i).map (lI items))) ((0,[])) ⟨(by omega),(rfl)⟩ ?_;rintro⟨i,o⟩ ⟨h1,h2⟩;simp[go_sem];refine gw (fun e=> ?_) (fun e=> ?_)
    ·have hr:=XL e;have hsel:=hbs i e;have hol:o.length<=8:=by rw[h2,List.length_map,List.length_take];omega
     have hgm:=nC (lI items) hr;generalize hbg:gat bs i=bb at hr hsel hgm|-
     simp[go_sem];refine wl good (fun(x':(Nat)×(List Int))=>match x' with|(j,g)=>[(7,.own (eB o)),(9,.val (aU (iD s.vers))),(10,.own (aD items)),(15,.own (eB bs)),(16,.val (dI i)),(17,.own (aD g)),(18,.val (dI j))]) (fun(x':(Nat)×(List Int))=>match x' with|(j,g)=>bb.length-j) (fun(x':(Nat)×(List Int))=>match x' with|(j,g)=>(j<=bb.length)/\(g=lI items (bb.take j))) ((0,[])) ⟨(by omega),(rfl)⟩ ?_;rintro⟨j,g⟩ ⟨h3,h4⟩;simp[go_sem,hr];refine gw (fun f=> ?_) (fun f=> ?_)
     ·have hg:=aF f;have hgx:=hsel.1.1 _ (List.mem_of_getElem? hg);have ha0:0<=at1 bb j:=hgx.1;have hix:(at1 bb j).toNat<items.length:=by rw[hil];omega
      have hg2:=aF hix;have hgl:g.length<=8:=by rw[h4,lI,List.length_map,List.length_take];omega
      have hpk:lI items (bb.take (j+1))=g++[at1 items (at1 bb j).toNat]:=by rw[lI,nC _ hg,h4];rfl
      simp[go_sem,hr,hg,ha0,hg2];iterate 2 refine ai ?_
      refine nx (j+1,g++[at1 items (at1 bb j).toNat]) ⟨(by omega),(hpk.symm)⟩
     ·simp at f;have hgE:lI items bb=g:=by rw[h4,aO f]
      simp[go_sem];iterate 2 refine ai ?_
      refine nx (i+1,o++[g]) ⟨(by omega),(by rw[hgm,hgE,←h2])⟩
    ·simp at e;have ho:tT c s=o:=by rw[hrc,h2,aO e]
     simp[go_sem];refine eD good [] ((aR 4).trans (aR 5)) ?_;simp[go_sem,a2,b,hr3,ho,hr2]
theorem abF {r:Rec}(h:aJ r=true):0<=r.source/\r.source<=3/\1<=r.key/\r.key<=99:=by
 simp only[aJ,inR,Bool.and_eq_true,decide_eq_true_eq]at h;omega
theorem arT {s:Sto}(h:cZ s=true):(∀x∈s.recs.map eG,inT x)/\(s.recs.map eG).Nodup:=by
 constructor
 ·intro x hx;obtain⟨r,hr,rfl⟩:=List.mem_map.1 hx;have:=abF ((RB h).1 r hr);unfold eG inT;omega
 ·simp only[cZ,Bool.and_eq_true]at h;have h1:=ajN (R:=fun a b=>decide (eG a<eG b)) (fun a b c hab hbc=>by simp only[decide_eq_true_eq]at*;omega) h.1.1.1.2;unfold List.Nodup;rw[List.pairwise_map];exact h1.imp fun hab=>by simp only[decide_eq_true_eq]at hab;omega
theorem adT {P:Ver->Prop}:∀(L:List Ver) (st:List Ver×List Ver),(∀v∈st.1,P v)->(∀v∈L,P v)->∀v∈(L.foldl wU st).1,P v
 |[],st,h,_=>h
 |c::L,st,h,hL=>adT L (wU st c) (fun v hv=>by
   unfold wU at hv;split at hv
   ·exact h v hv
   ·rcases List.mem_append.1 hv with h1|h1
    ·exact h v h1
    ·rw[List.mem_singleton.1 h1];exact hL c List.mem_cons_self) (fun v hv=>hL v (List.mem_cons_of_mem _ hv))
theorem ai1 {l:List Ver}(h:eO l=true):∀v∈kH l,bH v=true:=fun v hv=>by
 rw[←(YQ h).1]at hv;have hc:=(ahP h).1;exact adT (P:=fun v=>bH v=true) _ _ (fun v hv=>hc v (List.mem_filter.1 hv).1) (fun v hv=>hc v (List.mem_filter.1 ((yE _).mem_iff.1 hv)).1) v ((vV _).mem_iff.1 hv)
def mxP (items:List Int)(B:List (List Int))(i:Nat):List (List Int):=(B.take i).map (lI items)++B.drop i
def mxR (items b:List Int)(j:Nat):List Int:=lI items (b.take j)++b.drop j
theorem VC {items:List Int}{B:List (List Int)}{i:Nat}(h:i<=B.length):(mxP items B i).length=B.length:=by simp[mxP];omega
theorem akS {items:List Int}{B:List (List Int)}{i:Nat}(h:i<B.length):(mxP items B i)[i]?=B[i]?:=by
 unfold mxP;rw[List.getElem?_append_right (by simp;omega),List.getElem?_drop,List.length_map,List.length_take,Nat.min_eq_left (by omega),Nat.sub_self,Nat.add_zero]
theorem axN {items:List Int}{B:List (List Int)}{i:Nat}{b:List Int}(h:B[i]?=some b):(mxP items B i).set i (lI items b)=mxP items B (i+1):=by
 have hi:=aS h;unfold mxP;have hl:((B.take i).map (lI items)).length=i:=by simp;omega
 rw[List.set_append,if_neg (by omega),hl,Nat.sub_self,List.drop_eq_getElem_cons hi,List.set_cons_zero,aW h,List.map_append,List.append_assoc];rfl
theorem asR {items:List Int}{B:List (List Int)}{i:Nat}{b:List Int}(h:B[i]?=some b):(mxP items B i).set i b=mxP items B i:=by
 apply List.ext_getElem?;intro m;by_cases hm:i=m
 ·subst hm;have hi:=aS h;rw[List.getElem?_set_self (by rw[VC (by omega)];exact hi),akS hi,h]
 ·rw[List.getElem?_set_ne hm]
theorem awQ {items b:List Int}{j:Nat}(h:j<=b.length):(mxR items b j).length=b.length:=by simp[mxR,lI];omega
theorem axZ {items b:List Int}{j:Nat}(h:j<b.length):(mxR items b j)[j]?=b[j]?:=by
 unfold mxR lI;rw[List.getElem?_append_right (by simp;omega),List.getElem?_drop,List.length_map,List.length_take,Nat.min_eq_left (by omega),Nat.sub_self,Nat.add_zero]
theorem ax4 {items b:List Int}{j:Nat}(h:j<b.length):(mxR items b j).set j (at1 items (at1 b j).toNat)=mxR items b (j+1):=by
 have hg:=aF h;unfold mxR lI;have hl:((b.take j).map (at1 items ·.toNat)).length=j:=by simp;omega
 have hd:b.drop j=at1 b j::b.drop (j+1):=by rw[List.drop_eq_getElem_cons h];rw[List.getElem?_eq_getElem h]at hg;rw[Option.some.inj hg]
 rw[List.set_append,if_neg (by omega),hl,Nat.sub_self,hd,List.set_cons_zero,aW hg,List.map_append,List.append_assoc];rfl
theorem axW (items b:List Int):mxR items b b.length=lI items b:=by simp[mxR]
def mxQ (items:List Int)(B:List (List Int))(i:Nat)(b:List Int)(j:Nat):List (List Int):=(mxP items B i).set i (mxR items b j)
theorem ap2 {items:List Int}{B:List (List Int)}{i:Nat}{b:List Int}(h:B[i]?=some b):mxQ items B i b 0=mxP items B i:=by
 have:mxR items b 0=b:=by simp[mxR,lI]
 rw[mxQ,this,asR h]
theorem aw2 {items:List Int}{B:List (List Int)}{i:Nat}{b:List Int}{j:Nat}(h:i<=B.length):(mxQ items B i b j).length=B.length:=by rw[mxQ,List.length_set,VC h]
theorem awG {items:List Int}{B:List (List Int)}{i:Nat}{b:List Int}{j:Nat}(h:i<B.length):(mxQ items B i b j)[i]?=some (mxR items b j):=by rw[mxQ,List.getElem?_set_self (by rw[VC (by omega)];exact h)]
theorem awU {items:List Int}{B:List (List Int)}{i:Nat}{b:List Int}{j:Nat}(h:i<B.length)(hj:j<b.length):((mxQ items B i b j).map aD).set i (D.sl (some 3) (((mxR items b j).map dI).set j (dI (at1 items (at1 b j).toNat))))=(mxQ items B i b (j+1)).map aD:=by
 rw[←List.map_set,ax4 hj];show((mxQ items B i b j).map aD).set i (aD (mxR items b (j+1)))=_;rw[←List.map_set,mxQ,mxQ,List.set_set]
theorem ayA {items:List Int}{B:List (List Int)}{i:Nat}{b:List Int}(h:B[i]?=some b):mxQ items B i b b.length=mxP items B (i+1):=by rw[mxQ,axW,axN h]
def alW (c:Cfg)(s:Sto):List (List Int):=if s.recs.length=0 then[]else tT c s
theorem TK (c:Cfg)(s:Sto)(hc:fJ c=true)(hs:cZ s=true)(hsc:QQ c):Fk 40 [F6 c,xZ s] (.tup [.own (eB (alW c s)),.own (bN (iD s.vers))]):=by
 refine fE good [7] func40 ntmps40 fun w0 ow0=> ?_;have hcv:=ar5 hc;have hsv:=RB hs;have hk8:=arX s.vers hsv.2.2.2;have hkv:=ai1 hsv.2.2.1;simp[go_sem];refine ck (EA s.vers (by omega) hsv.2.2.1) ?_;simp[go_sem];refine gw (fun d=> ?_) (fun d=> ?_)
 ·have hr:alW c s=[]:=if_pos (by simpa using d);try simp[go_sem]
  refine eD good [] (AQ (L:=[(4,.own (eB [])),(5,.own (bN (iD s.vers)))]) (by simp[go_sem])) ?_;simp[go_sem,hr]
 ·have hr:alW c s=tT c s:=if_neg (by simpa using d);have hn:1<=s.recs.length/\s.recs.length<=8:=⟨by have:s.recs.length≠0:=(by simpa using d);omega,hsv.2.1⟩;have hio:=arT hs;have hperm:=amR hkv hio.1 hio.2;have hmat:=zR c.rules c.sco hn;have hcl:=ZC hmat hperm;have hcl2:iC (weights s.recs c.rules c.sco) (iI (kH s.vers) (s.recs.map eG))=qM c s:=rfl;rw[hcl2]at hcl;have h16:=NM (kH s.vers) (s.recs.map eG) hk8 (by simp;omega);rw[←hperm.length_eq]at h16;have hlab:=abN (iI (kH s.vers) (s.recs.map eG)) hmat;rw[hcl2]at hlab;have hrc:tT c s=(blocksP (qM c s)).map (lI (s.recs.map eG)):=rfl;have hwl:(weights s.recs c.rules c.sco).length=s.recs.length:=by simp[weights]
  rw[hwl]at hlab;obtain⟨items,hit⟩:∃items,s.recs.map eG=items:=⟨_,rfl⟩;rw[hit]at hio hperm hcl h16 hrc;have hil:items.length=s.recs.length:=by rw[←hit];simp
  simp[go_sem];refine ck (LQ s (by omega) (fun r hr=>by have:=abF (hsv.1 r hr);unfold eG;simp only[inI];omega)) ?_;simp[go_sem,hit];refine ck (EW s.recs c.rules c.sco hn hsv.1 hcv.1 hcv.2 hsc.rule hsc.rules hsc.weights) ?_;simp[go_sem];refine ck (EO (kH s.vers) items hk8 (fun v hv=>⟨(jX (hkv v hv)).1,(jX (hkv v hv)).2.1⟩) (by omega) hio.1) ?_;simp[go_sem];refine bP (E8 (weights s.recs c.rules c.sco) (afW (kH s.vers) items) hmat (by omega)) (by simp[go_sem]) ?_;rintro r ⟨c1,e1,g1,rfl⟩;refine⟨by simp[go_sem],?_⟩;simp[go_sem,hcl];refine ck (FL (qM c s) (by omega) (hlab.imp id And.left)) ?_;have hbs:=X6 hlab;have hbl:(blocksP (qM c s)).length<=8:=by rcases hlab with h|h;(rw[List.length_eq_zero_iff.1 h];simp[blocksP,loopN]);exact Nat.le_trans (blocksI (isPart_iff.1 h.1).1 (Nat.le_refl _)).len (by omega)
  clear hcl hlab hperm;generalize blocksP (qM c s)=B at*
  have hm0:mxP items B 0=B:=by simp[mxP]
  simp[go_sem];refine wl good (fun(i:Nat)=>[(7,.own (bN (iD s.vers))),(8,.own (aD items)),(11,.own (eB (mxP items B i))),(46,.al 11 []),(47,.val (dI B.length)),(48,.val (dI i))]) (fun(i:Nat)=>B.length-i) (fun(i:Nat)=>(i<=B.length)) (0) (by omega) ?_ (h0:=by simp[go_sem,hit,hm0]);rintro i h1;simp[go_sem];refine gw (fun a=> ?_) (fun a=> ?_)
  ·obtain⟨b,hb⟩:=aC (l:=B) (i:=i) a;have hmg:=akS (items:=items) a;rw[hb]at hmg;have hml:=VC (items:=items) h1;have hgb:gat B i=b:=by simp[gat,List.getD,hb]
   have hsel:=hbs i a;rw[hgb]at hsel;have hz:=ap2 (items:=items) hb;simp[go_sem,hmg];refine wl good (fun(j:Nat)=>[(7,.own (bN (iD s.vers))),(8,.own (aD items)),(11,.own (eB (mxQ items B i b j))),(13,.al 11 [i]),(46,.al 11 []),(47,.val (dI B.length)),(48,.val (dI i)),(52,.al 11 [i]),(53,.val (dI b.length)),(54,.val (dI j))]) (fun(j:Nat)=>b.length-j) (fun(j:Nat)=>(j<=b.length)) (0) (by omega) ?_ (h0:=by simp[go_sem,hit,hmg,hml,hz]);rintro j h2;simp[go_sem];refine gw (fun f=> ?_) (fun f=> ?_)
   ·have hg:=aF f;have hgx:=hsel.1.1 _ (List.mem_of_getElem? hg);have hg3:=aF (l:=items) (i:=(at1 b j).toNat) (by rw[hil];have:=hgx.1;have:=hgx.2;omega);have hq1:=awG (items:=items) (b:=b) (j:=j) a;have hq2:=aw2 (items:=items) (b:=b) (j:=j) h1;have hq3:=axZ (items:=items) f;rw[hg]at hq3;have hq4:=awU (items:=items) a f;have hq5:=awQ (items:=items) (b:=b) (j:=j) (by omega);obtain⟨x,hx⟩:∃x,at1 b j=x:=⟨_,rfl⟩;rw[hx]at hg3 hq3 hq4 hgx;have hx0:=hgx.1;simp[go_sem,hg3,hq1,hq3,hq4,hx0];refine ai ?_;refine nx (j+1) (by omega)
   ·simp at f;obtain rfl:j=b.length:=by omega
    have hqa:=ayA (items:=items) hb;simp[go_sem,hqa];refine ai ?_;refine nx (i+1) (by omega)
  ·simp at a;obtain rfl:i=B.length:=by omega
   have hfin:tT c s=mxP items B B.length:=by rw[hrc];simp[mxP]
   simp[go_sem,hr,hfin]
theorem uB (c:Cfg)(s:Sto)(hc:QQ c)(hs:YO s):Fk 9 [F6 c,xZ s] (.tup [.own (eB (iU c s)),.own (bN (jT c s)),.val (dB (fJ c&&cZ s))]):=by
 refine fE good [5] func9 ntmps9 fun w0 ow0=> ?_;simp[go_sem];refine ck (EG c hc.rules hc.rule hc.weights hc.surv) ?_;simp[go_sem];refine gv (fun e=> ?_) (fun e=> ?_)
 ·have e':=e;simp at e';have hr1:iU c s=[]:=if_neg (by simp[e']);have hr2:jT c s=[]:=if_neg (by simp[e']);try simp[go_sem,e']
  refine eD good [] (AQ (L:=[(4,.own (eB [])),(5,.own (bN [])),(6,.val (dB false))]) (by simp[go_sem])) ?_;simp[go_sem,hr1,hr2,e']
 ·have e':=e;simp at e';simp[go_sem,e];refine ck (GX s hs.recs hs.rec1 hs.vers) ?_;simp[go_sem];refine gw (fun f=> ?_) (fun f=> ?_)
  ·simp at f;have hr1:iU c s=[]:=if_neg (by simp[f]);have hr2:jT c s=[]:=if_neg (by simp[f]);try simp[go_sem,e',f]
   refine eD good [] (AQ (L:=[(4,.own (eB [])),(5,.own (bN [])),(6,.val (dB false))]) (by simp[go_sem])) ?_;simp[go_sem,hr1,hr2,e',f]
  ·simp at f;have hr1:iU c s=alW c s:=if_pos (by simp[e',f]);have hr2:jT c s=iD s.vers:=if_pos (by simp[e',f]);simp[go_sem,e',f];refine ck (TK c s e' f hc) ?_;simp[go_sem,hr1,hr2,e',f]
end Go.Proofs.YtnglphdfhegnmaaGreatDoor
end
section
namespace Go.Dv
open Go.RowKit
variable [eZ]
def S.atL:S->S
 | .own d=> .val d
 | .tup l=> .tup (l.map fun x=>match x with| .own d=> .val d|x=>x)
 |x=>x
theorem adS {w:World}{ow:Own}(hn:∀b,w.heap.size<=b->ow b=none):∃t,t≠far0/\∀b q,ow b≠some (q++[t]):=by
 have key:∀n,∃m,∀b,b<n->∀q t,ow b=some (q++[t])->t<m:=by
  intro n
  induction n with
  |zero=>exact⟨0,fun b hb=>by omega⟩
  |succ n ih=>
   obtain⟨m,hm⟩:=ih;cases ho:ow n with
   |none=>exact⟨m,fun b hb q t h=>by
     by_cases hbn:b=n
     ·rw[hbn,ho]at h;cases h
     ·exact hm b (by omega) q t h⟩
   |some l=>exact⟨m+l.foldl max 0+1,fun b hb q t h=>by
     by_cases hbn:b=n
     ·rw[hbn,ho]at h;obtain rfl:=Option.some.inj h;rw[List.foldl_append];simp only[List.foldl_cons,List.foldl_nil];omega
     ·have:=hm b (by omega) q t h;omega⟩
 obtain⟨m,hm⟩:=key w.heap.size;refine⟨m+far0+1,by omega,fun b q h=> ?_⟩
 have hb:b<w.heap.size:=by
  by_cases hb:b<w.heap.size
  ·exact hb
  ·rw[hn b (by omega)]at h;cases h
 have:=hm b hb q _ h;omega
open Classical in
theorem bR.atL {P:Program}{f:FuncId}{ds:List D}{R:S}(h:bR P f ds (fun r=>r=R)):bR P f ds (fun r=>r=R.atL):=by
 intro w ow vs t ht hL hn hsz ha;obtain⟨u,hu,hfr⟩:=adS hn;refine(h w ow vs u hu hL hn hsz ha).mono ?_;rintro e w' ⟨v,ow',r,rfl,rfl,hA,hp,hsv⟩
 have hF:∀l,FH w' ow' (l++[u]) (fun b=>if∃q,ow' b=some (q++[u])then none else ow' b):=fun l b _=>⟨fun ho=>by
  simp only;split
  ·rfl
  ·exact ho,fun q hq=>by
  simp only;rw[if_pos ⟨q++l,by rw[hq];simp⟩]⟩
 refine⟨v,fun b=>if∃q,ow' b=some (q++[u])then none else ow' b,_,rfl,rfl,⟨hA.os,hA.tape,hA.output,hA.size,fun b hb=>⟨(hA.old b hb).1,?_⟩,fun b hb=> ?_⟩,?_,fun s a=> ?_⟩
 ·rw[if_neg,(hA.old b hb).2];rintro⟨q,hq⟩;rw[(hA.old b hb).2]at hq;exact hfr b q hq
 ·rw[if_neg,hA.new b hb];rintro⟨q,hq⟩;rw[hA.new b hb]at hq;cases hq
 ·cases r<;>first|rfl|exact hp
 ·have hv:=hsv s a;have hno:∀b,ow' b=none->(if∃q,ow' b=some (q++[u])then none else ow' b)=none:=fun b ho=>by split;rfl;exact ho
  have hval:∀(d:D) (v:Value),V P w' ow' d.fz [] v->V P w' (fun b=>if∃q,ow' b=some (q++[u])then none else ow' b) d.fz [] v:=fun d v hv=>V.trf (fun b _ ho=>⟨rfl,hno b ho⟩) hv;cases r with
  |own d=>exact V.fz (hF []) hv
  |val d=>exact hval d v hv
  |un=>trivial
  |tup l=>
   obtain⟨ys,h1,h2,h3⟩:=hv;refine⟨ys,h1,by simpa using h2,fun k x hx=> ?_⟩;simp only[List.getElem?_map,Option.map_eq_some_iff]at hx;obtain⟨y,hy,rfl⟩:=hx;have:=h3 k y hy;cases y with
   |own d=>exact V.fz (hF [k]) this
   |val d=>exact hval d _ this
   |_=>trivial
  |rp d=>
   obtain⟨b,off,h1,h2,h3⟩:=hv;exact⟨b,off,h1,hno b h2,h3.trf (fun b _ ho=>⟨rfl,hno b ho⟩) h2⟩
  |al r p=>cases hp
  |rf r p=>cases hp
  |ag r p=>cases hp
end Go.Dv
end
section
namespace Go.Proofs.YtnglphdfhegnmaaGreatDoor
open Go.Dv Go.Pl Go.Proofs.Tryz
theorem F3 (c:Cfg)(hc:QQ c):bR prog 7 [F6 c] (fun r=>r= .val (.agg [.agg [.sl (some 148) (c.rules.map pE)],.agg [aD c.sco.weights,dI c.sco.bias],aD c.surv])):=(AO c hc.rules hc.rule hc.weights hc.surv).atL
theorem KX (s:Sto)(hs:YO s):bR prog 8 [xZ s] (fun r=>r= .val (.agg [dI s.version,.sl (some 104) (s.recs.map oRec),bN s.vers])):=(DZ s hs.recs (fun r hr=>(hs.rec1 r hr).1) hs.vers).atL
theorem aj6 (c:Cfg)(s:Sto)(hc:QQ c)(hs:YO s):bR prog 9 [F6 c,xZ s] (fun r=>r= .tup [.val (eB (iU c s)),.val (bN (jT c s)),.val (dB (fJ c&&cZ s))]):=(uB c s hc hs).atL
theorem adA (c:Cfg)(s:Sto):(iU c s).length<=8/\∀r∈iU c s,r.length<=8:=by
 unfold iU;split
 ·rename_i h;rw[Bool.and_eq_true]at h;split
  ·simp
  ·rename_i hn;have hsv:=RB h.2;have hmat:=zR c.rules c.sco (l:=s.recs) ⟨by omega,hsv.2.1⟩;have hlab:=abN (iI (kH s.vers) (s.recs.map eG)) hmat;have hwl:(weights s.recs c.rules c.sco).length=s.recs.length:=by simp[weights]
   rw[hwl]at hlab;have hbs:=X6 hlab
   have hbl:(blocksP (qM c s)).length<=8:=by
    rcases hlab with h|h
    ·unfold qM;rw[List.length_eq_zero_iff.1 h];simp[blocksP,loopN]
    ·exact Nat.le_trans (blocksI (isPart_iff.1 h.1).1 (Nat.le_refl _)).len (by have:=h.2;have:=hsv.2.1;omega)
   unfold tT;refine⟨by rw[List.length_map];exact hbl,fun r hr=> ?_⟩;obtain⟨b,hb,rfl⟩:=List.mem_map.1 hr;obtain⟨v,hv⟩:=List.getElem?_of_mem hb;have hvl:=aS hv;have hg:gat (blocksP (qM c s)) v=b:=by simp[gat,List.getD,hv]
   have:=(hbs v hvl).2;have hg2:gat (blocksP (iC (weights s.recs c.rules c.sco) (iI (kH s.vers) (s.recs.map eG)))) v=b:=hg;rw[hg2]at this;rw[lI,List.length_map];omega
 ·simp
theorem take_len:∀(L:List Ver) (st:List Ver×List Ver),(L.foldl wU st).1.length+(L.foldl wU st).2.length=st.1.length+st.2.length+L.length
 |[],st=>by simp
 |c::L,st=>by
  rw[List.foldl_cons,take_len L,List.length_cons];unfold wU;split<;>simp<;>omega
theorem adM (c:Cfg)(s:Sto):(jT c s).length<=8:=by
 unfold jT;split
 ·rename_i h;rw[Bool.and_eq_true]at h;have hv:=(RB h.2).2.2.1;rw[←(YQ hv).2,yP];have h1:=take_len (lM (l8 (bS s.vers))) (apart (bS s.vers),[]);have h2:=ac6 (bS s.vers);have h3:=XF s.vers;have h4:=(RB h.2).2.2.2;rw[XC]at h1;simp only[List.length_nil]at h1;unfold XR;omega
 ·simp
theorem vP (c:Cfg)(s:Sto)(hr:al4 c.rules)(hw:c.sco.weights.length<=9223372036854775807)(hv:c.surv.length<=9223372036854775807)(hR:as9 s.recs)(hV:s.vers.length<=9223372036854775807):Fk 3 [F6 c,xZ s] (.val (dB true)):=by
 refine fE good [] func3 ntmps3 fun w0 ow0=> ?_;simp[go_sem];refine bP (QK c 1048576 hr hw hv (by omega)) (by simp[go_sem]) ?_;rintro r ⟨v1,rfl,hv1,hf1⟩;refine⟨by simp[go_sem],?_⟩;simp[go_sem];refine gw (fun a=> ?_) (fun a=> ?_)
 ·simp[go_sem]
 ·simp at a;simp[go_sem];refine bP (UN s v1 hR hV (by omega)) (by simp[go_sem]) ?_;rintro r ⟨v2,rfl,hv2,hf2⟩;refine⟨by simp[go_sem],?_⟩;simp[go_sem];refine gw (fun b=> ?_) (fun b=> ?_)
  ·simp[go_sem]
  ·simp at b;have k1:=hf1 (by omega);have k2:=hf2 (by omega);have hc:QQ c:=⟨by have:=k1.1.1;omega,fun l hl=>by have:=k1.1.2 l hl;omega,by omega,by omega⟩;have hs:YO s:=⟨by have:=k2.1.1;omega,fun r hr=>⟨by have:=(k2.1.2 r hr).1;omega,fun f hf=>by have:=(k2.1.2 r hr).2 f hf;unfold VY;omega⟩,by omega⟩;have ho:=adA c s;have hf:=adM c s;simp[go_sem];refine wdf good [(5,[35,30]),(9,[36,6]),(10,[37,7]),(11,[38,8])] [(2,.own (.bx true (F6 c))),(3,.own (.bx true (xZ s)))] [] (by simp[go_sem]) ?_;simp[go_sem];refine cd (F3 c hc) ?_;simp[go_sem];refine cd (KX s hs) ?_;simp[go_sem];refine cd (FQ c s hc hs) ?_;have hro:∀t∈iU c s,t.length<=1048576:=fun t ht=>by have:=ho.2 t ht;omega
   have hsf:∀r∈s.recs,r.fields.length<=1048576:=fun r hr=>(hs.rec1 r hr).1;simp[go_sem];refine ck (AO c hc.rules hc.rule hc.weights hc.surv) ?_;simp[go_sem];refine ck (DZ s hs.recs hsf hs.vers) ?_;simp[go_sem];refine ck (uB c s hc hs) ?_;simp[go_sem];refine ck (vC (iU c s) (by omega) hro) ?_;simp[go_sem];refine ck (l7 (jT c s) (by omega)) ?_;simp[go_sem];refine wdr good ?_;simp[go_sem];refine cd (F3 c hc) ?_;simp[go_sem];refine cd (Q3 c hc.rules hc.rule hc.weights hc.surv) ?_;simp[go_sem];refine wdr good ?_;simp[go_sem];refine cd (KX s hs) ?_;simp[go_sem];refine cd (UQ s hs.recs hsf hs.vers) ?_;have hru:=WH hc.rule;have hrc:=WJ hsf;have hc1:=hc.rules;have hc2:=hc.weights;have hc3:=hc.surv;have hs1:=hs.recs;have hs2:=hs.vers;simp[go_sem];refine wG rfl (ML c 1 hc.rules hc.rule hc.weights hc.surv (by omega)) ?_;obtain⟨q,hq⟩:∃q,1+qJ c.rules+c.sco.weights.length+c.surv.length=q:=⟨_,rfl⟩;simp[go_sem,hq];refine wG rfl (PS s q hs.recs hsf hs.vers (by omega)) ?_;obtain⟨q2,hq2⟩:∃q2,q+xP s.recs+4*s.vers.length=q2:=⟨_,rfl⟩;have hq3:¬q2<0:=by omega
   have hq4:0<=q2:=by omega
   simp[go_sem,hq2,hq3];refine ck (vC (iU c s) (by omega) hro) ?_;simp[go_sem];refine ck (l7 (jT c s) (by omega)) ?_;have hrs:=MB hro;simp[go_sem];refine dJ rfl (PI (iU c s) 1 (by omega) hro (by omega)) ?_;rintro r d ⟨rfl,rfl⟩;obtain⟨m1,hm1⟩:∃m1,1+dR (iU c s)=m1:=⟨_,rfl⟩;have hm2:¬m1<0:=by omega
   have hm3:0<=m1:=by omega
   simp[go_sem,hm1];refine dJ rfl (tZ (jT c s) m1 (by omega) (by omega)) ?_;rintro r d ⟨rfl,rfl⟩;have hn2:¬m1+4*((jT c s).length:Int)<0:=by omega
   have hn3:0<=m1+4*((jT c s).length:Int):=by omega
   simp[go_sem];refine ck (yO (iU c s) 1 (by omega) hro (by omega)) ?_;simp[go_sem,hm1,hm2];refine ck (uO (jT c s).length m1 (by omega) (by omega)) ?_;simp[go_sem,hn2];refine wdf good [(5,[124,119]),(9,[125,17]),(10,[126,18]),(11,[127,19])] [(2,.own (.bx true (F6 c))),(3,.own (.bx true (xZ s))),(6,.val (aL (iU c s))),(7,.val (aU (jT c s))),(8,.val (dB (fJ c&&cZ s))),(11,.own (eB (qQ (iU c s) 1))),(12,.own (.sl (some 88) ((j4 (jT c s).length m1).map dP))),(15,.val (dI (m1+4*((jT c s).length:Int))))] [] (by simp[go_sem]) ?_;simp[go_sem];refine cd (F3 c hc) ?_;simp[go_sem];refine cd (KX s hs) ?_;simp[go_sem];refine cd (aj6 c s hc hs) ?_;simp[go_sem];refine ck (vC (iU c s) (by omega) hro) ?_;simp[go_sem];refine ck (l7 (jT c s) (by omega)) ?_;simp[go_sem];refine ck (yO (iU c s) 1 (by omega) hro (by omega)) ?_;simp[go_sem,hm1,hm2];refine ck (uO (jT c s).length m1 (by omega) (by omega)) ?_;simp[go_sem,hn2]
end Go.Proofs.YtnglphdfhegnmaaGreatDoor
end
section
namespace Go.Dv
open Go.RowKit Go.ChangeShapes
section
variable {H:Type}{enc:TypeId×Value->H}{P:Program}{W:World}{t e:TypeId}{cs:List Value}{k:Nat}
def Tr (enc:TypeId×Value->H)(P:Program)(W:World)(t:TypeId)(cs:List Value):Prop:=∃fuel x,DataW.trod enc P W 0 (fun _=>true) true fuel t cs=some x
def Rd (P:Program)(W:World)(d:D)(cs:List Value):Prop:=∀l,R P W (fun _=>none) d l cs
theorem open_int (ht:P.underlying t=some (.int .i64))(h:Tr enc P W t cs):∃n,Rd P W (dI n) cs:=by
 obtain⟨f,x,h⟩:=h;obtain⟨n,rfl,_⟩:=DataW.trod_int ht h;exact⟨n,fun l=>by simp[R,Value.oneCell']⟩
theorem open_bool (ht:P.underlying t=some .bool)(h:Tr enc P W t cs):∃b,Rd P W (dB b) cs:=by
 obtain⟨f,x,h⟩:=h;obtain⟨n,rfl,_⟩:=DataW.trod_bool ht h;exact⟨n,fun l=>by simp[R,Value.oneCell']⟩
theorem as6 (ht:P.underlying t=some .string)(h:Tr enc P W t cs):∃s:Str,s.length<=9223372036854775807/\Rd P W (dS s) cs:=by
 obtain⟨f,x,h⟩:=h;obtain⟨n,rfl,_,hz⟩:=DataW.trod_string ht h;obtain⟨s,rfl⟩:∃s:Str,n=⟨s.toArray⟩:=⟨n.data.toList,by rw[←aDS n]⟩;rw[ab5]at hz;have h2:maxLen=9223372036854775807:=rfl;exact⟨s,by omega,fun l=>by simp only[R];exact⟨trivial,rfl⟩⟩
theorem uE {fs:Array Field}(ht:P.underlying t=some (.struct fs))(h:Tr enc P W t cs)(i:Nat)(f:Field)(hf:fs[i]?=some f)(o k:Nat)(ho:f.offset=o)(hk:P.cellsOf f.type=k):
  Tr enc P W f.type ((cs.drop o).take k):=by
 obtain⟨fu,x,h⟩:=h;obtain⟨xs,n,_,_,_,hlen,hfs⟩:=DataW.trod_struct ht h;have h1:=hfs i f hf;have h2:i<xs.length:=by rw[hlen];exact(Array.getElem?_eq_some_iff.1 hf).1
 rw[ho,hk]at h1;exact⟨n,xs[i],by rw[h1];simp[h2]⟩
theorem uA {fs:Array Field}(ht:P.underlying t=some (.struct fs)){n:Nat}(hn:P.cellsOf t=n)(h:Tr enc P W t cs):cs.length<=n:=by
 obtain⟨fu,x,h⟩:=h;obtain⟨xs,m,_,_,hl,_,_⟩:=DataW.trod_struct ht h;omega
theorem GZ {n:Nat}(h:cs.length<=n)(l:List Nat)(i:Nat):Ra P W (fun _=>none) [] l i (cs.drop n):=by
 simp only[Ra];exact List.drop_eq_nil_of_le h
theorem gX {x:D}{xs:List D}{o k:Nat}(h1:Rd P W x ((cs.drop o).take k))(h2:∀l i,Ra P W (fun _=>none) xs l i (cs.drop (o+k)))(l:List Nat)(i:Nat):Ra P W (fun _=>none) (x::xs) l i (cs.drop o):=by
 simp only[Ra];exact⟨_,_,by rw[←List.drop_drop];exact(List.take_append_drop k (cs.drop o)).symm,(h1 []).len,h1 _,h2 _ _⟩
theorem EQ {xs:List D}(h:∀l i,Ra P W (fun _=>none) xs l i (cs.drop 0)):Rd P W (.agg xs) cs:=fun l=>by
 simp only[R];exact h l 0
theorem azV {C:Array Value}:∀(xs:List D) (l:List Nat) (i0 off:Nat),(∀i y,xs[i]?=some y->∃vs:List Value,vs.length=k/\(∀j,j<k->C[off+i*k+j]?=vs[j]?)/\Rd P W y vs)->Rs P W (fun _=>none) xs l i0 C off k
 |[],_,_,_,_=>by simp only[Rs]
 |x::xs,l,i0,off,h=>by
  obtain⟨vs,h1,h2,h3⟩:=h 0 x rfl;simp only[Rs];refine⟨vs,?_,h1,fun j hj=>by simpa using h2 j hj,h3 _,azV xs l (i0+1) (off+k) fun i y hy=> ?_⟩
  ·rw[←(h3 []).len];exact h1
  ·obtain⟨vs,h1,h2,h3⟩:=h (i+1) y (by simpa using hy);exact⟨vs,h1,fun j hj=>by have:=h2 j hj;rwa [show off+k+i*k+j=off+(i+1)*k+j by rw[Nat.succ_mul];omega],h3⟩
theorem anW {b o:Nat}{v:Value}{C:Array Value}{e:TypeId}{fz:Nat×Nat}(hh:W.heap[b]?=some (.cells C e fz))(h:W.cell? ⟨b,o,none⟩=some v):C[o]?=some v:=by
 unfold World.cell? at h;simpa[hh]using h
theorem ao7 {b o:Nat}{v:Value}(h:W.cell? ⟨b,o,none⟩=some v):∃C e fz,W.heap[b]?=some (.cells C e fz):=by
 unfold World.cell? at h;split at h
 ·rename_i C e fz hh;exact⟨C,e,fz,hh⟩
 ·simp at h
theorem I8 {α:Type}{f:α->D}{Q:α->Prop}(ht:P.underlying t=some (.slice e)) (hk:P.cellsOf e=k) (hk0:0<k)
  (hR:∀vs,Tr enc P W e vs->∃y,Q y/\Rd P W (f y) vs) (h:Tr enc P W t cs):
  ∃ys:List α,(ys.length<=9223372036854775807/\∀y∈ys,Q y)/\Rd P W (.sl none (ys.map f)) cs:=by
 obtain⟨fu,x,h⟩:=h;have h9:maxLen=9223372036854775807:=rfl;rcases DataW.trod_slice ht h with⟨rfl,_⟩|⟨a,len,cap,elems,rest,n,_,rfl,_,_,hl,hm,hlen,hel,_,_⟩
 ·exact⟨[],⟨by simp,by simp⟩,fun l=>by simp only[R];exact⟨none,0,rfl,by simp,by omega,.inl ⟨rfl,rfl,rfl⟩⟩⟩
 ·have each:∀i:Fin len,∃y:α,∃vs:List Value,Q y/\vs.length=k/\(∀j,(hj:j<vs.length)->W.cell? ((a.add (i.1*k)).add j)=some vs[j])/\Rd P W (f y) vs:=by
   intro i;have h1:=hel i.1 i.2;have h2:i.1<elems.length:=by rw[hlen];exact i.2
   rw[hk,List.getElem?_eq_getElem h2]at h1;obtain⟨vs,hvs,htr⟩:=Option.bind_eq_some_iff.1 h1;obtain⟨y,hq,hy⟩:=hR _ ⟨_,_,htr⟩
   have hc:(List.range k).mapM (fun j=>W.cell? ((a.add (i.1*k)).add j))=some vs:=by
    unfold World.cells? at hvs;rw[if_pos (Nat.zero_le _)]at hvs;exact hvs
   have hvl:vs.length=k:=by rw[mapM_some_length hc,List.length_range]
   refine⟨y,vs,hq,hvl,fun j hj=> ?_,hy⟩;have h3:=mapM_some_get hc j j (by rw[List.getElem?_range (by omega)]);rw[h3];simp[hj]
  obtain⟨g,hg⟩:=Classical.axiomOfChoice each;refine⟨List.ofFn g,⟨by simp;omega,fun y hy=> ?_⟩,fun l=> ?_⟩
  ·obtain⟨i,rfl⟩:=List.mem_ofFn.1 hy;exact(hg i).choose_spec.1
  ·simp only[R];refine⟨some a,cap,by simp,by simp;omega,hm,?_⟩;by_cases h0:len=0
   ·refine .inr (.inl ⟨by simp,?_⟩);apply List.eq_nil_of_length_eq_zero;simp[h0]
   ·obtain⟨vs0,_,g1,g2,_⟩:=hg ⟨0,by omega⟩;have hs:=World.cell?_spot (g2 0 (by omega));obtain⟨b,o,sp⟩:=a;obtain rfl:sp=none:=by simpa[Addr.add]using hs
    obtain⟨C,e',fz,hh⟩:=ao7 (by simpa[Addr.add]using g2 0 (by omega));refine .inr (.inr ⟨b,o,k,C,e',fz,rfl,hh,by simp,by simp,azV _ _ _ _ fun i y hy=> ?_⟩);rw[List.getElem?_map,Option.map_eq_some_iff]at hy;obtain⟨y',hy,rfl⟩:=hy;obtain⟨hi,rfl⟩:=List.getElem?_eq_some_iff.1 hy;rw[List.getElem_ofFn];obtain⟨vs,_,h1,h2,h3⟩:=hg ⟨i,by simpa using hi⟩;refine⟨vs,h1,fun j hj=> ?_,h3⟩;have h5:=h2 j (by omega);rw[Addr.add_lit,Addr.add_lit]at h5;rw[anW hh h5,List.getElem?_eq_getElem (by omega)]
theorem azN {xs:List D}{cs:Array Value}(h:Rd P W (.agg xs) cs.toList):V P W (fun _=>none) (.agg xs) [] (.agg cs):=by
 simp only[V];exact⟨cs,rfl,h []⟩
end
end Go.Dv
end
section
namespace Go.Er
open Go.ChangeShapes Go.WideShapes Go.ChangeAt Go.RowKit
section
variable {H:Type}{enc:TypeId×Value->H}
theorem Y7 {P:Program}(hl:laidOutB P=true){W W':World}(hb:Below W.heap.size W W'):
  ∀{ts:List TypeId}{vs:List Value}{ds:List (DataW H)}{ps:List MemPlace},(∀t∈ts,P.readableRec t=true/\t<P.types.size)->
   DataW.TrodAll enc P W 0 (fun _=>true) true ts vs ds ps->DataW.TrodAll enc P W' 0 (fun b=>decide (b<W.heap.size)) true ts vs ds ps:=by
 intro ts
 induction ts with
 |nil=>
  intro vs ds ps _ h;cases vs<;>cases ds<;>simp_all[DataW.TrodAll]
 |cons t ts ih=>
  intro vs ds ps hr h;obtain⟨v,vs',d,ds',p,q,rfl,rfl,rfl,h0,h1⟩:=trodAll_cons h;have lt0:∀x∈p,x.block<W.heap.size:=by obtain⟨m,hm⟩:=h0;exact DataW.trod_lt m _ _ _ hm
  exact trodAll_cons_mk (Below.trod hl (hr t (by simp)).1 (hr t (by simp)).2 h0 hb lt0) (ih (fun t' h'=>hr t' (by simp[h'])) h1)
theorem trodAll_length {P:Program}{W:World}{base:Nat}{sp:Nat->Bool}{hd:Bool}:
  ∀{ts:List TypeId}{vs:List Value}{ds:List (DataW H)}{ps:List MemPlace},DataW.TrodAll enc P W base sp hd ts vs ds ps->vs.length=ts.length/\ds.length=ts.length:=by
 intro ts
 induction ts with
 |nil=>intro vs ds ps h;cases vs<;>cases ds<;>simp_all[DataW.TrodAll]
 |cons t ts ih=>
  intro vs ds ps h;obtain⟨v,vs',d,ds',p,q,rfl,rfl,rfl,h0,h1⟩:=trodAll_cons h;have:=ih h1;simp[this]
end
abbrev Ext (w w':World):Prop:=Below w.heap.size w w'
theorem Ext.refl (w:World):Ext w w:=Below.refl _ _
theorem Ext.trans {a b c:World}(h:Ext a b)(k:Ext b c):Ext a c:=Below.trans h (k.mono h.size)
theorem Ext.alloc (w:World)(o:Obj):Ext w (w.alloc o):=(Below.refl _ _).alloc (Nat.le_refl _) o
theorem Ext.setCell' {a w:World}(h:Ext a w){p:Addr}(hp:a.heap.size<=p.block)(u:Value):Ext a (w.setCell p u):=Below.setCell h hp u
theorem Ext.cells {W w1:World}(hb:Ext W w1):∀b o,b<W.heap.size->w1.cell? ⟨b,o,none⟩=W.cell? ⟨b,o,none⟩:=
 fun b o h=>Below.cell hb (p:=⟨b,o,none⟩) h
def Cells (w:World)(a:Option Addr)(cs:List Value):Prop:=
 ∀i,(h:i<cs.length)->∃b o,a=some ⟨b,o,none⟩/\w.cell? ⟨b,o+i,none⟩=some cs[i]
def Ints (w:World)(a:Option Addr)(l:List Int):Prop:=
 ∀i,(h:i<l.length)->∃b o,a=some ⟨b,o,none⟩/\w.cell? ⟨b,o+i,none⟩=some (.int .i64 l[i])
theorem Ints.cells {w:World}{a:Option Addr}{l:List Int}(h:Ints w a l):Cells w a (l.map (.int .i64)):=by
 intro i hi;obtain⟨b,o,h1,h2⟩:=h i (by simpa using hi);exact⟨b,o,h1,by simpa using h2⟩
theorem Cells.ints {w:World}{a:Option Addr}{l:List Int}(h:Cells w a (l.map (.int .i64))):Ints w a l:=by
 intro i hi;obtain⟨b,o,h1,h2⟩:=h i (by simpa using hi);exact⟨b,o,h1,by simpa using h2⟩
theorem lt_of_cell {w:World}{b o:Nat}{v:Value}(h:w.cell? ⟨b,o,none⟩=some v):b<w.heap.size:=
 World.block_lt_of_cell? w ⟨b,o,none⟩ h
theorem Cells.ext {w w':World}{a:Option Addr}{cs:List Value}(h:Cells w a cs)(e:Ext w w'):Cells w' a cs:=by
 intro i hi;obtain⟨b,o,h1,h2⟩:=h i hi;exact⟨b,o,h1,by rw[e.cells b _ (lt_of_cell h2)];exact h2⟩
theorem Ints.ext {w w':World}{a:Option Addr}{l:List Int}(h:Ints w a l)(e:Ext w w'):Ints w' a l:=(h.cells.ext e).ints
def Own1 (w:World)(B:Nat)(e:TypeId)(v:Value)(cs:List Value):Prop:=w.ownsRow B e 1 v cs.length cs
theorem Own1.nil (w:World)(B:Nat)(e:TypeId):Own1 w B e (.slice none 0 0) []:=World.ownsRow_nil w B e 1
theorem Own1.ext {w w':World}{B:Nat}{e:TypeId}{v:Value}{cs:List Value}(h:Own1 w B e v cs)(hE:Ext w w'):Own1 w' B e v cs:=by
 refine⟨h.1,?_⟩;rcases h.2 with h2|⟨g,cap,cur,hv,hg,hh,r⟩
 ·exact Or.inl h2
 ·exact Or.inr ⟨g,cap,cur,hv,hg,by rw[hE.block g (Array.getElem?_eq_some_iff.1 hh).1];exact hh,r⟩
theorem Own1.mono {w:World}{B B':Nat}{e:TypeId}{v:Value}{cs:List Value}(h:Own1 w B e v cs)(hB:B'<=B):Own1 w B' e v cs:=by
 refine⟨h.1,?_⟩;rcases h.2 with h2|⟨g,cap,cur,hv,hg,r⟩
 ·exact Or.inl h2
 ·exact Or.inr ⟨g,cap,cur,hv,Nat.le_trans hB hg,r⟩
theorem Own1.alloc {w:World}{B:Nat}{e:TypeId}{v:Value}{cs:List Value}(h:Own1 w B e v cs)(o:Obj):Own1 (w.alloc o) B e v cs:=h.ext (Ext.alloc w o)
theorem Own1.drewN {w:World}{B:Nat}{e:TypeId}{v:Value}{cs:List Value}(h:Own1 w B e v cs)(n:Nat):Own1 (w.drewN n) B e v cs:=h
theorem Own1.slice {w:World}{B:Nat}{e:TypeId}{v:Value}{cs:List Value}(h:Own1 w B e v cs):∃a cap,v= .slice a cs.length cap/\Cells w a cs/\(a=none->cs=[]):=by
 rcases h.2 with⟨rfl,hn⟩|⟨g,cap,cur,rfl,hg,hh,hn,hm,hs,ht⟩
 ·have:cs=[]:=List.eq_nil_of_length_eq_zero hn;subst this;exact⟨none,0,rfl,fun i hi=>by simp at hi,fun _=>rfl⟩
 ·refine⟨some ⟨g,0,none⟩,cap,rfl,fun i hi=>⟨g,0,rfl,?_⟩,fun h=>by cases h⟩;have:=World.ownsRow.cellAt (w:=w) h i (by omega);rw[Nat.zero_add,this];simp[hi]
theorem Own1.ints {w:World}{B:Nat}{e:TypeId}{v:Value}{l:List Int}(h:Own1 w B e v (l.map (.int .i64))):∃a cap,v= .slice a l.length cap/\Ints w a l:=by
 obtain⟨a,cap,h1,h2,_⟩:=h.slice;exact⟨a,cap,by simpa using h1,h2.ints⟩
theorem Own1.set {w w0:World}{e:TypeId}{b n cap:Nat}{cs:List Value}(h:Own1 w w0.heap.size e (.slice (some ⟨b,0,none⟩) n cap) cs)(hE:Ext w0 w)(j:Nat)(u:Value):
  Own1 (w.setCell ⟨b,j,none⟩ u) w0.heap.size e (.slice (some ⟨b,0,none⟩) n cap) (cs.set j u)/\Ext w0 (w.setCell ⟨b,j,none⟩ u):=by
 have hn:cs.length=n:=by
  rcases h.2 with⟨h',_⟩|⟨g',cap',cur,h',_⟩<;>simp at h';omega
 subst hn;have hs:=World.ownsRow.stored (w:=w) h j u;refine⟨?_,hE.setCell' (p:=⟨b,j,none⟩) (World.ownsRow.lt h b rfl).1 u⟩;unfold Own1;rw[List.length_set];exact hs.1
theorem Own1.cellAt {w:World}{B:Nat}{e:TypeId}{b n cap:Nat}{cs:List Value}(h:Own1 w B e (.slice (some ⟨b,0,none⟩) n cap) cs)(j:Nat)(hj:j<cs.length):w.cell? ⟨b,j,none⟩=some cs[j]:=by
 have hn:cs.length=n:=by
  rcases h.2 with⟨h',_⟩|⟨g',cap',cur,h',_⟩<;>simp at h';omega
 subst hn;have:=World.ownsRow.cellAt (w:=w) h j (by omega);rw[this];simp[hj]
theorem Own1.kept {w w':World}{B:Nat}{e:TypeId}{v v2:Value}{cs:List Value}(h:Own1 w B e v2 cs)(hg:w.grownBy w' v.ownBlock)(hne:v2.ownBlock=none\/v2.ownBlock≠v.ownBlock):Own1 w' B e v2 cs:=
 World.ownsRow.kept h hg hne
def Apart (v v2:Value):Prop:=∀b,v.ownBlock=some b->v2.ownBlock≠some b
theorem Apart.symm {v v2:Value}(h:Apart v v2):Apart v2 v:=fun b h1 h2=>h b h2 h1
theorem Own1.lt {w:World}{B:Nat}{e:TypeId}{v:Value}{cs:List Value}(h:Own1 w B e v cs){b:Nat}(hb:v.ownBlock=some b):b<w.heap.size:=(World.ownsRow.lt h b hb).2
theorem Own1.beside {w w':World}{B:Nat}{e:TypeId}{v v' v2:Value}{cs2:List Value}(h2:Own1 w B e v2 cs2) (hap:Apart v v2) (hg:w.grownBy w' v.ownBlock)
  (hb:(v'.ownBlock=v.ownBlock/\v.ownBlock≠none)\/v'.ownBlock=some w.heap.size):Own1 w' B e v2 cs2/\Apart v' v2:=by
 refine⟨h2.kept hg ?_,?_⟩
 ·cases h:v2.ownBlock with
  |none=>exact Or.inl rfl
  |some b=>
   right;intro h3;exact hap b h3.symm h
 ·intro b h3 h4;rcases hb with⟨h5,_⟩|h5
  ·exact hap b (h5▸h3) h4
  ·rw[h5]at h3;simp at h3;have:=h2.lt h4;omega
theorem Ext.at {w w':World}(h:Ext w w'){b o:Nat}{v:Value}(hc:w.cell? ⟨b,o,none⟩=some v):w'.cell? ⟨b,o,none⟩=some v:=
 (h.cells b o (lt_of_cell hc)).trans hc
def Box (w:World)(b:Nat)(t:TypeId)(vs:Array Value):Prop:=w.heap[b]?=some (.cells vs t (0,0))
theorem Box.new (w:World)(t:TypeId)(vs:Array Value):Box (w.alloc (.cells vs t)) w.heap.size t vs:=heap_alloc_new w _
theorem Box.ext {w w':World}{b:Nat}{t:TypeId}{vs:Array Value}(h:Box w b t vs)(e:Ext w w'):Box w' b t vs:=by
 unfold Box at*
 rw[e.block b (Array.getElem?_eq_some_iff.1 h).1];exact h
theorem Box.alloc {w:World}{b:Nat}{t:TypeId}{vs:Array Value}(h:Box w b t vs)(o:Obj):Box (w.alloc o) b t vs:=h.ext (Ext.alloc w o)
theorem Box.lt {w:World}{b:Nat}{t:TypeId}{vs:Array Value}(h:Box w b t vs):b<w.heap.size:=(Array.getElem?_eq_some_iff.1 h).1
theorem Box.cell {w:World}{b:Nat}{t:TypeId}{vs:Array Value}(h:Box w b t vs)(i:Nat):w.cell? ⟨b,i,none⟩=vs[i]?:=cell_of_row w b i vs t (0,0) h
theorem Box.free {w:World}{b:Nat}{t:TypeId}{vs:Array Value}(h:Box w b t vs)(i:Nat):w.frozen? ⟨b,i,none⟩=false:=by
 unfold Box at h;simp[World.frozen?,h]
theorem Box.set {w:World}{b:Nat}{t:TypeId}{vs:Array Value}(h:Box w b t vs)(i:Nat)(u:Value):Box (w.setCell ⟨b,i,none⟩ u) b t (vs.setIfInBounds i u):=by
 unfold Box at*
 exact heap_setCell_same w b i vs t u h
theorem Box.setOther {w:World}{b c i:Nat}{t:TypeId}{vs:Array Value}(h:Box w b t vs)(hne:b≠c)(u:Value):Box (w.setCell ⟨c,i,none⟩ u) b t vs:=by
 unfold Box at*
 rw[heap_setCell_other w ⟨c,i,none⟩ b u hne];exact h
theorem Box.drewN {w:World}{b:Nat}{t:TypeId}{vs:Array Value}(h:Box w b t vs)(n:Nat):Box (w.drewN n) b t vs:=h
end Go.Er
end
section
namespace Go.Er
open Go.RowKit
def acC (w:World)(a:Option Addr)(L:List (List Int)):Prop:=
 ∀i,(h:i<L.length)->∃b o ai ci,a=some ⟨b,o,none⟩/\w.cell? ⟨b,o+i,none⟩=some (.slice ai L[i].length ci)/\Ints w ai L[i]
theorem acC.ext {w w':World}{a:Option Addr}{L:List (List Int)}(h:acC w a L)(e:Ext w w'):acC w' a L:=by
 intro i hi;obtain⟨b,o,ai,ci,h1,h2,h3⟩:=h i hi;exact⟨b,o,ai,ci,h1,e.at h2,h3.ext e⟩
theorem Own1.setOther {w:World}{B:Nat}{e:TypeId}{v:Value}{cs:List Value}(h:Own1 w B e v cs){b j:Nat}(hne:v.ownBlock≠some b)(u:Value):Own1 (w.setCell ⟨b,j,none⟩ u) B e v cs:=by
 refine⟨h.1,?_⟩;rcases h.2 with h2|⟨g,cap,cur,rfl,hg,hh,r⟩
 ·exact Or.inl h2
 ·refine Or.inr ⟨g,cap,cur,rfl,hg,?_,r⟩;rw[heap_setCell_other w ⟨b,j,none⟩ g u (fun e=>hne (by simp only[Value.ownBlock];rw[e]))];exact hh
theorem Own1.shape {w:World}{B:Nat}{e:TypeId}{v:Value}{cs:List Value}(h:Own1 w B e v cs)(hne:0<cs.length):∃g cap,v= .slice (some ⟨g,0,none⟩) cs.length cap:=by
 rcases h.2 with⟨_,hn⟩|⟨g,cap,cur,rfl,_⟩
 ·omega
 ·exact⟨g,cap,rfl⟩
theorem Apart.nil (v:Value):Apart (.slice none 0 0) v:=fun b h=>by simp[Value.ownBlock]at h
def Own2 (w:World)(B:Nat)(e2 e1:TypeId)(v:Value)(vs:List Value)(L:List (List Value)):Prop:=
 Own1 w B e2 v vs/\vs.length=L.length/\(∀i,(h:i<vs.length)->(h':i<L.length)->Own1 w B e1 vs[i] L[i]/\Apart vs[i] v)/\
  ∀i j,(h:i<vs.length)->(h':j<vs.length)->i≠j->Apart vs[i] vs[j]
theorem Own2.ext {w w':World}{B:Nat}{e2 e1:TypeId}{v:Value}{vs:List Value}{L:List (List Value)}(h:Own2 w B e2 e1 v vs L)(hE:Ext w w'):Own2 w' B e2 e1 v vs L:=
 ⟨h.1.ext hE,h.2.1,fun i h1 h2=>⟨(h.2.2.1 i h1 h2).1.ext hE,(h.2.2.1 i h1 h2).2⟩,h.2.2.2⟩
theorem Own2.mono {w:World}{B B':Nat}{e2 e1:TypeId}{v:Value}{vs:List Value}{L:List (List Value)}(h:Own2 w B e2 e1 v vs L)(hB:B'<=B):Own2 w B' e2 e1 v vs L:=
 ⟨h.1.mono hB,h.2.1,fun i h1 h2=>⟨(h.2.2.1 i h1 h2).1.mono hB,(h.2.2.1 i h1 h2).2⟩,h.2.2.2⟩
theorem Own2.empty {w:World}{B:Nat}{e2 e1:TypeId}{v:Value}(h:Own1 w B e2 v []):Own2 w B e2 e1 v [] []:=
 ⟨h,rfl,fun i h1 _=>by simp at h1,fun i j h1 _ _=>by simp at h1⟩
theorem Own2.push {w w':World}{B:Nat}{e2 e1:TypeId}{v v':Value}{vs:List Value}{L:List (List Value)}{u:Value}{cs:List Value}(h:Own2 w B e2 e1 v vs L)
  (hu:Own1 w B e1 u cs) (huv:Apart u v) (hus:∀i,(hi:i<vs.length)->Apart u vs[i])
  (hv':Own1 w' B e2 v' (vs++[u])) (hg:w.grownBy w' v.ownBlock) (hb:(v'.ownBlock=v.ownBlock/\v.ownBlock≠none)\/v'.ownBlock=some w.heap.size):
  Own2 w' B e2 e1 v' (vs++[u]) (L++[cs]):=by
 obtain⟨h1,h2,h3,h4⟩:=h;have hbu:=hu.beside huv.symm hg hb;refine⟨hv',by simp[h2],?_,?_⟩
 ·intro i hi hi';simp only[List.length_append,List.length_cons,List.length_nil]at hi hi';by_cases hlt:i<vs.length
  ·have:=h3 i hlt (by omega);have hbi:=this.1.beside this.2.symm hg hb;simp only[List.getElem_append_left hlt,List.getElem_append_left (show i<L.length by omega)];exact⟨hbi.1,hbi.2.symm⟩
  ·have e1:(vs++[u])[i]'(by simp;omega)=u:=by rw[List.getElem_append_right (by omega)];simp
   have e2:(L++[cs])[i]'(by simp;omega)=cs:=by rw[List.getElem_append_right (by omega)];simp
   rw[e1,e2];exact⟨hbu.1,hbu.2.symm⟩
 ·intro i j hi hj hne;simp only[List.length_append,List.length_cons,List.length_nil]at hi hj;by_cases hli:i<vs.length
  ·by_cases hlj:j<vs.length
   ·simp only[List.getElem_append_left hli,List.getElem_append_left hlj];exact h4 i j hli hlj hne
   ·obtain rfl:j=vs.length:=by omega
    simp only[List.getElem_append_left hli,List.getElem_append_right (Nat.le_refl _),Nat.sub_self];exact(hus i hli).symm
  ·obtain rfl:i=vs.length:=by omega
   have hlj:j<vs.length:=by omega
   simp only[List.getElem_append_left hlj,List.getElem_append_right (Nat.le_refl _),Nat.sub_self];exact hus j hlj
theorem Own2.put {w w' w0:World}{e2 e1:TypeId}{b n cap k:Nat}{vs:List Value}{L:List (List Value)}{x:Value}{cs:List Value}(h:Own2 w w0.heap.size e2 e1 (.slice (some ⟨b,0,none⟩) n cap) vs L) (hE:Ext w0 w')
  (hk:k<vs.length) (hx:Own1 w' w0.heap.size e1 x cs) (hg:w.grownBy w' vs[k].ownBlock) (hb:(x.ownBlock=vs[k].ownBlock/\vs[k].ownBlock≠none)\/x.ownBlock=some w.heap.size):
  Own2 (w'.setCell ⟨b,k,none⟩ x) w0.heap.size e2 e1 (.slice (some ⟨b,0,none⟩) n cap) (vs.set k x) (L.set k cs)/\Ext w0 (w'.setCell ⟨b,k,none⟩ x):=by
 obtain⟨h1,h2,h3,h4⟩:=h;have hkv:=(h3 k hk (by omega)).2;have hv:=h1.beside hkv hg hb;have hset:=hv.1.set hE k x;have hne:∀y:Value,Apart y (.slice (some ⟨b,0,none⟩) n cap)->y.ownBlock≠some b:=fun y hy hyb=>hy b hyb rfl;refine⟨⟨hset.1,by simp[h2],?_,?_⟩,hset.2⟩
 ·intro i hi hi';have hi2:i<vs.length:=by simpa using hi
  have hi3:i<L.length:=by simpa using hi'
  rw[List.getElem_set,List.getElem_set];by_cases hik:k=i
  ·rw[if_pos hik,if_pos hik];exact⟨hx.setOther (hne _ hv.2) x,hv.2⟩
  ·rw[if_neg hik,if_neg hik];have:=h3 i hi2 hi3;have hbi:=this.1.beside (h4 k i hk hi2 hik) hg hb;exact⟨hbi.1.setOther (hne _ this.2) x,this.2⟩
 ·intro i j hi hj hne2;have hi2:i<vs.length:=by simpa using hi
  have hj2:j<vs.length:=by simpa using hj
  rw[List.getElem_set,List.getElem_set];by_cases hik:k=i
  ·rw[if_pos hik,if_neg (by omega)];subst hik;exact((h3 j hj2 (by omega)).1.beside (h4 k j hk hj2 hne2) hg hb).2
  ·rw[if_neg hik];by_cases hjk:k=j
   ·rw[if_pos hjk];subst hjk;exact((h3 i hi2 (by omega)).1.beside (h4 k i hk hi2 (Ne.symm hne2)) hg hb).2.symm
   ·rw[if_neg hjk];exact h4 i j hi2 hj2 hne2
def BX (B:Nat)(w w':World):Prop:=w.heap.size<=w'.heap.size/\∀k,B<=k->k<w.heap.size->w'.heap[k]?=w.heap[k]?
theorem BX.aq9 {B:Nat}{w w':World}(h:Ext w w'):BX B w w':=⟨h.size,fun k _ hk=>h.block k hk⟩
theorem BX.trans {B:Nat}{a b c:World}(h:BX B a b)(k:BX B b c):BX B a c:=
 ⟨Nat.le_trans h.1 k.1,fun i hi hk=>(k.2 i hi (Nat.lt_of_lt_of_le hk h.1)).trans (h.2 i hi hk)⟩
theorem BX.refl (B:Nat)(w:World):BX B w w:=⟨Nat.le_refl _,fun _ _ _=>rfl⟩
theorem BX.cell {B:Nat}{w w':World}(h:BX B w w'){b o:Nat}{v:Value}(hb:B<=b)(hc:w.cell? ⟨b,o,none⟩=some v):w'.cell? ⟨b,o,none⟩=some v:=
 (World.cell?_of_block (a:=⟨b,o,none⟩) (h.2 b hb (lt_of_cell hc))).trans hc
theorem BX.setCell {B:Nat}(w:World){b:Nat}(hb:b<B)(o:Nat)(u:Value):BX B w (w.setCell ⟨b,o,none⟩ u):=
 ⟨by simp,fun k hk _=>heap_setCell_other w ⟨b,o,none⟩ k u (by simp;omega)⟩
abbrev Rel (α:Type):=Nat->World->List Value->α->Prop
structure TD {α:Type}(R:Rel α):Prop where
 keep:∀{B w w' vs x},BX B w w'->R B w vs x->R B w' vs x
 mono:∀{B B' w vs x},B'<=B->R B w vs x->R B' w vs x
theorem TD.ext {α:Type}{R:Rel α}(g:TD R){B:Nat}{w w':World}{vs:List Value}{x:α}(h:R B w vs x)(hE:Ext w w'):R B w' vs x:=g.keep (BX.aq9 hE) h
def ZB {α:Type}(k:Nat)(R:Rel α)(B:Nat)(w:World)(a:Option Addr)(l:List α):Prop:=
 l.length<=maxLen/\∀i,(h:i<l.length)->∃b o vs,a=some ⟨b,o,none⟩/\B<=b/\vs.length=k/\(∀j,(hj:j<vs.length)->w.cell? ⟨b,o+i*k+j,none⟩=some vs[j])/\R B w vs l[i]
theorem ZB.keep {α:Type}{k:Nat}{R:Rel α}(g:TD R){B:Nat}{w w':World}{a:Option Addr}{l:List α}(h:ZB k R B w a l)(hk:BX B w w'):ZB k R B w' a l:=by
 refine⟨h.1,fun i hi=> ?_⟩;obtain⟨b,o,vs,h1,h2,h3,h4,h5⟩:=h.2 i hi;exact⟨b,o,vs,h1,h2,h3,fun j hj=>hk.cell h2 (h4 j hj),g.keep hk h5⟩
theorem ZB.mono {α:Type}{k:Nat}{R:Rel α}(g:TD R){B B':Nat}{w:World}{a:Option Addr}{l:List α}(h:ZB k R B w a l)(hB:B'<=B):ZB k R B' w a l:=by
 refine⟨h.1,fun i hi=> ?_⟩;obtain⟨b,o,vs,h1,h2,h3,h4,h5⟩:=h.2 i hi;exact⟨b,o,vs,h1,Nat.le_trans hB h2,h3,h4,g.mono hB h5⟩
theorem ZB.ext {α:Type}{k:Nat}{R:Rel α}(g:TD R){B:Nat}{w w':World}{a:Option Addr}{l:List α}(h:ZB k R B w a l)(hE:Ext w w'):ZB k R B w' a l:=h.keep g (BX.aq9 hE)
def setCells (w:World)(N:Nat):Nat->List Value->World
 |_,[]=>w
 |o,u::us=>setCells (w.setCell ⟨N,o,none⟩ u) N (o+1) us
def setMany (arr:Array Value):Nat->List Value->Array Value
 |_,[]=>arr
 |o,u::us=>setMany (arr.setIfInBounds o u) (o+1) us
theorem PX:∀(us:List Value) (arr:Array Value) (o:Nat),(setMany arr o us).size=arr.size
 |[],_,_=>rfl
 |u::us,arr,o=>by rw[setMany,PX us];simp
theorem ET:∀(us:List Value) (arr:Array Value) (o m:Nat),o+us.length<=arr.size->(setMany arr o us)[m]?=if o<=m/\m<o+us.length then us[m-o]? else arr[m]?
 |[],arr,o,m,_=>by
  have:¬(o<=m/\m<o+([]:List Value).length):=by simp
  rw[if_neg this];rfl
 |u::us,arr,o,m,h=>by
  simp only[List.length_cons]at h;rw[setMany,ET us _ (o+1) m (by simp;omega)];by_cases h1:m=o
  ·subst h1;have h2:¬(m+1<=m/\m<m+1+us.length):=by omega
   have h3:m<=m/\m<m+(u::us).length:=by simp
   rw[if_neg h2,if_pos h3];have h4:m<arr.size:=by omega
   simp[h4]
  ·by_cases h2:o+1<=m/\m<o+1+us.length
   ·have h3:o<=m/\m<o+(u::us).length:=by simp;omega
    rw[if_pos h2,if_pos h3];have h4:m-o=(m-(o+1))+1:=by omega
    rw[h4,List.getElem?_cons_succ]
   ·have h3:¬(o<=m/\m<o+(u::us).length):=by simp;omega
    rw[if_neg h2,if_neg h3];rw[Array.getElem?_setIfInBounds];have h4:¬o=m:=fun h=>h1 h.symm;rw[if_neg h4]
theorem Box.setCells {N:Nat}{e:TypeId}:∀(us:List Value) {w:World}{arr:Array Value}(o:Nat),Box w N e arr->Box (setCells w N o us) N e (setMany arr o us)
 |[],_,_,_,h=>h
 |u::us,_,_,o,h=>Box.setCells us (o+1) (h.set o u)
theorem J9 {N B:Nat}(hB:N<B):∀(us:List Value) (w:World) (o:Nat),BX B w (setCells w N o us)
 |[],_,_=>⟨Nat.le_refl _,fun _ _ _=>rfl⟩
 |u::us,w,o=>(BX.setCell w hB o u).trans (J9 hB us _ (o+1))
def oN {α:Type}(k:Nat)(R:Rel α)(N:Nat)(e:TypeId)(n:Nat)(w:World)(l:List α)(i:Nat):Prop:=
 ∃arr:Array Value,Box w N e arr/\arr.size=n*k/\∀j,(hj:j<l.length)->j<i->∃vs:List Value,vs.length=k/\(∀t,(ht:t<vs.length)->arr[j*k+t]?=some vs[t])/\R (N+1) w vs l[j]
theorem oN.cell {α:Type}{k:Nat}{R:Rel α}{N:Nat}{e:TypeId}{n:Nat}{w:World}{l:List α}{i:Nat}(h:oN k R N e n w l i){m:Nat}(hm:m<n*k):∃y,w.cell? ⟨N,m,none⟩=some y:=by
 obtain⟨arr,h1,h2,_⟩:=h;have h3:m<arr.size:=by omega
 exact⟨arr[m],by rw[h1.cell m];simp[h3]⟩
theorem oN.free {α:Type}{k:Nat}{R:Rel α}{N:Nat}{e:TypeId}{n:Nat}{w:World}{l:List α}{i:Nat}(h:oN k R N e n w l i)(m:Nat):w.frozen? ⟨N,m,none⟩=false:=by
 obtain⟨arr,h1,_⟩:=h;exact h1.free m
theorem oN.lt {α:Type}{k:Nat}{R:Rel α}{N:Nat}{e:TypeId}{n:Nat}{w:World}{l:List α}{i:Nat}(h:oN k R N e n w l i):N<w.heap.size:=by
 obtain⟨arr,h1,_⟩:=h;exact h1.lt
theorem oN.ext {α:Type}{k:Nat}{R:Rel α}(g:TD R){N:Nat}{e:TypeId}{n:Nat}{w w':World}{l:List α}{i:Nat}(h:oN k R N e n w l i)(hE:Ext w w'):oN k R N e n w' l i:=by
 obtain⟨arr,h1,h2,h3⟩:=h;refine⟨arr,h1.ext hE,h2,fun j hj hji=> ?_⟩;obtain⟨vs,h4,h5,h6⟩:=h3 j hj hji;exact⟨vs,h4,h5,g.ext h6 hE⟩
theorem oN.start {α:Type}{k:Nat}{R:Rel α}{N B:Nat}{e:TypeId}{n:Nat}{w:World}{l:List α}{xs:List Value}(h:w.ownsRow B e k (.slice (some ⟨N,0,none⟩) n n) n xs)(hn:l.length<=n):oN k R N e n w l 0:=by
 rcases h.2 with⟨h1,_⟩|⟨g,cap,cur,h1,_,h2,_,_,h3,_⟩
 ·cases h1
 ·cases h1;exact⟨cur,h2,h3,fun j _ hj=>absurd hj (by omega)⟩
theorem oN.step {α:Type}{k:Nat}{R:Rel α}(g:TD R) {N:Nat}{e:TypeId}{n:Nat}{w:World}{l:List α}{i:Nat}(h:oN k R N e n w l i) (hi:i<l.length) (hn:l.length<=n)
  {us:List Value}(hu:us.length=k) (hR:R (N+1) w us l[i]):oN k R N e n (setCells w N (i*k) us) l (i+1):=by
 obtain⟨arr,h1,h2,h3⟩:=h;have hb:(i+1)*k<=n*k:=Nat.mul_le_mul_right k (by omega);have hb2:i*k+us.length<=arr.size:=by rw[h2,hu];rw[Nat.add_mul]at hb;omega
 have hkp:=J9 (N:=N) (B:=N+1) (by omega) us w (i*k);refine⟨_,h1.setCells us (i*k),by rw[PX];exact h2,fun j hj hji=> ?_⟩;by_cases hji2:j=i
 ·subst hji2;refine⟨us,hu,fun t ht=> ?_,g.keep hkp hR⟩;rw[ET us arr _ _ hb2,if_pos ⟨by omega,by omega⟩];have:j*k+t-j*k=t:=by omega
  rw[this];simp[ht]
 ·obtain⟨vs,h4,h5,h6⟩:=h3 j hj (by omega);refine⟨vs,h4,fun t ht=> ?_,g.keep hkp h6⟩;have hlt:(j+1)*k<=i*k:=Nat.mul_le_mul_right k (by omega);rw[Nat.add_mul]at hlt;rw[ET us arr _ _ hb2,if_neg (by omega)];exact h5 t ht
theorem oN.done {α:Type}{k:Nat}{R:Rel α}(g:TD R){N:Nat}{e:TypeId}{n:Nat}{w:World}{l:List α}(h:oN k R N e n w l l.length)(hl:l.length<=maxLen):ZB k R N w (some ⟨N,0,none⟩) l:=by
 obtain⟨arr,h1,h2,h3⟩:=h;refine⟨hl,fun i hi=> ?_⟩;obtain⟨vs,h4,h5,h6⟩:=h3 i hi hi;refine⟨N,0,vs,rfl,Nat.le_refl _,h4,fun j hj=> ?_,g.mono (by omega) h6⟩;rw[h1.cell,Nat.zero_add];exact h5 j hj
theorem Box.keep {B:Nat}{w w':World}{b:Nat}{t:TypeId}{vs:Array Value}(h:Box w b t vs)(hk:BX B w w')(hb:B<=b):Box w' b t vs:=by
 have hs:=h.lt;unfold Box at*
 rw[hk.2 b hb hs];exact h
end Go.Er
end
section
namespace Go.Er
open Go.ChangeShapes Go.WideShapes Go.ChangeAt Go.RowKit
section
variable {H:Type}{enc:TypeId×Value->H}
theorem ZP {P:Program}(hl:laidOutB P=true) {W W':World}(hb:Below W.heap.size W W') {n:String}{g:Nat}{t:TypeId}(hg:P.globalNamed n=some g) (ht:(P.globals[g]?).map (·.type)=some t) (hr:P.readableRec t=true/\t<P.types.size) {gs:List (DataW H)}{ps:List MemPlace}
  (h:DataW.TrodVars enc P W (fun _=>true) [n] gs ps):∃q,DataW.TrodVars enc P W' (fun b=>decide (b<W.heap.size)) [n] gs q:=by
 obtain⟨g',t',cs,fuel,d,p,rfl,h1,h2,h3,h4,rfl⟩:=trodVars_one h;obtain rfl:=Option.some.inj (hg.symm.trans h1);obtain rfl:=Option.some.inj (ht.symm.trans h2);have h0:DataW.Trod enc P W 0 (fun _=>true) true t (.agg cs) d p:=⟨fuel,h4⟩;have lt0:∀x∈p,x.block<W.heap.size:=DataW.trod_lt fuel _ _ _ h4;obtain⟨m,hm⟩:=Below.trod hl hr.1 hr.2 h0 hb lt0
 have h5:W'.var? P n=some cs:=by
  unfold World.var? at h3|-
  rw[hg]at h3|-
  simp only[Option.bind_some]at h3|-
  have hlt:g<W.heap.size:=by
   cases hx:W.heap[g]? with
   |none=>rw[hx]at h3;cases h3
   |some o=>exact(Array.getElem?_eq_some_iff.1 hx).1
  rw[hb.block g hlt];exact h3
 exact⟨_,trodVars_mk1 hg ht h5 hm⟩
theorem UE {C:Checked}{f:FuncId}{fn:Func}{s:ChangeSpec}{os:Os}{L:List (String×DataW Unit)}{n:String}{g:Nat}{t:TypeId}(started:os.Started)
  (own:ownKnob C.prog.godebug=none) (laidOut:laidOutB C.prog=true) (noInit:C.prog.inits.idxOf? f=none) (hfn:C.prog.funcs[f]?=some fn)
  (hvars:s.vars=[n]) (hspec:∀(ds:List (DataW H)) (v:DataW H),ds.length=fn.params.size->s.fn H (ds++[v])={results:=[.lit (.bool true)],args:=ds,vars:=[v]})
  (hg:C.prog.globalNamed n=some g) (ht:(C.prog.globals[g]?).map (·.type)=some t) (hrt:C.prog.readableRec t=true/\t<C.prog.types.size)
  {tb:TypeId}(hres:fn.resultTypes= #[tb]) (hb:C.prog.underlying tb=some .bool)
  (hread:∀t∈fn.params.toList,C.prog.readableRec t=true/\t<C.prog.types.size)
  (witness:∃(w:World) (tape:Tape) (i:Input),w.os=os/\(w.forCall tape i).Shaped C.prog/\i.vars=[]/\Input.okWide C.prog (w.forCall tape i) .any w.heap.size f i/\
   ((s.pre enc C.prog fn [] false (w.forCall tape i).memory i.args/\laidMet C.prog L (w.forCall tape i).memory)/\sizedMet enc C.prog fn (OpenSpec.ofChange s) false (w.forCall tape i).memory i.args)/\({}:Assume).holds C.prog (lone (Frame.enter C.prog f i.args .normal) [] (w.forCall tape i)))
  (walk:∀(W:World) (base:Nat) (args:Array Value) (ds:List (DataW H)) (p:List MemPlace),W.ShapedOpen C.prog->
   (∀(j:Nat) t v,fn.params[j]?=some t->args[j]?=some v->Value.okWide C.prog W .any base t v)->
   DataW.TrodAll enc C.prog W 0 (fun _=>true) true fn.params.toList args.toList ds p->laidMet C.prog L W->
   Calls C.prog f args W fun e W'=>e= .returned (.bool true)/\Below W.heap.size W W'):
  ReturnsInHanded {} C os f .any (fun w args=>(s.pre enc C.prog fn [] false w args/\laidMet C.prog L w)/\sizedMet enc C.prog fn (OpenSpec.ofChange s) false w args) (s.post enc C.prog fn false true false false):=by
 refine returnsInHanded_of_calls own started noInit witness ?_;intro w tape i _ hsh _ hok hpre hholds;obtain⟨_,_,_,fn',hfn',_,_,_,_,hval⟩:=hok;obtain rfl:fn'=fn:=Option.some.inj (hfn'.symm.trans hfn);obtain⟨⟨⟨ds,gs,before,hw,hc⟩,hx⟩,hz⟩:=hpre;have hW:=DataW.Whole.of_heap (w':=w.forCall tape i) (by rfl) hw;have hL:laidMet C.prog L (w.forCall tape i):=hx.of_heap (by rfl);have hW':=hW;obtain⟨p,q,hA,hV,rfl,_,_⟩:=hW;rw[hvars]at hV;have hlen:=(trodAll_length hA).2;refine(walk (w.forCall tape i) w.heap.size i.args ds p hsh hval hA hL).mono fun e W' ⟨he,bel⟩=> ?_;subst he;obtain⟨q2,hV2⟩:=ZP laidOut bel hg ht hrt hV;obtain⟨_,_,_,_,v,_,rfl,_⟩:=trodVars_one hV;refine ChangeSpec.post_blind (v:= .bool true) ?_;have hsp:=hspec ds v (by simpa using hlen);refine⟨ds,[v],p++q,[],p,q2,hW',?_,?_,?_,bel.frame _,fun h=>by cases h⟩
 ·rw[hsp,hres];exact trodAll_mk1 (shut_bool hb _)
 ·rw[hsp];exact Y7 laidOut bel hread hA
 ·rw[hsp,hvars];exact hV2
end
end Go.Er
namespace Go.Proofs.YtnglphdfhegnmaaGreatDoor
open Go.Dv Go.Pl
open Go.ChangeShapes Go.WideShapes Go.ChangeAt Go.RowKit Go.Er
abbrev tables:List (String×DataW Unit):=[("math/bits.deBruijn32tab",Rows.laid_math_bits_deBruijn32tab),("math/bits.deBruijn64tab",Rows.laid_math_bits_deBruijn64tab),("internal/strconv.uint64pow10",Rows.laid_internal_strconv_uint64pow10),("unicode/utf8.acceptRanges",Rows.laid_unicode_utf8_acceptRanges),("strconv.ErrRange",Rows.laid_strconv_ErrRange),("strconv.ErrSyntax",Rows.laid_strconv_ErrSyntax),("loop.example/g01923/impl.soundCodes",Rows.laid_loop_example_g01923_impl_soundCodes),("unicode/utf8.first",Rows.laid_unicode_utf8_first)]
theorem own:ownKnob Tryz.prog.godebug=none:=by kernel_rfl
theorem laidOut:laidOutB Tryz.prog=true:=by kernel_rfl
theorem azM: "*" ++ "errors.errorString" = "*errors.errorString" :=by decide
theorem atN (u:TypeId)(h:Tryz.prog.typeName? 3 u=some "*errors.errorString"):u=353:=
 typeName_ptr_named (nm:= "errors.errorString") (by rw[azM];kernel_rfl) (by kernel_rfl) (by decide) u (by rw[azM];exact h)
theorem azL {W:World}(hL:laidMet Tryz.prog tables W):Lib.TabIs Tryz.prog W "internal/strconv.uint64pow10" .u64 Lib.pow10Tab:=by
 have h:=hL.tail.tail;rw[show(Rows.laid_internal_strconv_uint64pow10:DataW Unit)=Lib.tabData .u64 Lib.pow10Tab by kernel_rfl]at h;exact Lib.tabIs_of_head (g:=6) (by kernel_rfl) (by kernel_rfl) Tryz.underlying362 Tryz.underlying251 (by kernel_rfl) (by kernel_rfl) h
theorem an3 {W:World}(hL:laidMet Tryz.prog tables W):Lib.TabIs Tryz.prog W "loop.example/g01923/impl.soundCodes" .i64 G5:=by
 have h:=hL.tail.tail.tail.tail.tail.tail;rw[show(Rows.laid_loop_example_g01923_impl_soundCodes:DataW Unit)=Lib.tabData .i64 G5 by kernel_rfl]at h;exact Lib.tabIs_of_head (g:=0) (by kernel_rfl) (by kernel_rfl) Tryz.underlying307 Tryz.underlying3 (by kernel_rfl) (by kernel_rfl) h
theorem aiT {P:Program}{W:World}{base:Nat}{t:TypeId}{cs:Array Value}(ht:P.cellTypes P.depth t=some [t])(hu:P.underlying t=some (.int .i64))(hs:cs.size=1)(h:Row.ok P W .any base t cs):∃m,cs= #[.int .i64 m]:=by
 obtain⟨ts,h1,_,h3⟩:=h;rw[ht]at h1;obtain rfl:=Option.some.inj h1;obtain⟨v,rfl⟩:=Array.size_eq_one_iff.1 hs;obtain⟨u,hu',hv⟩:=h3 0 v rfl;obtain rfl:t=u:=by simpa using hu'
 unfold Cell.ok at hv;rw[hu]at hv;cases v with
 |int k n=>obtain⟨rfl,_⟩:=hv;exact⟨n,rfl⟩
 |_=>exact hv.elim
theorem aoB {W:World}(hS:W.ShapedOpen Tryz.prog)(hL:laidMet Tryz.prog tables W):sG W:=by
 refine⟨azL hL,?_,?_,?_,an3 hL⟩
 ·obtain⟨a,s,h,_⟩:=laid_sentinel hL.tail.tail.tail.tail.tail (g:=2) (by kernel_rfl) (by kernel_rfl) Tryz.underlying309 atN Tryz.underlying353 Tryz.underlying355 rfl rfl Tryz.underlying9 (by kernel_rfl) (by kernel_rfl);exact⟨_,_,h⟩
 ·obtain⟨a,s,h,_⟩:=laid_sentinel hL.tail.tail.tail.tail (g:=3) (by kernel_rfl) (by kernel_rfl) Tryz.underlying309 atN Tryz.underlying353 Tryz.underlying355 rfl rfl Tryz.underlying9 (by kernel_rfl) (by kernel_rfl);exact⟨_,_,h⟩
 ·obtain⟨cs,h1,h2,h3⟩:=hS.1 1 #[.int .i64 0] 3 (of_decide_eq_true (by kernel_rfl)) (by kernel_rfl);obtain⟨m,rfl⟩:=aiT (by kernel_rfl) Tryz.underlying3 h2 (h3 (by kernel_rfl));exact⟨m,by simp[World.cell?,h1]⟩
theorem anM {W W':World}(h:∀b,b<9->W'.heap[b]?=W.heap[b]?)(hg:sG W):sG W':=by
 have hv:∀(n:String) (g:Nat),Tryz.prog.globalNamed n=some g->g<9->W'.var? Tryz.prog n=W.var? Tryz.prog n:=fun n g h1 h2=>by
  unfold World.var?;rw[h1];simp only[Option.bind_some];rw[h g h2]
 obtain⟨h1,h2,h3,⟨m,h4⟩,h5⟩:=hg;refine⟨(hv _ 6 (by kernel_rfl) (by decide)).trans h1,?_,?_,⟨m,?_⟩,(hv _ 0 (by kernel_rfl) (by decide)).trans h5⟩
 ·rw[hv _ 2 (by kernel_rfl) (by decide)];exact h2
 ·rw[hv _ 3 (by kernel_rfl) (by decide)];exact h3
 ·exact(World.cell?_of_block (a:=⟨1,0,none⟩) (h 1 (by decide))).trans h4
theorem azK {W:World}(hS:W.ShapedOpen Tryz.prog)(hL:laidMet Tryz.prog tables W)(hsz:9<=W.heap.size):Laid W (fun _=>none):=by
 have hg:=aoB hS hL;refine⟨(List.range 9).filterMap fun b=>(W.heap[b]?).map fun o=>(b,o),fun W' h=>anM (fun b hb=> ?_) hg,fun p hp=> ?_⟩
 ·have hb2:b<W.heap.size:=by omega
  have h1:=h (b,W.heap[b]) (List.mem_filterMap.2 ⟨b,by simpa using hb,by simp[Array.getElem?_eq_getElem hb2]⟩);rw[h1,Array.getElem?_eq_getElem hb2]
 ·obtain⟨b,_,hb⟩:=List.mem_filterMap.1 hp;simp only[Option.map_eq_some_iff]at hb;obtain⟨o,ho,rfl⟩:=hb;exact⟨ho,rfl⟩
theorem anO {W:World}{f:FuncId}{ds:List D}{args:Array Value}(hf:bR Tryz.prog f ds (fun r=>r= .val (dB true)))(hlaid:Laid W (fun _=>none))(hn:args.size=ds.length)(ha:∀(i:Nat) (d:D),ds[i]?=some d->V Tryz.prog W (fun _=>none) d.fz [] (args.getD i undef)):
  Calls Tryz.prog f args W fun e W'=>e= .returned (.bool true)/\Below W.heap.size W W':=by
 refine(hf W (fun _=>none) args 0 (by decide) hlaid (fun _ _=>rfl) hn ha).mono ?_;rintro e W' ⟨v,ow',r,rfl,rfl,haf,_,hsv⟩;have hv:=hsv (fun _=> .un) {tmps:= #[],defers:=[]};simp only[SV,V,D.fz,R]at hv;obtain⟨hv,_⟩:=hv;obtain rfl:v= .bool true:=by simpa using hv
 exact⟨rfl,haf.os,haf.tape,haf.output,haf.size,fun b hb=>(haf.old b hb).1⟩
def setBlock (h:Array Obj)(i:Nat)(cs:Array Value):Array Obj:=h.modify i fun
 | .cells _ t frozen=> .cells cs t frozen
 |o=>o
def A7:DataW Unit->Array Value
 | .agg parts=>(parts.flatMap fun| .lit (.int k n)=>[Value.int k n]| .agg ps=>(ps.map fun| .lit (.int k n)=>Value.int k n|_=>undef)|_=>[]).toArray
 |_=> #[]
def alK:DataW Unit->ByteArray
 | .iface _ (.ptr (.agg [.lit (.string l)]))=>⟨l.toArray⟩
 |_=>⟨#[]⟩
noncomputable def low:Nat:=(World.holding Tryz.prog default ⟨#[],#[],[]⟩).heap.size
noncomputable def aaU (os:Os):World:=
 let w0:=World.holding Tryz.prog os ⟨#[.cells #[.string (alK Rows.laid_strconv_ErrSyntax)] 355,.cells #[.string (alK Rows.laid_strconv_ErrRange)] 355],#[],[]⟩
 {w0 with heap:=setBlock (setBlock (setBlock (setBlock (setBlock (setBlock (setBlock (setBlock w0.heap 6 (A7 Rows.laid_internal_strconv_uint64pow10)) 4 (A7 Rows.laid_unicode_utf8_first)) 5 (A7 Rows.laid_unicode_utf8_acceptRanges)) 7 (A7 Rows.laid_math_bits_deBruijn32tab)) 8 (A7 Rows.laid_math_bits_deBruijn64tab)) 0 (A7 Rows.laid_loop_example_g01923_impl_soundCodes)) 2 #[.iface 353 (.pointer (some ⟨low,0,none⟩))]) 3 #[.iface 353 (.pointer (some ⟨low+1,0,none⟩))]}
theorem asP (os:Os)(args:Array Value):laidMet Tryz.prog tables ((aaU os).forCall (fun _ _=>0) ⟨#[],args,[]⟩).memory:=
 laidMet_of_run' 9 (by kernel_rfl) (by kernel_rfl)
theorem aCM {W:World}(hS:W.ShapedOpen Tryz.prog):9<=W.heap.size:=by
 obtain⟨cs,h1,_⟩:=hS.1 8 (Array.replicate 64 (.int .u8 0)) 365 (of_decide_eq_true (by kernel_rfl)) (by kernel_rfl);exact(Array.getElem?_eq_some_iff.1 h1).1
section
variable {H:Type}{enc:TypeId×Value->H}{W:World}{cs:List Value}
theorem aAT (h:Tr enc Tryz.prog W 137 cs):∃v:Ver,Rd Tryz.prog W (dP v) cs:=by
 have hl:=uA Tryz.underlying137 (n:=4) (by kernel_rfl) h;have hf:=uE Tryz.underlying137 h;obtain⟨a,h0⟩:=open_int Tryz.underlying3 (hf 0 _ rfl 0 1 rfl (by kernel_rfl));obtain⟨b,h1⟩:=open_int Tryz.underlying3 (hf 1 _ rfl 1 1 rfl (by kernel_rfl));obtain⟨s,h2⟩:=open_bool Tryz.underlying4 (hf 2 _ rfl 2 1 rfl (by kernel_rfl));obtain⟨t,h3⟩:=open_int Tryz.underlying3 (hf 3 _ rfl 3 1 rfl (by kernel_rfl));exact⟨⟨a,b,s,t⟩,EQ (gX h0 (gX h1 (gX h2 (gX h3 (GZ hl)))))⟩
theorem av6 (h:Tr enc Tryz.prog W 97 cs):∃l:List Str,arC l/\Rd Tryz.prog W (bD l) cs:=
 I8 Tryz.underlying97 (k:=1) (by kernel_rfl) (by decide) (fun vs h=>as6 Tryz.underlying9 h) h
theorem aA1 (h:Tr enc Tryz.prog W 99 cs):∃r:Rec,arC r.fields/\Rd Tryz.prog W (tY r) cs:=by
 have hl:=uA Tryz.underlying99 (n:=4) (by kernel_rfl) h;have hf:=uE Tryz.underlying99 h;obtain⟨a,h0⟩:=open_int Tryz.underlying3 (hf 0 _ rfl 0 1 rfl (by kernel_rfl));obtain⟨b,h1⟩:=open_int Tryz.underlying3 (hf 1 _ rfl 1 1 rfl (by kernel_rfl));obtain⟨c,h2⟩:=open_int Tryz.underlying3 (hf 2 _ rfl 2 1 rfl (by kernel_rfl));obtain⟨l,q,h3⟩:=av6 (hf 3 _ rfl 3 1 rfl (by kernel_rfl));exact⟨⟨a,b,c,l⟩,q,EQ (gX h0 (gX h1 (gX h2 (gX h3 (GZ hl)))))⟩
theorem ax8 (h:Tr enc Tryz.prog W 30 cs):∃l:List Rec,as9 l/\Rd Tryz.prog W (iG l) cs:=
 I8 Tryz.underlying30 (k:=4) (by kernel_rfl) (by decide) (fun vs h=>aA1 h) h
theorem axK (h:Tr enc Tryz.prog W 31 cs):∃l:List Ver,l.length<=9223372036854775807/\Rd Tryz.prog W (aU l) cs:=by
 obtain⟨l,q,h⟩:=I8 (Q:=fun _:Ver=>True) Tryz.underlying31 (k:=4) (by kernel_rfl) (by decide) (fun vs h=>by obtain⟨v,h⟩:=aAT h;exact⟨v,trivial,h⟩) h;exact⟨l,q.1,h⟩
theorem alR (h:Tr enc Tryz.prog W 25 cs):∃l:List Int,l.length<=9223372036854775807/\Rd Tryz.prog W (nInts l) cs:=by
 obtain⟨l,q,h⟩:=I8 (Q:=fun _:Int=>True) Tryz.underlying25 (k:=1) (by kernel_rfl) (by decide) (fun vs h=>by obtain⟨v,h⟩:=open_int Tryz.underlying3 h;exact⟨v,trivial,h⟩) h;exact⟨l,q.1,h⟩
theorem aB5 (h:Tr enc Tryz.prog W 240 cs):∃v:Tst,Rd Tryz.prog W (lJ v) cs:=by
 have hl:=uA Tryz.underlying240 (n:=3) (by kernel_rfl) h;have hf:=uE Tryz.underlying240 h;obtain⟨a,h0⟩:=open_int Tryz.underlying3 (hf 0 _ rfl 0 1 rfl (by kernel_rfl));obtain⟨b,h1⟩:=open_int Tryz.underlying3 (hf 1 _ rfl 1 1 rfl (by kernel_rfl));obtain⟨s,h2⟩:=open_bool Tryz.underlying4 (hf 2 _ rfl 2 1 rfl (by kernel_rfl));exact⟨⟨a,b,s⟩,EQ (gX h0 (gX h1 (gX h2 (GZ hl))))⟩
theorem ay1 (h:Tr enc Tryz.prog W 145 cs):∃l:List Tst,l.length<=9223372036854775807/\Rd Tryz.prog W (mZ l) cs:=by
 have hl:=uA Tryz.underlying145 (n:=1) (by kernel_rfl) h;have hf:=uE Tryz.underlying145 h;obtain⟨l,q,h0⟩:=I8 (Q:=fun _:Tst=>True) Tryz.underlying143 (k:=3) (by kernel_rfl) (by decide) (fun vs h=>by obtain⟨v,h⟩:=aB5 h;exact⟨v,trivial,h⟩) (hf 0 _ rfl 0 1 rfl (by kernel_rfl));exact⟨l,q.1,EQ (gX h0 (GZ hl))⟩
theorem auU (h:Tr enc Tryz.prog W 24 cs):∃r:List (List Tst),al4 r/\Rd Tryz.prog W (gG r) cs:=by
 have hl:=uA Tryz.underlying24 (n:=1) (by kernel_rfl) h;have hf:=uE Tryz.underlying24 h;obtain⟨l,q,h0⟩:=I8 Tryz.underlying22 (k:=1) (by kernel_rfl) (by decide) (fun vs h=>ay1 h) (hf 0 _ rfl 0 1 rfl (by kernel_rfl));exact⟨l,q,EQ (gX h0 (GZ hl))⟩
theorem aAG (h:Tr enc Tryz.prog W 27 cs):∃s:Sco,s.weights.length<=9223372036854775807/\Rd Tryz.prog W (xK s) cs:=by
 have hl:=uA Tryz.underlying27 (n:=2) (by kernel_rfl) h;have hf:=uE Tryz.underlying27 h;obtain⟨l,q,h0⟩:=alR (hf 0 _ rfl 0 1 rfl (by kernel_rfl));obtain⟨b,h1⟩:=open_int Tryz.underlying3 (hf 1 _ rfl 1 1 rfl (by kernel_rfl));exact⟨⟨l,b⟩,q,EQ (gX h0 (gX h1 (GZ hl)))⟩
theorem az7 (h:Tr enc Tryz.prog W 29 cs):∃c:Cfg,(al4 c.rules/\c.sco.weights.length<=9223372036854775807/\c.surv.length<=9223372036854775807)/\Rd Tryz.prog W (F6 c) cs:=by
 have hl:=uA Tryz.underlying29 (n:=4) (by kernel_rfl) h;have hf:=uE Tryz.underlying29 h;obtain⟨r,q0,h0⟩:=auU (hf 0 _ rfl 0 1 rfl (by kernel_rfl));obtain⟨s,q1,h1⟩:=aAG (hf 1 _ rfl 1 2 rfl (by kernel_rfl));obtain⟨l,q2,h2⟩:=alR (hf 2 _ rfl 3 1 rfl (by kernel_rfl));exact⟨⟨r,s,l⟩,⟨q0,q1,q2⟩,EQ (gX h0 (gX h1 (gX h2 (GZ hl))))⟩
theorem aBX (h:Tr enc Tryz.prog W 33 cs):∃s:Sto,(as9 s.recs/\s.vers.length<=9223372036854775807)/\Rd Tryz.prog W (xZ s) cs:=by
 have hl:=uA Tryz.underlying33 (n:=3) (by kernel_rfl) h;have hf:=uE Tryz.underlying33 h;obtain⟨v,h0⟩:=open_int Tryz.underlying3 (hf 0 _ rfl 0 1 rfl (by kernel_rfl));obtain⟨r,q1,h1⟩:=ax8 (hf 1 _ rfl 1 1 rfl (by kernel_rfl));obtain⟨l,q2,h2⟩:=axK (hf 2 _ rfl 2 1 rfl (by kernel_rfl));exact⟨⟨v,r,l⟩,⟨q1,q2⟩,EQ (gX h0 (gX h1 (gX h2 (GZ hl))))⟩
end
end Go.Proofs.YtnglphdfhegnmaaGreatDoor
end
section
namespace Go.Proofs.YtnglphdfhegnmaaGreatDoor
open Go.Dv Go.Pl
open Go.ChangeShapes Go.WideShapes Go.ChangeAt Go.RowKit Go.Er
theorem al6 (c:Cfg):(F6 c).fz=F6 c:=by simp[D.fz,D.fzs,D.dG]
theorem aoY (s:Sto):(xZ s).fz=xZ s:=by simp[D.fz,D.fzs,D.dG]
theorem aAE:(Tryz.prog.readableRec 29&&decide (29<Tryz.prog.types.size))=true:=by kernel_rfl
theorem aBT:(Tryz.prog.readableRec 33&&decide (33<Tryz.prog.types.size))=true:=by kernel_rfl
theorem aA8:(Tryz.prog.readableRec 307&&decide (307<Tryz.prog.types.size))=true:=by kernel_rfl
theorem YE {P:Program}{t:TypeId}(h:(P.readableRec t&&decide (t<P.types.size))=true):P.readableRec t=true/\t<P.types.size:=by rw[Bool.and_eq_true,decide_eq_true_eq]at h;exact h
theorem amI:(Tryz.prog.funcs.toList.all fun f=> !f.goes)=true:=by kernel_rfl
theorem axF {P:Program}(h:(P.funcs.toList.all fun f=> !f.goes)=true)(f:FuncId):P.goes f=false:=by
 have h1:∀fn∈P.funcs.toList,fn.goes=false:=fun fn hf=>by simpa using List.all_eq_true.1 h fn hf
 unfold Program.goes;rw[Bool.or_eq_false_iff,Bool.and_eq_false_iff];refine⟨?_,.inr ?_⟩
 ·rw[List.any_eq_false];intro g _;cases hg:P.funcs[g]? with
  |none=>simp
  |some fn=>simpa using h1 fn (by simpa using Array.mem_of_getElem? hg)
 ·rw[←Array.any_toList,List.any_eq_false];intro fn hf;simp[h1 fn hf]
theorem awF {P:Program}(h:(P.funcs.toList.all fun f=> !f.goes)=true){c:OpenClaim}(hs:c.start= .entering):false=c.goesBy P:=by
 unfold OpenClaim.goesBy Program.goesAt Program.goesFrom;rw[hs];cases P.funcNamed c.func with
 |none=>rfl
 |some f=>simp[axF h f]
set_option maxRecDepth 100000 in
theorem awP (os:Os)(started:os.Started)(H:Type)(enc:TypeId×Value->H):
  ReturnsInHanded {} Tryz.checked os 3 .any (fun w args=>(Rows.fnExactResolveStoreSpec.pre enc Tryz.prog Tryz.f3 Rows.fnExactResolveStoreRow.domain false w args/\laidMet Tryz.prog tables w)/\sizedMet enc Tryz.prog Tryz.f3 (OpenSpec.ofChange Rows.fnExactResolveStoreSpec) false w args) (Rows.fnExactResolveStoreSpec.post enc Tryz.prog Tryz.f3 false true false false):=by
 refine UE (C:=Tryz.checked) (s:=Rows.fnExactResolveStoreSpec) (n:= "loop.example/g01923/impl.soundCodes") (g:=0) (t:=307) started own laidOut (by kernel_rfl) Tryz.func3 rfl ?_ (by kernel_rfl) (by kernel_rfl) (YE aA8) rfl Tryz.underlying4 ?_
  (ChangeSpec.witness_at (enc:=enc) (C:=Tryz.checked) (os:=os) (X:=fun w _=>laidMet Tryz.prog tables w) false (aaU os) #[.agg #[.slice none 0 0,.slice none 0 0,.int .i64 0,.slice none 0 0],.agg #[.int .i64 0,.slice none 0 0,.slice none 0 0]] 8 rfl (by kernel_rfl) (by kernel_rfl) (by kernel_rfl) (by kernel_rfl) (by kernel_rfl) (asP os _)) ?_
 ·intro ds v hds
  match ds,hds with
  |[d0,d1],_=>rfl
 ·intro t ht;rw[Tryz.params3]at ht;simp only[List.mem_cons,List.not_mem_nil,or_false]at ht;rcases ht with rfl|rfl
  ·exact YE aAE
  ·exact YE aBT
 ·intro W base args ds p hS hval hA hL;rw[Tryz.params3]at hA hval;obtain⟨v0,vs0,d0,ds0,p0,q0,hargs,rfl,rfl,h0,r0⟩:=trodAll_cons hA;obtain⟨v1,vs1,d1,ds1,p1,q1,rfl,rfl,rfl,h1,r1⟩:=trodAll_cons r0;obtain⟨rfl,rfl,rfl⟩:=trodAll_nil r1;obtain rfl:args= #[v0,v1]:=by cases args;simp_all
  obtain⟨cs0,rfl,_⟩:=okWide_struct Tryz.underlying29 (hval 0 29 v0 rfl rfl);obtain⟨cs1,rfl,_⟩:=okWide_struct Tryz.underlying33 (hval 1 33 v1 rfl rfl);obtain⟨nf0,h0⟩:=h0;obtain⟨nf1,h1⟩:=h1;obtain⟨c,hc,hcr⟩:=az7 (cs:=cs0.toList) ⟨nf0,_,h0⟩;obtain⟨s,hs,hsr⟩:=aBX (cs:=cs1.toList) ⟨nf1,_,h1⟩;have hsz:=aCM hS;refine anO (vP c s hc.1 hc.2.1 hc.2.2 hs.1 hs.2) (azK hS hL hsz) rfl fun i d hd=> ?_
  match i,hd with
  |0,hd=>
   obtain rfl:=Option.some.inj hd;rw[al6];exact azN hcr
  |1,hd=>
   obtain rfl:=Option.some.inj hd;rw[aoY];exact azN hsr
  |i+2,hd=>simp at hd
abbrev c0:OpenClaim:=Rows.fnExactResolveStoreRow
abbrev s0:ChangeSpec:=Rows.fnExactResolveStoreSpec
theorem an {a b:Bool}(h:a=true)(h':b=true):(a&&b)=true:=by rw[h,h'];rfl
theorem y1:c0.wf (OpenSpec.ofChange s0)=true:=by kernel_rfl
theorem y2:laidOutB Tryz.prog=true:=by kernel_rfl
theorem y3:mapsRowed Tryz.prog=true:=by kernel_rfl
theorem y4:Tryz.f3.params.all (Tryz.prog.readableRec ·)=true:=by kernel_rfl
theorem y5:namedTie Tryz.prog c0.named s0.vars=true:=by kernel_rfl
theorem y6:(c0.stops==[])=true:=by kernel_rfl
theorem y7:(Tryz.prog.stops==[])=true:=by kernel_rfl
theorem y8:(c0.knobs==[])=true:=by kernel_rfl
theorem y9:(Tryz.prog.stopKnobs==[])=true:=by kernel_rfl
theorem y10:(c0.inPlace==Tryz.prog.inPlace 3)=true:=by kernel_rfl
theorem y11:(c0.unfollowed==Tryz.prog.unfollowed 3)=true:=by kernel_rfl
theorem y12:(c0.recurses==Tryz.prog.recurses 3)=true:=by kernel_rfl
theorem y13:(c0.named==Tryz.prog.varsNamed 3)=true:=by kernel_rfl
theorem facts:joinedFacts Tryz.prog 3 Tryz.f3 s0 c0=true:=(an (an (an (an (an (an (an (an (an (an (an (an (an (an (an (an (an (an (an (an (an (an (an (an (an (an (an (an (an (an (an y1 y2) y3) y4) y5) y6) y7) y8) y9) y10) y11) y12) y13) (by kernel_rfl)) (by kernel_rfl)) (by kernel_rfl)) (by kernel_rfl)) (by kernel_rfl)) (by kernel_rfl)) (by kernel_rfl)) (by kernel_rfl)) (by kernel_rfl)) (by kernel_rfl)) (by kernel_rfl)) (by kernel_rfl)) (by kernel_rfl)) (by kernel_rfl)) (by kernel_rfl)) (by kernel_rfl)) (by kernel_rfl)) (by kernel_rfl)) (by kernel_rfl))
theorem akA:Rows.FnExactResolveStoreSaid:=
 OpenClaim.holds_of_wide 3 Tryz.f3 rfl rfl rfl rfl rfl rfl rfl ⟨rfl,rfl,rfl,rfl,rfl⟩ rfl rfl rfl rfl rfl (by kernel_rfl) Tryz.func3 facts
  (of_decide_eq_true (by kernel_rfl)) (by unfold Func.isWrapper;first|(rw[if_pos (by decide+kernel)];kernel_rfl)|(rw[if_neg (by decide+kernel)];exact⟨rfl,rfl⟩))
  (fun os started H enc _=>awP os started H enc)
theorem fnExactResolveStore.proved:Rows.FnExactResolveStoreCardSaid:=
 Claim7.holds_tied_plain_at .later [] [.data,.data,.data,.data,.sentinel,.sentinel,.data,.pinned] true (true,"7ecda4f4c7ca99b4ea2a6213517c0daaaa76e779c9f39f7dde6123be3471e3db") true
  akA (fun _ h=>by cases h) (by kernel_rfl) (fun _ h=>by cases h) fnExactResolveStore_row_tie rfl ⟨rfl,rfl⟩ (by kernel_rfl)
  rfl
  (fun f fn hf hfn=>by
   obtain rfl:f=3:=Option.some.inj ((show Tryz.prog.funcNamed "loop.example/g01923/laws.FnExactResolveStore" =some 3 by kernel_rfl).symm.trans hf)|>.symm;obtain rfl:fn=Tryz.f3:=(Option.some.inj (Tryz.func3.symm.trans hfn)).symm
   exact⟨by kernel_rfl,fun j t ht=>by
    rw[Tryz.params3]at ht;rcases j with _|_|j
    ·obtain rfl:t=29:=by simpa using ht.symm
     exact(show Tryz.prog.wantsStandIn 29=false by kernel_rfl)
    ·obtain rfl:t=33:=by simpa using ht.symm
     exact(show Tryz.prog.wantsStandIn 33=false by kernel_rfl)
    ·simp at ht⟩)
  (awF amI rfl)
end Go.Proofs.YtnglphdfhegnmaaGreatDoor
end
