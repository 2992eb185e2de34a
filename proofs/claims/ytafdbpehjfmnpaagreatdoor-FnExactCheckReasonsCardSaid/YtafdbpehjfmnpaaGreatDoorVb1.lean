/- The law FnExactCheckReasons holds: the program's CheckReasons answers as the reference's for all arguments. No condition beyond the given statement's own. -/
import Derived.Test.YtafdbpehjfmnpaaGreatDoorV6
set_option linter.unusedVariables false
set_option linter.defProp false
set_option linter.unusedSimpArgs false
set_option linter.unusedSectionVars false
set_option maxRecDepth 10000
set_option maxHeartbeats 1000000
section
namespace Go.Proofs.YtafdbpehjfmnpaaGreatDoor
open Go.Dv Go.Pl Go.Proofs.Tryz
abbrev CK (l:List Rsn):D:= .sl none (l.map EU)
abbrev aHZ (l:List Rsn):D:= .sl (some 39) (l.map EU)
def axQ (a b c d a' b' c' d':Int):Dv.EqAt prog 39 [.int .i64 a,.int .i64 b,.int .i64 c,.int .i64 d] [.int .i64 a',.int .i64 b',.int .i64 c',.int .i64 d'] (decide (a=a'/\b=b'/\c=c'/\d=d')):=by
 refine⟨by kernel_rfl,fun w=> ?_⟩;have u3:=underlying3;have a3:=Tryz.isAgg3;have z3:=Tryz.sizeOf3;have hS:prog.underlying 39=some (.struct (prog.fieldsOf 39)):=by kernel_rfl
 have hp:prog.stoodInHeld 39=false:=by kernel_rfl
 rw[show(10000:Nat)=9999+1 from rfl,run_equalIn_agg w 9999 39 _ _ hS hp];simp only[Program.fieldsOf,underlying39]
 go_simp
 by_cases h1:a=a'<;>by_cases h2:b=b'<;>by_cases h3:c=c'<;>by_cases h4:d=d'<;>simp[h1,h2,h3,h4]
@[go_sem,simp] def aGQ (a b c d a' b' c' d':Int)(r:Bool):Dv.EqAt prog 39 [.int .i64 a,.int .i64 b,.int .i64 c,.int .i64 d] [.int .i64 a',.int .i64 b',.int .i64 c',.int .i64 d'] r↔r=(decide (a=a'/\b=b'/\c=c'/\d=d')):=(axQ a b c d a' b' c' d').iff
def WE (l:List Rsn)(left:Int)(hl:l.length<=9223372036854775807)(h0:0<=left/\left<=1048576):fD prog 11 [CK l,dI left] (fun r=>∃v:Int,r=vI v/\(-1<=v/\v<=left)/\(0<=v->(l.length:Int)<=left)):=by
 refine fE [] ntmps11 fun _ _=> ?_;simp;refine ai ?_;apply gw<;>intro e
 ·simp;omega
 ·simp at e;simp;refine ai ?_;omega
def KS (t:Rsn):Fk 34 [EU t] (.val (EU t)):=by
 refine fE [] ntmps34 fun _ _=> ?_;simp
def nW (l:List Rsn)(hl:Qle l:=by omega):Fk 13 [CK l] (.own (aHZ l)):=by
 refine fE [] ntmps13 fun _ _=> ?_;have hz:=wJ (f:=EU) (z:=EU r0) (l:=l);simp[hz];refine ai ?_;refine wl (fun(i:Nat)=>[(0,.val (CK l)),(3,.own (.sl (some 39) (AZ EU (EU r0) l i))),(4,vI i)]) (fun(i:Nat)=>l.length-i) (fun(i:Nat)=>(i<=l.length)) (0) (by omega) ?_;rintro i h1;simp;apply gw<;>intro a
 ·obtain⟨c,hc⟩:=aN (l:=l) (i:=i);have hg:=zT (f:=EU) (z:=EU r0) (l:=l) (i:=i);have hfl:=zU (f:=EU) (z:=EU r0) h1;have hst:=zV (f:=EU) (z:=EU r0) hc;simp[hc];first|refine ck (KS c) ?_|refine ckz (KS c) ?_
  simp[hg,hst];refine nxa (i+1) (by first|omega|(simp;omega)|grind) (h3:=by simp[hc,hg,hfl,hst])
 ·simp at a;obtain rfl:i=l.length:=by omega
  have hfa:=zS (f:=EU) (z:=EU r0) (l:=l);simp[hfa]
def JB (l:List Rsn)(hl:Qle l):Fk 15 [CK l,CK l] (vB true):=by
 refine fE [] ntmps15 fun _ _=> ?_;simp;refine wl (fun(i:Nat)=>[(0,.val (CK l)),(1,.val (CK l)),(5,vI i)]) (fun(i:Nat)=>l.length-i) (fun(i:Nat)=>(i<=l.length)) (0) (by omega) ?_;rintro i h1;simp;apply gw<;>intro a
 ·obtain⟨c,hc⟩:=aN (l:=l) (i:=i);simp;refine wdr ?_;simp[hc];first|refine cd (xI c) ?_|refine cdz (xI c) ?_
  simp;refine nxa (i+1) (by first|omega|(simp;omega)|grind) (h3:=by simp[hc])
 ·simp at a;simp
def OM (l:List Ent)(id:Int)(hn:(l.any fun e=>inL e.mem id)=false)(hl:Qle l)(hs:∀e∈l,Qle e.mem):Fk 35 [sI l,dI id] (.val (.one (.slice none 0 0))):=by
 refine fE [] ntmps35 fun _ _=> ?_;have hin:∀e∈l,inL e.mem id=false:=fun e he=>by have:=dX.1 hn e he;simpa using this
 simp;refine wl (fun(i:Nat)=>[(1,vI id),(7,.val (sI l)),(8,vI l.length),(9,vI i)]) (fun(i:Nat)=>l.length-i) (fun(i:Nat)=>(i<=l.length)) (0) (by omega) ?_;rintro i h1;simp;apply gw<;>intro a
 ·obtain⟨c,hc⟩:=aN (l:=l) (i:=i);have hcl:=hs c (aA hc);have hcn:=hin c (aA hc);simp[hc];first|refine ck (eG c.mem id hcl) ?_|refine ckz (eG c.mem id hcl) ?_
  simp[aCL,hcn];refine nxa (i+1) (by first|omega|(simp;omega)|grind) (h3:=by simp[aCL,hc,hcn])
 ·simp at a;simp
def D6 (l:List Ent)(id:Int):Int:=match l.find? (fun e=>inL e.mem id)with|some e=>e.id|none=>0
def pK (l:List Ent)(id:Int)(ha:kL l)(hl:Qle l)(hs:BN l<=1048576):Fk 33 [sI l,dI id] (vI (D6 l id)):=by
 refine fE [] ntmps33 fun _ _=> ?_;have hme:∀e∈l,Qle e.mem:=fun e he=>k_Nat_le_trans (PW he) hs;simp;refine wlt Nat (fun i=>([(0,.val (sI l)),(1,vI id),(5,vI i)],l.length-i,(i<=l.length)/\(((l.take i).any fun e=>inL e.mem id)=false))) (0) ⟨by omega,by simp⟩ ?_;rintro i ⟨h1,h2⟩;simp;apply gv<;>intro g
 ·have g':=g;simp[g];first|refine ck (yH l hl hs) ?_|refine ckz (yH l hl hs) ?_
  obtain⟨c,hc⟩:=aN (l:=l) (i:=i);have hcl:=hme c (aA hc);simp[ha,hc];first|refine ck (kM c.mem id hcl) ?_|refine ckz (kM c.mem id hcl) ?_
  simp[ayO];apply gw<;>intro b
  ·have hm:D6 l id=c.id:=by unfold D6;rw[arV hc h2 b]
   simp[hc,hm]
  ·simp;refine nxa (i+1) ⟨by omega,(jB hc h2 b)⟩ (h3:=by simp[ayO,ha,hc])
 ·have g':=g;simp at g';have hm:D6 l id=0:=by unfold D6;rw[arW (mR h2)]
  simp[g,hm]
def zR (x:wF)(M:L1):Int->List Rsn->Option Int
 |u,[]=>some u
 |u,r::l=>if IM x u r.b=(r,true)/\inL M r.b=true then zR x M r.b l else none
def aa5 (x:wF)(u w:Int)(l:List Rsn):Bool:=uZ x&&(x.ents.any fun e=>inL e.mem u)&&decide (zR x (CJ x.ents u) u l=some w)
variable {l:List Ent}{id:Int}
def auV (h:kL l)(hf:(l.any fun e=>inL e.mem id)=true):CJ l id≠[]:=by
 unfold CJ;cases hx:l.find? (fun e=>inL e.mem id)with
 |none=>rw[gY]at hx;obtain⟨e,he,h2⟩:=bP.1 hf;exact absurd h2 (hx e he)
 |some e=>
  simp only[kL,k_Bool_and_eq_true]at h;exact((XE h.2).2.1 e.mem (List.mem_map_of_mem (List.mem_of_find?_eq_some hx))).1
variable {x:wF}
def aFA {u w:Int}{r:Rsn}(h:IM x u w=(r,true)):r.a=u:=by
 unfold IM RN at h;split at h
 ·cases h
 ·split at h
  ·cases h;rfl
  ·split at h<;>cases h;rfl
def aB8 (x:wF)(u w:Int)(l:List Rsn)(hx:yA x)(hl:Qle l)(hf:(x.ents.any fun e=>inL e.mem u)=false):Fk 14 [nSys x,dI u,dI w,CK l] (vB false):=by
 refine fE [] ntmps14 fun _ _=> ?_;have hme:∀e∈x.ents,Qle e.mem:=fun e he=>k_Nat_le_trans (PW he) hx.mem;simp;first|refine ck (kE x hx) ?_|refine ckz (kE x hx) ?_
 simp;apply gw<;>intro e
 ·simp at e;simp
 ·simp at e;simp;first|refine ck (OM x.ents u hf hx.ents hme) ?_|refine ckz (OM x.ents u hf hx.ents hme) ?_
  simp
def aB9 (x:wF)(u w:Int)(l:List Rsn)(hx:yA x)(hl:Qle l)(hf:(x.ents.any fun e=>inL e.mem u)=true):Fk 14 [nSys x,dI u,dI w,CK l] (vB (uZ x&&decide (zR x (CJ x.ents u) u l=some w))):=by
 refine fE [] ntmps14 fun _ _=> ?_;have hme:∀e∈x.ents,Qle e.mem:=fun e he=>k_Nat_le_trans (PW he) hx.mem;simp;first|refine ck (kE x hx) ?_|refine ckz (kE x hx) ?_
 simp;apply gw<;>intro e
 ·simp at e;simp[e]
 ·simp at e;have ho:uZ x:=by simpa using e
  have hM:=auV (P6 ho).2.2 hf;have hML:=auU u hme;simp[ho];first|refine ck (M5 x.ents u hx.ents hme) ?_|refine ckz (M5 x.ents u hx.ents hme) ?_
  generalize CJ x.ents u=M at*
  simp[ho,hM];refine wlt (Nat×Int) (fun(i,z)=>([(1,vI z),(2,vI w),(4,.own (.bx true (nSys x))),(9,vN M),(23,.val (CK l)),(24,vI l.length),(25,vI i)],l.length-i,(i<=l.length)/\(zR x M u l=zR x M z (l.drop i)))) ((0,u)) ⟨by omega,rfl⟩ ?_;rintro⟨i,z⟩ ⟨h1,h2⟩;simp;apply gw<;>intro a
  ·obtain⟨c,hc⟩:=aN (l:=l) (i:=i);have hdr:=drop_at hc;rw[hdr,zR]at h2;simp[hc];first|refine ck (rH x z c.b hx ho) ?_|refine ckz (rH x z c.b hx ho) ?_
   obtain⟨r,hr⟩:∃r,IM x z c.b=r:=⟨_,rfl⟩;rw[hr]at h2;simp[hr];apply gv<;>intro f
   ·have f':=f;simp at f';have hn:zR x M u l=none:=by rw[h2,if_neg (by rintro⟨h,_⟩;rw[h]at f;cases f)]
    simp[ho,f,hn]
   ·have f':=f;simp at f';simp[f];apply gv<;>intro g
    ·have g':=g;simp at g';have hn:zR x M u l=none:=by rw[h2,if_neg (by rintro⟨h,_⟩;rw[h]at g;simp at g)]
     simp[ho,g,hn]
    ·have g':=g;simp at g';simp[g];first|refine ck (eG M c.b) ?_|refine ckz (eG M c.b) ?_
     simp[aCL];apply gw<;>intro k
     ·simp at k;have hn:zR x M u l=none:=by rw[h2,if_neg (by rintro⟨_,h⟩;simp_all)]
      simp[ho,hn]
     ·simp at k;have hrr:r=(c,true):=by obtain⟨⟨r1,r2,r3,r4⟩,r5⟩:=r;cases c;simp_all
      simp;refine nxa (i+1,c.b) ⟨by omega,by rw[h2,if_pos ⟨hrr,by simpa using k⟩]⟩ (h3:=by simp[ho,hM,aCL,hc,hr,f,g])
  ·simp at a;rw[bO a,zR]at h2;simp[ho,h2]
def D7 (x:wF)(u w:Int)(l:List Rsn)(hx:yA x)(hl:Qle l):fD prog 14 [nSys x,dI u,dI w,CK l] (fun r=>r=vB (aa5 x u w l)):=by
 rcases Bool.eq_false_or_eq_true (x.ents.any fun e=>inL e.mem u)with hf|hf
 ·have:aa5 x u w l=(uZ x&&decide (zR x (CJ x.ents u) u l=some w)):=by rw[aa5,hf,Bool.and_true]
  rw[this];exact aB9 x u w l hx hl hf
 ·have:aa5 x u w l=false:=by rw[aa5,hf,Bool.and_false,fV]
  rw[this];exact aB8 x u w l hx hl hf
def adT (h:kL l):(D6 l id=0↔(l.any fun e=>inL e.mem id)=false):=by
 simp only[kL,k_Bool_and_eq_true,aI,idB]at h;unfold D6;cases hx:l.find? (fun e=>inL e.mem id)with
 |none=>rw[gY]at hx;simp only[true_iff];exact dX.2 hx
 |some e=>
  have h1:=h.1.1 e (List.mem_of_find?_eq_some hx);have h2:=bP.2 ⟨e,List.mem_of_find?_eq_some hx,List.find?_some hx⟩;rw[h2];simp at h1|-
  omega
variable {e e':Ent}{z:Int}
def aB3 (h:kL l)(he:e∈l)(he':e'∈l)(hz:z∈e.mem)(hz':z∈e'.mem):e=e':=by
 have key:∀(l:List Ent) (all:L1),zZ all (l.map Ent.mem)=true->e∈l->e'∈l->e=e':=by
  intro l
  induction l with
  |nil=>intro _ _ h;cases h
  |cons y l ih=>
   intro all hg h1 h2;rw[gB,zZ,k_Bool_and_eq_true]at hg;have hr:=(XE hg.2).2.1;rcases k_List_mem_cons.1 h1 with k1|k1<;>rcases k_List_mem_cons.1 h2 with k2|k2
   ·rw[k1,k2]
   ·exact absurd (List.mem_append_right _ (k1▸hz)) ((hr _ (List.mem_map_of_mem k2)).2 z hz')
   ·exact absurd (List.mem_append_right _ (k2▸hz')) ((hr _ (List.mem_map_of_mem k1)).2 z hz)
   ·exact ih _ hg.2 k1 k2
 simp only[kL,k_Bool_and_eq_true]at h;exact key l [] h.2 he he'
def aFF (h:kL l)(he:e∈l)(he':e'∈l)(hi:e.id=e'.id):e=e':=by
 simp only[kL,k_Bool_and_eq_true]at h;have hp:=aiL (R:=XG) (fun a b c hab hbc=>by simp only[XG,decide_eq_true_eq]at*;omega) h.1.2
 have key:∀l:List Ent,(l.Pairwise fun a b=>XG a b=true)->e∈l->e'∈l->e=e':=by
  intro l
  induction l with
  |nil=>intro _ h;cases h
  |cons y l ih=>
   intro hp h1 h2;obtain⟨q1,q2⟩:=dG.1 hp;rcases k_List_mem_cons.1 h1 with k1|k1<;>rcases k_List_mem_cons.1 h2 with k2|k2
   ·rw[k1,k2]
   ·have:=q1 _ k2;rw[←k1]at this;simp[XG]at this;omega
   ·have:=q1 _ k1;rw[←k2]at this;simp[XG]at this;omega
   ·exact ih q2 k1 k2
 exact key l hp he he'
def ar4 {l:L1}{x:Int}:inL l x=true↔x∈l:=by simp[inL]
def apR (h:kL l)(hf:(l.any fun e=>inL e.mem id)=true):D6 l z=D6 l id↔inL (CJ l id) z=true:=by
 cases hx:l.find? (fun e=>inL e.mem id)with
 |none=>rw[gY]at hx;obtain⟨e,he,h2⟩:=bP.1 hf;exact absurd h2 (hx e he)
 |some e=>
  have he:=List.mem_of_find?_eq_some hx;have hm:CJ l id=e.mem:=by unfold CJ;rw[hx]
  have hi:D6 l id=e.id:=by unfold D6;rw[hx]
  rw[hm,hi];constructor
  ·intro hz
   have hn:¬D6 l z=0:=by
    rw[hz,←hi,adT h,hf];simp
   cases hy:l.find? (fun e=>inL e.mem z)with
   |none=>unfold D6 at hn;rw[hy]at hn;exact absurd rfl hn
   |some e'=>
    have:D6 l z=e'.id:=by unfold D6;rw[hy]
    have he':=List.mem_of_find?_eq_some hy;rw[aFF h he he' (by omega)];have h3:=List.find?_some hy;exact h3
  ·intro hz;cases hy:l.find? (fun e=>inL e.mem z)with
   |none=>rw[gY]at hy;exact absurd hz (hy e he)
   |some e'=>
    have he':=List.mem_of_find?_eq_some hy;have h2:=List.find?_some hy;have:D6 l z=e'.id:=by unfold D6;rw[hy]
    rw[this,aB3 h he' he (ar4.1 h2) (ar4.1 hz)]
def ayR {p q:Prop}[Decidable p][Decidable q]{α:Type}{x y:α}(h:p↔q):(if p then x else y)=if q then x else y:=by by_cases hp:p<;>simp[hp,←h]
def aBM {c:Rsn}{P:Prop}:(IM x z c.b=(c,true)/\P)↔((IM x c.a c.b=(c,true)/\c.a=z)/\P):=by
 constructor
 ·rintro⟨h,hp⟩;have:=aFA h;subst this;exact⟨⟨h,rfl⟩,hp⟩
 ·rintro⟨⟨h,h1⟩,hp⟩;subst h1;exact⟨h,hp⟩
def EA (x:wF)(u w:Int)(l:List Rsn)(hx:yA x)(hl:Qle l):Fk 12 [nSys x,dI u,dI w,CK l] (vB (aa5 x u w l)):=by
 refine fE [] ntmps12 fun _ _=> ?_;simp;first|refine ck (qP x hx) ?_|refine ckz (qP x hx) ?_
 simp;apply gv<;>intro e
 ·have e':=e;simp at e';have hd:aa5 x u w l=false:=by simp[aa5];simp_all
  simp[e,hd]
 ·have e':=e;simp at e';have ho:uZ x:=by simpa using e
  have ha:=(P6 ho).2.2;have hes:=adT (id:=u) ha;simp[e];first|refine ck (pK x.ents u ha hx.ents hx.mem) ?_|refine ckz (pK x.ents u ha hx.ents hx.mem) ?_
  simp;apply gw<;>intro b
  ·have hd:aa5 x u w l=false:=by rw[aa5,hes.1 b,Bool.and_false,fV]
   simp[hd]
  ·have hf:(x.ents.any fun e=>inL e.mem u)=true:=by rw[←Bool.not_eq_false,←hes];exact b
   have hd:aa5 x u w l=decide (zR x (CJ x.ents u) u l=some w):=by rw[aa5,ho,hf];simp
   have hsm:=fun z=>apR (z:=z) ha hf;generalize CJ x.ents u=M at*
   simp;first|refine ck (vX x hx ho) ?_|refine ckz (vX x hx ho) ?_
   simp;refine wlt (Nat×Int) (fun(i,z)=>([(1,vI u),(2,vI w),(3,.val (CK l)),(4,.own (.bx true (nSys x))),(9,vI z),(10,.val (bV (joined (jZ x.sto.vers)))),(11,vI i)],l.length-i,(i<=l.length)/\(zR x M u l=zR x M z (l.drop i)))) ((0,u)) ⟨by omega,rfl⟩ ?_;rintro⟨i,z⟩ ⟨h1,h2⟩;simp;apply gw<;>intro a
   ·obtain⟨c,hc⟩:=aN (l:=l) (i:=i);have hdr:=drop_at hc;rw[hdr,zR,ayR aBM]at h2;simp;refine wdf [(13,[46,33]),(16,[12]),(17,[12,47]),(18,[48,13])] [(1,vI u),(2,vI w),(3,.val (CK l)),(4,.own (.bx true (nSys x))),(9,vI z),(10,.val (bV (joined (jZ x.sto.vers)))),(11,vI i)] [] (by simp) ?_;simp[hc];first|refine cd (vW x c.a c.b hx ho) ?_|refine cdz (vW x c.a c.b hx ho) ?_
    obtain⟨r,hr⟩:∃r,IM x c.a c.b=r:=⟨_,rfl⟩;rw[hr]at h2;simp[hr];refine wdr ?_;simp;apply gv<;>intro f
    ·have f':=f;simp at f';have hn:zR x M u l=none:=by rw[h2,if_neg (by rintro⟨⟨h,_⟩,_⟩;rw[h]at f;cases f)]
     simp[hd,f,hn]
    ·have f':=f;simp at f';simp[hc,f];apply gv<;>intro g
     ·have g':=g;simp at g';have hn:zR x M u l=none:=by rw[h2,if_neg (by rintro⟨⟨h,_⟩,_⟩;rw[h]at g;simp at g)]
      simp[hd,g,hn]
     ·have g':=g;simp at g';simp[hc,g];apply gv<;>intro k
      ·have k':=k;have hn:zR x M u l=none:=by rw[h2,if_neg (by rintro⟨⟨_,h⟩,_⟩;exact k h)]
       simp[hd,k,hn]
      ·have k':=k;simp[hc,k];first|refine cd (pK x.ents c.b ha hx.ents hx.mem) ?_|refine cdz (pK x.ents c.b ha hx.ents hx.mem) ?_
       simp;first|refine cd (pK x.ents u ha hx.ents hx.mem) ?_|refine cdz (pK x.ents u ha hx.ents hx.mem) ?_
       simp;apply gw<;>intro m
       ·have hn:zR x M u l=none:=by rw[h2,if_neg (by rintro⟨_,h⟩;exact m ((hsm c.b).2 h))]
        simp[hd,hn]
       ·have hrr:r=(c,true):=by obtain⟨⟨r1,r2,r3,r4⟩,r5⟩:=r;cases c;simp_all
        simp[hc,k];refine nxa (i+1,c.b) ⟨by omega,by rw[h2,if_pos ⟨⟨hrr,by omega⟩,(hsm c.b).1 m⟩]⟩ (h3:=by simp[e,hd,hc,hr,f,g,k])
   ·simp at a;rw[bO a,zR]at h2;simp[hd,h2]
def FM (x:wF)(u w:Int)(l:List Rsn)(hb:aBK x)(hl:l.length<=9223372036854775807):Fk 4 [nSys x,dI u,dI w,CK l] (vB true):=by
 refine fE [] ntmps4 fun _ _=> ?_;simp;refine eT (KR x 1048576 hb (by omega)) (by simp) ?_;rintro r ⟨v,rfl,hv,hf⟩;refine⟨by simp,?_⟩;simp;apply gw<;>intro e
 ·simp
 ·simp at e;have hx:=hf (by omega);simp;refine eT (WE l v hl (by omega)) (by simp) ?_;rintro r ⟨v2,rfl,hv2,hf2⟩;refine⟨by simp,?_⟩;simp;apply gw<;>intro f
  ·simp
  ·simp at f;have hll:=hf2 (by omega);simp;first|refine ck (jR x hx) ?_|refine ckz (jR x hx) ?_
   simp;first|refine ck (nW l) ?_|refine ckz (nW l) ?_
   simp;first|refine ck (EA x u w l hx (by omega)) ?_|refine ckz (EA x u w l hx (by omega)) ?_
   simp;first|refine ck (jR x hx) ?_|refine ckz (jR x hx) ?_
   simp;first|refine ck (nW l) ?_|refine ckz (nW l) ?_
   simp;first|refine ck (D7 x u w l hx (by omega)) ?_|refine ckz (D7 x u w l hx (by omega)) ?_
   simp;refine wdr ?_;simp;first|refine cd (JN x hx) ?_|refine cdz (JN x hx) ?_
   simp;first|refine cd (xJ x hx) ?_|refine cdz (xJ x hx) ?_
   simp;first|refine ck (nW l) ?_|refine ckz (nW l) ?_
   simp;first|refine ck (JB l (by omega)) ?_|refine ckz (JB l (by omega)) ?_
   simp
end Go.Proofs.YtafdbpehjfmnpaaGreatDoor
end
section
namespace Go.Proofs.YtafdbpehjfmnpaaGreatDoor
open Go.Dv Go.Pl
open Go.ChangeShapes Go.WideShapes Go.ChangeAt Go.RowKit Go.Er
def aF8:(Tryz.prog.readableRec 59&&decide (59<Tryz.prog.types.size))=true:=by kernel_rfl
def azH (l:List Rsn):(CK l).fz=CK l:=by simp[D.fz,D.fzs,D.jC]
section
variable {H:Type}{enc:TypeId×Value->H}{W:World}{cs:List Value}
def aGJ (h:Tr enc Tryz.prog W 84 cs):∃v:Rsn,Rd Tryz.prog W (EU v) cs:=by
 have hl:=xB Tryz.underlying84 (n:=4) (by kernel_rfl) h;have hf:=xA Tryz.underlying84 h;obtain⟨a,h0⟩:=open_int Tryz.underlying3 (hf 0 _ rfl 0 1 rfl (by kernel_rfl));obtain⟨b,h1⟩:=open_int Tryz.underlying3 (hf 1 _ rfl 1 1 rfl (by kernel_rfl));obtain⟨s,h2⟩:=open_int Tryz.underlying3 (hf 2 _ rfl 2 1 rfl (by kernel_rfl));obtain⟨t,h3⟩:=open_int Tryz.underlying3 (hf 3 _ rfl 3 1 rfl (by kernel_rfl));exact⟨⟨a,b,s,t⟩,IC (iL h0 (iL h1 (iL h2 (iL h3 (IB hl)))))⟩
def aD7 (h:Tr enc Tryz.prog W 59 cs):∃l:List Rsn,l.length<=9223372036854775807/\Rd Tryz.prog W (CK l) cs:=by
 obtain⟨l,q,h⟩:=JH (Q:=fun _:Rsn=>True) Tryz.underlying59 (k:=4) (by kernel_rfl) (by decide) (fun vs h=>by obtain⟨v,h⟩:=aGJ h;exact⟨v,trivial,h⟩) h;exact⟨l,q.1,h⟩
end
set_option maxRecDepth 100000 in
def ajM (os:Os)(started:os.Started)(H:Type)(enc:TypeId×Value->H):
  ReturnsInHanded {} Tryz.checked os 4 .any (fun w args=>(Rows.fnExactCheckReasonsSpec.pre enc Tryz.prog Tryz.f4 Rows.fnExactCheckReasonsRow.domain false w args/\laidMet Tryz.prog tables w)/\sizedMet enc Tryz.prog Tryz.f4 (OpenSpec.ofChange Rows.fnExactCheckReasonsSpec) false w args) (Rows.fnExactCheckReasonsSpec.post enc Tryz.prog Tryz.f4 false true false false):=by
 refine M9 (C:=Tryz.checked) (s:=Rows.fnExactCheckReasonsSpec) (n:= "loop.example/g01923/impl.soundCodes") (g:=0) (t:=335) started own laidOut (by kernel_rfl) Tryz.func4 rfl ?_ (by kernel_rfl) (by kernel_rfl) (BO aAB) rfl Tryz.underlying4 ?_
  (ChangeSpec.witness_at (enc:=enc) (C:=Tryz.checked) (os:=os) (X:=fun w _=>laidMet Tryz.prog tables w) false (ZE os) #[.agg #[.slice none 0 0,.slice none 0 0,.int .i64 0,.slice none 0 0,.int .i64 0,.slice none 0 0,.slice none 0 0,.slice none 0 0,.int .i64 0,.slice none 0 0],.int .i64 0,.int .i64 0,.slice none 0 0] 8 rfl (by kernel_rfl) (by kernel_rfl) (by kernel_rfl) (by kernel_rfl) (by kernel_rfl) (amN os _)) ?_
 ·intro ds v hds
  match ds,hds with
  |[d0,d1,d2,d3],_=>rfl
 ·intro t ht;rw[Tryz.params4]at ht;simp only[k_List_mem_cons,List.not_mem_nil,or_false]at ht;rcases ht with rfl|rfl|rfl|rfl
  ·exact BO aAC
  ·exact BO ajY
  ·exact BO ajY
  ·exact BO aF8
 ·intro W base args ds p hS hval hA hL;rw[Tryz.params4]at hA hval;obtain⟨v0,vs0,d0,ds0,p0,q0,hargs,rfl,rfl,h0,r0⟩:=trodAll_cons hA;obtain⟨v1,vs1,d1,ds1,p1,q1,rfl,rfl,rfl,h1,r1⟩:=trodAll_cons r0;obtain⟨v2,vs2,d2,ds2,p2,q2,rfl,rfl,rfl,h2,r2⟩:=trodAll_cons r1;obtain⟨v3,vs3,d3,ds3,p3,q3,rfl,rfl,rfl,h3,r3⟩:=trodAll_cons r2;obtain⟨rfl,rfl,rfl⟩:=trodAll_nil r3;obtain rfl:args= #[v0,v1,v2,v3]:=by cases args;simp_all
  obtain⟨cs0,rfl,_⟩:=okWide_struct Tryz.underlying36 (hval 0 36 v0 rfl rfl);obtain⟨n1,rfl⟩:=okWide_int Tryz.underlying3 (hval 1 3 v1 rfl rfl);obtain⟨n2,rfl⟩:=okWide_int Tryz.underlying3 (hval 2 3 v2 rfl rfl);obtain⟨a3,l3,c3,rfl⟩:=okWide_slice Tryz.underlying59 (hval 3 59 v3 rfl rfl);obtain⟨nf0,h0⟩:=h0;obtain⟨nf1,h1⟩:=h1;obtain⟨nf2,h2⟩:=h2;obtain⟨nf3,h3⟩:=h3;obtain⟨x0,q0',hr0⟩:=aA3 (cs:=cs0.toList) ⟨nf0,_,h0⟩;obtain⟨x1,hr1⟩:=open_int Tryz.underlying3 (cs:=[.int .i64 n1]) ⟨nf1,_,h1⟩;obtain⟨x2,hr2⟩:=open_int Tryz.underlying3 (cs:=[.int .i64 n2]) ⟨nf2,_,h2⟩;obtain⟨x3,q3',hr3⟩:=aD7 (cs:=[.slice a3 l3 c3]) ⟨nf3,_,h3⟩;have hsz:=aEV hS;refine ahJ (FM x0 x1 x2 x3 q0' q3') (ar6 hS hL hsz) rfl fun i d hd=> ?_
  match i,hd with
  |0,hd=>
   obtain rfl:=k_Option_some_inj hd;rw[nSys_fz];exact aEZ hr0
  |1,hd=>
   obtain rfl:=k_Option_some_inj hd;exact as0 hr1
  |2,hd=>
   obtain rfl:=k_Option_some_inj hd;exact as0 hr2
  |3,hd=>
   obtain rfl:=k_Option_some_inj hd;rw[azH];exact aII hr3
  |i+4,hd=>simp at hd
abbrev c0:OpenClaim:=Rows.fnExactCheckReasonsRow
abbrev s0:ChangeSpec:=Rows.fnExactCheckReasonsSpec
def y1:c0.wf (OpenSpec.ofChange s0)=true:=by kernel_rfl
def y4:Tryz.f4.params.all (Tryz.prog.readableRec ·)=true:=by kernel_rfl
def y5:namedTie Tryz.prog c0.named s0.vars=true:=by kernel_rfl
def y6:(c0.stops==[])=true:=by kernel_rfl
def y8:(c0.knobs==[])=true:=by kernel_rfl
def y10:(c0.inPlace==Tryz.prog.inPlace 4)=true:=by kernel_rfl
def y11:(c0.unfollowed==Tryz.prog.unfollowed 4)=true:=by kernel_rfl
def y12:(c0.recurses==Tryz.prog.recurses 4)=true:=by kernel_rfl
def y13:(c0.named==Tryz.prog.varsNamed 4)=true:=by kernel_rfl
def facts:joinedFacts Tryz.prog 4 Tryz.f4 s0 c0=true:=(an (an (an (an (an (an (an (an (an (an (an (an (an (an (an (an (an (an (an (an (an (an (an (an (an (an (an (an (an (an (an y1 pf2) pf3) y4) y5) y6) pf7) y8) pf9) y10) y11) y12) y13) (by kernel_rfl)) (by kernel_rfl)) (by kernel_rfl)) (by kernel_rfl)) (by kernel_rfl)) (by kernel_rfl)) (by kernel_rfl)) (by kernel_rfl)) (by kernel_rfl)) (by kernel_rfl)) (by kernel_rfl)) (by kernel_rfl)) (by kernel_rfl)) (by kernel_rfl)) (by kernel_rfl)) (by kernel_rfl)) (by kernel_rfl)) (by kernel_rfl)) (by kernel_rfl))
def aq6:Rows.FnExactCheckReasonsSaid:=
 OpenClaim.holds_of_wide 4 Tryz.f4 rfl rfl rfl rfl rfl rfl rfl ⟨rfl,rfl,rfl,rfl,rfl⟩ rfl rfl rfl rfl rfl (by kernel_rfl) Tryz.func4 facts
  (of_decide_eq_true (by kernel_rfl)) (by unfold Func.isWrapper;first|(rw[if_pos (by decide+kernel)];kernel_rfl)|(rw[if_neg (by decide+kernel)];exact⟨rfl,rfl⟩))
  (fun os started H enc _=>ajM os started H enc)
theorem fnExactCheckReasons.proved:Rows.FnExactCheckReasonsCardSaid:=
 Claim7.holds_tied_plain_at .later [] [.data,.data,.data,.data,.sentinel,.sentinel,.data,.pinned] true (true,"e7b8413365a9de7ad3bdf9332ce082c8e18796d0d3b25a6471c5896eec1e5d12") true
  aq6 (fun _ h=>by cases h) (by kernel_rfl) (fun _ h=>by cases h) fnExactCheckReasons_row_tie rfl ⟨rfl,rfl⟩ (by kernel_rfl)
  rfl
  (fun f fn hf hfn=>by
   obtain rfl:f=4:=k_Option_some_inj ((show Tryz.prog.funcNamed "loop.example/g01923/laws.FnExactCheckReasons" =some 4 by kernel_rfl).symm.trans hf)|>.symm;obtain rfl:fn=Tryz.f4:=(k_Option_some_inj (Tryz.func4.symm.trans hfn)).symm
   exact⟨by kernel_rfl,fun j t ht=>by
    rw[Tryz.params4]at ht;rcases j with _|_|_|_|j
    ·obtain rfl:t=36:=by simpa using ht.symm
     exact(show Tryz.prog.wantsStandIn 36=false by kernel_rfl)
    ·obtain rfl:t=3:=by simpa using ht.symm
     exact(show Tryz.prog.wantsStandIn 3=false by kernel_rfl)
    ·obtain rfl:t=3:=by simpa using ht.symm
     exact(show Tryz.prog.wantsStandIn 3=false by kernel_rfl)
    ·obtain rfl:t=59:=by simpa using ht.symm
     exact(show Tryz.prog.wantsStandIn 59=false by kernel_rfl)
    ·simp at ht⟩)
  (ar3 ahF rfl)
end Go.Proofs.YtafdbpehjfmnpaaGreatDoor
end
