/- Lemmas and walks that the law leans on, part 4. No condition. -/
import Derived.Shelf.Strings.Builder1
import Derived.Shelf.Strings.Builder2
import Derived.Shelf.Small.Utf8
import Derived.Shelf.Small.Bits
import Derived.Shelf.Small.Strs
import Derived.Shelf.Small.Wraps
import Derived.Shelf.Strings.BuilderF
import Derived.Shelf.Strings.BuilderK
import Derived.Shelf.Utf8.RuneCount
import Derived.Shelf.Strings.Builder2Cap
import Derived.Shelf.Strconv.Atoi
import Derived.Shelf.Strconv.Itoa0
import Derived.Shelf.Strconv.Itoa1
import Derived.Shelf.LaysM
import Derived.Shelf.Strconv.Itoa2
import Derived.Shelf.Strconv.AtoiErrFast
import Derived.Shelf.Strconv.ParseIntEmpty
import Derived.Shelf.Strconv.AtoiFail
import Derived.Shelf.Strconv.Clone
import Derived.Shelf.Strconv.SyntaxError
import Derived.Shelf.LaysC
import Derived.Shelf.Strconv.ToError
import Derived.Shelf.Strconv.Lower
import Derived.Shelf.Strconv.ParseUint10
import Derived.Shelf.Strconv.ParseUint10Empty
import Derived.Shelf.Strconv.ParseUint10Any
import Derived.Shelf.Strconv.ParseInt10
import Derived.Shelf.Strconv.AtoiLong
import Derived.Shelf.Strconv.AtoiInnerAll
import Derived.Shelf.Strconv.RangeError
import Derived.Shelf.Strconv.ToErrorRange
import Derived.Shelf.Strconv.AtoiAll
import Derived.Shelf.Strconv.ErrVarAll
import Derived.Shelf.Strings.Search1
import Derived.Shelf.Strings.Search2
import Derived.Shelf.Strings.Search3
import Derived.Shelf.Strings.Count
import Derived.Shelf.Strings.Shaped
import Derived.Shelf.Sort.Plain
import Derived.Shelf.Strings.Prefix
import Derived.Shelf.Strings.Split
import Derived.Shelf.Strings.Replace
import Derived.Shelf.Strings.SplitShaped
import Derived.Shelf.Unicode.Decode
import Derived.Shelf.Strings.Runes
import Derived.Shelf.Strings.RuneCount
import Derived.Shelf.Strings.IndexAny
import Derived.Shelf.Strings.AsciiSet
import Derived.Shelf.Strings.IndexAnyAll
import Derived.Shelf.Bits.Mul64
import Derived.Shelf.Unicode.DecodeSlow
import Derived.Shelf.Unicode.DecodeAny
import Derived.Shelf.Strings.FieldsFuncAny
import Derived.Shelf.Strings.FieldsFuncGrows
import Derived.Shelf.Strings.BuilderCap
import Derived.Shelf.Slices.Clone
import Derived.Shelf.Slices.CompactS
import Derived.Shelf.Slices.SearchI
import Derived.Shelf.Slices.Cells
import Derived.Shelf.SlicesE.Clone
import Derived.Test.YtnglphdfhegnmaaGreatDoorRows
import Derived.Laws.CopyOwn
import Derived.LoopTactic
import Derived.Sort.Grow
import Derived.Still
import Derived.StillTactics
import Derived.Lib.AtoiAllCases
import Derived.Lib.AtoiErrMem
import Derived.Lib.OwnBridge
import Derived.Lib.SortBridge
import Derived.Test.YtnglphdfhegnmaaGreatDoorV3
set_option linter.unusedVariables false
set_option linter.unusedSimpArgs false
set_option linter.unusedSectionVars false
set_option maxRecDepth 10000
set_option maxHeartbeats 1000000
section
namespace Go.Proofs.YtnglphdfhegnmaaGreatDoor
open Go.Dv Go.Pl Go.Proofs.Tryz
def LC (m:List (List Int))(k:Int)(i:Nat):List (List Int):=qQ (m.take i) k++m.drop i
theorem aqQ {m:List (List Int)}{k:Int}{i:Nat}(h:i<=m.length):(LC m k i).length=m.length:=by simp[LC,AJ];omega
theorem apU {m:List (List Int)}{k:Int}{i:Nat}(h:i<m.length):(LC m k i)[i]?=m[i]?:=by
 have hl:(qQ (m.take i) k).length=i:=by simp[AJ];omega
 unfold LC;rw[List.getElem?_append_right (by omega),hl];simp
theorem asN {m:List (List Int)}{k:Int}{i:Nat}{c:List Int}(h:m[i]?=some c):(LC m k i).set i (mM c.length (k+dR (m.take i)))=LC m k (i+1):=by
 have hi:=aS h;have hl:(qQ (m.take i) k).length=i:=by simp[AJ];omega
 unfold LC;rw[List.set_append,if_neg (by omega),hl,Nat.sub_self,List.drop_eq_getElem_cons hi,List.set_cons_zero,aW h,ZU];simp
theorem anI (m:List (List Int))(k:Int):LC m k 0=m:=by simp[LC,qQ]
theorem arR (m:List (List Int))(k:Int):LC m k m.length=qQ m k:=by simp[LC]
theorem PI (m:List (List Int))(k:Int)(hn:m.length<=16)(hs:∀r∈m,r.length<=1048576)(hk:0<=k/\k<=100000000000):zX prog 16 [.one (.bool false),dI k] 0 (eB m) (fun r d=>r= .val (dI (k+dR m))/\d=eB (qQ m k)):=by
 refine fM good [] func16 ntmps16 fun w0 ow0 v0=> ?_;have hz:=anI m k;rw[show eB m=eB (LC m k 0) by rw[hz]];have hr0:dR []=0:=rfl;simp[go_sem];refine wl good (fun(i:Nat)=>[(0,.own (eB (LC m k i))),(1,.val (dI (k+dR (m.take i)))),(5,.val (dI i))]) (fun(i:Nat)=>m.length-i) (fun(i:Nat)=>(i<=m.length)) (0) (by omega) ?_ (h0:=by simp[go_sem,hr0]);rintro i h1;have hml:=aqQ (k:=k) h1;have hrs:=MB (m:=m.take i) (fun r hr=>hs r (List.mem_of_mem_take hr));have htl:(m.take i).length<=16:=by simp;omega
 simp[go_sem,hml];refine gw (fun a=> ?_) (fun a=> ?_)
 ·obtain⟨c,hc⟩:=aC (l:=m) (i:=i) (by omega);have hg:=apU (k:=k) (m:=m) (i:=i) (by omega);rw[hc]at hg;have hcl:=hs c (List.mem_of_getElem? hc);have hsn:=OP hc;have hst:=asN (k:=k) hc;obtain⟨q,hq⟩:∃q,k+dR (m.take i)=q:=⟨_,rfl⟩;have hqb:0<=q/\q<=1000000000000000:=by omega
  rw[hq]at hst;have hst2:((LC m k i).map aD).set i (aD (mM c.length q))=(LC m k (i+1)).map aD:=by rw[←List.map_set,hst]
  have hqn:q+(c.length:Int)=k+dR (m.take (i+1)):=by rw[hsn];omega
  simp[go_sem,hg,hq];refine dJ rfl (tJ c q hcl hqb) ?_;rintro r d ⟨rfl,rfl⟩;simp[go_sem,hg,hst2,hqn];refine ai ?_;refine nx (i+1) (by omega)
 ·simp at a;have hil:i=m.length:=by omega
  subst hil;have hfa:=arR m k;have hta:m.take m.length=m:=List.take_length;simp[go_sem,hfa,hta]
def ayR (k:Int):Tst:=⟨k,k+1,decide ((k+2).tmod 3=0)⟩
def nI (n:Nat)(k:Int):List Tst:=(List.range n).map fun j:Nat=>ayR (k+3*(j:Int))
def oW (l:List Tst)(k:Int)(i:Nat):List Tst:=nI i k++l.drop i
theorem aj9 {l:List Tst}{k:Int}{i:Nat}(h:i<=l.length):(oW l k i).length=l.length:=by simp[oW,nI];omega
theorem ahQ {l:List Tst}{k:Int}{i:Nat}(h:i<l.length):(oW l k i)[i]?=l[i]?:=by
 unfold oW nI;rw[List.getElem?_append_right (by simp)];simp
theorem aiQ {l:List Tst}{k:Int}{i:Nat}(h:i<l.length):(oW l k i).set i (ayR (k+3*i))=oW l k (i+1):=by
 unfold oW nI;rw[List.set_append,if_neg (by simp),List.length_map,List.length_range,Nat.sub_self,List.drop_eq_getElem_cons h,List.set_cons_zero,List.range_succ,List.map_append];simp
theorem aeC (l:List Tst)(k:Int):oW l k 0=l:=by simp[oW,nI]
theorem akF (l:List Tst)(k:Int):oW l k l.length=nI l.length k:=by simp[oW]
theorem OG (l:List Tst)(k:Int)(hl:l.length<=1048576)(hk:0<=k/\k<=1000000000000000):zX prog 176 [.one (.bool false),dI k] 0 (.sl (some 150) (l.map lJ)) (fun r d=>r= .val (dI (k+3*l.length))/\d= .sl (some 150) ((nI l.length k).map lJ)):=by
 refine fM good [] func176 ntmps176 fun w0 ow0 v0=> ?_;have hz:=aeC l k;rw[show l.map lJ=(oW l k 0).map lJ by rw[hz]];simp[go_sem];refine wl good (fun(i:Nat)=>[(0,.own (.sl (some 150) ((oW l k i).map lJ))),(1,.val (dI (k+3*i))),(5,.val (dI i))]) (fun(i:Nat)=>l.length-i) (fun(i:Nat)=>(i<=l.length)) (0) (by omega) ?_;rintro i h1;have hml:=aj9 (k:=k) h1;simp[go_sem,hml];refine gw (fun a=> ?_) (fun a=> ?_)
 ·obtain⟨c,hc⟩:=aC (l:=l) (i:=i) (by omega);have hg:=ahQ (k:=k) (l:=l) (i:=i) (by omega);rw[hc]at hg;have hst:((oW l k i).map lJ).set i (lJ (ayR (k+3*i)))=(oW l k (i+1)).map lJ:=by rw[←List.map_set,aiQ (by omega)]
  have hsg:∀v:D,(((oW l k i).map lJ).set i v)[i]?=some v:=fun v=>by rw[List.getElem?_set_self (by rw[List.length_map];omega)]
  have hqn:k+3*(i:Int)+3=k+3*((i:Int)+1):=by omega
  obtain⟨q,hq⟩:∃q,k+3*(i:Int)=q:=⟨_,rfl⟩;have hqb:0<=q/\q<=1000010000000000:=by omega
  rw[hq]at hst hqn;have a2:q+1+1=q+2:=by omega
  have a3:q+2+1=q+3:=by omega
  have a4:q+3+1=q+4:=by omega
  simp only[ayR]at hst;simp[go_sem,hg,hq,hsg,a2,a3,hst,hqn];iterate 4 refine ai ?_
  refine nx (i+1) (by omega)
 ·simp at a;obtain rfl:i=l.length:=by omega
  have hfa:=akF l k;simp[go_sem,hfa]
def ao1 (k:Int):Ver:=⟨k,k+1,decide ((k+2).tmod 3=0),k+3⟩
def j4 (n:Nat)(k:Int):List Ver:=(List.range n).map fun j:Nat=>ao1 (k+4*(j:Int))
def oV (l:List Ver)(k:Int)(i:Nat):List Ver:=j4 i k++l.drop i
theorem ac8 (n:Nat)(k:Int):(j4 n k).length=n:=by simp[j4]
theorem acA {n:Nat}{k:Int}{i:Nat}(h:i<n):(j4 n k)[i]?=some (ao1 (k+4*i)):=by simp[j4,h]
theorem ah4 {l:List Ver}{k:Int}{i:Nat}(h:i<=l.length):(oV l k i).length=l.length:=by simp[oV,j4];omega
theorem ajH {l:List Ver}{k:Int}{i:Nat}(h:i<l.length):(oV l k i)[i]?=l[i]?:=by
 unfold oV j4;rw[List.getElem?_append_right (by simp)];simp
theorem aiG {l:List Ver}{k:Int}{i:Nat}(h:i<l.length):(oV l k i).set i (ao1 (k+4*i))=oV l k (i+1):=by
 unfold oV j4;rw[List.set_append,if_neg (by simp),List.length_map,List.length_range,Nat.sub_self,List.drop_eq_getElem_cons h,List.set_cons_zero,List.range_succ,List.map_append];simp
theorem ahG (l:List Ver)(k:Int):oV l k 0=l:=by simp[oV,j4]
theorem ajR (l:List Ver)(k:Int):oV l k l.length=j4 l.length k:=by simp[oV]
theorem tZ (l:List Ver)(k:Int)(hl:l.length<=1048576)(hk:0<=k/\k<=1000000000000000):zX prog 17 [.one (.bool false),dI k] 0 (.sl (some 88) (l.map dP)) (fun r d=>r= .val (dI (k+4*l.length))/\d= .sl (some 88) ((j4 l.length k).map dP)):=by
 refine fM good [] func17 ntmps17 fun w0 ow0 v0=> ?_;have hz:=ahG l k;rw[show l.map dP=(oV l k 0).map dP by rw[hz]];simp[go_sem];refine wl good (fun(i:Nat)=>[(0,.own (.sl (some 88) ((oV l k i).map dP))),(1,.val (dI (k+4*i))),(5,.val (dI i))]) (fun(i:Nat)=>l.length-i) (fun(i:Nat)=>(i<=l.length)) (0) (by omega) ?_;rintro i h1;have hml:=ah4 (k:=k) h1;simp[go_sem,hml];refine gw (fun a=> ?_) (fun a=> ?_)
 ·obtain⟨c,hc⟩:=aC (l:=l) (i:=i) (by omega);have hg:=ajH (k:=k) (l:=l) (i:=i) (by omega);rw[hc]at hg;have hst:((oV l k i).map dP).set i (dP (ao1 (k+4*i)))=(oV l k (i+1)).map dP:=by rw[←List.map_set,aiG (by omega)]
  have hsg:∀v:D,(((oV l k i).map dP).set i v)[i]?=some v:=fun v=>by rw[List.getElem?_set_self (by rw[List.length_map];omega)]
  have hqn:k+4*(i:Int)+4=k+4*((i:Int)+1):=by omega
  obtain⟨q,hq⟩:∃q,k+4*(i:Int)=q:=⟨_,rfl⟩;have hqb:0<=q/\q<=1000010000000000:=by omega
  rw[hq]at hst hqn;have a2:q+1+1=q+2:=by omega
  have a3:q+2+1=q+3:=by omega
  have a4:q+3+1=q+4:=by omega
  simp only[ao1]at hst;simp[go_sem,hg,hq,hsg,a2,a3,a4,hst,hqn];iterate 5 refine ai ?_
  refine nx (i+1) (by omega)
 ·simp at a;obtain rfl:i=l.length:=by omega
  have hfa:=ajR l k;simp[go_sem,hfa]
theorem uO (n:Nat)(k:Int)(hn:n<=1048576)(hk:0<=k/\k<=1000000000000000):Fk 19 [aU (j4 n k),dI k] (.val (dI (k+4*n))):=by
 refine fE good [] func19 ntmps19 fun w0 ow0=> ?_;have hml:=ac8 n k;simp[go_sem];refine wl good (fun(i:Nat)=>[(0,.val (aU (j4 n k))),(1,.val (dI (k+4*i))),(5,.val (dI i))]) (fun(i:Nat)=>n-i) (fun(i:Nat)=>(i<=n)) (0) (by omega) ?_;rintro i h1;simp[go_sem,hml];refine gw (fun a=> ?_) (fun a=> ?_)
 ·have hg:=acA (k:=k) (show i<n by omega);have hqn:k+4*(i:Int)+4=k+4*((i:Int)+1):=by omega
  obtain⟨q,hq⟩:∃q,k+4*(i:Int)=q:=⟨_,rfl⟩;have hqb:0<=q/\q<=1000010000000000:=by omega
  rw[hq]at hg hqn;have a2:q+1+1=q+2:=by omega
  have a3:q+2+1=q+3:=by omega
  have a4:q+3+1=q+4:=by omega
  simp only[ao1]at hg;simp[go_sem,hg,hq,a2,a3,a4,hqn];iterate 5 refine ai ?_
  refine nx (i+1) (by omega)
 ·simp at a;obtain rfl:i=n:=by omega
  simp[go_sem]
theorem QK (c:Cfg)(left:Int)(hr:al4 c.rules)(hw:c.sco.weights.length<=9223372036854775807)(hs:c.surv.length<=9223372036854775807)(h0:0<=left/\left<=1048576):bR prog 4 [F6 c,dI left] (fun r=>∃v:Int,r= .val (dI v)/\(-1<=v/\v<=left)/\(0<=v->axD c.rules left/\(c.sco.weights.length:Int)<=left/\(c.surv.length:Int)<=left)):=by
 refine fE good [] func4 ntmps4 fun w0 ow0=> ?_;simp[go_sem];refine bP (PM c.rules left hr h0) (by simp[go_sem]) ?_;rintro r ⟨v1,rfl,hv1,hf1⟩;refine⟨by simp[go_sem],?_⟩;simp[go_sem];refine gw (fun b=> ?_) (fun b=> ?_)
 ·simp[go_sem];omega
 ·simp at b;simp[go_sem];refine bP (NR c.sco v1 hw (by omega)) (by simp[go_sem]) ?_;rintro r ⟨v2,rfl,hv2,hf2⟩;refine⟨by simp[go_sem],?_⟩;simp[go_sem];refine gw (fun d=> ?_) (fun d=> ?_)
  ·simp[go_sem];omega
  ·simp at d;simp[go_sem];refine bP (II c.surv v2 hs (by omega)) (by simp[go_sem]) ?_;rintro r ⟨v3,rfl,hv3,hf3⟩;refine⟨by simp[go_sem],?_⟩;simp[go_sem];refine gw (fun e=> ?_) (fun e=> ?_)
   ·simp[go_sem];omega
   ·simp at e;have k1:=hf1 (by omega);have k2:=hf2 (by omega);have k3:=hf3 (by omega);have k4:(c.sco.weights.length:Int)<=left/\(c.surv.length:Int)<=left:=by omega
    simp[go_sem,k1,k4];refine ai ?_;omega
theorem UN (s:Sto)(left:Int)(hr:as9 s.recs)(hw:s.vers.length<=9223372036854775807)(h0:0<=left/\left<=1048576):bR prog 5 [xZ s,dI left] (fun r=>∃v:Int,r= .val (dI v)/\(-1<=v/\v<=left)/\(0<=v->aA5 s.recs left/\(s.vers.length:Int)<=left)):=by
 refine fE good [] func5 ntmps5 fun w0 ow0=> ?_;simp[go_sem];refine bP (NU s.recs left hr h0) (by simp[go_sem]) ?_;rintro r ⟨v1,rfl,hv1,hf1⟩;refine⟨by simp[go_sem],?_⟩;simp[go_sem];refine gw (fun b=> ?_) (fun b=> ?_)
 ·simp[go_sem];omega
 ·simp at b;simp[go_sem];refine bP (LM s.vers v1 hw (by omega)) (by simp[go_sem]) ?_;rintro r ⟨v2,rfl,hv2,hf2⟩;refine⟨by simp[go_sem],?_⟩;simp[go_sem];refine gw (fun d=> ?_) (fun d=> ?_)
  ·simp[go_sem];omega
  ·simp at d;have k1:=hf1 (by omega);have k2:=hf2 (by omega);have k4:(s.vers.length:Int)<=left:=by omega
   simp[go_sem,k1,k4];refine ai ?_;omega
theorem AO (c:Cfg)(hl:c.rules.length<=1048576)(hs:∀t∈c.rules,t.length<=1048576)(hw:c.sco.weights.length<=1048576)(hv:c.surv.length<=1048576):Fk 7 [F6 c] (.own (.agg [.agg [.sl (some 148) (c.rules.map pE)],.agg [aD c.sco.weights,dI c.sco.bias],aD c.surv])):=by
 refine fE good [] func7 ntmps7 fun w0 ow0=> ?_;simp[go_sem];refine ck (OD c.rules hl hs) ?_;simp[go_sem];refine ck (OA c.sco hw) ?_;simp[go_sem];refine ck (FK c.surv hv) ?_;simp[go_sem]
theorem DZ (s:Sto)(hl:s.recs.length<=1048576)(hs:∀r∈s.recs,r.fields.length<=1048576)(hv:s.vers.length<=1048576):Fk 8 [xZ s] (.own (.agg [dI s.version,.sl (some 104) (s.recs.map oRec),bN s.vers])):=by
 refine fE good [] func8 ntmps8 fun w0 ow0=> ?_;simp[go_sem];refine ck (OB s.recs hl hs) ?_;simp[go_sem];refine ck (KP s.vers hv) ?_;simp[go_sem]
def qJ (m:List (List Tst)):Int:=(m.map fun r=>3*(r.length:Int)).sum
def mRu:List (List Tst)->Int->List (List Tst)
 |[],_=>[]
 |r::m,k=>nI r.length k::mRu m (k+3*r.length)
theorem U6:∀(m:List (List Tst)) (k:Int),(mRu m k).length=m.length
 |[],_=>rfl
 |r::m,k=>by simp[mRu,U6 m]
theorem aiN {m:List (List Tst)}{i:Nat}{c:List Tst}(h:m[i]?=some c):qJ (m.take (i+1))=qJ (m.take i)+3*c.length:=by unfold qJ;rw[nC _ h];simp
theorem ak0:∀(m:List (List Tst)) (k:Int) (c:List Tst),mRu (m++[c]) k=mRu m k++[nI c.length (k+qJ m)]
 |[],k,c=>by simp[mRu,qJ]
 |r::m,k,c=>by
  simp only[List.cons_append,mRu,ak0 m];simp[qJ,Int.add_assoc]
theorem WH {m:List (List Tst)}(hs:∀r∈m,r.length<=1048576):0<=qJ m/\qJ m<=3145728*m.length:=by
 induction m with
 |nil=>simp[qJ]
 |cons r m ih=>
  have h1:=ih (fun x hx=>hs x (List.mem_cons_of_mem _ hx));have h2:=hs r List.mem_cons_self;simp only[qJ,List.map_cons,List.sum_cons,List.length_cons]at h1|-
  omega
def L8 (m:List (List Tst))(k:Int)(i:Nat):List (List Tst):=mRu (m.take i) k++m.drop i
theorem as8 {m:List (List Tst)}{k:Int}{i:Nat}(h:i<=m.length):(L8 m k i).length=m.length:=by simp[L8,U6];omega
theorem aqW {m:List (List Tst)}{k:Int}{i:Nat}(h:i<m.length):(L8 m k i)[i]?=m[i]?:=by
 have hl:(mRu (m.take i) k).length=i:=by simp[U6];omega
 unfold L8;rw[List.getElem?_append_right (by omega),hl];simp
theorem avJ {m:List (List Tst)}{k:Int}{i:Nat}{c:List Tst}(h:m[i]?=some c):(L8 m k i).set i (nI c.length (k+qJ (m.take i)))=L8 m k (i+1):=by
 have hi:=aS h;have hl:(mRu (m.take i) k).length=i:=by simp[U6];omega
 unfold L8;rw[List.set_append,if_neg (by omega),hl,Nat.sub_self,List.drop_eq_getElem_cons hi,List.set_cons_zero,aW h,ak0];simp
theorem amE (m:List (List Tst))(k:Int):L8 m k 0=m:=by simp[L8,mRu]
theorem atV (m:List (List Tst))(k:Int):L8 m k m.length=mRu m k:=by simp[L8]
theorem O0 (m:List (List Tst))(k:Int)(hn:m.length<=1048576)(hs:∀r∈m,r.length<=1048576)(hk:0<=k/\k<=100000000000):zX prog 104 [.one (.bool false),dI k] 0 (.sl (some 148) (m.map pE)) (fun r d=>r= .val (dI (k+qJ m))/\d= .sl (some 148) ((mRu m k).map pE)):=by
 refine fM good [] func104 ntmps104 fun w0 ow0 v0=> ?_;have hz:=amE m k;rw[show m.map pE=(L8 m k 0).map pE by rw[hz]];have hr0:qJ []=0:=rfl;simp[go_sem];refine wl good (fun(i:Nat)=>[(0,.own (.sl (some 148) ((L8 m k i).map pE))),(1,.val (dI (k+qJ (m.take i)))),(5,.val (dI i))]) (fun(i:Nat)=>m.length-i) (fun(i:Nat)=>(i<=m.length)) (0) (by omega) ?_ (h0:=by simp[go_sem,hr0]);rintro i h1;have hml:=as8 (k:=k) h1;have hrs:=WH (m:=m.take i) (fun r hr=>hs r (List.mem_of_mem_take hr));have htl:(m.take i).length<=1048576:=by simp;omega
 simp[go_sem,hml];refine gw (fun a=> ?_) (fun a=> ?_)
 ·obtain⟨c,hc⟩:=aC (l:=m) (i:=i) (by omega);have hg:=aqW (k:=k) (m:=m) (i:=i) (by omega);rw[hc]at hg;have hcl:=hs c (List.mem_of_getElem? hc);have hsn:=aiN hc;have hst:=avJ (k:=k) hc;obtain⟨q,hq⟩:∃q,k+qJ (m.take i)=q:=⟨_,rfl⟩;have hqb:0<=q/\q<=1000000000000000:=by omega
  rw[hq]at hst;have hst2:((L8 m k i).map pE).set i (pE (nI c.length q))=(L8 m k (i+1)).map pE:=by rw[←List.map_set,hst]
  have hqn:q+3*(c.length:Int)=k+qJ (m.take (i+1)):=by rw[hsn];omega
  simp[go_sem,hg,hq];refine dJ rfl (OG c q hcl hqb) ?_;rintro r d ⟨rfl,rfl⟩;simp[go_sem,hg,hst2,hqn];refine ai ?_;refine nx (i+1) (by omega)
 ·simp at a;have hil:i=m.length:=by omega
  subst hil;have hfa:=atV m k;have hta:m.take m.length=m:=List.take_length;simp[go_sem,hfa,hta]
end Go.Proofs.YtnglphdfhegnmaaGreatDoor
end
section
namespace Go.Dv
open Go.RowKit
variable [eZ]
theorem aDP {P:Program}{T:TypeId->TyE}{f:FuncId}{fn:Func}{c:Code}{n:Nat}{rs:List ResultVar}{ds:List D}{m:Nat}{dm:D}{Q:S->Prop}(hG:∀t,Good P T t) (hf:P.funcs[f]?=some fn) (hb:fn.body=some c) (hn':fn.ntmps=n) (hn:n<=1000000) (hd:ds.length<=n)
  (hr:fn.results=rs.toArray) (h:∀w0 ow0,OkC P n w0 ow0 none c (E9 ds m dm) (acQ T rs Q)):ZM P f ds m dm Q:=by
 subst hn';intro w ow vs t l ht hL hnew hvs hm hargs hV;have hm6:m<1000000:=by omega
 refine calls_of_wp hf hb ?_
 have hav:∀i,i<ds.length->aval {tmps:=vs++Array.replicate (fn.ntmps-vs.size) undef,defers:=[]} i=vs.getD i undef:=by
  intro i hi;unfold aval;rw[if_pos (by omega)];simp only[Array.getD_eq_getD_getElem?];rw[Array.getElem?_append_left (by omega)]
 have hfit:Fits P fn.ntmps w (zL l m ow) (zL l m ow) (E9 ds m dm) {tmps:=vs++Array.replicate (fn.ntmps-vs.size) undef,defers:=[]} w:=by
  refine⟨rfl,by simp;omega,hn,(hL.mono fun b o h1 h2=>⟨h1,gB h2⟩),⟨rfl,rfl,rfl,Nat.le_refl _,fun _ _ _=>rfl⟩,fun _ _ h=>h,fun b hb=>gB (hnew b hb),?_,fun _ _ _ h=>⟨rfl,h⟩,fun i=> ?_⟩
  ·unfold E9 eQ;rw[jN (by unfold far0;omega),List.getElem?_eq_none (by unfold far0;omega)]
  ·by_cases him:i=m
   ·subst him;simp only[E9,put_eq,SV];rw[hav i hm];exact V.tr (fun b _=>⟨fun ho=>⟨rfl,gB ho⟩,fun q hq=>⟨rfl,XM hq⟩⟩) hV
   ·simp only[E9,jN him];unfold eQ;cases hdi:ds[i]? with
    |none=>trivial
    |some d=>
     have hi:i<ds.length:=(List.getElem?_eq_some_iff.1 hdi).1;simp only[SV];rw[hav i hi];exact V.trf (fun b _ ho=>⟨rfl,gB ho⟩) (hargs i d hdi him)
 refine h w _ _ w ⟨_,hfit⟩ (by intro m v e;cases e) _ fun e s' a' w' hK hR hp'=> ?_
 have key:(uL T rs s' fun ds s2=>Q (nL ds))->bodyPost P fn (fun e w'=>∃v ow' r,e= .returned v/\Q r/\w'.os=w.os/\w'.tape=w.tape/\w'.output=w.output/\w.heap.size<=w'.heap.size/\
   (∀b,b<w.heap.size->(∀q,ow b≠some (q++l))->w'.heap[b]?=w.heap[b]?/\ow' b=ow b)/\(∀b,w'.heap.size<=b->ow' b=none)/\S.plain r=true/\∀s a,SV P w' ow' s a t r v) .ret a' w':=by
  intro hK;obtain⟨ow1,hf1⟩:=hR;obtain⟨vals,ow2,s2,ds2,hQ,hf2,hl1,hl2,hrun,hvals,hkeep⟩:=hf1.retL hG (fun k=>if rs.length=1 then[]else[k]) rs 0 hK
  have hres:(results fn a'.tmps).run P w'= .ok (if h:vals.toArray.size=1 then vals.toArray[0]else .tuple vals.toArray) w':=by
   unfold results;rw[hr];have hb:∀{α β:Type}(x:Sem α) (g:α->Sem β),Sem.run P (Sem.bind x g) w'=(Sem.run P x w').andThen fun a w'=>Sem.run P (g a) w':=fun x g=>Sem.run_bind ..;simp only[List.mapM_toArray,Functor.map,Sem.run_bind,Sem.run_pure];rw[hb,hrun _ (PL a'.tmps P w' _ (fun _=>rfl) fun _ _=>rfl)];rfl
  refine⟨hf1.nodef,_,hres,?_⟩
  have hmiss:∀b,b<w.heap.size->(∀q,ow b≠some (q++l))->w'.heap[b]?=w.heap[b]?/\(ow b=none->ow2 b=none)/\(∀lab,ow b=some lab->ow2 b=some (lab++[far0])):=by
   intro b hlt hno;cases ho:ow b with
   |none=>exact⟨hf2.bel.block b hlt (gB ho),fun _=>hf2.own b hlt (gB ho),fun lab e=>by cases e⟩
   |some lab=>
    have hlab:=SN (l:=l) (m:=m) ho (fun hu=>by obtain⟨q,hq⟩:=hu;exact hno q (by rw[ho,hq]));obtain⟨g1,g2⟩:=hf2.keep b hlt lab hlab;exact⟨g1,fun e=>(by cases e),fun lab' e=>by obtain rfl:=Option.some.inj e;exact g2⟩
  have hnone:∀b,ow2 b=none->dV w l m t ow ow2 b=none:=by
   intro b hb;unfold dV;split
   ·rename_i hc;cases ho:ow b with
    |none=>rfl
    |some lab=>have:=(hmiss b hc.1 hc.2).2.2 lab ho;rw[hb]at this;cases this
   ·rw[hb]
  have hlast:∀b q j,ow2 b=some (q++[j])->j≠far0->¬(b<w.heap.size/\∀q,ow b≠some (q++l)):=by
   rintro b q j hq hj ⟨h1,h2⟩;obtain⟨_,g1,g2⟩:=hmiss b h1 h2;cases ho:ow b with
   |none=>rw[g1 ho]at hq;cases hq
   |some lab=>
    rw[g2 lab ho]at hq;have:=congrArg List.getLast? (Option.some.inj hq);simp at this;exact hj this.symm
  have hmf:m≠far0:=by unfold far0;omega
  have hmr:m≠res0:=by unfold res0;omega
  have hkm:Keeps w' ow2 [m] w' (dV w l m t ow ow2) l:=fun b _=>⟨fun ho=>⟨rfl,hnone b ho⟩,fun q hq=>⟨rfl,by
   unfold dV;rw[if_neg (hlast b q m hq hmf),hq];simp⟩⟩
  have hk:∀l2,Keeps w' ow2 (l2++[res0]) w' (dV w l m t ow ow2) (l2++[t]):=fun l2 b _=>⟨fun ho=>⟨rfl,hnone b ho⟩,fun q hq=>⟨rfl,by
   have hq':ow2 b=some ((q++l2)++[res0]):=by rw[hq];simp
   unfold dV;rw[if_neg (hlast b _ res0 hq' (by unfold res0 far0;omega)),hq'];simp[Ne.symm hmr]⟩⟩
  have hq:Quiet w' ow2 w' (dV w l m t ow ow2):=fun b _ ho=>⟨rfl,hnone b ho⟩
  have part:∀(j:Nat) (p:D×Bool),ds2[j]?=some p->∃v,vals[j]?=some v/\(if(p.2||p.1.frz)=true then V P w' (dV w l m t ow ow2) p.1.fz [] v else V P w' (dV w l m t ow ow2) p.1 ((if rs.length=1 then[]else[j])++[t]) v):=by
   intro j p hj;obtain⟨v,h1,h2,h3⟩:=hvals j p hj;rw[Nat.zero_add]at h2;refine⟨v,h1,?_⟩;by_cases hp:(p.2||p.1.frz)=true
   ·rw[if_pos hp]
    have hfz:p.1.fz=p.1:=by
     rcases Bool.or_eq_true _ _▸hp with hp|hp
     ·exact h3 hp
     ·exact D.LP hp
    rw[←hfz]at h2;exact V.trf hq h2
   ·rw[if_neg hp];exact V.tr (hk _) h2
  refine⟨_,dV w l m t ow ow2,nL ds2,rfl,hQ,hf2.bel.os,hf2.bel.tape,hf2.bel.output,hf2.bel.size,fun b hb hno=>⟨(hmiss b hb hno).1,by unfold dV;rw[if_pos ⟨hb,hno⟩]⟩,fun b hb=>hnone b (hf2.new b hb),?_,fun s a=> ?_⟩
  ·unfold nL;split
   ·split<;>rfl
   ·rfl
  ·by_cases hone:rs.length=1
   ·have hd1:ds2.length=1:=by rw[hl1,hone]
    have hv1:vals.length=1:=by rw[hl2,hone]
    obtain⟨⟨d,b⟩,rfl⟩:=List.length_eq_one_iff.1 hd1;obtain⟨v,rfl⟩:=List.length_eq_one_iff.1 hv1;obtain⟨v',h1,h2⟩:=part 0 (d,b) rfl;obtain rfl:v=v':=by simpa using h1
    rw[if_pos hone]at h2;simp only[nL];by_cases hp:(b||d.frz)=true
    ·rw[if_pos hp]at h2|-
     exact h2
    ·rw[if_neg hp]at h2|-
     exact h2
   ·have hd1:∀p,ds2≠[p]:=fun p e=>by rw[e]at hl1;simp at hl1;exact hone hl1.symm
    have htup:nL ds2= .tup (ds2.map fun p=>if p.2||p.1.frz then .val p.1 else .own p.1):=by
     unfold nL;split
     ·rename_i d b;exact absurd rfl (hd1 _)
     ·rfl
    rw[htup];refine⟨vals.toArray,?_,by simp[hl1,hl2],fun j x hx=> ?_⟩
    ·rw[dif_neg];simp[hl2,hone]
    ·simp only[List.getElem?_map,Option.map_eq_some_iff]at hx;obtain⟨p,hp,rfl⟩:=hx;obtain⟨v,h1,h2⟩:=part j p hp;have hv:vals.toArray.getD j undef=v:=by simp[Array.getD_eq_getD_getElem?,h1]
     rw[hv];by_cases hpf:(p.2||p.1.frz)=true
     ·rw[if_pos hpf]at h2|-
      exact h2
     ·rw[if_neg hpf]at h2|-
      rw[if_neg hone]at h2;exact h2
 cases e with
 |normal=>exact key hK
 |ret=>exact key hK
 |_=>exact hK.elim
theorem fT {P:Program}{T:TypeId->TyE}{f:FuncId}{fn:Func}{c:Code}{n:Nat}{rs:List ResultVar}{ds:List D}{m:Nat}{dm:D}{Q:S->Prop}(hG:∀t,Good P T t) (sp:List Nat) (hf:P.funcs[f]?=some fn) (hn':fn.ntmps=n) (h:∀w0 ow0,@WC _ P T n w0 ow0 none sp ⟨c⟩ ((eQ ds).put m (.own dm)) ⟨acQ T rs Q⟩)
  (hb:fn.body=some c:=by rfl) (hr:fn.results=rs.toArray:=by rfl) (hn:n<=1000000:=by decide) (hd:ds.length<=n:=by simp):ZM P f ds m dm Q:=aDP hG hf hb hn' hn hd hr fun w0 ow0=>wcI hG sp (h w0 ow0) (pI c)
end Go.Dv
end
section
namespace Go.Proofs.YtnglphdfhegnmaaGreatDoor
open Go.Dv Go.Pl Go.Proofs.Tryz
def xP (m:List Rec):Int:=(m.map fun r=>3+(r.fields.length:Int)).sum
theorem ajV {m:List Rec}{i:Nat}{c:Rec}(h:m[i]?=some c):xP (m.take (i+1))=xP (m.take i)+(3+c.fields.length):=by unfold xP;rw[nC _ h];simp
theorem WJ {m:List Rec}(hs:∀r∈m,r.fields.length<=1048576):0<=xP m/\xP m<=1048579*m.length:=by
 induction m with
 |nil=>simp[xP]
 |cons r m ih=>
  have h1:=ih (fun x hx=>hs x (List.mem_cons_of_mem _ hx));have h2:=hs r List.mem_cons_self;simp only[xP,List.map_cons,List.sum_cons,List.length_cons]at h1|-
  omega
theorem JP (l:List Rec)(k:Int)(hn:l.length<=1048576)(hs:∀r∈l,r.fields.length<=1048576)(hk:0<=k/\k<=10000000000000):ZM prog 49 [.one (.bool false),dI k] 0 (.sl (some 104) (l.map oRec)) (fun res'=>res'= .val (dI (k+xP l))):=by
 refine fT good [] func49 ntmps49 fun w0 ow0=> ?_;have hr0:xP []=0:=rfl;simp[go_sem];refine wl good (fun(x':(Nat)×(List Rec))=>match x' with|(i,rs)=>[(0,.own (.sl (some 104) (rs.map oRec))),(1,.val (dI (k+xP (l.take i)))),(5,.val (dI i))]) (fun(x':(Nat)×(List Rec))=>match x' with|(i,rs)=>l.length-i) (fun(x':(Nat)×(List Rec))=>match x' with|(i,rs)=>(i<=l.length)/\(rs.length=l.length)/\(∀j,i<=j->rs[j]?=l[j]?)) ((0,l)) ⟨(by omega),(rfl),(fun _ _=>rfl)⟩ ?_ (h0:=by simp[go_sem,hr0]);rintro⟨i,rs⟩ ⟨h1,h2,h3⟩;have hrs:=WJ (m:=l.take i) (fun r hr=>hs r (List.mem_of_mem_take hr));have htl:(l.take i).length<=1048576:=by simp;omega
 simp[go_sem,h2];refine gw (fun a=> ?_) (fun a=> ?_)
 ·obtain⟨c,hc⟩:=aC (l:=l) (i:=i) (by omega);have hg:rs[i]?=some c:=(h3 i (Nat.le_refl _)).trans hc;have hcl:=hs c (List.mem_of_getElem? hc);have hsn:=ajV hc;obtain⟨q,hq⟩:∃q,k+xP (l.take i)=q:=⟨_,rfl⟩;have hqb:0<=q/\q<=1000000000000000:=by omega
  have a2:q+1+1=q+2:=by omega
  have a3:q+2+1=q+3:=by omega
  have hst:∀r:Rec,(rs.map oRec).set i (oRec r)=(rs.set i r).map oRec:=fun r=>by rw[List.map_set]
  have hsg:∀v:D,((rs.map oRec).set i v)[i]?=some v:=fun v=>by rw[List.getElem?_set_self (by rw[List.length_map];omega)]
  have hqn:q+3+(c.fields.length:Int)=k+xP (l.take (i+1)):=by rw[hsn];omega
  simp[go_sem,hg,hq,a2,a3,hsg];iterate 3 refine ai ?_
  refine dJ rfl (JV c.fields (q+3) hcl (by omega)) ?_;rintro r d ⟨rfl,rfl⟩;obtain⟨rs2,hr2⟩:∃rs2,rs2=rs.set i ⟨q,q+1,q+2,marksS c.fields.length (q+3)⟩:=⟨_,rfl⟩;have hst2:(rs.map oRec).set i (.agg [dI q,dI (q+1),dI (q+2),oG (marksS c.fields.length (q+3))])=rs2.map oRec:=by rw[hr2];exact hst ⟨q,q+1,q+2,marksS c.fields.length (q+3)⟩
  simp[go_sem,hsg,hst2,hqn];refine ai ?_;refine nx (i+1,rs2) ⟨(by omega),(by rw[hr2,List.length_set];exact h2),(fun j hj=>by rw[hr2,List.getElem?_set_ne (by omega)];exact h3 j (by omega))⟩
 ·simp at a;have hil:i=l.length:=by omega
  subst hil;have hta:l.take l.length=l:=List.take_length;simp[go_sem,hta]
theorem JI (m:List (List Tst))(k:Int)(hn:m.length<=1048576)(hs:∀r∈m,r.length<=1048576)(hk:0<=k/\k<=100000000000):ZM prog 46 [.one (.bool false),dI k] 0 (.agg [.sl (some 148) (m.map pE)]) (fun res'=>res'= .val (dI (k+qJ m))):=by
 refine fT good [] func46 ntmps46 fun w0 ow0=> ?_;simp[go_sem];refine dJ rfl (O0 m k hn hs hk) ?_;rintro r d ⟨rfl,rfl⟩;simp[go_sem]
theorem JR (s:Sco)(k:Int)(hs:s.weights.length<=1048576)(hk:0<=k/\k<=1000000000000000):ZM prog 47 [.one (.bool false),dI k] 0 (.agg [aD s.weights,dI s.bias]) (fun res'=>res'= .val (dI (k+s.weights.length))):=by
 refine fT good [] func47 ntmps47 fun w0 ow0=> ?_;simp[go_sem];refine dJ rfl (tJ s.weights k hs hk) ?_;rintro r d ⟨rfl,rfl⟩;simp[go_sem]
theorem ML (c:Cfg)(k:Int)(hn:c.rules.length<=1048576)(hs:∀r∈c.rules,r.length<=1048576)(hw:c.sco.weights.length<=1048576)(hv:c.surv.length<=1048576)(hk:0<=k/\k<=1000000):ZM prog 14 [.one (.bool false),dI k] 0 (.agg [.agg [.sl (some 148) (c.rules.map pE)],.agg [aD c.sco.weights,dI c.sco.bias],aD c.surv]) (fun res'=>res'= .val (dI (k+qJ c.rules+c.sco.weights.length+c.surv.length))):=by
 refine fT good [] func14 ntmps14 fun w0 ow0=> ?_;have hrb:=WH hs;obtain⟨q,hq⟩:∃q,k+qJ c.rules=q:=⟨_,rfl⟩;have hqb:0<=q/\q<=10000000000000:=by omega
 simp[go_sem];refine wG rfl (JI c.rules k hn hs (by omega)) ?_;simp[go_sem,hq];refine wG rfl (JR c.sco q hw (by omega)) ?_;simp[go_sem];refine dJ rfl (tJ c.surv (q+c.sco.weights.length) hv (by omega)) ?_;rintro r d ⟨rfl,rfl⟩;simp[go_sem,hq]
theorem PS (s:Sto)(k:Int)(hn:s.recs.length<=1048576)(hs:∀r∈s.recs,r.fields.length<=1048576)(hv:s.vers.length<=1048576)(hk:0<=k/\k<=10000000000000):ZM prog 15 [.one (.bool false),dI k] 0 (.agg [dI s.version,.sl (some 104) (s.recs.map oRec),bN s.vers]) (fun res'=>res'= .val (dI (k+xP s.recs+4*s.vers.length))):=by
 refine fT good [] func15 ntmps15 fun w0 ow0=> ?_;have hrb:=WJ hs;obtain⟨q,hq⟩:∃q,k+xP s.recs=q:=⟨_,rfl⟩;have hqb:0<=q/\q<=1000000000000000:=by omega
 simp[go_sem];refine wG rfl (JP s.recs k hn hs (by omega)) ?_;simp[go_sem,hq];refine dJ rfl (tZ s.vers q hv hqb) ?_;rintro r d ⟨rfl,rfl⟩;simp[go_sem,hq]
end Go.Proofs.YtnglphdfhegnmaaGreatDoor
end
section
namespace Go.Dv
open Go.RowKit Go.Pl
variable [eZ]
theorem fMs {P:Program}{T:TypeId->TyE}{f:FuncId}{fn:Func}{c:Code}{n:Nat}{rs:List ResultVar}{ds:List D}{m:Nat}{dm:D}{Q:S->D->Prop}(hG:∀t,Good P T t) (sp:List Nat) (hf:P.funcs[f]?=some fn) (hn':fn.ntmps=n) (h:∀w0 ow0 v,@lD _ P T n w0 ow0 (some (m,v)) sp ⟨c⟩ ((eQ ds).put m (.own dm)) ⟨ay5 T rs m Q⟩)
  (hb:fn.body=some c:=by rfl) (hr:fn.results=rs.toArray:=by rfl) (hd':∀v,noC (some (m,v)) c=true:=by intro;rfl) (hn:n<=1000000:=by decide) (hd:ds.length<=n:=by simp):zX P f ds m dm Q:=auA hG hf hb hn' hn hd hr fun w0 ow0 v=>h w0 ow0 v (hd' v)
end Go.Dv
end
section
namespace Go.Proofs.YtnglphdfhegnmaaGreatDoor
open Go.Dv Go.Pl Go.Proofs.Tryz
theorem tF (r:Rec)(hr:inI .i64 (eG r))(h2:inI .i64 (100*r.source)):Fk 93 [tY r] (.val (dI (eG r))):=by
 refine fE good [] func93 ntmps93 fun w0 ow0=> ?_;simp[go_sem];refine ai ?_;exact⟨hr,rfl⟩
theorem zT (x:Int):Fk 207 [dI x] (.val (dB false)):=by
 refine fE good [] func207 ntmps207 fun w0 ow0=> ?_;simp[go_sem]
theorem lV (x y:Int):Fk 153 [dI x,dI y] (.val (dI (oM x y))):=by
 refine fE good [] func153 ntmps153 fun w0 ow0=> ?_;simp[go_sem];refine ck (zT x) ?_;simp[go_sem];refine ck (zT y) ?_;simp[go_sem];refine gw (fun a=> ?_) (fun a=> ?_)
 ·simp[go_sem];grind[oM]
 ·simp at a;simp[go_sem];refine gw (fun b=> ?_) (fun b=> ?_)
  ·simp[go_sem];grind[oM]
  ·simp at b;simp[go_sem];grind[oM]
def orI (l:List Int):Int:=(l.find? fun x=>decide (x≠0)).getD 0
theorem aBZ {l:List Int}{i:Nat}{c:Int}(h:(l.take i).all (fun x=>decide (x=0))=true)(hc:l[i]?=some c)(hn:c≠0):orI l=c:=by
 have hlt:=(List.getElem?_eq_some_iff.1 hc).1;rw[List.getElem?_eq_getElem hlt]at hc;have e:l=l.take i++c::l.drop (i+1):=by rw[←Option.some.inj hc];simp
 have h2:(l.take i).find? (fun x=>decide (x≠0))=none:=by
  rw[List.find?_eq_none];intro x hx;have:=List.all_eq_true.1 h x hx;simpa using this
 rw[orI,e,List.find?_append,h2];simp[hn]
theorem aBF {l:List Int}(h:l.all (fun x=>decide (x=0))=true):orI l=0:=by
 have h2:l.find? (fun x=>decide (x≠0))=none:=by
  rw[List.find?_eq_none];intro x hx;have:=List.all_eq_true.1 h x hx;simpa using this
 rw[orI,h2];rfl
theorem Y1 (l:List Int)(hl:l.length<=1048576):Fk 204 [nInts l] (.val (dI (orI l))):=by
 refine fE good [] func204 ntmps204 fun w0 ow0=> ?_;simp[go_sem];refine wl good (fun(i:Nat)=>[(3,.val (dI 0)),(6,.val (nInts l)),(7,.val (dI l.length)),(8,.val (dI i))]) (fun(i:Nat)=>(l).length-i) (fun(i:Nat)=>(i<=(l).length)/\((l.take i).all (fun x=>decide (x=0))=true)) (0) ⟨(by omega),rfl⟩ ?_;rintro i ⟨h1,h2⟩;simp[go_sem];refine gw (fun a=> ?_) (fun a=> ?_)
 ·obtain⟨c,hc⟩:=aC (l:=l) (i:=i) (by omega);simp[go_sem,hc];refine gw (fun b=> ?_) (fun b=> ?_)
  ·have hx:=aBZ h2 hc b;simp[go_sem,hx]
  ·simp[go_sem];refine ai ?_;refine nx (i+1) ⟨(by omega),(aM hc h2 (by simpa using b))⟩
 ·simp at a;have hx:orI l=0:=aBF (by rwa [aO a]at h2);simp[go_sem,hx]
theorem JW (x y:Bool):Fk 205 [dB x,dB y] (.val (dI (if x=y then 0 else if y then -1 else 1))):=by
 refine fE good [] func205 ntmps205 fun w0 ow0=> ?_;simp[go_sem];refine gw (fun a=> ?_) (fun a=> ?_)
 ·simp at a;simp[go_sem];grind
 ·simp at a;simp[go_sem];refine gw (fun b=> ?_) (fun b=> ?_)
  ·simp[go_sem];grind
  ·simp[go_sem];grind
theorem aoZ (a b:Ver):orI [oM a.a b.a,oM a.b b.b,oM a.time b.time,if a.same=b.same then 0 else if b.same then -1 else 1]=bQ a b:=by
 unfold bQ orI;by_cases h1:oM a.a b.a=0<;>by_cases h2:oM a.b b.b=0<;>by_cases h3:oM a.time b.time=0<;>simp[h1,h2,h3];all_goals(cases a.same<;>cases b.same<;>simp)
theorem qA (a b:Ver):Fk 149 [dP a,dP b] (.val (dI (bQ a b))):=by
 refine fE good [] func149 ntmps149 fun w0 ow0=> ?_;simp[go_sem];refine wdt good 20 ?_;simp[go_sem];refine cd (lV a.a b.a) ?_;simp[go_sem];refine cd (lV a.b b.b) ?_;simp[go_sem];refine cd (lV a.time b.time) ?_;simp[go_sem];refine cd (JW a.same b.same) ?_;have hx:=aoZ a b;simp[go_sem];refine ck (Y1 [oM a.a b.a,oM a.b b.b,oM a.time b.time,if a.same=b.same then 0 else if b.same then -1 else 1] (by simp)) ?_;simp[go_sem,hx]
theorem vF (l:List Ver)(hs:l.length<=1048576:=by first|assumption|omega|(simp;omega)|grind):Fk 95 [aU l] (.val (dB (eO l))):=by
 refine fE good [] func95 ntmps95 fun w0 ow0=> ?_;simp[go_sem];refine wl good (fun(i:Nat)=>[(0,.val (aU l)),(5,.val (aU l)),(6,.val (dI l.length)),(7,.val (dI i))]) (fun(i:Nat)=>(l).length-i) (fun(i:Nat)=>(i<=(l).length)/\((l.take i).all bH=true)/\(adj (fun a b=>decide (bQ a b<0)) (l.take i)=true)) (0) ⟨(by omega),rfl,rfl⟩ ?_;rintro i ⟨h1,h2,h3⟩;simp[go_sem];refine gw (fun a=> ?_) (fun a=> ?_)
 ·obtain⟨c,hc⟩:=aC (l:=l) (i:=i) (by omega);simp[go_sem,hc];refine wdr good ?_;simp[go_sem];refine cd (CL c) ?_;simp[go_sem];refine gv (fun e=> ?_) (fun e=> ?_)
  ·have e':=e;simp at e';have hn:=bO hc (P:=bH) (by simpa using e);simp[go_sem,e];grind[eO]
  ·have e':=e;simp at e';simp[go_sem,e];refine gv (fun f=> ?_) (fun f=> ?_)
   ·have f':=f;obtain⟨p,hp⟩:=aC (l:=l) (i:=i-1) (by omega);have hi1:i-1+1=i:=by omega
    simp[go_sem,f,hp];iterate 2 refine ai ?_
    refine cd (qA p c) ?_;simp[go_sem];refine gw (fun b=> ?_) (fun b=> ?_)
    ·have hn:=ER hp (by rw[hi1];exact hc) (R:=fun a b=>decide (bQ a b<0)) (by simp;omega);simp[go_sem];grind[eO]
    ·simp at b;simp[go_sem];refine ai ?_;refine nx (i+1) ⟨(by omega),(aM hc h2 (by simpa using e)),(by have:=uV (i:=i-1) (by rw[hi1];exact h3) hp (by rw[hi1];exact hc) (by simp;omega);rwa [hi1]at this)⟩
   ·have f':=f;simp at f';simp[go_sem,f];refine ai ?_;refine nx (i+1) ⟨(by omega),(aM hc h2 (by simpa using e)),(by obtain rfl:i=0:=(by omega);exact qK)⟩
 ·simp at a;have hf:=dM h2 a;rw[aO a]at h3;simp[go_sem];grind[eO]
theorem j3 (r:List (List Tst))(hs:r.length<=1048576:=by first|assumption|omega|(simp;omega)|grind)(hr:∀l∈r,l.length<=1048576:=by first|assumption|omega|(simp;omega)|grind):Fk 53 [gG r] (.val (dB (dF r))):=by
 refine fE good [] func53 ntmps53 fun w0 ow0=> ?_;simp[go_sem];refine wl good (fun(i:Nat)=>[(1,.own (.bx true (gG r))),(3,.val (dI i))]) (fun(i:Nat)=>(r).length-i) (fun(i:Nat)=>(i<=(r).length)/\(((r).take i).all dD=true)) (0) ⟨(by omega),rfl⟩ ?_;rintro i ⟨h1,h2⟩;simp[go_sem];refine gw (fun a=> ?_) (fun a=> ?_)
 ·obtain⟨c,hc⟩:=aC (l:=r) (i:=i) (by omega);have hcl:=hr c (List.mem_of_getElem? hc);simp[go_sem,hc];refine wl good (fun(k:Nat)=>[(1,.own (.bx true (gG r))),(3,.val (dI i)),(4,.val (.sl none (c.map lJ))),(5,.val (dI k))]) (fun(k:Nat)=>(c).length-k) (fun(k:Nat)=>(k<=(c).length)/\((c.take k).all wL=true)/\(adj (fun a b=>decide (a.feature<b.feature)) (c.take k)=true)) (0) ⟨(by omega),rfl,rfl⟩ ?_;rintro k ⟨h1k,h2k,h3k⟩;simp[go_sem];refine gw (fun ak=> ?_) (fun ak=> ?_)
  ·obtain⟨ck,hck⟩:=aC (l:=c) (i:=k) (by omega);simp[go_sem];refine wdr good ?_;simp[go_sem,hck];refine cd (aH _ _ _) ?_;simp[go_sem];refine gv (fun e=> ?_) (fun e=> ?_)
   ·have e':=e;simp at e';have hn:=bO hc (P:=dD) (by have:=bO hck (P:=wL) (by simp[wL];omega);simp[dD,this]);simp[go_sem,e];grind[dF]
   ·have e':=e;simp at e';simp[go_sem,hck,e];refine cd (aH _ _ _) ?_;simp[go_sem];refine gv (fun f=> ?_) (fun f=> ?_)
    ·have f':=f;simp at f';have hn:=bO hc (P:=dD) (by have:=bO hck (P:=wL) (by simp[wL];omega);simp[dD,this]);simp[go_sem,f];grind[dF]
    ·have f':=f;simp at f';simp[go_sem,f];refine gv (fun g=> ?_) (fun g=> ?_)
     ·have g':=g;obtain⟨p,hp⟩:=aC (l:=c) (i:=k-1) (by omega);have hi1:k-1+1=k:=by omega
      simp[go_sem,hck,g,hp];iterate 2 refine ai ?_
      refine gw (fun b=> ?_) (fun b=> ?_)
      ·have hn:=bO hc (P:=dD) (by have:=ER hp (by rw[hi1];exact hck) (R:=fun a b=>decide (a.feature<b.feature)) (by simp;omega);simp[dD,this]);simp[go_sem];grind[dF]
      ·simp at b;simp[go_sem];refine ai ?_;refine nx (k+1) ⟨(by omega),(aM hck h2k (by simp[wL];omega)),(by have:=uV (i:=k-1) (by rw[hi1];exact h3k) hp (by rw[hi1];exact hck) (by simp;omega);rwa [hi1]at this)⟩
     ·have g':=g;simp at g';simp[go_sem,g];refine ai ?_;refine nx (k+1) ⟨(by omega),(aM hck h2k (by simp[wL];omega)),(by obtain rfl:k=0:=(by omega);exact qK)⟩
  ·simp at ak;have hfk:=dM h2k ak;rw[aO ak]at h3k;simp[go_sem];refine ck (aH _ _ _) ?_;simp[go_sem];refine gw (fun b=> ?_) (fun b=> ?_)
   ·simp at b;have hn:=bO hc (P:=dD) (by simp[dD,hfk,h3k];omega);simp[go_sem];grind[dF]
   ·simp at b;simp[go_sem];refine ai ?_;refine nx (i+1) ⟨(by omega),(aM hc h2 (by simp[dD,hfk,h3k];omega))⟩
 ·simp at a;have hf:=dM h2 a;simp[go_sem];refine ck (aH _ _ _) ?_;simp[go_sem];grind[dF]
theorem EB (c:Cfg)(hs:c.rules.length<=1048576)(hr:∀l∈c.rules,l.length<=1048576)(hw:c.sco.weights.length<=1048576)(hv:c.surv.length<=1048576):Fk 25 [F6 c] (.val (dB (fJ c))):=by
 refine fE good [] func25 ntmps25 fun w0 ow0=> ?_;simp[go_sem];refine ck (j3 _) ?_;simp[go_sem];refine gv (fun g1=> ?_) (fun g1=> ?_)
 ·have g1':=g1;simp[go_sem,g1];refine ck (iW _) ?_;simp[go_sem];refine gv (fun g2=> ?_) (fun g2=> ?_)
  ·have g2':=g2;simp[go_sem,g2];refine ck (zI _) ?_;simp[go_sem];grind[fJ]
  ·have g2':=g2;simp[go_sem,g2];grind[fJ]
 ·have g1':=g1;simp[go_sem,g1];grind[fJ]
theorem uM (s:Sto)(hs:s.recs.length<=1048576:=by first|assumption|omega|(simp;omega)|grind)(hr:∀r∈s.recs,u7 r:=by first|assumption|omega|(simp;omega)|grind)(hv:s.vers.length<=1048576:=by first|assumption|omega|(simp;omega)|grind):Fk 26 [xZ s] (.val (dB (cZ s))):=by
 refine fE good [] func26 ntmps26 fun w0 ow0=> ?_;simp[go_sem];refine wl good (fun(i:Nat)=>[(1,.own (.bx true (xZ s))),(3,.val (dI i))]) (fun(i:Nat)=>(s.recs).length-i) (fun(i:Nat)=>(i<=(s.recs).length)/\((s.recs.take i).all aJ=true)/\(adj (fun a b=>decide (eG a<eG b)) (s.recs.take i)=true)) (0) ⟨(by omega),rfl,rfl⟩ ?_;rintro i ⟨h1,h2,h3⟩;simp[go_sem];refine gw (fun a=> ?_) (fun a=> ?_)
 ·obtain⟨c,hc⟩:=aC (l:=s.recs) (i:=i) (by omega);simp[go_sem];refine wdr good ?_;simp[go_sem,hc];refine cd (jP _ (hr c (List.mem_of_getElem? hc))) ?_;simp[go_sem];refine gv (fun e=> ?_) (fun e=> ?_)
  ·have e':=e;simp at e';have hn:=bO hc (P:=aJ) (by simpa using e);simp[go_sem,e];grind[cZ]
  ·have e':=e;simp at e';simp[go_sem,e];refine gv (fun f=> ?_) (fun f=> ?_)
   ·have f':=f;obtain⟨p,hp⟩:=aC (l:=s.recs) (i:=i-1) (by omega);have hi1:i-1+1=i:=by omega
    have hvp:aJ p=true:=List.all_eq_true.1 h2 p (by apply List.mem_of_getElem? (i:=i-1);rw[List.getElem?_take,if_pos (by omega)];exact hp);have hk1:inR p.source 0 3=true/\inR p.key 1 99=true:=by simp only[aJ,Bool.and_eq_true]at hvp;exact⟨hvp.1.1.1.2,hvp.1.1.2⟩
    have hk2:inR c.source 0 3=true/\inR c.key 1 99=true:=by simp only[aJ,Bool.and_eq_true]at e';exact⟨e'.1.1.1.2,e'.1.1.2⟩
    simp[go_sem,f,hp];iterate 2 refine ai ?_
    refine cd (sQ p hk1.1 hk1.2) ?_;simp[go_sem,hc];refine cd (sQ c hk2.1 hk2.2) ?_;simp[go_sem];refine gw (fun b=> ?_) (fun b=> ?_)
    ·have hn:=ER hp (by rw[hi1];exact hc) (R:=fun a b=>decide (eG a<eG b)) (by simp;omega);simp[go_sem];grind[cZ]
    ·simp at b;simp[go_sem];refine ai ?_;refine nx (i+1) ⟨(by omega),(aM hc h2 (by simpa using e)),(by have:=uV (i:=i-1) (by rw[hi1];exact h3) hp (by rw[hi1];exact hc) (by simp;omega);rwa [hi1]at this)⟩
   ·have f':=f;simp at f';simp[go_sem,f];refine ai ?_;refine nx (i+1) ⟨(by omega),(aM hc h2 (by simpa using e)),(by obtain rfl:i=0:=(by omega);exact qK)⟩
 ·simp at a;have hf:=dM h2 a;rw[aO a]at h3;simp[go_sem];refine ck (aH _ _ _) ?_;simp[go_sem];refine gv (fun g1=> ?_) (fun g1=> ?_)
  ·have g1':=g1;simp at g1';simp[go_sem,g1];refine gv (fun g2=> ?_) (fun g2=> ?_)
   ·have g2':=g2;simp[go_sem,g2];refine ck (oP _) ?_;simp[go_sem];grind[cZ]
   ·have g2':=g2;simp at g2';simp[go_sem,g2];grind[cZ]
  ·have g1':=g1;simp at g1';simp[go_sem,g1];grind[cZ]
theorem K9 (s:Sto)(hs:s.recs.length<=1048576)(hr:∀r∈s.recs,u7 r)(hv:s.vers.length<=1048576)(hvs:cZ s=true):Fk 28 [xZ s] (.own (aD (s.recs.map eG))):=by
 refine fE good [] func28 ntmps28 fun w0 ow0=> ?_;simp[go_sem];refine wl good (fun(i:Nat)=>[(1,.own (.bx true (xZ s))),(3,.own (aD ((s.recs.take i).map eG))),(4,.val (dI i))]) (fun(i:Nat)=>s.recs.length-i) (fun(i:Nat)=>(i<=s.recs.length)) (0) (by omega) ?_;rintro i h1;simp[go_sem];refine gv (fun a=> ?_) (fun a=> ?_)
 ·have a':=a;simp[go_sem,a];refine ck (uM _) ?_;obtain⟨c,hc⟩:=aC (l:=s.recs) (i:=i) (by omega);have hvr:s.recs.all aJ=true:=by simp only[cZ,Bool.and_eq_true]at hvs;exact hvs.1.1.1.1
  have hvc:=List.all_eq_true.1 hvr c (List.mem_of_getElem? hc);have hk:inR c.source 0 3=true/\inR c.key 1 99=true:=by simp only[aJ,Bool.and_eq_true]at hvc;exact⟨hvc.1.1.1.2,hvc.1.1.2⟩
  have hm:=nC eG hc;simp[go_sem,hvs,hc];refine ck (sQ c hk.1 hk.2) ?_;simp[go_sem];iterate 2 refine ai ?_
  refine nx (i+1) (by first|omega|(simp;omega)|grind) (h3:=by simp[go_sem,hvs,hc,hm])
 ·have a':=a;simp at a';rw[aO (by simp;omega)];simp[go_sem,a]
theorem SS {out:List Ver}{c:Ver}(h:out=[]):j6 out c=out++[c]:=by subst h;rfl
theorem WW {out:List Ver}{c p:Ver}(h:out[out.length-1]?=some p):j6 out c=if p.a≠c.a\/p.b≠c.b then out++[c]else if p.time<c.time then out.set (out.length-1) c else out:=by unfold j6;rw[h]
theorem A8 (l:List Ver)(hs:l.length<=1048576)(hv:eO l=true):Fk 60 [aU l] (.own (bN (bS l))):=by
 refine fE good [] func60 ntmps60 fun w0 ow0=> ?_;simp[go_sem];refine wl good (fun(x':(Nat)×(List Ver))=>match x' with|(i,out)=>[(0,.val (aU l)),(3,.own (bN out)),(4,.val (dI i))]) (fun(x':(Nat)×(List Ver))=>match x' with|(i,out)=>l.length-i) (fun(x':(Nat)×(List Ver))=>match x' with|(i,out)=>(i<=l.length)/\(out=(l.take i).foldl j6 [])/\(out.length<=i)) ((0,[])) ⟨(by omega),rfl,(by simp)⟩ ?_;rintro⟨i,out⟩ ⟨h1,h2,h3⟩;simp[go_sem];refine gv (fun a=> ?_) (fun a=> ?_)
 ·have a':=a;simp[go_sem,a];refine ck (oP _) ?_;obtain⟨c,hc⟩:=aC (l:=l) (i:=i) (by omega);have hm:=bC j6 [] hc;rw[←h2]at hm;simp[go_sem,hv];refine wdt good 30 ?_;simp[go_sem];refine gv (fun e=> ?_) (fun e=> ?_)
  ·have e':=e;have hm2:=SS (c:=c) e;simp[go_sem,hc,e];refine ai ?_;refine nx (i+1,out++[c]) ⟨(by omega),(by rw[hm,hm2]),(by simp;omega)⟩ (h3:=by simp[go_sem,hv,hc,e])
  ·have e':=e;have hpos:0<out.length:=List.length_pos_iff.2 e;obtain⟨p,hp⟩:=aC (l:=out) (i:=out.length-1) (by omega);have hm2:=WW (c:=c) hp;simp[go_sem,hc,e,hp];iterate 2 refine ai ?_
   refine gv (fun f=> ?_) (fun f=> ?_)
   ·have f':=f;simp[go_sem,hc,f];iterate 2 refine ai ?_
    refine nx (i+1,out++[c]) ⟨(by omega),(by rw[hm,hm2,if_pos (.inl f)]),(by simp;omega)⟩
   ·have f':=f;simp[go_sem,hc,hp,f];iterate 2 refine ai ?_
    refine gw (fun g=> ?_) (fun g=> ?_)
    ·simp[go_sem,hc];iterate 2 refine ai ?_
     refine nx (i+1,out++[c]) ⟨(by omega),(by rw[hm,hm2,if_pos (.inr g)]),(by simp;omega)⟩
    ·simp[go_sem];refine wdt good 12 ?_;simp[go_sem,hc,hp,f];iterate 2 refine ai ?_
     refine gw (fun b=> ?_) (fun b=> ?_)
     ·simp[go_sem,hc,hp,f];iterate 3 refine ai ?_
      refine nx (i+1,out.set (out.length-1) c) ⟨(by omega),(by rw[hm,hm2,if_neg (by simp_all),if_pos b]),(by simp;omega)⟩
     ·simp at b;simp[go_sem];refine ai ?_;refine nx (i+1,out) ⟨(by omega),(by rw[hm,hm2,if_neg (by simp_all),if_neg (by omega)]),(by omega)⟩
 ·have a':=a;simp at a';have hi:i=l.length:=by omega
  subst hi;rw[List.take_length]at h2;simp[go_sem,a];grind[bS]
theorem xN (l:List Ver)(items:List Int)(hs:l.length<=1048576:=by first|assumption|omega|(simp;omega)|grind)(hi:items.length<=1048576:=by first|assumption|omega|(simp;omega)|grind):Fk 70 [aU l,nInts items] (.own (yK (vO l items))):=by
 refine fE good [] func70 ntmps70 fun w0 ow0=> ?_;simp[go_sem];refine wl good (fun(x':(Nat)×(List Con))=>match x' with|(i,out)=>[(0,.val (aU l)),(1,.val (nInts items)),(5,.own (yK out)),(6,.val (dI i))]) (fun(x':(Nat)×(List Con))=>match x' with|(i,out)=>(l).length-i) (fun(x':(Nat)×(List Con))=>match x' with|(i,out)=>(i<=(l).length)/\(out=(l.take i).filterMap (xH items))/\(out.length<=i)) ((0,[])) ⟨(by omega),rfl,(by simp)⟩ ?_;rintro⟨i,out⟩ ⟨h1,h2,h3⟩;simp[go_sem];refine gw (fun a=> ?_) (fun a=> ?_)
 ·obtain⟨c,hc⟩:=aC (l:=l) (i:=i) (by omega);have hm:=rE (xH items) hc;rw[←h2]at hm;simp[go_sem,hc];refine ck (mF _ _) ?_;simp[go_sem,hc];refine ck (mF _ _) ?_;simp[go_sem];refine gv (fun e=> ?_) (fun e=> ?_)
  ·have e':=e;simp[go_sem,e];refine gw (fun b=> ?_) (fun b=> ?_)
   ·have hv:xH items c=some ⟨place items c.a,place items c.b,c.same⟩:=if_pos ⟨by omega,by omega⟩;simp[go_sem,hc];iterate 2 refine ai ?_
    refine nx (i+1,out++[⟨place items c.a,place items c.b,c.same⟩]) ⟨(by omega),(by rw[hm,hv];rfl),(by simp;omega)⟩
   ·simp at b;have hv:xH items c=none:=if_neg (by rintro⟨h1,h2⟩;unfold place at h1 h2;omega);simp[go_sem];refine ai ?_;refine nx (i+1,out) ⟨(by omega),(by rw[hm,hv];simp),(by omega)⟩
  ·have e':=e;simp at e';have hv:xH items c=none:=if_neg (by rintro⟨h1,h2⟩;unfold place at h1 h2;omega);simp[go_sem,e];refine ai ?_;refine nx (i+1,out) ⟨(by omega),(by rw[hm,hv];simp),(by omega)⟩
 ·simp at a;rw[aO a]at h2;simp[go_sem];grind[vO]
theorem BA (l:List Ver)(hs:l.length<=1048576)(hv:eO l=true):Fk 150 [aU l] (.own (bN (bS l))):=by
 refine fE good [] func150 ntmps150 fun w0 ow0=> ?_;simp[go_sem];refine ck (vF l) ?_;simp[go_sem,hv];refine wl good (fun(x':(Nat)×(List Ver))=>match x' with|(i,out)=>[(3,.own (bN out)),(10,.val (aU l)),(11,.val (dI l.length)),(12,.val (dI i))]) (fun(x':(Nat)×(List Ver))=>match x' with|(i,out)=>l.length-i) (fun(x':(Nat)×(List Ver))=>match x' with|(i,out)=>(i<=l.length)/\(out=(l.take i).foldl j6 [])/\(out.length<=i)) ((0,[])) ⟨(by omega),rfl,(by simp)⟩ ?_;rintro⟨i,out⟩ ⟨h1,h2,h3⟩;simp[go_sem];refine gw (fun a=> ?_) (fun a=> ?_)
 ·obtain⟨c,hc⟩:=aC (l:=l) (i:=i) (by omega);have hm:=bC j6 [] hc;rw[←h2]at hm;simp[go_sem,hc];refine ai ?_;refine wdt good 22 ?_;simp[go_sem];refine gv (fun e=> ?_) (fun e=> ?_)
  ·have e':=e;have he:out=[]:=List.length_eq_zero_iff.1 (by omega);have hm2:=SS (c:=c) he;simp[go_sem,e];iterate 2 refine ai ?_
   refine nx (i+1,out++[c]) ⟨(by omega),(by rw[hm,hm2]),(by simp;omega)⟩
  ·have e':=e;simp at e';have hpos:0<out.length:=by omega
   obtain⟨p,hp⟩:=aC (l:=out) (i:=out.length-1) (by omega);have hm2:=WW (c:=c) hp;simp[go_sem,e,hp];refine ai ?_;refine gv (fun f=> ?_) (fun f=> ?_)
   ·have f':=f;simp[go_sem,f];iterate 2 refine ai ?_
    refine nx (i+1,out++[c]) ⟨(by omega),(by rw[hm,hm2,if_pos (.inl (by simpa using f))]),(by simp;omega)⟩
   ·have f':=f;simp[go_sem,hp,f];refine ai ?_;refine gw (fun g=> ?_) (fun g=> ?_)
    ·simp[go_sem];iterate 2 refine ai ?_
     refine nx (i+1,out++[c]) ⟨(by omega),(by rw[hm,hm2,if_pos (.inr (by simpa using g))]),(by simp;omega)⟩
    ·simp[go_sem];refine wdt good 8 ?_;simp[go_sem,hp,f];refine ai ?_;refine gw (fun b=> ?_) (fun b=> ?_)
     ·simp[go_sem,hp,f];iterate 2 refine ai ?_
      refine nx (i+1,out.set (out.length-1) c) ⟨(by omega),(by rw[hm,hm2,if_neg (by simp_all),if_pos b]),(by simp;omega)⟩
     ·simp at b;simp[go_sem];refine ai ?_;refine nx (i+1,out) ⟨(by omega),(by rw[hm,hm2,if_neg (by simp_all),if_neg (by omega)]),(by omega)⟩
 ·simp at a;rw[aO a]at h2;have ho:bS l=out:=h2.symm;simp[go_sem,ho]
end Go.Proofs.YtnglphdfhegnmaaGreatDoor
end
section
namespace Go.Dv
open Go.RowKit
variable [eZ]
def JU:Nat->List (Nat×Option D)->St->St
 |k,(b,none)::cs,s=>(JU (k+1) cs s).put k (.rf (1000000+2*b) [0])
 |k,(_,some d)::cs,s=>(JU (k+1) cs s).put k (.rp d)
 |_,[],s=>s
def VH:List (Nat×D)->St->St
 |(b,d)::rd,s=>(VH rd s).put (1000000+2*b) (.rp d)
 |[],s=>s
def ai5:List (Nat×D)->St->St
 |(b,d)::gs,s=>(ai5 gs s).put (1000000+2*b) (.own (.bx true d))
 |[],s=>s
def wSt (ds:List D)(cs:List (Nat×Option D))(rd gs:List (Nat×D)):St:=ai5 gs (VH rd (JU ds.length cs (eQ ds)))
def acK:List (Nat×D)->St->(List D->Prop)->Prop
 |[],_,K=>K []
 |(b,_)::gs,s,K=>match s (1000000+2*b)with
  | .own (.bx true d)=>acK gs s fun ds=>K (d::ds)
  |_=>False
def aqA (T:TypeId->TyE)(rs:List ResultVar)(gs:List (Nat×D))(Q:S->List D->Prop):Exit->St->Prop
 | .normal,s=>uL T rs s fun ds s2=>acK gs s2 fun ds'=>Q (nL ds) ds'
 | .ret,s=>uL T rs s fun ds s2=>acK gs s2 fun ds'=>Q (nL ds) ds'
 |_,_=>False
theorem aa5 {s:St}:∀{gs:List (Nat×D)}{K:List D->Prop},acK gs s K->∃ds',K ds'/\ds'.length=gs.length/\∀(j:Nat) (g:Nat×D) (d':D),gs[j]?=some g->ds'[j]?=some d'->s (1000000+2*g.1)= .own (.bx true d')
 |[],K,h=>⟨[],h,rfl,fun j g d' hj=>by simp at hj⟩
 |(b,d0)::gs,K,h=>by
  unfold acK at h;split at h
  ·rename_i d hs;obtain⟨ds',h1,h2,h3⟩:=aa5 h;refine⟨d::ds',h1,by simp[h2],fun j g d' hj hj'=> ?_⟩;cases j with
   |zero=>simp at hj hj';subst hj;subst hj';exact hs
   |succ j=>exact h3 j g d' (by simpa using hj) (by simpa using hj')
  ·exact h.elim
def inG (gs:List (Nat×D))(lab:List Nat):Bool:=gs.any fun g=>lab.getLast?==some (1000000+2*g.1)
theorem atW {gs:List (Nat×D)}{g:Nat×D}{q:List Nat}(hg:g∈gs):inG gs (q++[1000000+2*g.1])=true:=List.any_eq_true.2 ⟨g,hg,by simp⟩
theorem atP {gs:List (Nat×D)}{lab:List Nat}(h:∀g∈gs,∀q,lab≠q++[1000000+2*g.1]):inG gs lab=false:=by
 rw[Bool.eq_false_iff];intro hi;obtain⟨g,hg,he⟩:=List.any_eq_true.1 hi
 obtain⟨q,hq⟩:∃q,lab=q++[1000000+2*g.1]:=by
  have:lab.getLast?=some (1000000+2*g.1):=by simpa using he
  exact⟨lab.dropLast,by rw[List.getLast?_eq_some_iff]at this;obtain⟨ys,rfl⟩:=this;simp⟩
 exact h g hg q hq
def J5 (gs:List (Nat×D))(ow:Own):Own:=fun b=>match ow b with
 |none=>none
 |some lab=>if inG gs lab=true then some lab else some (lab++[far0])
def FV (w:World)(gs:List (Nat×D))(t:Nat)(ow ow1:Own):Own:=fun b=>
 if b<w.heap.size/\(match ow b with|none=>true|some lab=> !inG gs lab)=true then ow b else match ow1 b with
  |none=>none
  |some lab=>if inG gs lab=true then some lab else if lab.getLast?=some res0 then some (lab.dropLast++[t])else none
theorem CK {P:Program}{w:World}{ow:Own}:∀{gs:List (Nat×D)}{s:St}{i:Nat},(∃g∈gs,i=1000000+2*g.1/\ai5 gs s i= .own (.bx true g.2))\/((∀g∈gs,i≠1000000+2*g.1)/\ai5 gs s i=s i)
 |[],s,i=> .inr ⟨fun g hg=>by simp at hg,rfl⟩
 |(b,d)::gs,s,i=>by
  by_cases hi:i=1000000+2*b
  ·exact .inl ⟨(b,d),by simp,hi,by simp[ai5,St.put,hi]⟩
  ·simp only[ai5,St.put,if_neg hi];rcases CK (P:=P) (w:=w) (ow:=ow) (gs:=gs) (s:=s) (i:=i)with⟨g,h1,h2,h3⟩|⟨h1,h2⟩
   ·exact .inl ⟨g,by simp[h1],h2,h3⟩
   ·refine .inr ⟨fun g hg=> ?_,h2⟩;rcases List.mem_cons.1 hg with rfl|hg
    ·exact hi
    ·exact h1 g hg
theorem MM:∀{rd:List (Nat×D)}{s:St}{i:Nat},(∃p∈rd,i=1000000+2*p.1/\VH rd s i= .rp p.2)\/VH rd s i=s i
 |[],s,i=> .inr rfl
 |(b,d)::rd,s,i=>by
  by_cases hi:i=1000000+2*b
  ·exact .inl ⟨(b,d),by simp,hi,by simp[VH,St.put,hi]⟩
  ·simp only[VH,St.put,if_neg hi];rcases MM (rd:=rd) (s:=s) (i:=i)with⟨g,h1,h2,h3⟩|h2
   ·exact .inl ⟨g,by simp[h1],h2,h3⟩
   ·exact .inr h2
theorem CB:∀{cs:List (Nat×Option D)}{k:Nat}{s:St}{i:Nat},(∃j c,cs[j]?=some c/\i=k+j/\JU k cs s i=(match c.2 with|none=> .rf (1000000+2*c.1) [0]|some d=> .rp d))\/JU k cs s i=s i
 |[],k,s,i=> .inr rfl
 |(b,none)::cs,k,s,i=>by
  by_cases hi:i=k
  ·exact .inl ⟨0,(b,none),rfl,hi,by simp[JU,St.put,hi]⟩
  ·simp only[JU,St.put,if_neg hi];rcases CB (cs:=cs) (k:=k+1) (s:=s) (i:=i)with⟨j,c,h1,h2,h3⟩|h2
   ·exact .inl ⟨j+1,c,by simpa using h1,by omega,h3⟩
   ·exact .inr h2
 |(b,some d)::cs,k,s,i=>by
  by_cases hi:i=k
  ·exact .inl ⟨0,(b,some d),rfl,hi,by simp[JU,St.put,hi]⟩
  ·simp only[JU,St.put,if_neg hi];rcases CB (cs:=cs) (k:=k+1) (s:=s) (i:=i)with⟨j,c,h1,h2,h3⟩|h2
   ·exact .inl ⟨j+1,c,by simpa using h1,by omega,h3⟩
   ·exact .inr h2
theorem aDW {P:Program}{T:TypeId->TyE}{f:FuncId}{fn:Func}{c:Code}{n:Nat}{rs:List ResultVar}{ds:List D}{cs:List (Nat×Option D)}{rd gs:List (Nat×D)}{Q:S->List D->Prop}(hG:∀t,Good P T t) (hf:P.funcs[f]?=some fn) (hb:fn.body=some c) (hn':fn.ntmps=n) (hn:n<=1000000) (hd:ds.length+cs.length<=n)
  (hr:fn.results=rs.toArray) (hcs:∀c∈cs,match c.2 with|none=>∃g∈gs,g.1=c.1|some d=>∃p∈rd,p=(c.1,d)) (h:∀w0 ow0,OkC P n w0 ow0 none c (wSt ds cs rd gs) (aqA T rs gs Q)):FnW P f ds cs rd gs Q:=by
 subst hn';intro w ow vs t ht hL hnew hvs hargs hcap hrd hgs;refine calls_of_wp hf hb ?_
 have hav:∀i,i<ds.length+cs.length->aval {tmps:=vs++Array.replicate (fn.ntmps-vs.size) undef,defers:=[]} i=vs.getD i undef:=by
  intro i hi;unfold aval;rw[if_pos (by omega)];simp only[Array.getD_eq_getD_getElem?];rw[Array.getElem?_append_left (by omega)]
 have havg:∀(a:Act) (b:Nat),aval a (1000000+2*b)= .pointer (some ⟨b,0,none⟩):=fun a b=>by
  unfold aval;rw[if_neg (by omega)];have:(1000000+2*b-1000000)/2=b:=by omega
  rw[this]
 have hlnone:∀b,ow b=none->J5 gs ow b=none:=fun b hb=>by simp[J5,hb]
 have hlhit:∀g∈gs,∀b q,ow b=some (q++[1000000+2*g.1])->J5 gs ow b=some (q++[1000000+2*g.1]):=fun g hg b q hb=>by simp only[J5,hb];rw[if_pos (atW hg)]
 have hq0:Quiet w ow w (J5 gs ow):=fun b _ ho=>⟨rfl,hlnone b ho⟩
 have hrp:∀(b:Nat) (d:D),V P w ow (D.bx false d).fz [] (.pointer (some ⟨b,0,none⟩))->∀s a i,SV P w (J5 gs ow) s a i (.rp d) (.pointer (some ⟨b,0,none⟩)):=by
  intro b d h1 s a i;have h2:=V.trf (l2:=[]) hq0 h1;simp only[V,D.fz,R]at h2;obtain⟨b',off,C,e,fz,cs,g1,g2,g3,_,g5,g6,g7⟩:=h2;simp only[List.cons.injEq,Value.pointer.injEq,Option.some.injEq,and_true]at g1;obtain⟨rfl,rfl,_⟩:=Addr.mk.inj g1;exact⟨b,0,rfl,g3 trivial,C,e,fz,cs,g2,fun j hj=>g6 j (by rw[g5];exact hj),R.trf (fun b _ hb=>⟨rfl,hb⟩) g7⟩
 have hfit:Fits P fn.ntmps w (J5 gs ow) (J5 gs ow) (wSt ds cs rd gs) {tmps:=vs++Array.replicate (fn.ntmps-vs.size) undef,defers:=[]} w:=by
  refine⟨rfl,by simp;omega,hn,(hL.mono fun b o h1 h2=>⟨h1,hlnone b h2⟩),⟨rfl,rfl,rfl,Nat.le_refl _,fun _ _ _=>rfl⟩,fun _ _ h=>h,fun b hb=>hlnone b (hnew b hb),?_,fun _ _ _ h=>⟨rfl,h⟩,fun i=> ?_⟩
  ·have e0:eQ ds far0= .un:=by unfold eQ;rw[List.getElem?_eq_none (by unfold far0;omega)]
   rcases CK (P:=P) (w:=w) (ow:=ow) (gs:=gs) (s:=VH rd (JU ds.length cs (eQ ds))) (i:=far0)with⟨g,_,h2,_⟩|⟨_,h2⟩
   ·unfold far0 at h2;omega
   ·unfold wSt;rw[h2];rcases MM (rd:=rd) (s:=JU ds.length cs (eQ ds)) (i:=far0)with⟨g,_,h2,_⟩|h2
    ·unfold far0 at h2;omega
    ·rw[h2];rcases CB (cs:=cs) (k:=ds.length) (s:=eQ ds) (i:=far0)with⟨j,c,h1,h2,_⟩|h2
     ·have:=(List.getElem?_eq_some_iff.1 h1).1;unfold far0 at h2;omega
     ·rw[h2];exact e0
  ·rcases CK (P:=P) (w:=w) (ow:=ow) (gs:=gs) (s:=VH rd (JU ds.length cs (eQ ds))) (i:=i)with⟨g,h1,rfl,h3⟩|⟨h1,h2⟩
   ·unfold wSt;rw[h3,havg];exact V.tr (fun b _=>⟨fun ho=>⟨rfl,hlnone b ho⟩,fun q hq=>⟨rfl,hlhit g h1 b q hq⟩⟩) (hgs g h1)
   ·have hw:wSt ds cs rd gs i=VH rd (JU ds.length cs (eQ ds)) i:=h2;rw[hw];rcases MM (rd:=rd) (s:=JU ds.length cs (eQ ds)) (i:=i)with⟨p,k1,rfl,k3⟩|k2
    ·rw[k3,havg];exact hrp _ _ (hrd p k1) _ _ _
    ·rw[k2];rcases CB (cs:=cs) (k:=ds.length) (s:=eQ ds) (i:=i)with⟨j,c,e1,rfl,e3⟩|e2
     ·have hjl:=(List.getElem?_eq_some_iff.1 e1).1;rw[e3,hav _ (by omega),hcap j c e1];have hc:=hcs c (List.mem_of_getElem? e1);cases hc2:c.2 with
      |some d=>
       rw[hc2]at hc;obtain⟨p,hp,rfl⟩:=hc;exact hrp _ _ (hrd _ hp) _ _ _
      |none=>
       rw[hc2]at hc;obtain⟨g,hg,hgc⟩:=hc;rcases CK (P:=P) (w:=w) (ow:=ow) (gs:=gs) (s:=VH rd (JU ds.length cs (eQ ds))) (i:=1000000+2*c.1)with⟨g',h1',h2',h3'⟩|⟨h1',_⟩
       ·have:g'.1=c.1:=by omega
        refine⟨.bx true g'.2,g'.2,c.1,0,h3',by simp[D.sub,D.kid],?_,rfl⟩;rw[havg];simp[loc,into,bA]
       ·exact absurd (by rw[hgc]) (h1' g hg)
     ·rw[e2];unfold eQ;cases hdi:ds[i]? with
      |none=>trivial
      |some d=>
       have hi:i<ds.length:=(List.getElem?_eq_some_iff.1 hdi).1;simp only[SV];rw[hav i (by omega)];exact V.trf hq0 (hargs i d hdi)
 refine h w _ _ w ⟨_,hfit⟩ (fun m v e=>by cases e) _ fun e s' a' w' hK hR _=> ?_
 have key:(uL T rs s' fun ds s2=>acK gs s2 fun ds'=>Q (nL ds) ds')->bodyPost P fn (fun e w'=>∃v ow' r ds',e= .returned v/\Q r ds'/\w'.os=w.os/\w'.tape=w.tape/\w'.output=w.output/\w.heap.size<=w'.heap.size/\
   (∀b,b<w.heap.size->(∀g∈gs,∀q,ow b≠some (q++[1000000+2*g.1]))->w'.heap[b]?=w.heap[b]?/\ow' b=ow b)/\(∀b,w'.heap.size<=b->ow' b=none)/\
   ds'.length=gs.length/\(∀(j:Nat) (g:Nat×D) (d':D),gs[j]?=some g->ds'[j]?=some d'->V P w' ow' (.bx true d') [1000000+2*g.1] (.pointer (some ⟨g.1,0,none⟩)))/\S.plain r=true/\∀s a,SV P w' ow' s a t r v) .ret a' w':=by
  intro hK;obtain⟨ow1,hf1⟩:=hR;obtain⟨vals,ow2,s2,ds2,hQ,hf2,hl1,hl2,hrun,hvals,hkeep⟩:=hf1.retL hG (fun k=>if rs.length=1 then[]else[k]) rs 0 hK;obtain⟨ds',hQ,hdl,hds⟩:=aa5 hQ
  have hres:(results fn a'.tmps).run P w'= .ok (if h:vals.toArray.size=1 then vals.toArray[0]else .tuple vals.toArray) w':=by
   unfold results;rw[hr];have hb:∀{α β:Type}(x:Sem α) (g:α->Sem β),Sem.run P (Sem.bind x g) w'=(Sem.run P x w').andThen fun a w'=>Sem.run P (g a) w':=fun x g=>Sem.run_bind ..;simp only[List.mapM_toArray,Functor.map,Sem.run_bind,Sem.run_pure];rw[hb,hrun _ (PL a'.tmps P w' _ (fun _=>rfl) fun _ _=>rfl)];rfl
  refine⟨hf1.nodef,_,hres,?_⟩
  have hmiss:∀b,b<w.heap.size->(∀lab,ow b=some lab->inG gs lab=false)->w'.heap[b]?=w.heap[b]?/\(ow b=none->ow2 b=none)/\(∀lab,ow b=some lab->ow2 b=some (lab++[far0])):=by
   intro b hlt hno;cases ho:ow b with
   |none=>exact⟨hf2.bel.block b hlt (hlnone b ho),fun _=>hf2.own b hlt (hlnone b ho),fun lab e=>by cases e⟩
   |some lab=>
    have hlab:J5 gs ow b=some (lab++[far0]):=by simp[J5,ho,hno lab ho]
    obtain⟨g1,g2⟩:=hf2.keep b hlt lab hlab;exact⟨g1,fun e=>(by cases e),fun lab' e=>by obtain rfl:=Option.some.inj e;exact g2⟩
  have hcond:∀b,(match ow b with|none=>true|some lab=> !inG gs lab)=true↔∀lab,ow b=some lab->inG gs lab=false:=by
   intro b;cases ho:ow b with
   |none=>simp
   |some lab=>simp
  have hnone:∀b,ow2 b=none->FV w gs t ow ow2 b=none:=by
   intro b hb;unfold FV;by_cases hc:b<w.heap.size/\(match ow b with|none=>true|some lab=> !inG gs lab)=true
   ·rw[if_pos hc];cases ho:ow b with
    |none=>rfl
    |some lab=>
     have:=(hmiss b hc.1 ((hcond b).1 hc.2)).2.2 lab ho;rw[hb]at this;cases this
   ·rw[if_neg hc,hb]
  have hlast:∀b q j,ow2 b=some (q++[j])->j≠far0->¬(b<w.heap.size/\(match ow b with|none=>true|some lab=> !inG gs lab)=true):=by
   rintro b q j hq hj ⟨h1,h2⟩;obtain⟨_,g1,g2⟩:=hmiss b h1 ((hcond b).1 h2);cases ho:ow b with
   |none=>rw[g1 ho]at hq;cases hq
   |some lab=>
    rw[g2 lab ho]at hq;have:=congrArg List.getLast? (Option.some.inj hq);simp at this;exact hj this.symm
  have hkg:∀g∈gs,Keeps w' ow2 [1000000+2*g.1] w' (FV w gs t ow ow2) [1000000+2*g.1]:=fun g hg b _=>⟨fun ho=>⟨rfl,hnone b ho⟩,fun q hq=>⟨rfl,by
   unfold FV;rw[if_neg (hlast b q _ hq (by unfold far0;omega)),hq];simp only;rw[if_pos (atW hg)]⟩⟩
  have hnr:∀q,inG gs (q++[res0])=false:=fun q=>atP fun g hg q' e=>by
   have:=congrArg List.getLast? e;simp[res0]at this;omega
  have hk:∀l2,Keeps w' ow2 (l2++[res0]) w' (FV w gs t ow ow2) (l2++[t]):=fun l2 b _=>⟨fun ho=>⟨rfl,hnone b ho⟩,fun q hq=>⟨rfl,by
   have hq':ow2 b=some ((q++l2)++[res0]):=by rw[hq];simp
   unfold FV;rw[if_neg (hlast b _ res0 hq' (by unfold res0 far0;omega)),hq'];simp only;rw[hnr];simp⟩⟩
  have hq:Quiet w' ow2 w' (FV w gs t ow ow2):=fun b _ ho=>⟨rfl,hnone b ho⟩
  have part:∀(j:Nat) (p:D×Bool),ds2[j]?=some p->∃v,vals[j]?=some v/\(if(p.2||p.1.frz)=true then V P w' (FV w gs t ow ow2) p.1.fz [] v else V P w' (FV w gs t ow ow2) p.1 ((if rs.length=1 then[]else[j])++[t]) v):=by
   intro j p hj;obtain⟨v,h1,h2,h3⟩:=hvals j p hj;rw[Nat.zero_add]at h2;refine⟨v,h1,?_⟩;by_cases hp:(p.2||p.1.frz)=true
   ·rw[if_pos hp]
    have hfz:p.1.fz=p.1:=by
     rcases Bool.or_eq_true _ _▸hp with hp|hp
     ·exact h3 hp
     ·exact D.LP hp
    rw[←hfz]at h2;exact V.trf hq h2
   ·rw[if_neg hp];exact V.tr (hk _) h2
  refine⟨_,FV w gs t ow ow2,nL ds2,ds',rfl,hQ,hf2.bel.os,hf2.bel.tape,hf2.bel.output,hf2.bel.size,fun b hb hno=> ?_,fun b hb=>hnone b (hf2.new b hb),hdl,fun j g d' hj hj'=> ?_,?_,fun s a=> ?_⟩
  ·have hn2:∀lab,ow b=some lab->inG gs lab=false:=fun lab hl=>atP fun g hg q e=>hno g hg q (by rw[hl,e]);exact⟨(hmiss b hb hn2).1,by unfold FV;rw[if_pos ⟨hb,(hcond b).2 hn2⟩]⟩
  ·have h1:=hf2.slot (1000000+2*g.1);rw[hds j g d' hj hj',havg]at h1;exact V.tr (hkg g (List.mem_of_getElem? hj)) h1
  ·unfold nL;split
   ·split<;>rfl
   ·rfl
  ·by_cases hone:rs.length=1
   ·have hd1:ds2.length=1:=by rw[hl1,hone]
    have hv1:vals.length=1:=by rw[hl2,hone]
    obtain⟨⟨d,b⟩,rfl⟩:=List.length_eq_one_iff.1 hd1;obtain⟨v,rfl⟩:=List.length_eq_one_iff.1 hv1;obtain⟨v',h1,h2⟩:=part 0 (d,b) rfl;obtain rfl:v=v':=by simpa using h1
    rw[if_pos hone]at h2;simp only[nL];by_cases hp:(b||d.frz)=true
    ·rw[if_pos hp]at h2|-
     exact h2
    ·rw[if_neg hp]at h2|-
     exact h2
   ·have hd1:∀p,ds2≠[p]:=fun p e=>by rw[e]at hl1;simp at hl1;exact hone hl1.symm
    have htup:nL ds2= .tup (ds2.map fun p=>if p.2||p.1.frz then .val p.1 else .own p.1):=by
     unfold nL;split
     ·rename_i d b;exact absurd rfl (hd1 _)
     ·rfl
    rw[htup];refine⟨vals.toArray,?_,by simp[hl1,hl2],fun j x hx=> ?_⟩
    ·rw[dif_neg];simp[hl2,hone]
    ·simp only[List.getElem?_map,Option.map_eq_some_iff]at hx;obtain⟨p,hp,rfl⟩:=hx;obtain⟨v,h1,h2⟩:=part j p hp;have hv:vals.toArray.getD j undef=v:=by simp[Array.getD_eq_getD_getElem?,h1]
     rw[hv];by_cases hpf:(p.2||p.1.frz)=true
     ·rw[if_pos hpf]at h2|-
      exact h2
     ·rw[if_neg hpf]at h2|-
      rw[if_neg hone]at h2;exact h2
 cases e with
 |normal=>exact key hK
 |ret=>exact key hK
 |_=>exact hK.elim
attribute [go_sem] aqA wSt ai5 VH JU acK
end Go.Dv
end
section
namespace Go.Dv
open Go.RowKit Go.Pl
variable [eZ]
theorem auI {ds:List D}:WT [] ds=eQ ds:=rfl
theorem ao5 {b:Nat}{d:D}{gs:List (Nat×D)}{ds:List D}:WT ((b,d)::gs) ds=(WT gs ds).put (1000000+2*b) (.rp d):=rfl
theorem fB {P:Program}{T:TypeId->TyE}{f:FuncId}{fn:Func}{c:Code}{n:Nat}{rs:List ResultVar}{ds:List D}{gs:List (Nat×D)}{Q:S->Prop}(hG:∀t,Good P T t) (sp:List Nat) (hf:P.funcs[f]?=some fn) (hn':fn.ntmps=n) (h:∀w0 ow0,@WC _ P T n w0 ow0 none sp ⟨c⟩ (WT gs ds) ⟨acQ T rs Q⟩)
  (hb:fn.body=some c:=by rfl) (hr:fn.results=rs.toArray:=by rfl) (hn:n<=1000000:=by decide) (hd:ds.length<=n:=by simp):rT P f ds gs Q:=auS hG hf hb hn' hn hd hr fun w0 ow0=>wcI hG sp (h w0 ow0) (pI c)
theorem ckB {P:Program}{f:FuncId}{ds:List D}{gs:List (Nat×D)}{rs:List Nat}{K:S->Prop}{r:S}(h:rT P f ds gs (fun r'=>r'=r))(hK:(rs=[]\/r.closed=true)/\K r):(ajO (k:=⟨K⟩) P f ds gs rs):=anE h hK.1 hK.2
theorem fW {P:Program}{T:TypeId->TyE}{f:FuncId}{fn:Func}{c:Code}{n:Nat}{rs:List ResultVar}{ds:List D}{cs:List (Nat×Option D)}{rd gs:List (Nat×D)}{Q:S->List D->Prop}(hG:∀t,Good P T t) (sp:List Nat) (hf:P.funcs[f]?=some fn) (hn':fn.ntmps=n) (h:∀w0 ow0,@WC _ P T n w0 ow0 none sp ⟨c⟩ (wSt ds cs rd gs) ⟨aqA T rs gs Q⟩)
  (hb:fn.body=some c:=by rfl) (hr:fn.results=rs.toArray:=by rfl) (hn:n<=1000000:=by decide) (hd:ds.length+cs.length<=n:=by simp) (hcs:∀c∈cs,match c.2 with|none=>∃g∈gs,g.1=c.1|some d=>∃p∈rd,p=(c.1,d):=by simp):FnW P f ds cs rd gs Q:=aDW hG hf hb hn' hn hd hr hcs fun w0 ow0=>wcI hG sp (h w0 ow0) (pI c)
theorem aA7 {T:TypeId->TyE}{rs:List ResultVar}{gs:List (Nat×D)}{Q:S->List D->Prop}{s:St}:aqA T rs gs Q .normal s=uL T rs s fun ds s2=>acK gs s2 fun ds'=>Q (nL ds) ds':=rfl
theorem aBE {T:TypeId->TyE}{rs:List ResultVar}{gs:List (Nat×D)}{Q:S->List D->Prop}{s:St}:aqA T rs gs Q .ret s=uL T rs s fun ds s2=>acK gs s2 fun ds'=>Q (nL ds) ds':=rfl
attribute [go_sem ↓] aA7 aBE
class aD1 where
 P:Prop
def azX [E:aD1]:Prop:=E.P
theorem O4 {A:Prop}(h:A): @azX ⟨A⟩:=h
theorem M4 {P:Program}{f:FuncId}{ds:List D}{bs rs:List Nat}{L:List (Nat×D)->List (Nat×D)->(List Nat->Prop)->Prop}{K:S->List D->List (Nat×D)->Prop}{cs:List (Nat×Option D)}{rd gs:List (Nat×D)}{Q:S->List D->Prop}(h:FnW P f ds cs rd gs Q) (hc:cs.map (fun c=>c.1)=bs)
  (hL:L rd gs fun rs2=>(∀r∈rs++rs2,∀g∈gs,r≠1000000+2*g.1)/\ @azX ⟨∀r ds',Q r ds'->(rs++rs2=[]\/(r.closed=true/\D.iH ds'=true))/\K r ds' gs⟩): @atD _ P f ds bs rs ⟨L,K⟩:=WB h hc hL
theorem jG {u c:Nat}{cs:List Nat}{s:St}{K:List Nat->St->Prop}(d:D)(hs:s c= .own (.bx true d))(h:∀b,jA s b->J8 u ((((s.kill (1000000+2*b)).kill c).put (1000000+2*b) (.own (.bx true d))).put c (.rf (1000000+2*b) [0])) cs fun bs s'=>K (b::bs) s')(h1:u≠c:=by decide)(h2:c<1000000:=by decide):J8 u s (c::cs) K:=by
 unfold J8;refine⟨h1,h2,?_⟩;rw[hs];exact h
theorem P9 {u:Nat}{s:St}{K:List Nat->St->Prop}(h:K [] s):J8 u s [] K:=h
def gY:List Nat->Prop
 |[]=>True
 |a::l=>(∀b∈l,¬a=b/\¬b=a)/\gY l
theorem aCW {n b:Nat}(h:n<1000000):(n=1000000+2*b)=False:=eq_false (by omega)
theorem aC2 {n b:Nat}(h:n<1000000):(1000000+2*b=n)=False:=eq_false (by omega)
theorem aCC {b:Nat}:(1000000+2*b<1000000)=False:=eq_false (by omega)
theorem aCR {b c:Nat}:(1000000+2*b=1000000+2*c)=(b=c):=propext ⟨fun h=>by omega,fun h=>by rw[h]⟩
theorem az8 {b c:Nat}:(2*b=2*c)=(b=c):=propext ⟨fun h=>by omega,fun h=>by rw[h]⟩
attribute [go_sem] aCW aC2 aCC aCR az8
attribute [go_sem] auI ao5
end Go.Dv
end
section
namespace Go.Dv
open Go.RowKit
variable [eZ]
theorem agV {P:Program}{n:Nat}{s:St}(k G:Nat){d:D}(h1:s k= .rf G [0])(h2:s G= .own (.bx true d))(hk:k≠far0):mG P n s ((s.PN G).put k (.val (D.bx false d.fz))):=by
 intro w0 ow0 a w ⟨ow,hf⟩;have hkG:k≠G:=by rintro rfl;rw[h1]at h2;cases h2
 have hv:aval a k=aval a G:=by
  have hV:=hf.slot k;rw[h1]at hV;obtain⟨d',m,b,off,e1,e2,e3,e4⟩:=hV;rw[h2]at e1;obtain rfl:D.bx true d=d':=by injection e1
  have hG:=hf.slot G;rw[h2]at hG;simp only[SV,V,R]at hG;obtain⟨b2,off2,C,e,fz,cs',g1,_⟩:=hG;have g1:aval a G= .pointer (some ⟨b2,off2,none⟩):=by simpa using g1
  rw[g1]at e3;simp only[loc,into,if_true,bA,Option.some.injEq,Prod.mk.injEq]at e3;obtain⟨rfl,rfl⟩:=e3;rw[e4,g1]
 obtain⟨ow',hf'⟩:=hf.PN G;have hsG:(s.PN G) G= .val (D.bx true d).fz:=by unfold St.PN;rw[h2];simp[St.put]
 have hsk:((s.PN G) k).bE=false:=by
  unfold St.PN;rw[h2];simp only[St.put,if_neg hkG];unfold St.kill;simp[hkG,h1,S.drop,S.root,S.bE]
 refine⟨_,hf'.tell hk hsk ?_⟩;have:=hf'.slot G;rw[hsG]at this;simp only[SV,D.fz,D.OX]at this|-
 rw[hv];exact this
inductive OT where
 |fin
 |no
 |st (i:Nat) (t alt:OT)
def OT.heads:OT->List Nat
 | .st i _ alt=>i::alt.heads
 |_=>[]
def OT.depth:OT->Nat
 | .st _ t alt=>max (t.depth+1) alt.depth
 |_=>0
def OT.cov (md:Region.Mode)(ops:Array Oper)(listed:Array Bool)(t:OT):Bool:=match t with
 | .no=>false
 |t=>(Region.ready md ops listed).all fun i=>t.heads.contains i
def OT.ok (md:Region.Mode)(ops:Array Oper):OT->Array Bool->Bool
 | .fin,_=>true
 | .no,_=>true
 | .st i t alt,l=>(Region.ready md ops l).contains i&&t.cov md ops (l.setIfInBounds i true)&&t.ok md ops (l.setIfInBounds i true)&&alt.ok md ops l
section
variable {P:Program}{T:TypeId->TyE}{n:Nat}{ops:Array Oper}{md:Region.Mode}{ft:List (Nat×List Nat)}
def QT (P:Program)(T:TypeId->TyE)(n:Nat)(ft:List (Nat×List Nat))(ops:Array Oper)(AK:List Nat):OT->St->(St->Prop)->Prop
 | .fin,s,K=>K s
 | .no,_,_=>True
 | .st i t alt,s,K=>(match ops[i]? with
  |some o=>QF P T n ft [] ops [o] i AK s (fun s'=> @frK s' ⟨fun s'=>QT P T n ft ops AK t s' K⟩)
  |none=>False)/\QT P T n ft ops AK alt s K
end
section
variable {P:Program}{T:TypeId->TyE}{n:Nat}{w0:World}{ow0:Own}{p:Pin}{sp:List Nat}{s:St}{K:Exit->St->Prop}
end
attribute [go_sem] QT
section
variable {P:Program}{T:TypeId->TyE}{n:Nat}{ops:Array Oper}{md:Region.Mode}{p:Pin}{w0:World}{ow0:Own}
def QO (P:Program)(T:TypeId->TyE)(n:Nat)(ops:Array Oper):OT->St->(St->Prop)->Prop
 | .fin,s,K=>K s
 | .no,_,_=>True
 | .st i t alt,s,K=>(match ops[i]? with
  |some o=>vcL P T n ops [o] s (fun s'=> @frK s' ⟨fun s'=>QO P T n ops t s' K⟩)
  |none=>False)/\QO P T n ops alt s K
theorem aBK {o:Oper}{i:Nat}(ho:ops[i]?=some o) {s:St}{K:St->Prop}{Q:Exit->Act->World->Prop}{F:Act->World->Prop}(hd:kF p o=true) (h:OkL P n w0 ow0 ops [o] s K) {a:Act}{w:World}(hR:Rel P n w0 ow0 s a w) (hp:Pinned p a)
  (hF:∀s' a' w',K s'->Rel P n w0 ow0 s' a' w'->Pinned p a'->F a' w'):wpOp P ops Q i F a w:=by
 have hg:=I9 hR h;unfold wpOp;rw[ho];simp only;split
 ·rename_i hw;rw[if_pos hw]at hg;have h1:=hg a w hR (fun a' w'=>∃s',OkL P n w0 ow0 ops [] s' K/\Rel P n w0 ow0 s' a' w') Q fun s' a' w' hK hR'=>⟨s',hK,hR'⟩;exact .inl (Oper.wp_mono (fun a' w' hh=>by obtain⟨⟨s',hK,hR'⟩,hp'⟩:=hh;exact hF s' a' w' hK hR' hp') (RA hp hd h1))
 ·rename_i hw;rw[if_neg hw]at hg;obtain⟨ow,hf⟩:=hR;exact hF _ _ w hg.2 ⟨ow,hf.aA2 hg.1⟩ (hp.put hd)
theorem aDF (hG:∀t,Good P T t)(hd:∀o∈ops.toList,kF p o=true){K:St->Prop}{Q:Exit->Act->World->Prop}(hQ:∀s' a' w',K s'->Rel P n w0 ow0 s' a' w'->Pinned p a'->Q .normal a' w'):∀(t:OT),
  (∀(listed:Array Bool) (s:St) (a:Act) (w:World) (fuel:Nat),t.ok md ops listed=true->t.depth<=fuel+1->QO P T n ops t s K->Rel P n w0 ow0 s a w->Pinned p a->∀i∈t.heads,wpOp P ops Q i (wpAny P md ops Q fuel (listed.setIfInBounds i true)) a w)/\
  (∀(listed:Array Bool) (s:St) (a:Act) (w:World) (fuel:Nat),t.cov md ops listed=true->t.ok md ops listed=true->t.depth<=fuel->QO P T n ops t s K->Rel P n w0 ow0 s a w->Pinned p a->wpAny P md ops Q fuel listed a w):=by
 intro t
 induction t with
 |fin=>
  refine⟨fun _ _ _ _ _ _ _ _ _ _ i hi=>by simp[OT.heads]at hi,fun listed s a w fuel hc _ _ h hR hp=> ?_⟩
  have h0:Region.ready md ops listed=[]:=by
   cases hr:Region.ready md ops listed with
   |nil=>rfl
   |cons x l=>simp[OT.cov,OT.heads,hr]at hc
  cases fuel with
  |zero=>exact⟨h0,hQ s a w h hR hp⟩
  |succ fuel=>exact⟨fun _=>hQ s a w h hR hp,fun i hi=>by rw[h0]at hi;cases hi⟩
 |no=>exact⟨fun _ _ _ _ _ _ _ _ _ _ i hi=>by simp[OT.heads]at hi,fun _ _ _ _ _ hc=>by simp[OT.cov]at hc⟩
 |st j t alt iht iha=>
  have hAA:∀(listed:Array Bool) (s:St) (a:Act) (w:World) (fuel:Nat),(OT.st j t alt).ok md ops listed=true->(OT.st j t alt).depth<=fuel+1->QO P T n ops (.st j t alt) s K->Rel P n w0 ow0 s a w->Pinned p a->∀i∈(OT.st j t alt).heads,wpOp P ops Q i (wpAny P md ops Q fuel (listed.setIfInBounds i true)) a w:=by
   intro listed s a w fuel hok hdp h hR hp i hi;simp only[OT.ok,Bool.and_eq_true]at hok;simp only[OT.depth]at hdp;unfold QO at h;simp only[OT.heads,List.mem_cons]at hi;by_cases hij:i=j
   ·subst hij;have h1:=h.1;cases ho:ops[i]? with
    |none=>rw[ho]at h1;exact h1.elim
    |some o=>
     rw[ho]at h1
     have hm:o∈ops.toList:=by
      obtain⟨hlt,he⟩:=Array.getElem?_eq_some_iff.1 ho;rw[←he];simp
     exact aBK ho (hd o hm) (uK hG _ _ _ h1) hR hp fun s' a' w' hK hR' hp'=>iht.2 _ s' a' w' fuel hok.1.1.2 hok.1.2 (by omega) hK hR' hp'
   ·exact iha.1 listed s a w fuel hok.2 (by omega) h.2 hR hp i (hi.resolve_left hij)
  refine⟨hAA,fun listed s a w fuel hc hok hdp h hR hp=> ?_⟩;cases fuel with
  |zero=>simp[OT.depth]at hdp
  |succ fuel=>
   refine⟨fun h0=> ?_,fun i hi=> ?_⟩
   ·simp only[OT.ok,Bool.and_eq_true]at hok;have:=hok.1.1.1;rw[h0]at this;simp at this
   ·simp only[OT.cov,List.all_eq_true]at hc;exact hAA listed s a w fuel hok hdp h hR hp i (by simpa using hc i hi)
def aAZ (hs:List Nat)(t:OT)(ops:Array Oper):Bool:=
 Region.noSelect ops&&G9 .any ops hs (Array.replicate ops.size false)&&
 t.cov .any ops (MN hs (Array.replicate ops.size false))&&t.ok .any ops (MN hs (Array.replicate ops.size false))&&decide (t.depth+hs.length=ops.size)
theorem avI (hG:∀t,Good P T t) {s:St}{K:Exit->St->Prop}{id:Nat}{hs:List Nat}{t:OT}(hm:P.follows .mixedOrders=true) (hB:aAZ hs t ops=true)
  (h:QM P T n ops hs s fun s'=>QO P T n ops t s' (fun s'=>K .normal s')) (hd:kE p ops.toList=true):OkC P n w0 ow0 p (.region id ops true) s K:=by
 simp only[aAZ,Bool.and_eq_true,decide_eq_true_eq]at hB;obtain⟨⟨⟨⟨hB1,hB2⟩,hB4⟩,hB5⟩,hB8⟩:=hB;intro a w hR hp Q hQ;refine wp_mono (Q:=fun e a w=>match e with| .normal=>Q .normal a w|_=>False) ?_ fun e a w he=>(by cases e<;>first|exact he|exact he.elim);have hR2:Rel P n w0 ow0 s a {w with drawn:=w.drawn+1}:=by obtain⟨ow,hf⟩:=hR;exact⟨ow,hf.drew⟩
 refine wp_region_any hm ?_;obtain⟨s1,a1,g1,g3,g4,g5⟩:=XE (md:= .any) (ops:=ops) (Q:=fun e a w=>match e with| .normal=>Q .normal a w|_=>False) hG (fun c a w h=>h) (noSelect_spec hB1) (kE.one hd) hs _ _ _ hB2 h hR2 hp;have g6:=g5 t.depth;rw[hB8]at g6;refine g6 ?_;exact(aDF (md:= .any) hG (kE.one hd) (K:=fun s'=>K .normal s') (Q:=fun e a w=>match e with| .normal=>Q .normal a w|_=>False) (fun s' a' w' hK hR' hp'=>hQ _ _ _ _ hK hR' hp') t).2 _ s1 a1 _ _ hB4 hB5 (Nat.le_refl _) g1 g3 g4
theorem wdx (hG:∀t,Good P T t) {sp:List Nat}{s:St}{K:Exit->St->Prop}{i:Nat}(hs:List Nat) (t:OT) (h:QM P T n ops hs s fun s'=>QO P T n ops t s' (fun s'=> @GR s' ⟨K⟩))
  (hB:aAZ hs t ops=true:=by kernel_rfl) (hm:P.follows .mixedOrders=true:=by rfl): @lD _ P T n w0 ow0 p sp ⟨.region i ops true⟩ s ⟨K⟩:=fun hd=>avI hG hm hB h hd
theorem GA {Q:Exit->Act->World->Prop}{l2:List Oper}:∀(l:List Oper) (s:St) (K:St->Prop),OkL P n w0 ow0 ops l s K->(∀o∈l,kF p o=true)->∀a w,Rel P n w0 ow0 s a w->Pinned p a->(∀s' a' w',K s'->Rel P n w0 ow0 s' a' w'->Pinned p a'->wpList P ops Q l2 a' w')->wpList P ops Q (l++l2) a w
 |[],s,K,h,_,a,w,hR,hp,hQ=>hQ s a w h hR hp
 |o::l,s,K,h,hd,a,w,hR,hp,hQ=>by
  have hg:=I9 hR h;rw[List.cons_append];unfold wpList;split
  ·rename_i hw;rw[if_pos hw]at hg;have h1:=hg a w hR (fun a' w'=>∃s',OkL P n w0 ow0 ops l s' K/\Rel P n w0 ow0 s' a' w') Q fun s' a' w' hK hR'=>⟨s',hK,hR'⟩;exact .inl (Oper.wp_mono (fun a' w' hh=>by obtain⟨⟨s',hK,hR'⟩,hp'⟩:=hh;exact GA l s' K hK (fun o ho=>hd o (List.mem_cons_of_mem _ ho)) a' w' hR' hp' hQ) (RA hp (hd o (by simp)) h1))
  ·rename_i hw;rw[if_neg hw]at hg;obtain⟨ow,hf⟩:=hR;exact GA l _ K hg.2 (fun o ho=>hd o (List.mem_cons_of_mem _ ho)) _ w ⟨ow,hf.aA2 hg.1⟩ (hp.put (hd o (by simp))) hQ
theorem wtc (hG:∀t,Good P T t){sp:List Nat}{s:St}{K:Exit->St->Prop}{i:Nat}(m:Nat)(ts:List Nat)(h:vcL P T n ops (ops.toList.take m) s (fun s'=>vcL P T n ops (ops.toList.drop m) (s'.yB ts) (fun s2=> @GR s2 ⟨K⟩))):
  @lD _ P T n w0 ow0 p sp ⟨.region i ops false⟩ s ⟨K⟩:=fun hd a w hR hp Q hQ=>wp_region_list (by
 have hd':kE p ops.toList=true:=hd
 have:=GA (Q:=Q) (l2:=ops.toList.drop m) (ops.toList.take m) s _ (uK hG _ _ _ h) (fun o ho=>kE.one hd' o (List.mem_of_mem_take ho)) a w hR hp fun s' a' w' hK hR' hp'=>
  OkL.wp _ _ _ (uK hG _ _ _ hK) (fun o ho=>kE.one hd' o (List.mem_of_mem_drop ho)) a' w' ((FB ts).rel hR') hp' fun s2 a2 w2 hK2 hR2 hp2=>hQ _ _ _ _ hK2 hR2 hp2
 rwa [List.take_append_drop]at this)
end
attribute [go_sem] QO
end Go.Dv
end
section
namespace Go.Proofs
open Go.Shelf
def Tryz.af6:Go.Shelf.Ren:=⟨fun|125=>211|128=>264|129=>265|n=>n,fun|46=>225|3=>3|51=>249|53=>251|4=>4|5=>5|9=>9|n=>n,fun|n=>n⟩
theorem Tryz.ayY:Go.Proofs.Lays.n125 Tryz.prog Tryz.af6:={
 mixed:=by kernel_rfl
 f125:=Tryz.func211.trans (congrArg some (by kernel_rfl))
 f128:=Tryz.func264.trans (congrArg some (by kernel_rfl))
 f129:=Tryz.func265.trans (congrArg some (by kernel_rfl))
 t3:=Tryz.underlying3
 a3:=Tryz.isAgg3
 z3:=Tryz.sizeOf3
 v3:=Tryz.zeroValue3
 t4:=Tryz.underlying4
 a4:=Tryz.isAgg4
 z4:=Tryz.sizeOf4
 v4:=Tryz.zeroValue4
 t5:=Tryz.underlying5
 a5:=Tryz.isAgg5
 z5:=Tryz.sizeOf5
 v5:=Tryz.zeroValue5
 t9:=Tryz.underlying9
 a9:=Tryz.isAgg9
 z9:=Tryz.sizeOf9
 v9:=Tryz.zeroValue9
 t46:=Tryz.underlying225
 a46:=Tryz.isAgg225
 z46:=Tryz.sizeOf225
 v46:=Tryz.zeroValue225
 t51:=Tryz.underlying249
 a51:=Tryz.isAgg249
 z51:=Tryz.sizeOf249
 v51:=Tryz.zeroValue249
 t53:=Tryz.underlying251
 a53:=Tryz.isAgg251
 z53:=Tryz.sizeOf251
 v53:=Tryz.zeroValue251}
theorem Tryz.bits_Len (x:Int)(w:World)(h0:0<=x)(h1:x<=18446744073709551615):
  Calls Tryz.prog 211 #[.int .u64 x] w fun e w'=>e= .returned (.int .i64 (Lib.bitLen x.toNat))/\w'=w:=Any.bits_Len Tryz.ayY x w h0 h1
def Tryz.acB:Go.Shelf.Ren:=⟨fun|171=>385|243=>402|246=>413|283=>419|284=>420|285=>421|286=>422|129=>265|317=>424|318=>425|319=>426|320=>427|337=>428|338=>429|n=>n,fun|3=>3|9=>9|2=>2|4=>4|171=>356|0=>0|53=>251|37=>234|5=>5|173=>358|212=>362|51=>249|20=>20|213=>363|46=>225|232=>364|233=>365|n=>n,fun|17=>6|18=>7|19=>8|n=>n⟩
theorem Tryz.asL:Go.Proofs.LaysM.n171 Tryz.prog Tryz.acB:={
 mixed:=by kernel_rfl
 f129:=Tryz.func265.trans (congrArg some (by kernel_rfl))
 f171:=Tryz.func385.trans (congrArg some (by kernel_rfl))
 f243:=Tryz.func402.trans (congrArg some (by kernel_rfl))
 f246:=Tryz.func413.trans (congrArg some (by kernel_rfl))
 f283:=Tryz.func419.trans (congrArg some (by kernel_rfl))
 f284:=Tryz.func420.trans (congrArg some (by kernel_rfl))
 f285:=Tryz.func421.trans (congrArg some (by kernel_rfl))
 f286:=Tryz.func422.trans (congrArg some (by kernel_rfl))
 f317:=Tryz.func424.trans (congrArg some (by kernel_rfl))
 f318:=Tryz.func425.trans (congrArg some (by kernel_rfl))
 f319:=Tryz.func426.trans (congrArg some (by kernel_rfl))
 f320:=Tryz.func427.trans (congrArg some (by kernel_rfl))
 f337:=Tryz.func428.trans (congrArg some (by kernel_rfl))
 f338:=Tryz.func429.trans (congrArg some (by kernel_rfl))
 t0:=Tryz.underlying0
 a0:=Tryz.isAgg0
 z0:=Tryz.sizeOf0
 v0:=Tryz.zeroValue0
 t2:=Tryz.underlying2
 a2:=Tryz.isAgg2
 z2:=Tryz.sizeOf2
 v2:=Tryz.zeroValue2
 t3:=Tryz.underlying3
 a3:=Tryz.isAgg3
 z3:=Tryz.sizeOf3
 v3:=Tryz.zeroValue3
 t4:=Tryz.underlying4
 a4:=Tryz.isAgg4
 z4:=Tryz.sizeOf4
 v4:=Tryz.zeroValue4
 t5:=Tryz.underlying5
 a5:=Tryz.isAgg5
 z5:=Tryz.sizeOf5
 v5:=Tryz.zeroValue5
 t9:=Tryz.underlying9
 a9:=Tryz.isAgg9
 z9:=Tryz.sizeOf9
 v9:=Tryz.zeroValue9
 t20:=Tryz.underlying20
 a20:=Tryz.isAgg20
 z20:=Tryz.sizeOf20
 v20:=Tryz.zeroValue20
 t37:=Tryz.underlying234
 a37:=Tryz.isAgg234
 z37:=Tryz.sizeOf234
 v37:=Tryz.zeroValue234
 t46:=Tryz.underlying225
 a46:=Tryz.isAgg225
 z46:=Tryz.sizeOf225
 v46:=Tryz.zeroValue225
 t51:=Tryz.underlying249
 a51:=Tryz.isAgg249
 z51:=Tryz.sizeOf249
 v51:=Tryz.zeroValue249
 t53:=Tryz.underlying251
 a53:=Tryz.isAgg251
 z53:=Tryz.sizeOf251
 v53:=Tryz.zeroValue251
 t171:=Tryz.underlying356
 a171:=Tryz.isAgg356
 z171:=Tryz.sizeOf356
 v171:=Tryz.zeroValue356
 t173:=Tryz.underlying358
 a173:=Tryz.isAgg358
 z173:=Tryz.sizeOf358
 v173:=Tryz.zeroValue358
 t212:=Tryz.underlying362
 a212:=Tryz.isAgg362
 z212:=Tryz.sizeOf362
 v212:=Tryz.zeroValue362
 t213:=Tryz.underlying363
 a213:=Tryz.isAgg363
 z213:=Tryz.sizeOf363
 t232:=Tryz.underlying364
 a232:=Tryz.isAgg364
 z232:=Tryz.sizeOf364
 v232:=Tryz.zeroValue364
 t233:=Tryz.underlying365
 a233:=Tryz.isAgg365
 z233:=Tryz.sizeOf365
 v233:=Tryz.zeroValue365
 g17:=by kernel_rfl
 g18:=by kernel_rfl
 g19:=by kernel_rfl
 i0:=by kernel_rfl
 i2:=by kernel_rfl
 i3:=by kernel_rfl
 i4:=by kernel_rfl
 i5:=by kernel_rfl
 i9:=by kernel_rfl
 i20:=by kernel_rfl
 i37:=by kernel_rfl
 i46:=by kernel_rfl
 i51:=by kernel_rfl
 i53:=by kernel_rfl
 i171:=by kernel_rfl
 i173:=by kernel_rfl
 i212:=by kernel_rfl
 i232:=by kernel_rfl
 i233:=by kernel_rfl
 m17:=by kernel_rfl
 m18:=by kernel_rfl
 m19:=by kernel_rfl}
open Go.RowKit Go.Sort Go.Lib in
theorem Tryz.strconv_Itoa (n:Int)(h0: -9223372036854775808<=n)(h1:n<=9223372036854775807)(w:World)(htab:Lib.TabIs Tryz.prog w "internal/strconv.uint64pow10" .u64 Lib.pow10Tab):
  Calls Tryz.prog 385 #[.int .i64 n] w fun e w'=>e= .returned (.string ⟨(Lib.itoa n).toArray⟩)/\∃k os,w'=grow (w.drewN k) os:=Any.strconv_Itoa Tryz.asL n h0 h1 w htab
def Tryz.ac5:Go.Shelf.Ren:=⟨fun|172=>364|244=>383|245=>384|247=>397|279=>398|280=>399|281=>400|282=>401|287=>410|316=>411|171=>385|205=>412|321=>417|322=>418|243=>402|246=>413|283=>419|284=>420|285=>421|286=>422|129=>265|317=>424|318=>425|319=>426|320=>427|337=>428|338=>429|n=>n,fun|9=>9|3=>3|75=>309|76=>310|4=>4|5=>5|167=>332|37=>234|0=>0|85=>333|2=>2|168=>335|53=>251|175=>340|46=>225|210=>343|127=>338|145=>355|143=>353|21=>21|171=>356|173=>358|212=>362|51=>249|20=>20|213=>363|232=>364|233=>365|80=>329|n=>n,fun|15=>2|16=>3|17=>6|18=>7|19=>8|n=>n⟩
theorem Tryz.V3:Go.Proofs.LaysC.n172 Tryz.prog Tryz.ac5:={
 mixed:=by kernel_rfl
 f129:=Tryz.func265.trans (congrArg some (by kernel_rfl))
 f171:=Tryz.func385.trans (congrArg some (by kernel_rfl))
 f172:=Tryz.func364.trans (congrArg some (by kernel_rfl))
 f205:=Tryz.func412.trans (congrArg some (by kernel_rfl))
 f243:=Tryz.func402.trans (congrArg some (by kernel_rfl))
 f244:=Tryz.func383.trans (congrArg some (by kernel_rfl))
 f245:=Tryz.func384.trans (congrArg some (by kernel_rfl))
 f246:=Tryz.func413.trans (congrArg some (by kernel_rfl))
 f247:=Tryz.func397.trans (congrArg some (by kernel_rfl))
 f279:=Tryz.func398.trans (congrArg some (by kernel_rfl))
 f280:=Tryz.func399.trans (congrArg some (by kernel_rfl))
 f281:=Tryz.func400.trans (congrArg some (by kernel_rfl))
 f282:=Tryz.func401.trans (congrArg some (by kernel_rfl))
 f283:=Tryz.func419.trans (congrArg some (by kernel_rfl))
 f284:=Tryz.func420.trans (congrArg some (by kernel_rfl))
 f285:=Tryz.func421.trans (congrArg some (by kernel_rfl))
 f286:=Tryz.func422.trans (congrArg some (by kernel_rfl))
 f287:=Tryz.func410.trans (congrArg some (by kernel_rfl))
 f316:=Tryz.func411.trans (congrArg some (by kernel_rfl))
 f317:=Tryz.func424.trans (congrArg some (by kernel_rfl))
 f318:=Tryz.func425.trans (congrArg some (by kernel_rfl))
 f319:=Tryz.func426.trans (congrArg some (by kernel_rfl))
 f320:=Tryz.func427.trans (congrArg some (by kernel_rfl))
 f321:=Tryz.func417.trans (congrArg some (by kernel_rfl))
 f322:=Tryz.func418.trans (congrArg some (by kernel_rfl))
 f337:=Tryz.func428.trans (congrArg some (by kernel_rfl))
 f338:=Tryz.func429.trans (congrArg some (by kernel_rfl))
 t0:=Tryz.underlying0
 a0:=Tryz.isAgg0
 z0:=Tryz.sizeOf0
 v0:=Tryz.zeroValue0
 t2:=Tryz.underlying2
 a2:=Tryz.isAgg2
 z2:=Tryz.sizeOf2
 v2:=Tryz.zeroValue2
 t3:=Tryz.underlying3
 a3:=Tryz.isAgg3
 z3:=Tryz.sizeOf3
 v3:=Tryz.zeroValue3
 t4:=Tryz.underlying4
 a4:=Tryz.isAgg4
 z4:=Tryz.sizeOf4
 v4:=Tryz.zeroValue4
 t5:=Tryz.underlying5
 a5:=Tryz.isAgg5
 z5:=Tryz.sizeOf5
 v5:=Tryz.zeroValue5
 t9:=Tryz.underlying9
 a9:=Tryz.isAgg9
 z9:=Tryz.sizeOf9
 v9:=Tryz.zeroValue9
 t20:=Tryz.underlying20
 a20:=Tryz.isAgg20
 z20:=Tryz.sizeOf20
 v20:=Tryz.zeroValue20
 t21:=Tryz.underlying21
 a21:=Tryz.isAgg21
 z21:=Tryz.sizeOf21
 v21:=Tryz.zeroValue21
 t37:=Tryz.underlying234
 a37:=Tryz.isAgg234
 z37:=Tryz.sizeOf234
 v37:=Tryz.zeroValue234
 t46:=Tryz.underlying225
 a46:=Tryz.isAgg225
 z46:=Tryz.sizeOf225
 v46:=Tryz.zeroValue225
 t51:=Tryz.underlying249
 a51:=Tryz.isAgg249
 z51:=Tryz.sizeOf249
 v51:=Tryz.zeroValue249
 t53:=Tryz.underlying251
 a53:=Tryz.isAgg251
 z53:=Tryz.sizeOf251
 v53:=Tryz.zeroValue251
 t75:=Tryz.underlying309
 a75:=Tryz.isAgg309
 z75:=Tryz.sizeOf309
 v75:=Tryz.zeroValue309
 t76:=Tryz.underlying310
 a76:=Tryz.isAgg310
 z76:=Tryz.sizeOf310
 v76:=Tryz.zeroValue310
 t85:=Tryz.underlying333
 a85:=Tryz.isAgg333
 z85:=Tryz.sizeOf333
 v85:=Tryz.zeroValue333
 t127:=Tryz.underlying338
 a127:=Tryz.isAgg338
 z127:=Tryz.sizeOf338
 v127:=Tryz.zeroValue338
 t143:=Tryz.underlying353
 a143:=Tryz.isAgg353
 z143:=Tryz.sizeOf353
 v143:=Tryz.zeroValue353
 t145:=Tryz.underlying355
 a145:=Tryz.isAgg355
 z145:=Tryz.sizeOf355
 v145:=Tryz.zeroValue355
 t167:=Tryz.underlying332
 a167:=Tryz.isAgg332
 z167:=Tryz.sizeOf332
 v167:=Tryz.zeroValue332
 t168:=Tryz.underlying335
 a168:=Tryz.isAgg335
 z168:=Tryz.sizeOf335
 v168:=Tryz.zeroValue335
 t171:=Tryz.underlying356
 a171:=Tryz.isAgg356
 z171:=Tryz.sizeOf356
 v171:=Tryz.zeroValue356
 t173:=Tryz.underlying358
 a173:=Tryz.isAgg358
 z173:=Tryz.sizeOf358
 v173:=Tryz.zeroValue358
 t175:=Tryz.underlying340
 a175:=Tryz.isAgg340
 z175:=Tryz.sizeOf340
 v175:=Tryz.zeroValue340
 t210:=Tryz.underlying343
 a210:=Tryz.isAgg343
 z210:=Tryz.sizeOf343
 v210:=Tryz.zeroValue343
 t212:=Tryz.underlying362
 a212:=Tryz.isAgg362
 z212:=Tryz.sizeOf362
 v212:=Tryz.zeroValue362
 t213:=Tryz.underlying363
 a213:=Tryz.isAgg363
 z213:=Tryz.sizeOf363
 t232:=Tryz.underlying364
 a232:=Tryz.isAgg364
 z232:=Tryz.sizeOf364
 v232:=Tryz.zeroValue364
 t233:=Tryz.underlying365
 a233:=Tryz.isAgg365
 z233:=Tryz.sizeOf365
 v233:=Tryz.zeroValue365
 g15:=by kernel_rfl
 g16:=by kernel_rfl
 g17:=by kernel_rfl
 g18:=by kernel_rfl
 g19:=by kernel_rfl
 t80:=Tryz.underlying329
 a80:=Tryz.isAgg329
 z80:=Tryz.sizeOf329
 v80:=Tryz.zeroValue329
 i0:=by kernel_rfl
 i2:=by kernel_rfl
 i3:=by kernel_rfl
 i4:=by kernel_rfl
 i5:=by kernel_rfl
 i9:=by kernel_rfl
 i20:=by kernel_rfl
 i21:=by kernel_rfl
 i37:=by kernel_rfl
 i46:=by kernel_rfl
 i51:=by kernel_rfl
 i53:=by kernel_rfl
 i75:=by kernel_rfl
 i76:=by kernel_rfl
 i80:=by kernel_rfl
 i85:=by kernel_rfl
 i127:=by kernel_rfl
 i143:=by kernel_rfl
 i145:=by kernel_rfl
 i167:=by kernel_rfl
 i168:=by kernel_rfl
 i171:=by kernel_rfl
 i173:=by kernel_rfl
 i175:=by kernel_rfl
 i210:=by kernel_rfl
 i212:=by kernel_rfl
 i232:=by kernel_rfl
 i233:=by kernel_rfl
 m15:=by kernel_rfl
 m16:=by kernel_rfl
 m17:=by kernel_rfl
 m18:=by kernel_rfl
 m19:=by kernel_rfl
 c0:=by kernel_rfl
 c2:=by kernel_rfl
 c3:=by kernel_rfl
 c4:=by kernel_rfl
 c5:=by kernel_rfl
 c9:=by kernel_rfl
 c20:=by kernel_rfl
 c21:=by kernel_rfl
 c37:=by kernel_rfl
 c46:=by kernel_rfl
 c51:=by kernel_rfl
 c53:=by kernel_rfl
 c75:=by kernel_rfl
 c76:=by kernel_rfl
 c80:=by kernel_rfl
 c85:=by kernel_rfl
 c127:=by kernel_rfl
 c143:=by kernel_rfl
 c145:=by kernel_rfl
 c167:=by kernel_rfl
 c168:=by kernel_rfl
 c171:=by kernel_rfl
 c173:=by kernel_rfl
 c175:=by kernel_rfl
 c210:=by kernel_rfl
 c212:=by kernel_rfl
 c213:=by kernel_rfl
 c232:=by kernel_rfl
 c233:=by kernel_rfl}
open Go.RowKit in
theorem Tryz.strconv_Atoi_ok (s:ByteArray)(hmax:s.size<=9223372036854775806)(v:Int)(h:Lib.atoiAll s.data.toList= .ok v)(w:World):
  Calls Tryz.prog 364 #[.string s] w fun e w'=>e= .returned (.tuple #[.int .i64 v,.nilIface])/\(w'=w\/∃t,w'=Lib.bytesWorld w 5 t):=Any.strconv_Atoi_ok Tryz.V3 s hmax v h w
open Go.RowKit in
theorem Tryz.strconv_Atoi_syntax_var (s:ByteArray)(hlim:s.size<=281474976710656)(h1:∀v,Lib.atoiAll s.data.toList≠ .ok v)(h2:Lib.atoiAll s.data.toList≠ .range)(tp:TypeId)(p:Value)(w:World)(hvar:w.var? Tryz.prog "strconv.ErrSyntax" =some #[.iface tp p]):
  Calls Tryz.prog 364 #[.string s] w fun e w'=>∃N,e= .returned (.tuple #[.int .i64 0,.iface 335 (.pointer (some ⟨N,0,none⟩))])/\w.heap.size<=N/\w'.heap[N]?=some (.cells #[.string ⟨#[65,116,111,105]⟩,.string s,.iface tp p] 343 (0,0))/\Below w.heap.size w w':=by
 cases hx:Lib.atoiAll s.data.toList with
 |ok v=>exact absurd hx (h1 v)
 |range=>exact absurd hx h2
 |_=>exact Any.strconv_Atoi_syntax_var Tryz.V3 s hlim hx tp p w hvar
open Go.RowKit in
theorem Tryz.strconv_Atoi_range_var (s:ByteArray)(hlim:s.size<=281474976710656)(h:Lib.atoiAll s.data.toList= .range)(tp:TypeId)(p:Value)(w:World)(hvar:w.var? Tryz.prog "strconv.ErrRange" =some #[.iface tp p]):
  Calls Tryz.prog 364 #[.string s] w fun e w'=>∃N,e= .returned (.tuple #[.int .i64 (Lib.atoiSat s.data.toList),.iface 335 (.pointer (some ⟨N,0,none⟩))])/\w.heap.size<=N/\w'.heap[N]?=some (.cells #[.string ⟨#[65,116,111,105]⟩,.string s,.iface tp p] 343 (0,0))/\Below w.heap.size w w':=Any.strconv_Atoi_range_var Tryz.V3 s hlim h tp p w hvar
def Tryz.ae8:Go.Shelf.Ren:=⟨fun|190=>333|125=>211|258=>362|128=>264|129=>265|302=>374|303=>375|304=>376|305=>377|306=>378|307=>379|308=>380|309=>381|310=>382|333=>393|329=>310|330=>311|334=>394|335=>395|336=>396|344=>409|n=>n,fun|31=>97|9=>9|3=>3|46=>225|0=>0|51=>249|53=>251|4=>4|183=>243|182=>242|131=>207|5=>5|218=>272|222=>276|228=>290|229=>291|n=>n,fun|n=>n⟩
theorem Tryz.axY:Go.Proofs.Lays.n190 Tryz.prog Tryz.ae8:={
 mixed:=by kernel_rfl
 f125:=Tryz.func211.trans (congrArg some (by kernel_rfl))
 f128:=Tryz.func264.trans (congrArg some (by kernel_rfl))
 f129:=Tryz.func265.trans (congrArg some (by kernel_rfl))
 f190:=Tryz.func333.trans (congrArg some (by kernel_rfl))
 f258:=Tryz.func362.trans (congrArg some (by kernel_rfl))
 f302:=Tryz.func374.trans (congrArg some (by kernel_rfl))
 f303:=Tryz.func375.trans (congrArg some (by kernel_rfl))
 f304:=Tryz.func376.trans (congrArg some (by kernel_rfl))
 f305:=Tryz.func377.trans (congrArg some (by kernel_rfl))
 f306:=Tryz.func378.trans (congrArg some (by kernel_rfl))
 f307:=Tryz.func379.trans (congrArg some (by kernel_rfl))
 f308:=Tryz.func380.trans (congrArg some (by kernel_rfl))
 f309:=Tryz.func381.trans (congrArg some (by kernel_rfl))
 f310:=Tryz.func382.trans (congrArg some (by kernel_rfl))
 f329:=Tryz.func310.trans (congrArg some (by kernel_rfl))
 f330:=Tryz.func311.trans (congrArg some (by kernel_rfl))
 f333:=Tryz.func393.trans (congrArg some (by kernel_rfl))
 f334:=Tryz.func394.trans (congrArg some (by kernel_rfl))
 f335:=Tryz.func395.trans (congrArg some (by kernel_rfl))
 f336:=Tryz.func396.trans (congrArg some (by kernel_rfl))
 f344:=Tryz.func409.trans (congrArg some (by kernel_rfl))
 t0:=Tryz.underlying0
 a0:=Tryz.isAgg0
 z0:=Tryz.sizeOf0
 v0:=Tryz.zeroValue0
 t3:=Tryz.underlying3
 a3:=Tryz.isAgg3
 z3:=Tryz.sizeOf3
 v3:=Tryz.zeroValue3
 t4:=Tryz.underlying4
 a4:=Tryz.isAgg4
 z4:=Tryz.sizeOf4
 v4:=Tryz.zeroValue4
 t5:=Tryz.underlying5
 a5:=Tryz.isAgg5
 z5:=Tryz.sizeOf5
 v5:=Tryz.zeroValue5
 t9:=Tryz.underlying9
 a9:=Tryz.isAgg9
 z9:=Tryz.sizeOf9
 v9:=Tryz.zeroValue9
 t31:=Tryz.underlying97
 a31:=Tryz.isAgg97
 z31:=Tryz.sizeOf97
 v31:=Tryz.zeroValue97
 t46:=Tryz.underlying225
 a46:=Tryz.isAgg225
 z46:=Tryz.sizeOf225
 v46:=Tryz.zeroValue225
 t51:=Tryz.underlying249
 a51:=Tryz.isAgg249
 z51:=Tryz.sizeOf249
 v51:=Tryz.zeroValue249
 t53:=Tryz.underlying251
 a53:=Tryz.isAgg251
 z53:=Tryz.sizeOf251
 v53:=Tryz.zeroValue251
 t131:=Tryz.underlying207
 a131:=Tryz.isAgg207
 z131:=Tryz.sizeOf207
 v131:=Tryz.zeroValue207
 t182:=Tryz.underlying242
 a182:=Tryz.isAgg242
 z182:=Tryz.sizeOf242
 v182:=Tryz.zeroValue242
 t183:=Tryz.underlying243
 a183:=Tryz.isAgg243
 z183:=Tryz.sizeOf243
 v183:=Tryz.zeroValue243
 t218:=Tryz.underlying272
 a218:=Tryz.isAgg272
 z218:=Tryz.sizeOf272
 v218:=Tryz.zeroValue272
 t222:=Tryz.underlying276
 a222:=Tryz.isAgg276
 z222:=Tryz.sizeOf276
 v222:=Tryz.zeroValue276
 t228:=Tryz.underlying290
 a228:=Tryz.isAgg290
 z228:=Tryz.sizeOf290
 v228:=Tryz.zeroValue290
 t229:=Tryz.underlying291
 a229:=Tryz.isAgg291
 z229:=Tryz.sizeOf291
 v229:=Tryz.zeroValue291}
open Go.Sort Go.RowKit in
theorem Tryz.slices_Sort_string (blk off cap:Nat)(ss:List (List UInt8))(w:World)(hH:Holds encStr w blk off ss.toArray)(hblk:blk<w.heap.size)(hsz:ss.length<4611686018427387904):
  Calls Tryz.prog 333 #[.slice (some ⟨blk,off,none⟩) ss.length cap] w fun e w'=>
   e= .returned (.tuple #[])/\∃n os,w'=grow (putRow encStr (Sort.ahead w n) blk off (ss.mergeSort fun x y=>decide (x<=y)).toArray) os:=Any.slices_Sort_string Tryz.axY blk off cap ss w hH hblk hsz
def Tryz.afN:Go.Shelf.Ren:=⟨fun|100=>296|207=>340|n=>n,fun|9=>9|4=>4|3=>3|n=>n,fun|n=>n⟩
theorem Tryz.av4:Go.Proofs.Lays.n100 Tryz.prog Tryz.afN:={
 mixed:=by kernel_rfl
 f100:=Tryz.func296.trans (congrArg some (by kernel_rfl))
 f207:=Tryz.func340.trans (congrArg some (by kernel_rfl))
 t3:=Tryz.underlying3
 a3:=Tryz.isAgg3
 z3:=Tryz.sizeOf3
 v3:=Tryz.zeroValue3
 t4:=Tryz.underlying4
 a4:=Tryz.isAgg4
 z4:=Tryz.sizeOf4
 v4:=Tryz.zeroValue4
 t9:=Tryz.underlying9
 a9:=Tryz.isAgg9
 z9:=Tryz.sizeOf9
 v9:=Tryz.zeroValue9}
open Go.RowKit Go.Lib in
theorem Tryz.strings_HasSuffix (s p:ByteArray)(w:World)(hs:s.size<=9223372036854775807):
  Calls Tryz.prog 296 #[.string s,.string p] w fun e w'=>e= .returned (.bool (Lib.hasSuffix s.data.toList p.data.toList))/\w'=w:=Any.strings_HasSuffix Tryz.av4 s p w hs
def Tryz.agO:Go.Shelf.Ren:=⟨fun|102=>353|209=>370|207=>340|n=>n,fun|9=>9|4=>4|3=>3|n=>n,fun|n=>n⟩
theorem Tryz.ayU:Go.Proofs.Lays.n102 Tryz.prog Tryz.agO:={
 mixed:=by kernel_rfl
 f102:=Tryz.func353.trans (congrArg some (by kernel_rfl))
 f207:=Tryz.func340.trans (congrArg some (by kernel_rfl))
 f209:=Tryz.func370.trans (congrArg some (by kernel_rfl))
 t3:=Tryz.underlying3
 a3:=Tryz.isAgg3
 z3:=Tryz.sizeOf3
 v3:=Tryz.zeroValue3
 t4:=Tryz.underlying4
 a4:=Tryz.isAgg4
 z4:=Tryz.sizeOf4
 v4:=Tryz.zeroValue4
 t9:=Tryz.underlying9
 a9:=Tryz.isAgg9
 z9:=Tryz.sizeOf9
 v9:=Tryz.zeroValue9}
open Go.RowKit Go.Lib in
theorem Tryz.strings_TrimSuffix (s p:ByteArray)(w:World)(hs:s.size<=9223372036854775807):
  Calls Tryz.prog 353 #[.string s,.string p] w fun e w'=>e= .returned (.string ⟨(Lib.trimSuffix s.data.toList p.data.toList).toArray⟩)/\w'=w:=Any.strings_TrimSuffix Tryz.ayU s p w hs
def Tryz.R5:Go.Shelf.Ren:=⟨fun|155=>355|154=>371|138=>387|165=>388|143=>389|166=>390|197=>391|169=>392|195=>403|218=>404|240=>405|241=>406|219=>407|260=>408|276=>414|277=>415|217=>366|225=>344|224=>343|267=>416|266=>386|314=>423|n=>n,fun|9=>9|3=>3|4=>4|72=>326|0=>0|76=>310|105=>327|21=>21|5=>5|70=>324|20=>20|37=>234|75=>309|127=>338|164=>346|46=>225|119=>349|139=>352|138=>351|146=>312|51=>249|80=>329|n=>n,fun|1=>1|3=>4|4=>5|n=>n⟩
theorem Tryz.awL:Go.Proofs.Lays.n155 Tryz.prog Tryz.R5:={
 mixed:=by kernel_rfl
 f138:=Tryz.func387.trans (congrArg some (by kernel_rfl))
 f143:=Tryz.func389.trans (congrArg some (by kernel_rfl))
 f154:=Tryz.func371.trans (congrArg some (by kernel_rfl))
 f155:=Tryz.func355.trans (congrArg some (by kernel_rfl))
 f165:=Tryz.func388.trans (congrArg some (by kernel_rfl))
 f166:=Tryz.func390.trans (congrArg some (by kernel_rfl))
 f169:=Tryz.func392.trans (congrArg some (by kernel_rfl))
 f195:=Tryz.func403.trans (congrArg some (by kernel_rfl))
 f197:=Tryz.func391.trans (congrArg some (by kernel_rfl))
 f217:=Tryz.func366.trans (congrArg some (by kernel_rfl))
 f218:=Tryz.func404.trans (congrArg some (by kernel_rfl))
 f219:=Tryz.func407.trans (congrArg some (by kernel_rfl))
 f224:=Tryz.func343.trans (congrArg some (by kernel_rfl))
 f225:=Tryz.func344.trans (congrArg some (by kernel_rfl))
 f240:=Tryz.func405.trans (congrArg some (by kernel_rfl))
 f241:=Tryz.func406.trans (congrArg some (by kernel_rfl))
 f260:=Tryz.func408.trans (congrArg some (by kernel_rfl))
 f266:=Tryz.func386.trans (congrArg some (by kernel_rfl))
 f267:=Tryz.func416.trans (congrArg some (by kernel_rfl))
 f276:=Tryz.func414.trans (congrArg some (by kernel_rfl))
 f277:=Tryz.func415.trans (congrArg some (by kernel_rfl))
 f314:=Tryz.func423.trans (congrArg some (by kernel_rfl))
 t0:=Tryz.underlying0
 a0:=Tryz.isAgg0
 z0:=Tryz.sizeOf0
 v0:=Tryz.zeroValue0
 t3:=Tryz.underlying3
 a3:=Tryz.isAgg3
 z3:=Tryz.sizeOf3
 v3:=Tryz.zeroValue3
 t4:=Tryz.underlying4
 a4:=Tryz.isAgg4
 z4:=Tryz.sizeOf4
 v4:=Tryz.zeroValue4
 t5:=Tryz.underlying5
 a5:=Tryz.isAgg5
 z5:=Tryz.sizeOf5
 v5:=Tryz.zeroValue5
 t9:=Tryz.underlying9
 a9:=Tryz.isAgg9
 z9:=Tryz.sizeOf9
 v9:=Tryz.zeroValue9
 t20:=Tryz.underlying20
 a20:=Tryz.isAgg20
 z20:=Tryz.sizeOf20
 v20:=Tryz.zeroValue20
 t21:=Tryz.underlying21
 a21:=Tryz.isAgg21
 z21:=Tryz.sizeOf21
 v21:=Tryz.zeroValue21
 t37:=Tryz.underlying234
 a37:=Tryz.isAgg234
 z37:=Tryz.sizeOf234
 v37:=Tryz.zeroValue234
 t46:=Tryz.underlying225
 a46:=Tryz.isAgg225
 z46:=Tryz.sizeOf225
 v46:=Tryz.zeroValue225
 t51:=Tryz.underlying249
 a51:=Tryz.isAgg249
 z51:=Tryz.sizeOf249
 v51:=Tryz.zeroValue249
 t70:=Tryz.underlying324
 a70:=Tryz.isAgg324
 z70:=Tryz.sizeOf324
 v70:=Tryz.zeroValue324
 t72:=Tryz.underlying326
 a72:=Tryz.isAgg326
 z72:=Tryz.sizeOf326
 v72:=Tryz.zeroValue326
 t75:=Tryz.underlying309
 a75:=Tryz.isAgg309
 z75:=Tryz.sizeOf309
 v75:=Tryz.zeroValue309
 t76:=Tryz.underlying310
 a76:=Tryz.isAgg310
 z76:=Tryz.sizeOf310
 v76:=Tryz.zeroValue310
 t105:=Tryz.underlying327
 a105:=Tryz.isAgg327
 z105:=Tryz.sizeOf327
 v105:=Tryz.zeroValue327
 t119:=Tryz.underlying349
 a119:=Tryz.isAgg349
 z119:=Tryz.sizeOf349
 t127:=Tryz.underlying338
 a127:=Tryz.isAgg338
 z127:=Tryz.sizeOf338
 v127:=Tryz.zeroValue338
 t138:=Tryz.underlying351
 a138:=Tryz.isAgg351
 z138:=Tryz.sizeOf351
 v138:=Tryz.zeroValue351
 t139:=Tryz.underlying352
 a139:=Tryz.isAgg352
 z139:=Tryz.sizeOf352
 v139:=Tryz.zeroValue352
 t146:=Tryz.underlying312
 a146:=Tryz.isAgg312
 z146:=Tryz.sizeOf312
 v146:=Tryz.zeroValue312
 t164:=Tryz.underlying346
 a164:=Tryz.isAgg346
 z164:=Tryz.sizeOf346
 v164:=Tryz.zeroValue346
 g1:=by kernel_rfl
 g3:=by kernel_rfl
 g4:=by kernel_rfl}
theorem Tryz.M5:Builder.Extra Tryz.prog Tryz.R5:={
 sizeBuilder:=by kernel_rfl
 liesBuilder:=by kernel_rfl
 t5:=Tryz.underlying5
 a5:=Tryz.isAgg5
 z5:=Tryz.sizeOf5
 v5:=Tryz.zeroValue5
 infoByte:=by kernel_rfl
 cellsByte:=by kernel_rfl
 sizeByte:=by kernel_rfl
 neB5:=by decide}
open Go.RowKit Go.Lib in
theorem Tryz.strings_ReplaceAll (s old new:ByteArray)(m:Int)(w:World)(hs:s.size<4294967281)(hm:w.cell? ⟨1,0,none⟩=some (.int .i64 m))(h1:1<=old.size)(hlen:s.size+Lib.countB s old*new.size<=140737488355328):
  Calls Tryz.prog 355 #[.string s,.string old,.string new] w fun e w'=>
   e= .returned (.string ⟨(Lib.replaceAll s.data.toList old.data.toList new.data.toList).toArray⟩)/\Below w.heap.size w w':=Any.strings_ReplaceAll Tryz.awL Tryz.M5 s old new m w hs hm h1 hlen
def Tryz.aeH:Go.Shelf.Ren:=⟨fun|150=>202|153=>254|152=>304|226=>305|227=>306|228=>307|137=>341|119=>342|224=>343|225=>344|217=>366|266=>386|n=>n,fun|9=>9|4=>4|3=>3|5=>5|21=>21|117=>270|116=>269|0=>0|46=>225|124=>289|n=>n,fun|n=>n⟩
theorem Tryz.av1:Go.Proofs.Lays.n150 Tryz.prog Tryz.aeH:={
 mixed:=by kernel_rfl
 f119:=Tryz.func342.trans (congrArg some (by kernel_rfl))
 f137:=Tryz.func341.trans (congrArg some (by kernel_rfl))
 f150:=Tryz.func202.trans (congrArg some (by kernel_rfl))
 f152:=Tryz.func304.trans (congrArg some (by kernel_rfl))
 f153:=Tryz.func254.trans (congrArg some (by kernel_rfl))
 f217:=Tryz.func366.trans (congrArg some (by kernel_rfl))
 f224:=Tryz.func343.trans (congrArg some (by kernel_rfl))
 f225:=Tryz.func344.trans (congrArg some (by kernel_rfl))
 f226:=Tryz.func305.trans (congrArg some (by kernel_rfl))
 f227:=Tryz.func306.trans (congrArg some (by kernel_rfl))
 f228:=Tryz.func307.trans (congrArg some (by kernel_rfl))
 f266:=Tryz.func386.trans (congrArg some (by kernel_rfl))
 t0:=Tryz.underlying0
 a0:=Tryz.isAgg0
 z0:=Tryz.sizeOf0
 v0:=Tryz.zeroValue0
 t3:=Tryz.underlying3
 a3:=Tryz.isAgg3
 z3:=Tryz.sizeOf3
 v3:=Tryz.zeroValue3
 t4:=Tryz.underlying4
 a4:=Tryz.isAgg4
 z4:=Tryz.sizeOf4
 v4:=Tryz.zeroValue4
 t5:=Tryz.underlying5
 a5:=Tryz.isAgg5
 z5:=Tryz.sizeOf5
 v5:=Tryz.zeroValue5
 t9:=Tryz.underlying9
 a9:=Tryz.isAgg9
 z9:=Tryz.sizeOf9
 v9:=Tryz.zeroValue9
 t21:=Tryz.underlying21
 a21:=Tryz.isAgg21
 z21:=Tryz.sizeOf21
 v21:=Tryz.zeroValue21
 t46:=Tryz.underlying225
 a46:=Tryz.isAgg225
 z46:=Tryz.sizeOf225
 v46:=Tryz.zeroValue225
 t116:=Tryz.underlying269
 a116:=Tryz.isAgg269
 z116:=Tryz.sizeOf269
 t117:=Tryz.underlying270
 a117:=Tryz.isAgg270
 z117:=Tryz.sizeOf270
 v117:=Tryz.zeroValue270
 t124:=Tryz.underlying289
 a124:=Tryz.isAgg289
 z124:=Tryz.sizeOf289
 v124:=Tryz.zeroValue289}
open Go.RowKit Go.Lib in
theorem Tryz.strings_ContainsAny_laid (s chars:ByteArray)(w:World)(hs:s.size<4294967281)(hcs:chars.size<4294967281)(has:∀(j:Nat) b,s.data.toList[j]?=some b->b.toNat<128)(hac:∀(j:Nat) b,chars.data.toList[j]?=some b->b.toNat<128):
  Calls Tryz.prog 202 #[.string s,.string chars] w fun e w'=>e= .returned (.bool (Lib.containsAny s.data.toList chars.data.toList))/\Below w.heap.size w w':=Any.strings_ContainsAny_laid Tryz.av1 (by kernel_rfl) s chars w hs hcs has hac
def Tryz.agY:Go.Shelf.Ren:=⟨fun|212=>348|263=>367|264=>368|n=>n,fun|46=>225|51=>249|146=>312|53=>251|148=>314|n=>n,fun|n=>n⟩
theorem Tryz.azG:Go.Proofs.Lays.n212 Tryz.prog Tryz.agY:={
 mixed:=by kernel_rfl
 f212:=Tryz.func348.trans (congrArg some (by kernel_rfl))
 f263:=Tryz.func367.trans (congrArg some (by kernel_rfl))
 f264:=Tryz.func368.trans (congrArg some (by kernel_rfl))
 t46:=Tryz.underlying225
 a46:=Tryz.isAgg225
 z46:=Tryz.sizeOf225
 v46:=Tryz.zeroValue225
 t51:=Tryz.underlying249
 a51:=Tryz.isAgg249
 z51:=Tryz.sizeOf249
 v51:=Tryz.zeroValue249
 t53:=Tryz.underlying251
 a53:=Tryz.isAgg251
 z53:=Tryz.sizeOf251
 v53:=Tryz.zeroValue251
 t146:=Tryz.underlying312
 a146:=Tryz.isAgg312
 z146:=Tryz.sizeOf312
 v146:=Tryz.zeroValue312
 t148:=Tryz.underlying314
 a148:=Tryz.isAgg314
 z148:=Tryz.sizeOf314
 v148:=Tryz.zeroValue314}
open Go.RowKit Go.Lib in
theorem Tryz.bits_Mul (x y:Nat)(hx:x<18446744073709551616)(hy:y<18446744073709551616)(w:World):
  Calls Tryz.prog 348 #[.int .u64 x,.int .u64 y] w fun e w'=>e= .returned (.tuple #[.int .u64 ((x*y/18446744073709551616:Nat):Int),.int .u64 ((x*y % 18446744073709551616:Nat):Int)])/\w'=w:=Any.bits_Mul Tryz.azG x y hx hy w
def Tryz.aeA:Go.Shelf.Ren:=⟨fun|229=>335|n=>n,fun|9=>9|40=>287|31=>97|152=>304|3=>3|0=>0|4=>4|21=>21|154=>306|n=>n,fun|n=>n⟩
theorem Tryz.avZ:Go.Proofs.Lays.n229 Tryz.prog Tryz.aeA:={
 mixed:=by kernel_rfl
 f229:=Tryz.func335.trans (congrArg some (by kernel_rfl))
 t0:=Tryz.underlying0
 a0:=Tryz.isAgg0
 z0:=Tryz.sizeOf0
 v0:=Tryz.zeroValue0
 t3:=Tryz.underlying3
 a3:=Tryz.isAgg3
 z3:=Tryz.sizeOf3
 v3:=Tryz.zeroValue3
 t4:=Tryz.underlying4
 a4:=Tryz.isAgg4
 z4:=Tryz.sizeOf4
 v4:=Tryz.zeroValue4
 t9:=Tryz.underlying9
 a9:=Tryz.isAgg9
 z9:=Tryz.sizeOf9
 v9:=Tryz.zeroValue9
 t21:=Tryz.underlying21
 a21:=Tryz.isAgg21
 z21:=Tryz.sizeOf21
 v21:=Tryz.zeroValue21
 t31:=Tryz.underlying97
 a31:=Tryz.isAgg97
 z31:=Tryz.sizeOf97
 v31:=Tryz.zeroValue97
 t40:=Tryz.underlying287
 a40:=Tryz.isAgg287
 z40:=Tryz.sizeOf287
 v40:=Tryz.zeroValue287
 t152:=Tryz.underlying304
 a152:=Tryz.isAgg304
 z152:=Tryz.sizeOf304
 v152:=Tryz.zeroValue304
 t154:=Tryz.underlying306
 a154:=Tryz.isAgg306
 z154:=Tryz.sizeOf306
 v154:=Tryz.zeroValue306}
open Go.RowKit Go.Lib in
theorem Tryz.strings_FieldsFunc_grows (g:Nat)(lb:Array Value)(eg:∀args w,(callFunc g args).run Tryz.prog w= .ok (.enter g args) w)(p:Nat->Bool)(s:ByteArray)(w:World)(hs:s.size<=4294967296)(hp:PredGrows Tryz.prog g lb p w):
  Calls Tryz.prog 335 #[.string s,.func (.func g) #[] lb] w fun e w'=>∃A,e= .returned (.slice (some ⟨A,0,none⟩) (Lib.goFieldsP p s).length (Lib.goFieldsP p s).length)/\w.heap.size<=A/\
   w'.ownsRow w.heap.size 9 1 (.slice (some ⟨A,0,none⟩) (Lib.goFieldsP p s).length (Lib.goFieldsP p s).length) (Lib.goFieldsP p s).length ((Lib.goFieldsP p s).map Value.string)/\Below w.heap.size w w':=Any.strings_FieldsFunc_grows Tryz.avZ g lb eg p s w hs hp (by kernel_rfl) (by kernel_rfl)
def Tryz.Y6:Go.Shelf.Ren:=⟨fun|16=>332|n=>n,fun|24=>97|9=>9|4=>4|n=>n,fun|n=>n⟩
theorem Tryz.RJ:Go.Proofs.Lays2.n16 Tryz.prog Tryz.Y6:={
 mixed:=by kernel_rfl
 f16:=Tryz.func332.trans (congrArg some (by kernel_rfl))
 t4:=Tryz.underlying4
 a4:=Tryz.isAgg4
 z4:=Tryz.sizeOf4
 v4:=Tryz.zeroValue4
 t9:=Tryz.underlying9
 a9:=Tryz.isAgg9
 z9:=Tryz.sizeOf9
 v9:=Tryz.zeroValue9
 t24:=Tryz.underlying97
 a24:=Tryz.isAgg97
 z24:=Tryz.sizeOf97
 v24:=Tryz.zeroValue97
 i9:=by kernel_rfl}
open Go.RowKit Go.Lib in
theorem Tryz.slices_Clone_string (b off n c:Nat)(zs:List ByteArray)(w:World)(hz:n<=zs.length)(hbig:n*16<=140737488355328)(hc:∀j,j<zs.length->w.cell? ⟨b,off+j,none⟩=some (.string (zs.getD j ByteArray.empty))):
  Calls Tryz.prog 332 #[.slice (some ⟨b,off,none⟩) n c] w fun e w'=>∃v',e= .returned v'/\w'.ownsRow w.heap.size 9 1 v' n ((zs.take n).map (Value.string))/\v'≠ .slice none 0 0/\Below w.heap.size w w':=Any.slices_Clone_string Tryz.RJ b off n c zs w hz hbig hc
open Go.RowKit Go.Lib in
theorem Tryz.slices_Clone_string_nil (n c:Nat)(w:World):
  Calls Tryz.prog 332 #[.slice none n c] w fun e w'=>e= .returned (.slice none 0 0)/\w'=w:=Any.slices_Clone_string_nil Tryz.RJ n c w
open Go.RowKit Go.Lib in
theorem Tryz.slices_Clone_string_zero (a:Addr)(c:Nat)(w:World):
  Calls Tryz.prog 332 #[.slice (some a) 0 c] w fun e w'=>∃v',e= .returned v'/\w'.ownsRow w.heap.size 9 1 v' 0 []/\v'≠ .slice none 0 0/\Below w.heap.size w w':=Any.slices_Clone_string_zero Tryz.RJ a c w
def Tryz.aeP:Go.Shelf.Ren:=⟨fun|194=>334|n=>n,fun|31=>97|9=>9|3=>3|4=>4|0=>0|n=>n,fun|n=>n⟩
theorem Tryz.akQ:Go.Proofs.Lays.n194 Tryz.prog Tryz.aeP:={
 mixed:=by kernel_rfl
 f194:=Tryz.func334.trans (congrArg some (by kernel_rfl))
 t0:=Tryz.underlying0
 a0:=Tryz.isAgg0
 z0:=Tryz.sizeOf0
 v0:=Tryz.zeroValue0
 t3:=Tryz.underlying3
 a3:=Tryz.isAgg3
 z3:=Tryz.sizeOf3
 v3:=Tryz.zeroValue3
 t4:=Tryz.underlying4
 a4:=Tryz.isAgg4
 z4:=Tryz.sizeOf4
 v4:=Tryz.zeroValue4
 t9:=Tryz.underlying9
 a9:=Tryz.isAgg9
 z9:=Tryz.sizeOf9
 v9:=Tryz.zeroValue9
 t31:=Tryz.underlying97
 a31:=Tryz.isAgg97
 z31:=Tryz.sizeOf97
 v31:=Tryz.zeroValue97}
open Go.RowKit Go.Lib Go.Sort in
theorem Tryz.slices_Compact_string (blk off cap:Nat)(zs:List (List UInt8))(w:World)(hH:Holds encStr w blk off zs.toArray)(hsz:zs.length<=9223372036854775807)(hcap:zs.length<=cap):
  Calls Tryz.prog 334 #[.slice (some ⟨blk,off,none⟩) zs.length cap] w fun e w'=>e= .returned (.slice (some ⟨blk,off,none⟩) (Lib.compact zs).length cap)/\∃q,w'=putRow encStr (Sort.ahead w q) blk off (Lib.compact zs++List.replicate (zs.length-(Lib.compact zs).length) []).toArray:=Any.slices_Compact_string Tryz.akQ blk off cap zs w hH hsz hcap
open Go.RowKit Go.Lib Go.Sort in
theorem Tryz.slices_Compact_string_empty (a:Option Addr)(cap:Nat)(w:World):
  Calls Tryz.prog 334 #[.slice a 0 cap] w fun e w'=>e= .returned (.slice a 0 cap)/\w'=w:=Any.slices_Compact_string_empty Tryz.akQ a cap w
end Go.Proofs
end
section
namespace Go.Proofs.YtnglphdfhegnmaaGreatDoor
open Go.Dv Go.Pl Go.Proofs.Tryz
def cfB (cf:Ver->Ver->Int)(v c:Ver):Bool:=decide (cf v c<0)
def srt (cf:Ver->Ver->Int)(l:List Ver)(i:Nat):List Ver:=gV (cfB cf) (l.take i)
def akC (cf:Ver->Ver->Int)(l:List Ver)(i:Nat):List Ver:=srt cf l i++l.drop i
def ZH (cf:Ver->Ver->Int)(l:List Ver)(i j:Nat)(v:Ver):List Ver:=sJ (cfB cf) l i j v
theorem ayC {cf:Ver->Ver->Int}{l:List Ver}{i k:Nat}{c:Ver}(h:(srt cf l i)[k]?=some c):c∈l:=by
 have h1:=(wB (cfB cf) (l.take i) []).mem_iff (a:=c);rw[List.nil_append]at h1;exact List.mem_of_mem_take (h1.1 (List.mem_of_getElem? h))
theorem ar7 (cf:Ver->Ver->Int)(l:List Ver):akC cf l 1=l:=by
 cases l with
 |nil=>rfl
 |cons x l=>rfl
theorem avF (cf:Ver->Ver->Int){l:List Ver}{i:Nat}(h:l.length<=i):akC cf l i=gV (cfB cf) l:=by unfold akC srt;rw[List.take_of_length_le h,List.drop_eq_nil_of_le h,List.append_nil]
theorem ao8 {cf:Ver->Ver->Int}{l:List Ver}{i j:Nat}{v c:Ver}(hi:i<l.length)(hj:0<j/\j<=i)(hc:(srt cf l i)[j-1]?=some c):(((ZH cf l i j v).map dP).set j (dP c)).set (j-1) (dP v)=(ZH cf l i (j-1) v).map dP:=by
 rw[←List.map_set,←List.map_set];have:=anB (p:=cfB cf) (j:=j-1) (v:=v) hi (by omega) hc;rw[show j-1+1=j by omega]at this;exact congrArg _ this
theorem avA (l:List Ver)(cf:Ver->Ver->Int)(g:FuncId)(E:Dv.Enters prog g)(U:T (1000000+g)=⟨.no,0,.any 0⟩)(G:∀a∈l,∀b∈l,bR prog g [dP a,dP b] (fun r=>r= .val (dI (cf a b))))(hl:l.length<=1048576):zX prog 255 [.one (.bool false),dI 0,dI l.length,.one (.func (.func g) #[] #[])] 0 (bN l) (fun r d=>r= .tup []/\d=bN (gV (cfB cf) l)):=by
 refine fM good [] func255 ntmps255 fun w0 ow0 v0=> ?_;have h00:=ar7 cf l;simp[go_sem];refine ai ?_;refine wl good (fun(i:Nat)=>[(0,.own (bN (akC cf l i))),(1,.val (dI 0)),(2,.val (dI l.length)),(3,.val (.one (.func (.func g) #[] #[]))),(8,.val (dI i))]) (fun(i:Nat)=>l.length-i) (fun(i:Nat)=>(1<=i/\i<=l.length+1)) (1) (by omega) ?_ (h0:=by simp[go_sem,E,U,h00]);rintro i h1;simp[go_sem];refine gw (fun a=> ?_) (fun a=> ?_)
 ·obtain⟨v,hv⟩:=aC (l:=l) (i:=i) (by omega);have hin:ZH cf l i i v=akC cf l i:=av5 (p:=cfB cf) hv;have hsl:=sZ (p:=cfB cf) (l:=l) (i:=i) (by omega);simp[go_sem];refine wl good (fun(j:Nat)=>[(0,.own (bN (ZH cf l i j v))),(1,.val (dI 0)),(2,.val (dI l.length)),(3,.val (.one (.func (.func g) #[] #[]))),(8,.val (dI i)),(9,.val (dI j))]) (fun(j:Nat)=>j) (fun(j:Nat)=>(j<=i)/\(∀k c,j<=k->(srt cf l i)[k]?=some c->cfB cf v c=true)) (i) ⟨(by omega),(fun k c hk hc=>absurd (aS hc) (by unfold srt;omega))⟩ ?_ (h0:=by simp[go_sem,E,U,h00,hin]);rintro j ⟨h2,h3⟩;have hnow:(ZH cf l i j v)[j]?=some v:=atY a h2;simp[go_sem];refine wdt good 14 ?_;simp[go_sem];refine gv (fun e=> ?_) (fun e=> ?_)
  ·have e':=e;obtain⟨c,hc⟩:=aC (l:=srt cf l i) (i:=j-1) (by unfold srt;omega);have hprev:(ZH cf l i j v)[j-1]?=some c:=by have:=amZ (p:=cfB cf) (v:=v) a (show j-1<i by omega) hc;rwa [show j-1+1=j by omega]at this
   have hj1:((j:Int)-1).toNat=j-1:=by omega
   have hsw:=ao8 (v:=v) a ⟨by omega,h2⟩ hc;have hs2:∀x:D,(((ZH cf l i j v).map dP).set j x)[j-1]?=some (dP c):=fun x=>by rw[List.getElem?_set_ne (by omega),List.getElem?_map,hprev];rfl
   have hj2:(j:Int)-1=((j-1:Nat):Int):=by omega
   simp[go_sem,E,U,e,hnow,hprev,hj2];refine ai ?_;refine ck ((G v (List.mem_of_getElem? hv) c (ayC hc))) ?_;simp[go_sem];refine gw (fun b=> ?_) (fun b=> ?_)
   ·simp[go_sem];refine wdh good [2,3] [(15,[51,46,0,37,39,42,45,47,49,50]),(17,[52,50,0,37,39,42,45,46,47,49,51])] [(0,.own (bN (ZH cf l i j v))),(1,.val (dI 0)),(2,.val (dI l.length)),(3,.val (.one (.func (.func g) #[] #[]))),(8,.val (dI i)),(9,.val (dI j)),(39,.al 0 []),(40,.val (dI j))] [] ?_;simp[go_sem,hnow,hprev,hsw,hs2,hj2];refine ai ?_;refine nx (j-1) ⟨(by omega),(fun k c2 hk hc2=>by by_cases hkj:k=j-1;(subst hkj;rw[hc]at hc2;cases hc2;exact decide_eq_true b);exact h3 k c2 (by omega) hc2)⟩
   ·simp at b;have ho:ZH cf l i j v=akC cf l (i+1):=ae1 hv h2 h3 (.inr ⟨c,hc,by unfold cfB;exact decide_eq_false (by omega)⟩);simp[go_sem,ho];refine ai ?_;refine nx (i+1) (by omega)
  ·have e':=e;simp at e';have ho:ZH cf l i j v=akC cf l (i+1):=ae1 hv h2 h3 (.inl (by omega));simp[go_sem,e,ho];refine ai ?_;refine nx (i+1) (by omega)
 ·simp at a;have ho:=avF cf (l:=l) (i:=i) (by omega);simp[go_sem,ho]
end Go.Proofs.YtnglphdfhegnmaaGreatDoor
end
section
namespace Go.Proofs.YtnglphdfhegnmaaGreatDoor
open Go.Dv Go.Pl Go.RowKit Go.Proofs.Tryz
def jO (n k:Nat)(v:Int):List Value:=List.replicate k (.int .i64 v)++List.replicate (n-k) (.int .i64 0)
theorem an2 {n k:Nat}{v:Int}(h:k<=n):(jO n k v).length=n:=by simp[jO];omega
theorem aoH (n:Nat)(v:Int):jO n n v=List.replicate n (.int .i64 v):=by simp[jO]
theorem N9 {n k j:Nat}{v:Int}(h:k+j<=n):splice (jO n k v) k (List.replicate j (.int .i64 v))=jO n (k+j) v:=by
 have h1:(jO n k v).take k=List.replicate k (.int .i64 v):=by unfold jO;rw[List.take_left' (by simp)]
 have h2:(jO n k v).drop (k+j)=List.replicate (n-(k+j)) (.int .i64 0):=by
  unfold jO;rw[List.drop_append,List.drop_eq_nil_of_le (by simp),List.nil_append,List.drop_replicate,List.length_replicate];congr 1;omega
 rw[splice,h1,List.length_replicate,h2,←List.append_assoc,List.replicate_append_replicate];rfl
theorem at5 {z:Value}(n:Nat)(v:Int)(hz:z.cells= #[.int .i64 0]):madeCells z.cells (n*1)=(jO n 0 v).toArray:=by
 rw[hz];apply Array.toList_inj.1;apply List.ext_getElem?;intro i;by_cases hi:i<n<;>simp[madeCells,jO,hi,Nat.mod_one]
theorem ajK (v:Int)(n b off cap:Nat)(w:World)(hn:1<=n/\n<=8)(hc:w.cell? ⟨b,off,none⟩=some (.int .i64 v))(hb:b<w.heap.size):
  Calls prog 318 #[.slice (some ⟨b,off,none⟩) 1 cap,.int .i64 n] w fun e w'=>∃g,e= .returned (.slice (some ⟨g,0,none⟩) n n)/\w.heap.size<=g/\w'.heap[g]?=some (.cells (List.replicate n (Value.int .i64 v)).toArray 3 (0,0))/\Below w.heap.size w w':=by
 go_enter func318,ntmps318;have e1:(1*n/18446744073709551616:Nat)=0:=by omega
 have e2:(1*n % 18446744073709551616:Nat)=n:=by omega
 have hm:∀w,Calls prog 348 #[.int .u64 1,.int .u64 n] w fun e w'=>e= .returned (.tuple #[.int .u64 0,.int .u64 n])/\w'=w:=fun w=>by have:=Tryz.bits_Mul 1 n (by omega) (by omega) w;rw[e1,e2]at this;exact this
 obtain⟨hu,i,zv,hi,hsz,hz,hflat,_⟩:=(good 3).of (fun x h e=>by rw[e]at h;cases h);have hby:i.bytes<=4096:=by rename_i h;exact h.2.2.1
 have hzc:zv.cells= #[.int .i64 0]:=by
  have h9:some zv.cells.toList=some [Value.int .i64 0]:=hflat.symm;exact Array.toList_inj.1 (Option.some.inj h9)
 have hsz1:i.size=1:=hsz
 have hmk:∀w,(Instr.makeSlice 25 (.int .i64 (n:Int)) (.int .i64 (n:Int))).run prog w= .ok (.slice (some ⟨w.heap.size,0,none⟩) n n) (w.alloc (.cells (jO n 0 v).toArray 3)):=fun w=>by
  have:=run_make (P:=prog) (w:=w) 25 3 i zv underlying25 hi hz .i64 .i64 n n (by omega) (by omega) (by have:(i.bytes:Int)<=4096:=(by omega);have h2:(i.bytes:Int)*n<=4096*n:=Int.mul_le_mul_of_nonneg_right this (by omega);omega) (by omega);rw[this,hsz1];simp only[Int.toNat_natCast];rw[at5 n v hzc]
 have g1:¬(9223372036854775807<(n:Int)):=by omega
 have g2:¬((n:Int)<0):=by omega
 have hinfo:(prog.info? 3).map (·.size)=some 1:=by rw[hi];simp[hsz1]
 have hinf:=hinfo;clear hinfo hi hz hflat hzc hsz hu hby
 have hn0:(w.alloc (.cells (jO n 0 v).toArray 3)).heap[w.heap.size]?=some (.cells (jO n 0 v).toArray 3 (0,0)):=heap_alloc_new w _
 have hc0:(w.alloc (.cells (jO n 0 v).toArray 3)).cell? ⟨b,off,none⟩=some (.int .i64 v):=by
  have e:(w.alloc (.cells (jO n 0 v).toArray 3)).heap[b]?=w.heap[b]?:=by show(w.heap.push _)[b]?=_;rw[Array.getElem?_push,if_neg (by omega)]
  simp only[World.cell?,e]at hc|-;exact hc
 have hsp0:(splice (jO n 0 v) 0 [Value.int .i64 v])=jO n 1 v:=by have:=N9 (n:=n) (k:=0) (j:=1) (v:=v) (by omega);simpa using this
 obtain⟨wa,hwa⟩:∃wa,wa=(w.alloc (.cells (jO n 0 v).toArray 3)):=⟨_,rfl⟩;have hBa:Below w.heap.size w wa:=hwa▸(Below.refl _ w).alloc (Nat.le_refl _) _;have hmk1:=hmk w;rw[←hwa]at hn0 hc0 hmk1
 have hcp:(Builtin.copy_ #[25,25] 3 #[.slice (some ⟨w.heap.size,0,none⟩) n n,.slice (some ⟨b,off,none⟩) 1 cap]).run prog wa= .ok (goInt 1) (wa.setRow w.heap.size (jO n 1 v).toArray):=by
  have h:=run_copy_row (P:=prog) wa 25 25 3 3 w.heap.size 0 n n ⟨b,off,none⟩ 1 cap (jO n 0 v).toArray 3 [.int .i64 v] underlying25 hinf hn0 (by simp[Nat.min_def];omega) (fun j u hj=> ?_) (by simp[jO];omega) (by simp[Value.oneCell'])
  ·rw[←hsp0];exact h
  ·match j,hj with
   |0,hj=>
    obtain rfl:Value.int .i64 v=u:=by simpa using hj
    exact hc0
   |j+1,hj=>simp at hj
 obtain⟨w2,hw2⟩:∃w2,w2=(wa.setRow w.heap.size (jO n 1 v).toArray):=⟨_,rfl⟩;have hB2:Below w.heap.size w w2:=hw2▸below_setRow hBa (Nat.le_refl _) _;have hg2:w2.heap[w.heap.size]?=some (.cells (jO n 1 v).toArray 3 (0,0)):=by rw[hw2];exact setRow_heap _ _ _ _ _ _ hn0
 rw[←hw2]at hcp;clear hmk hn0 hc0 hBa hwa hw2 hsp0
 go_wp2_with (first|(go_at_call 348;refine(hm _).mono ?_;rintro e w1 ⟨rfl,hw1⟩;obtain rfl:=hw1.symm))
 go_loopw [8] (fun x w'=>∃k:Nat,x= .int .i64 k/\1<=k/\k<=n/\w'.heap[w.heap.size]?=some (.cells (jO n k v).toArray 3 (0,0))/\Below w.heap.size w w') (fun x _=>match x with| .int _ i=>n-i.toNat|_=>0)
 case atStart=>exact⟨1,rfl,Nat.le_refl _,hn.1,hg2,hB2⟩
 case round=>
  obtain⟨k,rfl,hk1,hk2,hgk,hBk⟩:=hrel
  go_wp2
  ·obtain⟨cs,hcs⟩:∃cs,cs=List.replicate (min k (n-k)) (Value.int .i64 v):=⟨_,rfl⟩;have hl:cs.length=min k (n-k):=by simp[hcs]
   have hrow:∀j u,cs[j]?=some u->wr.cell? ((⟨w.heap.size,0,none⟩:Addr).add j)=some u:=by
    intro j u hj;have hlt:j<min k (n-k):=by rw[←hl];exact(List.getElem?_eq_some_iff.1 hj).1
    obtain rfl:Value.int .i64 v=u:=by rw[hcs]at hj;simpa[List.getElem?_replicate,hlt]using hj
    rcases Nat.eq_zero_or_pos j with rfl|hj0
    ·simp[World.cell?,Addr.add,hgk,jO,List.getElem?_append,show 0<k by omega]
    ·simp[World.cell?,Addr.add,hgk,jO,List.getElem?_append,show j<k by omega,show¬j=0 by omega]
   have hsp:splice (jO n k v) k cs=jO n (k+min k (n-k)) v:=by rw[hcs];exact N9 (by omega)
   have h1c:∀x∈cs,x.oneCell'=true:=by intro x hx;rw[hcs]at hx;obtain rfl:=(List.mem_replicate.1 hx).2;rfl
   clear hcs
   go_region_law (refine step_copy_splice rfl (.tmp 41) (.tmp 44) 25 25 rfl 3 underlying25 hinf (some ⟨w.heap.size,k,none⟩) (some ⟨w.heap.size,0,none⟩) (n-k) (n-k) k n (by simp[Act.eval,Act.put,show¬n=k by omega]) (by simp[Act.eval,Act.put]) w.heap.size k (jO n k v) 3 hgk cs hl (fun _=>⟨rfl,_,rfl,hrow⟩) (by rw[hl,an2 hk2];omega) h1c w.heap.size w hBk.drew (Nat.le_refl _) ?_;intro w4 hg4 hb4;replace hg4:=hg4.out;rw[hsp]at hg4)
   go_wp2
   have hw:IntKind.i64.wrap ((k:Int)+((min k (n-k):Nat):Int))=((k+min k (n-k):Nat):Int):=by simp[IntKind.wrap,IntKind.bits,IntKind.signed];omega
   rw[hw];refine⟨⟨k+min k (n-k),rfl,by omega,by omega,rfl⟩,?_⟩;simp only[Int.toNat_natCast];omega
  ·obtain rfl:k=n:=by omega
   rw[aoH]at hgk;refine bodyPost_ret (v:= .slice (some ⟨w.heap.size,0,none⟩) k k) ?_ rfl ⟨w.heap.size,rfl,Nat.le_refl _,hgk,hBk⟩;simp[results,Tryz.f318,loadVar]
theorem DK {w:World}{ow:Own}{u v:Value}(h:V prog w ow (D.fz (.one u)) [] v):v=u:=by
 simp only[D.fz,V,R]at h;simpa using h.1
theorem QD {w:World}{ow:Own}{vs:Array Value}{u:Value}(hs:vs.size=1)(h:∀(i:Nat) (d:D),[D.one u][i]?=some d->V prog w ow d.fz [] (vs.getD i undef)):vs= #[u]:=by
 have h0:=DK (h 0 _ rfl);apply Array.ext
 ·simpa using hs
 ·intro i h1 h2;obtain rfl:i=0:=by simpa using h2
  simpa[Array.getD_eq_getD_getElem?,h1]using h0
theorem adK {w:World}{ow:Own}{vs:Array Value}{u u':Value}(hs:vs.size=2)(h:∀(i:Nat) (d:D),[D.one u,D.one u'][i]?=some d->V prog w ow d.fz [] (vs.getD i undef)):vs= #[u,u']:=by
 have h0:=DK (h 0 _ rfl);have h1:=DK (h 1 _ rfl);apply Array.ext
 ·simpa using hs
 ·intro i hi h2;have:i=0\/i=1:=by simp at h2;omega
  rcases this with rfl|rfl
  ·simpa[Array.getD_eq_getD_getElem?,hi]using h0
  ·simpa[Array.getD_eq_getD_getElem?,hi]using h1
theorem aqT {f:FuncId}{ds:List D}{us:List Value}(hu:∀u∈us,u.oneCell'=true)(h:∀(w:World) (ow:Own) (vs:Array Value),Laid w ow->vs.size=ds.length->(∀(i:Nat) (d:D),ds[i]?=some d->V prog w ow d.fz [] (vs.getD i undef))->Calls prog f vs w fun e w'=>e= .returned (.tuple us.toArray)/\Below w.heap.size w w'):
  bR prog f ds (fun r=>r= .tup (us.map fun u=> .val (.one u))):=by
 intro w ow vs t ht hL hnew hvs hargs;refine(h w ow vs hL hvs hargs).mono ?_;rintro e w' ⟨rfl,hB⟩;refine⟨_,fun b=>if b<w.heap.size then ow b else none,_,rfl,rfl,⟨hB.os,hB.tape,hB.output,hB.size,fun b hb=>⟨hB.block b hb,if_pos hb⟩,fun b hb=>if_neg (by have:=hB.size;omega)⟩,rfl,fun s a=> ?_⟩;refine⟨_,rfl,by simp,fun k x hx=> ?_⟩;rw[List.getElem?_map,Option.map_eq_some_iff]at hx;obtain⟨u,hu1,rfl⟩:=hx;have hv:us.toArray.getD k undef=u:=by simp[Array.getD_eq_getD_getElem?,hu1]
 rw[hv];simp only[D.fz,V,R];simpa using hu u (List.mem_of_getElem? hu1)
theorem below_grow {w:World}{k:Nat}{os:Array Obj}:Below w.heap.size w (Go.Sort.grow (w.drewN k) os):=(show Below w.heap.size w (w.drewN k)from⟨rfl,rfl,rfl,Nat.le_refl _,fun _ _=>rfl⟩).trans ⟨rfl,rfl,rfl,by simp[Go.Sort.grow],fun b hb=>by simp[Go.Sort.grow,Array.getElem?_append,hb]⟩
theorem ayF {w:World}{ow:Own}{l:List Int}{v:Value}(h:V prog w ow (D.fz (nInts l)) [] v):∃a cap,v= .slice a l.length cap/\l.length<=cap/\(l=[]\/∃b off,a=some ⟨b,off,none⟩/\b<w.heap.size/\∀(j:Nat) x,l[j]?=some x->w.cell? ⟨b,off+j,none⟩=some (.int .i64 x)):=by
 have hfz:D.fz (nInts l)=nInts l:=by simp[D.fz,D.EZ]
 rw[hfz]at h;simp only[V,R]at h;obtain⟨a,cap,h1,h2,h3,h4⟩:=h;have h1:v= .slice a (l.map dI).length cap:=by simpa using h1
 rw[List.length_map]at h1 h2;refine⟨a,cap,h1,h2,?_⟩;rcases h4 with h4|h4|⟨b,off,s,C,e,fz,ha,hh,hn,hs,hr⟩
 ·exact .inl (by simpa using h4.2.1)
 ·exact .inl (by simpa using h4.2)
 ·refine .inr ⟨b,off,ha,lt_of_heap hh,fun j x hx=> ?_⟩;have:=(Rs.iff hh).1 hr j (dI x) (by rw[List.getElem?_map,hx];rfl);obtain⟨hw,C',e',fz',cs,g1,g2,g3⟩:=this;have hs1:s=1:=hw.symm;subst hs1;rw[hh]at g1;obtain⟨rfl,rfl,rfl⟩:C=C'/\e=e'/\fz=fz':=by simpa using g1
  simp only[R]at g3;obtain⟨rfl,_⟩:=g3;rw[cell_of_row w b (off+j) C e fz hh];have:=g2 0 (by simp[D.w]);simpa using this
theorem aAP (v:Int)(n:Nat)(hn:1<=n/\n<=8):bR prog 318 [nInts [v],dI n] (fun r=>r= .own (aD (List.replicate n v))):=by
 intro w ow vs t ht hL hnew hsz ha;have h0:=ha 0 _ rfl;have h1:=DK (ha 1 _ rfl);obtain⟨a,cap,hv,hcap,hc⟩:=ayF h0
 obtain rfl:vs= #[.slice a 1 cap,.int .i64 n]:=by
  apply Array.ext
  ·simpa using hsz
  ·intro i hi h2;have:i=0\/i=1:=by simp at h2;omega
   rcases this with rfl|rfl
   ·simpa[Array.getD_eq_getD_getElem?,hi]using hv
   ·simpa[Array.getD_eq_getD_getElem?,hi]using h1
 rcases hc with hc|⟨b,off,rfl,hb,hcell⟩
 ·cases hc
 refine(ajK v n b off cap w hn (hcell 0 v rfl) hb).mono ?_;rintro e w' ⟨g,rfl,hg,hrow,hB⟩;have hlt:g<w'.heap.size:=lt_of_heap hrow;refine⟨_,fun b=>if b=g then some [t]else if b<w.heap.size then ow b else none,_,rfl,rfl,⟨hB.os,hB.tape,hB.output,hB.size,fun b hb=>⟨?_,?_⟩,fun b hb=> ?_⟩,rfl,fun s' a=> ?_⟩
 ·exact hB.block b hb
 ·rw[if_neg (by omega),if_pos hb]
 ·have:=hB.size;rw[if_neg (by omega),if_neg (by omega)]
 ·simp only[SV,V,R];refine⟨some ⟨g,0,none⟩,n,by simp,by simp,by unfold maxLen;omega,.inr (.inr ⟨g,0,1,_,3,(0,0),rfl,hrow,(by intro h;cases h),fun t' ht'=> ?_,?_⟩)⟩
  ·obtain rfl:=Option.some.inj ht';obtain⟨_,i,zv,hi,hsz,_⟩:=(good 3).of (fun x h e=>by rw[e]at h;cases h);exact⟨by simp,rfl,unfz0 _,rfl,by simp,i,hi,hsz⟩
  ·rw[Rs.iff hrow];intro j x hx;rw[List.getElem?_map,Option.map_eq_some_iff]at hx;obtain⟨y,hy,rfl⟩:=hx
   obtain⟨hj,rfl⟩:j<n/\v=y:=by
    have h1:=(List.getElem?_eq_some_iff.1 hy).1;simp at h1;exact⟨h1,by simpa[List.getElem?_replicate,h1]using hy⟩
   refine⟨rfl,_,_,_,[.int .i64 v],hrow,fun k hk=> ?_,?_⟩
   ·obtain rfl:k=0:=by simpa[D.w]using hk
    simp[hj]
   ·simp[R,Value.oneCell']
end Go.Proofs.YtnglphdfhegnmaaGreatDoor
end
section
namespace Go.Dv
open Go.RowKit
variable [eZ]
section
variable {P:Program}{T:TypeId->TyE}{n:Nat}{ops:Array Oper}{p:Pin}{w0:World}{ow0:Own}
theorem Ok.mono {o:Oper}{s:St}{K K':St->Prop}(h:Ok P n w0 ow0 o s K)(hK:∀s',K s'->K' s'):Ok P n w0 ow0 o s K':=fun a w hR next Q hn=>h a w hR next Q fun s' a' w' hk hR'=>hn s' a' w' (hK s' hk) hR'
theorem aD4 (hG:∀t,Good P T t) {sp:List Nat}{s:St}{K:Exit->St->Prop}{i:Nat}(m:Nat) {o:Oper}{l2:List Oper}(ho:ops.toList.drop m=o::l2) (hg:o.guard=none)
  {K1:St->Prop}(h:vcL P T n ops (ops.toList.take m) s K1) (hK1:∀s1,K1 s1->Ok P n w0 ow0 o s1 (fun s2=>vcL P T n ops l2 s2 (fun s3=> @GR s3 ⟨K⟩))):
  @lD _ P T n w0 ow0 p sp ⟨.region i ops false⟩ s ⟨K⟩:=fun hd a w hR hp Q hQ=>wp_region_list (by
 have hd':kE p ops.toList=true:=hd
 have:=GA (Q:=Q) (l2:=ops.toList.drop m) (ops.toList.take m) s _ (uK hG _ _ _ h) (fun o ho=>kE.one hd' o (List.mem_of_mem_take ho)) a w hR hp fun s' a' w' hK hR' hp'=>by
  refine OkL.wp (ops.toList.drop m) s' (fun s3=> @GR s3 ⟨K⟩) ?_ (fun o ho=>kE.one hd' o (List.mem_of_mem_drop ho)) a' w' hR' hp' fun s2 a2 w2 hK2 hR2 hp2=>hQ _ _ _ _ hK2 hR2 hp2;rw[ho];unfold OkL gK;rw[hg];exact(hK1 s' hK).mono fun s2 h2=>uK hG _ _ _ h2
 rwa [List.take_append_drop]at this)
end
end Go.Dv
end
section
namespace Go.Proofs.YtnglphdfhegnmaaGreatDoor
open Go.Dv Go.Pl Go.RowKit Go.Proofs.Tryz
theorem ad5 (n:Nat)(hn:n<=1048576):bR prog 211 [.one (.int .u64 n)] (fun r=>r= .val (dI (Lib.bitLen n))):=
 uJ (u:= .int .i64 (Lib.bitLen n)) rfl fun w ow vs hL hs ha=>by
  obtain rfl:=QD hs ha;have:=Tryz.bits_Len n w (by omega) (by omega);exact this.mono fun e w' h=>⟨h.1,h.2▸Below.refl _ _⟩
theorem an9 (l:List Ver)(cf:Ver->Ver->Int)(g:FuncId)(E:Dv.Enters prog g)(U:T (1000000+g)=⟨.no,0,.any 0⟩)(G:∀a∈l,∀b∈l,bR prog g [dP a,dP b] (fun r=>r= .val (dI (cf a b))))(hl:l.length<=12):zX prog 206 [.one (.bool false),dI l.length,.one (.func (.func g) #[] #[])] 0 (bN l) (fun r d=>r= .tup []/\d=bN (gV (cfB cf) l)):=by
 refine fM good [] func206 ntmps206 fun w0 ow0 v0=> ?_;have hlt:¬(20:Int)<=l.length:=by omega
 have hlt2:¬(20:Int)<l.length:=by omega
 simp[go_sem];refine wl good (fun(i:Nat)=>[(0,.own (bN l)),(1,.val (dI l.length)),(2,.val (.one (.func (.func g) #[] #[]))),(6,.val (dI 20)),(7,.val (dI 0)),(8,.val (dI 20))]) (fun(i:Nat)=>0) (fun(i:Nat)=>(i=0)) (0) (rfl) ?_;rintro i h1;simp[go_sem,hlt];refine dJ rfl (avA l cf g E U G (by omega)) ?_;rintro r d ⟨rfl,rfl⟩;simp[go_sem];refine wl good (fun(j:Nat)=>[(0,.own (bN (gV (cfB cf) l))),(1,.val (dI l.length)),(2,.val (.one (.func (.func g) #[] #[]))),(6,.val (dI 20))]) (fun(j:Nat)=>0) (fun(j:Nat)=>(j=0)) (0) (rfl) ?_;rintro j h2;simp[go_sem,hlt2]
theorem aiI (l:List Ver)(cf:Ver->Ver->Int)(g:FuncId)(E:Dv.Enters prog g)(U:T (1000000+g)=⟨.no,0,.any 0⟩)(G:∀a∈l,∀b∈l,bR prog g [dP a,dP b] (fun r=>r= .val (dI (cf a b))))(hl:l.length<=12):zX prog 151 [.one (.bool false),.one (.func (.func g) #[] #[])] 0 (bN l) (fun r d=>r= .tup []/\d=bN (gV (cfB cf) l)):=by
 refine fM good [] func151 ntmps151 fun w0 ow0 v0=> ?_;simp[go_sem];refine dJ rfl (an9 l cf g E U G hl) ?_;rintro r d ⟨rfl,rfl⟩;simp[go_sem]
theorem aAR (l:List Ver)(k:Int)(cf:Ver->Ver->Int)(g:FuncId)(E:Dv.Enters prog g)(U:T (1000000+g)=⟨.no,0,.any 0⟩)(G:∀a∈l,∀b∈l,bR prog g [dP a,dP b] (fun r=>r= .val (dI (cf a b))))(hl:l.length<=12):zX prog 210 [.one (.bool false),dI 0,dI l.length,dI k,.one (.func (.func g) #[] #[])] 0 (bN l) (fun r d=>r= .tup []/\d=bN (gV (cfB cf) l)):=by
 refine fM good [] func210 ntmps210 fun w0 ow0 v0=> ?_;simp[go_sem];refine wl good (fun(i:Nat)=>[(0,.own (bN l)),(1,.val (dI 0)),(2,.val (dI l.length)),(3,.val (dI k)),(4,.val (.one (.func (.func g) #[] #[])))]) (fun(i:Nat)=>0) (fun(i:Nat)=>(i=0)) (0) (rfl) ?_;rintro i h1;have hlt:(l.length:Int)<=12:=by omega
 simp[go_sem,hlt];refine ai ?_;refine dJ rfl (avA l cf g E U G (by omega)) ?_;rintro r d ⟨rfl,rfl⟩;simp[go_sem]
theorem aeT (l:List Ver)(cf:Ver->Ver->Int)(g:FuncId)(E:Dv.Enters prog g)(U:T (1000000+g)=⟨.no,0,.any 0⟩)(G:∀a∈l,∀b∈l,bR prog g [dP a,dP b] (fun r=>r= .val (dI (cf a b))))(hl:l.length<=12):zX prog 156 [.one (.bool false),.one (.func (.func g) #[] #[])] 0 (bN l) (fun r d=>r= .tup []/\d=bN (gV (cfB cf) l)):=by
 refine fM good [] func156 ntmps156 fun w0 ow0 v0=> ?_;have hw:IntKind.u64.wrap (l.length:Int)=l.length:=by simp[IntKind.wrap,IntKind.bits,IntKind.signed];omega
 simp[go_sem,hw];refine ck (ad5 l.length (by omega)) ?_;simp[go_sem];refine dJ rfl (aAR l (Lib.bitLen l.length) cf g E U G hl) ?_;rintro r d ⟨rfl,rfl⟩;simp[go_sem]
theorem AZ (a b:Ver):Fk 152 [dP a,dP b] (.val (dI (oM b.time a.time))):=by
 refine fE good [] func152 ntmps152 fun w0 ow0=> ?_;simp[go_sem];refine ck (lV _ _) ?_;simp[go_sem]
theorem abZ (l:List Ver):gV (cfB fun a b=>oM b.time a.time) l=lM l:=by
 have:(cfB fun a b=>oM b.time a.time)=sN:=by
  funext v u;unfold cfB sN oM;rw[Bool.eq_iff_iff,decide_eq_true_eq,decide_eq_true_eq];show(if u.time<v.time then(-1:Int)else if u.time>v.time then 1 else 0)<0↔_;split
  ·exact⟨fun _=>by assumption,fun _=>by omega⟩
  ·rename_i h1;constructor
   ·intro h;split at h<;>omega
   ·intro h;exact absurd h h1
 unfold gV lM;rw[this]
theorem J6 (l:List Ver):gV (cfB bQ) l=bW l:=by
 have:cfB bQ=kQ:=by
  funext v u;unfold cfB kQ;rw[Bool.eq_iff_iff,decide_eq_true_eq,decide_eq_true_eq,FW];omega
 unfold gV bW;rw[this]
def lk0 (i:Nat):List Int:=(List.range i).map (fun(k:Nat)=>(k:Int))++List.replicate (400-i) 0
theorem as5:lk0 0=List.replicate 400 0:=rfl
theorem aw3:lk0 400=rC:=by simp[lk0,rC]
theorem ab8 {i:Nat}(h:i<=400):(lk0 i).length=400:=by simp[lk0];omega
theorem ayB {i:Nat}(h:i<400):((lk0 i).map dI).set i (dI (i:Int))=(lk0 (i+1)).map dI:=by
 rw[←List.map_set];congr 1;unfold lk0;rw[List.set_append_right _ _ (by simp),show(List.map (fun(k:Nat)=>(k:Int)) (List.range i)).length=i by simp,Nat.sub_self,show 400-i=(400-(i+1))+1 by omega,List.replicate_succ,List.set_cons_zero,List.range_succ,List.map_append,List.append_assoc];rfl
theorem axM {i:Nat}(h:i<400):(lk0 i)[i]?=some 0:=by
 unfold lk0;rw[List.getElem?_append_right (by simp),show(List.map (fun(k:Nat)=>(k:Int)) (List.range i)).length=i by simp,Nat.sub_self,show 400-i=(400-(i+1))+1 by omega,List.replicate_succ];rfl
def lkm (o:List Int)(f:Int->Int)(k:Nat):List Int:=(o.take k).map f++o.drop k
theorem akW (o:List Int)(f:Int->Int)(k:Nat):(lkm o f k).length=o.length:=by simp[lkm];omega
theorem arK {o:List Int}{f:Int->Int}{k:Nat}(h:k<o.length):(lkm o f k)[k]?=some (at1 o k):=by
 unfold lkm;rw[List.getElem?_append_right (by simp;omega),List.length_map,List.length_take,Nat.min_eq_left (by omega),Nat.sub_self,List.getElem?_drop,Nat.add_zero];exact aF h
theorem alY {o:List Int}{f:Int->Int}{k:Nat}(h:k<o.length):(lkm o f k).set k (f (at1 o k))=lkm o f (k+1):=by
 have hg:=aF h;unfold lkm;have hd:o.drop k=at1 o k::o.drop (k+1):=by rw[List.drop_eq_getElem_cons h];rw[List.getElem?_eq_getElem h]at hg;rw[Option.some.inj hg]
 rw[List.set_append_right _ _ (by simp;omega),List.length_map,List.length_take,Nat.min_eq_left (by omega),Nat.sub_self,hd,List.set_cons_zero,aW hg,List.map_append,List.append_assoc];rfl
theorem avS {o:List Int}{f:Int->Int}{k:Nat}(h:k<o.length)(hf:f (at1 o k)=at1 o k):lkm o f k=lkm o f (k+1):=by
 rw[←alY h,hf];apply List.ext_getElem?;intro m;by_cases hm:k=m
 ·subst hm;rw[arK h,List.getElem?_set_self (by rw[akW];exact h)]
 ·rw[List.getElem?_set_ne hm]
theorem asJ (o:List Int)(f:Int->Int):lkm o f 0=o:=rfl
theorem avY {o:List Int}(f:Int->Int):lkm o f o.length=o.map f:=by simp[lkm]
theorem mD (l:List Int)(i:Nat):D.ws (List.take i (l.map dI))=min i l.length:=by
 have h:∀l:List Int,D.ws (l.map dI)=l.length:=fun l=>by
  induction l with
  |nil=>rfl
  |cons x l ih=>simp only[List.map_cons,D.ws,D.w,ih,List.length_cons];omega
 rw[←List.map_take,h,List.length_take]
theorem abT (o:List Int)(v:Ver):(l9 o v).length=o.length:=by unfold l9;split<;>simp
theorem FT (l:List Ver)(hl:l.length<=1048576)(hv:∀v∈l,inT v.a/\inT v.b):Fk 173 [aU l] (.val (.agg ((dX l).map dI))):=by
 refine fE good [] func173 ntmps173 fun w0 ow0=> ?_;have hz:List.replicate 400 (dI 0)=(lk0 0).map dI:=by rw[as5,List.map_replicate]
 simp[go_sem,hz];refine wl good (fun(i:Nat)=>[(0,.val (aU l)),(2,.own (.bx true (.agg ((lk0 0).map dI)))),(3,.own (.bx true (.agg ((lk0 i).map dI)))),(10,.val (dI i))]) (fun(i:Nat)=>400-i) (fun(i:Nat)=>(i<=400)) (0) (by omega) ?_;rintro i h1;simp[go_sem];refine gw (fun a=> ?_) (fun a=> ?_)
 ·have hlen:=ab8 (i:=i) (by omega);have hs:=ayB (i:=i) (by omega);have hg:=axM (i:=i) (by omega);have hws:D.ws (List.take i ((lk0 i).map dI))=i:=by rw[mD,hlen];omega
  simp[go_sem,hz,hs,hg,hws];iterate 2 refine ai ?_
  refine nx (i+1) (by omega)
 ·simp at a;obtain rfl:i=400:=by omega
  have hall:=aw3;simp[go_sem,hall];refine wl good (fun(x':(Nat)×(List Int))=>match x' with|(j,o)=>[(0,.val (aU l)),(2,.own (.bx true (.agg ((lk0 0).map dI)))),(3,.own (.bx true (.agg (o.map dI)))),(17,.val (aU l)),(18,.val (dI l.length)),(19,.val (dI j))]) (fun(x':(Nat)×(List Int))=>match x' with|(j,o)=>l.length-j) (fun(x':(Nat)×(List Int))=>match x' with|(j,o)=>(j<=l.length)/\(o=(l.take j).foldl l9 rC)/\(o.length=400)) ((0,rC)) ⟨(by omega),(rfl),(avR.len)⟩ ?_;rintro⟨j,o⟩ ⟨h2,h3,h4⟩;simp[go_sem];refine gw (fun b=> ?_) (fun b=> ?_)
  ·obtain⟨c,hc⟩:=aC (l:=l) (i:=j) (by omega);have hcv:=hv c (List.mem_of_getElem? hc);have hA:=aF (l:=o) (i:=c.a.toNat) (by have:=hcv.1.2;have:=hcv.1.1;omega);have hB:=aF (l:=o) (i:=c.b.toNat) (by have:=hcv.2.2;have:=hcv.2.1;omega);have hm:=bC l9 rC hc;rw[←h3]at hm;simp[go_sem,hc];refine gw (fun d=> ?_) (fun d=> ?_)
   ·simp at d;simp[go_sem];refine ai ?_;refine nx (j+1,o) ⟨(by omega),(by rw[hm];exact(if_neg (by simp[d])).symm),(h4)⟩
   ·simp at d;obtain⟨A,hAe⟩:∃A,at1 o c.a.toNat=A:=⟨_,rfl⟩;obtain⟨B,hBe⟩:∃B,at1 o c.b.toNat=B:=⟨_,rfl⟩;rw[hAe]at hA;rw[hBe]at hB;have hz2:=asJ o (jQ A B);have h90:=hcv.1.1;have h91:=hcv.1.2;have h92:=hcv.2.1;have h93:=hcv.2.2;have hwA:D.ws (List.take c.a.toNat (o.map dI))=c.a.toNat:=by rw[mD,h4];omega
    have hwB:D.ws (List.take c.b.toNat (o.map dI))=c.b.toNat:=by rw[mD,h4];omega
    have hA2:=(List.getElem?_eq_some_iff.1 hA).2;have hB2:=(List.getElem?_eq_some_iff.1 hB).2;simp[go_sem];refine wdr good ?_;simp[go_sem,hz,hA2,hB2,h4,h90,h91,h92,h93,hwA,hwB];refine wl good (fun(k:Nat)=>[(0,.val (aU l)),(2,.own (.bx true (.agg ((lk0 0).map dI)))),(3,.own (.bx true (.agg ((lkm o (jQ A B) k).map dI)))),(7,.val (dI A)),(8,.val (dI B)),(17,.val (aU l)),(18,.val (dI l.length)),(19,.val (dI j)),(34,.val (dI k))]) (fun(k:Nat)=>400-k) (fun(k:Nat)=>(k<=400)) (0) (by omega) ?_ (h0:=by simp[go_sem,hz,hall,hc,hA2,hB2,hz2,h4,h90,h91,h92,h93,hwA,hwB]);rintro k h5;simp[go_sem];refine gw (fun e=> ?_) (fun e=> ?_)
    ·have hkl:k<o.length:=by omega
     have hg:=arK (f:=jQ A B) hkl;have hlen:(lkm o (jQ A B) k).length=400:=by rw[akW];exact h4
     have hws:D.ws (List.take k ((lkm o (jQ A B) k).map dI))=k:=by rw[mD,hlen];omega
     obtain⟨z,hze⟩:∃z,at1 o k=z:=⟨_,rfl⟩;have hset:=alY (f:=jQ A B) hkl;have hsame:=avS (f:=jQ A B) hkl;rw[hze]at hg hset hsame;simp[go_sem,hz,hg,hws];refine ai ?_;refine gw (fun g=> ?_) (fun g=> ?_)
     ·have hf:jQ A B z=min A B:=if_pos g;have hst:((lkm o (jQ A B) k).map dI).set k (dI (min A B))=(lkm o (jQ A B) (k+1)).map dI:=by rw[←List.map_set,←hf,hset]
      simp[go_sem,hz,hg,hws,hst];iterate 2 refine ai ?_
      refine nx (k+1) (by omega)
     ·have hs2:=(hsame (if_neg g)).symm;simp[go_sem];refine ai ?_;refine nx (k+1) (by omega) (h3:=by simp[go_sem,hz,hall,h4,hg,hlen,hws,hs2])
    ·simp at e;obtain rfl:k=400:=by omega
     have hall:lkm o (jQ A B) 400=o.map (jQ A B):=by rw[←h4];exact avY _
     have hls:l9 o c=o.map (jQ A B):=by unfold l9;rw[if_pos (by simpa using d),hAe,hBe]
     simp[go_sem,hall];refine ai ?_;refine nx (j+1,o.map (jQ A B)) ⟨(by omega),(by rw[hm,hls]),(by rw[List.length_map];exact h4)⟩
  ·simp at b;have hr:dX l=o:=by rw[h3,List.take_of_length_le (by omega)];rfl
   have hws4:D.ws (o.map dI)=400:=by have:=mD o 400;rw[List.take_of_length_le (by rw[List.length_map];omega),h4]at this;simpa using this
   have hws5:D.ws ((lk0 0).map dI)=400:=by have:=mD (lk0 0) 400;rw[List.take_of_length_le (by rw[List.length_map,ab8 (by omega)];omega),ab8 (by omega)]at this;simpa using this
   clear h3;simp[go_sem,hz,hr,hws4,hws5];grind
theorem akR {o:List Int}(h:o.length=400){x:Int}(hx:inT x):o[x.toNat]?=some (at1 o x.toNat):=aF (by have:=hx.2;have:=hx.1;omega)
theorem uC (l:List Ver):(dX l).length=400:=by
 have:∀(l:List Ver) (o:List Int),o.length=400->(l.foldl l9 o).length=400:=fun l=>by
  induction l with
  |nil=>exact fun o h=>h
  |cons v l ih=>exact fun o h=>ih _ (by rw[abT];exact h)
 exact this l _ (by simp[rC])
def X3 (o:List Int)(v:Ver):Bool:= !v.same&&decide (at1 o v.a.toNat=at1 o v.b.toNat)
theorem TU (o:List Int)(v:Ver)(ho:o.length=400)(hv:inT v.a/\inT v.b):Fk 209 [dP v,.bx false (.agg (o.map dI))] (.val (dB (X3 o v))):=by
 refine fE good [] func209 ntmps209 fun w0 ow0=> ?_;have hA:=akR ho hv.1;have hB:=akR ho hv.2;have h0:=hv.1.1;have h1:=hv.1.2;have h2:=hv.2.1;have h3:=hv.2.2;have hwA:D.ws (List.take v.a.toNat (o.map dI))=v.a.toNat:=by rw[mD,ho];omega
 have hwB:D.ws (List.take v.b.toNat (o.map dI))=v.b.toNat:=by rw[mD,ho];omega
 simp[go_sem];refine wdt good 14 ?_;simp[go_sem];refine gv (fun e=> ?_) (fun e=> ?_)
 ·have e':=e;simp at e';simp[go_sem,ho,h0,h1,h2,h3,hwA,hwB,e];grind[X3]
 ·have e':=e;simp at e';simp[go_sem,e];grind[X3]
theorem ajP (l:List Ver)(p:Ver->Bool)(g:FuncId)(b:Nat)(d:D)(F:d.fz=d)(E:Dv.Enters prog g)(U:T (1000000+g)=⟨.no,0,.any 0⟩)(G:∀c∈l,bR prog g [dP c,.bx false d] (fun r=>r= .val (dB (p c))))(hl:l.length<=1048576):rT prog 239 [aU l,.one (.func (.func g) #[] #[.pointer (some ⟨b,0,none⟩)])] [(b,d)] (fun res'=>res'= .val (dI (ix p l))):=by
 refine fB good [] func239 ntmps239 fun w0 ow0=> ?_;simp[go_sem];refine wl good (fun(i:Nat)=>[(0,.val (aU l)),(1,.val (.one (.func (.func g) #[] #[.pointer (some ⟨b,0,none⟩)]))),(7,.val (dI l.length)),(8,.val (dI i)),(1000000+2*b,.rp (d))]) (fun(i:Nat)=>(l).length-i) (fun(i:Nat)=>(i<=(l).length)/\(((l).take i).any p=false)) (0) ⟨(by omega),rfl⟩ ?_;rintro i ⟨h1,h2⟩;simp[go_sem];refine gw (fun a=> ?_) (fun a=> ?_)
 ·obtain⟨c,hc⟩:=aC (l:=l) (i:=i) (by omega);simp[go_sem,E,U,F,hc];refine ck ((G c (List.mem_of_getElem? hc))) ?_;simp[go_sem];refine gw (fun e=> ?_) (fun e=> ?_)
  ·have hn:=vH hc h2 (by simp[e]);simp[go_sem,hn]
  ·simp[go_sem];refine ai ?_;refine nx (i+1) ⟨(by omega),(eX hc h2 (by simp[e]))⟩
 ·simp at a;have hf:=j5 h2 a;have hx:=lX hf;simp[go_sem,hx]
theorem apD (l:List Ver)(p:Ver->Bool)(g:FuncId)(b:Nat)(d:D)(F:d.fz=d)(E:Dv.Enters prog g)(U:T (1000000+g)=⟨.no,0,.any 0⟩)(G:∀c∈l,bR prog g [dP c,.bx false d] (fun r=>r= .val (dB (p c))))(hl:l.length<=1048576):rT prog 208 [aU l,.one (.func (.func g) #[] #[.pointer (some ⟨b,0,none⟩)])] [(b,d)] (fun res'=>res'= .val (dB (l.any p))):=by
 refine fB good [] func208 ntmps208 fun w0 ow0=> ?_;have hq:decide (0<=ix p l)=l.any p:=by rw[Bool.eq_iff_iff,decide_eq_true_eq];exact eH
 simp[go_sem,F];refine ckB (ajP l p g b d F E U G hl) ?_;simp[go_sem,hq]
theorem Y5 (l:List Ver)(hl:l.length<=1048576)(hv:∀v∈l,inT v.a/\inT v.b):Fk 154 [aU l] (.val (dB (WS l))):=by
 refine fE good [] func154 ntmps154 fun w0 ow0=> ?_;simp[go_sem];refine ck (FT l hl hv) ?_;have hF:(D.agg ((dX l).map dI)).fz=D.agg ((dX l).map dI):=by simp[D.fz,D.dG]
 have hcl:l.any (X3 (dX l))=WS l:=rfl;have hws:D.ws ((dX l).map dI)=400:=by have:=mD (dX l) 400;rw[List.take_of_length_le (by rw[List.length_map,uC];omega),uC]at this;simpa using this
 have hll:=uC l;simp[go_sem,hws,hll];intro b;refine ckB (apD l (X3 (dX l)) 209 b (.agg ((dX l).map dI)) hF aCT aCP (fun c hc=>TU (dX l) c (uC l) (hv c hc)) hl) ?_;simp[go_sem,hcl]
end Go.Proofs.YtnglphdfhegnmaaGreatDoor
end
section
namespace Go.Proofs.YtnglphdfhegnmaaGreatDoor
open Go.Dv Go.Pl Go.Proofs.Tryz
abbrev aBW (l:List (List Int)):D:= .sl (some 25) (l.map nInts)
theorem asH {g:List (List Int)}(hg:∀l∈g,l.length<=1048576)(i:Nat):(gat g i).length<=1048576:=by
 unfold gat;rw[List.getD_eq_getElem?_getD];cases h:g[i]? with
 |none=>simp
 |some r=>exact hg r (List.mem_of_getElem? h)
theorem afQ (g:List (List Int))(x:Int): -1<=bB g x/\(bB g x<g.length\/bB g x= -1):=by
 have:=ar1 (grp x) g;unfold bB;omega
theorem DW (g:List (List Int))(x y:Int)(hs:g.length<=1048576)(hg:∀l∈g,l.length<=1048576):Fk 62 [aL g,dI x,dI y] (.val (aL (jB g x y))):=by
 refine fE good [33,35,100000] func62 ntmps62 fun w0 ow0=> ?_;simp[go_sem];refine ck (jF _ _ hs hg) ?_;simp[go_sem];refine ck (jF _ _ hs hg) ?_;have hA1:=afQ g x;have hB1:=afQ g y;generalize hA:bB g x=A at hA1|-
 generalize hB:bB g y=B at hB1|-
 simp[go_sem];refine wl good (fun(x':(Nat)×(List (List Int)))=>match x' with|(i,o)=>[(0,.val (aL g)),(1,.val (dI x)),(2,.val (dI y)),(7,.own (aD [x])),(8,.own (aD [y])),(9,.own (aBW o)),(10,.val (dI A)),(11,.val (dI B)),(12,.val (dI i))]) (fun(x':(Nat)×(List (List Int)))=>match x' with|(i,o)=>g.length-i) (fun(x':(Nat)×(List (List Int)))=>match x' with|(i,o)=>(i<=g.length)/\(o=loopN i ([]) ((fun i o=>if(i:Int)≠A/\(i:Int)≠B then o++[gat g i]else o)))/\(o.length<=i)) ((0,[])) ⟨(by omega),rfl,(by simp)⟩ ?_;rintro⟨i,o⟩ ⟨h1,h2,h3⟩;simp[go_sem];refine gw (fun a=> ?_) (fun a=> ?_)
 ·have hs:=aA i ([]) ((fun i o=>if(i:Int)≠A/\(i:Int)≠B then o++[gat g i]else o));rw[←h2]at hs;obtain⟨c,hc⟩:=aC (l:=g) (i:=i) (by omega);have hc2:=rQ hc;simp[go_sem];refine gv (fun e=> ?_) (fun e=> ?_)
  ·have e':=e;simp[go_sem,e];refine gw (fun f=> ?_) (fun f=> ?_)
   ·simp[go_sem,hc];iterate 2 refine ai ?_
    refine nx (i+1,o++[c]) ⟨(by omega),(by rw[hs,if_pos ⟨e,f⟩,hc2]),(by simp;omega)⟩
   ·simp[go_sem];refine ai ?_;refine nx (i+1,o) ⟨(by omega),(by rw[hs,if_neg (by omega)]),(by omega)⟩
  ·have e':=e;simp[go_sem,e];refine ai ?_;refine nx (i+1,o) ⟨(by omega),(by rw[hs,if_neg (by omega)]),(by omega)⟩ (h3:=by simp[go_sem,hc,e])
 ·simp at a;have hi:g.length=i:=by omega
  subst hi;have hr:o=pF g A B:=h2;simp[go_sem];refine akL good (fun(_:Unit)=>[(0,.val (aL g)),(2,.val (dI y)),(7,.val (nInts (if 0<=A then gat g A.toNat else[x]))),(8,.own (aD [y])),(9,.own (aBW o)),(10,.val (dI A)),(11,.val (dI B))]) (fun(_:Unit)=>True) ?_ ?_
  ·simp[go_sem];refine gw (fun b=> ?_) (fun b=> ?_)
   ·obtain⟨c,hc⟩:=aC (l:=g) (i:=A.toNat) (by omega);have hc2:=rQ hc;simp[go_sem,hc,b];refine jnc (()) [7] trivial (h3:=by simp[go_sem,hc,hc2,b])
   ·simp at b;have b':¬0<=A:=by omega
    simp[go_sem,b'];refine jnc (()) [7] trivial (h3:=by simp[go_sem,b'])
  rintro⟨⟩ -
  refine IG good (fun(_:Unit)=>[(7,.val (nInts (if 0<=A then gat g A.toNat else[x]))),(8,.val (nInts (if 0<=B then gat g B.toNat else[y]))),(9,.own (aBW o)),(10,.val (dI A)),(11,.val (dI B))]) (fun(_:Unit)=>True) ?_ ?_
  ·simp[go_sem];refine gw (fun b=> ?_) (fun b=> ?_)
   ·obtain⟨c,hc⟩:=aC (l:=g) (i:=B.toNat) (by omega);have hc2:=rQ hc;simp[go_sem,hc,b];refine jnc (()) [8] trivial (h3:=by simp[go_sem,hc,hc2,b])
   ·simp at b;have b':¬0<=B:=by omega
    simp[go_sem,b'];refine jnc (()) [8] trivial (h3:=by simp[go_sem,b'])
  rintro⟨⟩ -
  have hLl:(if 0<=A then gat g A.toNat else[x]).length<=1048576:=by split;(exact asH hg _);simp
  have hRl:(if 0<=B then gat g B.toNat else[y]).length<=1048576:=by split;(exact asH hg _);simp
  generalize hL:(if 0<=A then gat g A.toNat else[x])=L at hLl|-
  generalize hR:(if 0<=B then gat g B.toNat else[y])=R at hRl|-
  simp[go_sem];refine gv (fun e=> ?_) (fun e=> ?_)
  ·have e':=e;simp[go_sem,e];refine gw (fun f=> ?_) (fun f=> ?_)
   ·simp[go_sem];refine ai ?_;refine eD good [] (aR 6) ?_;have hj:jB g x y=o++[L]:=by rw[jB,hA,hB,if_pos ⟨e,f⟩,hr,←hL,if_pos e]
    simp[go_sem];simp[hj]
   ·simp[go_sem];iterate 3 refine ai ?_
    refine eD good [] (aR 6) ?_;have hj:jB g x y=o++[L++R]:=by rw[jB,hA,hB,if_neg (by simp[f]),hr,←hL,←hR]
    simp[go_sem];simp[hj]
  ·have e':=e;simp at e';simp[go_sem,e];iterate 3 refine ai ?_
   refine eD good [] (aR 6) ?_;have hj:jB g x y=o++[L++R]:=by rw[jB,hA,hB,if_neg (by simp[e]),hr,←hL,←hR]
   simp[go_sem];simp[hj]
theorem NW {g:List (List Int)}{m:Nat}(hg:∀l∈g,l.length<=m)(i:Nat):(gat g i).length<=m:=by
 unfold gat;rw[List.getD_eq_getElem?_getD];cases h:g[i]? with
 |none=>simp
 |some r=>exact hg r (List.mem_of_getElem? h)
theorem Y2 {g:List (List Int)}{m:Nat}(hg:∀l∈g,l.length<=m)(a b:Int):(pF g a b).length<=g.length/\∀l∈pF g a b,l.length<=m:=by
 refine loopN_inv (fun n (o:List (List Int))=>o.length<=n/\∀l∈o,l.length<=m) (by simp) fun i o _ ho=> ?_;split
 ·refine⟨by simp;omega,fun l hl=> ?_⟩;rcases List.mem_append.1 hl with h|h
  ·exact ho.2 l h
  ·obtain rfl:l=gat g i:=by simpa using h
   exact NW hg i
 ·exact⟨by omega,ho.2⟩
theorem XU {g:List (List Int)}{m:Nat}(hm:1<=m)(hg:∀l∈g,l.length<=m)(x y:Int):(jB g x y).length<=g.length+1/\∀l∈jB g x y,l.length<=2*m:=by
 have hr:=Y2 hg (bB g x) (bB g y);unfold jB;split
 ·refine⟨by simp;omega,fun l hl=> ?_⟩;rcases List.mem_append.1 hl with h|h
  ·have:=hr.2 l h;omega
  ·obtain rfl:l=gat g (bB g x).toNat:=by simpa using h
   have:=NW hg (bB g x).toNat;omega
 ·refine⟨by simp;omega,fun l hl=> ?_⟩;rcases List.mem_append.1 hl with h|h
  ·have:=hr.2 l h;omega
  ·have e:l=_:=List.mem_singleton.1 h;subst e;have h1:=NW hg (bB g x).toNat;have h2:=NW hg (bB g y).toNat;have h3:(if 0<=bB g x then gat g (bB g x).toNat else[x]).length<=m:=by split;(exact h1);(simpa using hm)
   have h4:(if 0<=bB g y then gat g (bB g y).toNat else[y]).length<=m:=by split;(exact h2);(simpa using hm)
   rw[List.length_append];omega
theorem aeI {g:List (List Int)}{items:List Int}{i k:Nat}(hk:k<items.length)(hik:i<k)(he:bB g (at1 items k)=bB g (at1 items i))(hno:∀j,i<j->j<k->bB g (at1 items j)≠bB g (at1 items i)):FY g items i=some k:=by
 unfold FY;rw[List.find?_range_eq_some];refine⟨by simp[hik,he],by simpa using hk,fun j hj=> ?_⟩;by_cases hij:i<j
 ·simp[hno j hij hj]
 ·simp[hij]
theorem agI {g:List (List Int)}{items:List Int}{i:Nat}(hno:∀j,i<j->j<items.length->bB g (at1 items j)≠bB g (at1 items i)):FY g items i=none:=by
 unfold FY;rw[List.find?_eq_none];intro j hj;have hj:=List.mem_range.1 hj;by_cases hij:i<j
 ·simp[hno j hij hj]
 ·simp[hij]
def zO (g:List (List Int))(items:List Int)(k:Nat):List Con:=(List.range k).flatMap (kM g items)
theorem afF (g:List (List Int))(items:List Int):zO g items 0=[]:=rfl
theorem SY (g:List (List Int))(items:List Int)(k:Nat):zO g items (k+1)=zO g items k++kM g items k:=by simp[zO,List.range_succ]
theorem aiZ (g:List (List Int))(items:List Int)(k:Nat):(zO g items k).length<=k:=by
 induction k with
 |zero=>simp[zO]
 |succ k ih=>have:=TC g items k;rw[SY,List.length_append];omega
theorem LX {l:List Ver}{i:Nat}{c:Ver}(h:l[i]?=some c):l8 (l.take (i+1))=l8 (l.take i)++if c.same then[c]else[]:=qB _ h
theorem KM {l:List Ver}{i:Nat}{c:Ver}(h:l[i]?=some c):apart (l.take (i+1))=apart (l.take i)++if !c.same then[c]else[]:=qB _ h
theorem UC (kept:List Ver)(items:List Int)(hk:kept.length<=8)(hi:items.length<=8):Fk 30 [aU kept,nInts items] (.own (yK (iI kept items))):=by
 refine fE good [] func30 ntmps30 fun w0 ow0=> ?_;have hs0:l8 []=[]:=rfl;have ha0:apart []=[]:=rfl;simp[go_sem];refine wl good (fun(i:Nat)=>[(0,.val (aU kept)),(1,.val (nInts items)),(5,.own (bN (l8 (kept.take i)))),(6,.own (bN (apart (kept.take i)))),(7,.val (dI i))]) (fun(i:Nat)=>(kept).length-i) (fun(i:Nat)=>(i<=(kept).length)/\((l8 (kept.take i)).length<=8/\(apart (kept.take i)).length<=8)) (0) ⟨(by simp),(by simp[hs0,ha0])⟩ ?_ (h0:=by simp[go_sem,hs0,ha0]);rintro i ⟨h1,h2⟩;simp[go_sem];refine gw (fun a=> ?_) (fun a=> ?_)
 ·obtain⟨c,hc⟩:=aC (l:=kept) (i:=i) (by omega);have h1f:=LX hc;have h2f:=KM hc;have hms:(l8 (kept.take (i+1))).length<=8:=Nat.le_trans (List.length_filter_le _ _) (by simp;omega);have hma:(apart (kept.take (i+1))).length<=8:=Nat.le_trans (List.length_filter_le _ _) (by simp;omega);simp[go_sem,hc];refine gw (fun b=> ?_) (fun b=> ?_)
  ·simp only[b,Bool.not_true,Bool.false_eq_true,if_true,if_false,List.append_nil]at h1f h2f;simp[go_sem,hc];iterate 2 refine ai ?_
   refine nx (i+1) ⟨(by omega),(⟨hms,hma⟩)⟩ (h3:=by simp[go_sem,hs0,ha0,hc,h1f,h2f])
  ·simp only[b,Bool.not_false,Bool.false_eq_true,if_true,if_false,List.append_nil]at h1f h2f;simp[go_sem,hc];iterate 2 refine ai ?_
   refine nx (i+1) ⟨(by omega),(⟨hms,hma⟩)⟩ (h3:=by simp[go_sem,hs0,ha0,hc,h1f,h2f])
 ·simp at a;obtain rfl:i=kept.length:=by omega
  have hms:(l8 kept).length<=8:=Nat.le_trans (List.length_filter_le _ _) hk;have hma:(apart kept).length<=8:=Nat.le_trans (List.length_filter_le _ _) hk;rw[List.take_length];generalize hM:l8 kept=M at*
  generalize hA:apart kept=A at*
  simp[go_sem];refine wlc good [8] (fun(x':(Nat)×(List (List Int)))=>match x' with|(i,g)=>[(0,.val (aU kept)),(1,.val (nInts items)),(5,.own (bN M)),(6,.own (bN A)),(8,.val (aL g)),(9,.val (dI i))]) (fun(x':(Nat)×(List (List Int)))=>match x' with|(i,g)=>(M).length-i) (fun(x':(Nat)×(List (List Int)))=>match x' with|(i,g)=>(i<=(M).length)/\(g=(M.take i).foldl (fun g v=>jB g v.a v.b) [])/\(g.length<=i/\∀l∈g,l.length<=2^i)) ((0,[])) ⟨(by omega),rfl,(by simp)⟩ ?_;rintro⟨i,g⟩ ⟨h1m,h2m,h3m⟩;simp[go_sem];refine gw (fun am=> ?_) (fun am=> ?_)
  ·obtain⟨cm,hcm⟩:=aC (l:=M) (i:=i) (by omega);have hm:=bC (fun g v=>jB g v.a v.b) [] hcm;rw[←h2m]at hm;have hp:2^i<=256:=Nat.le_trans (Nat.pow_le_pow_right (by omega) (show i<=8 by omega)) (by decide);have hp2:2^(i+1)=2*2^i:=by omega
   have hp1:1<=2^i:=Nat.one_le_two_pow;have hj:=XU (m:=2^i) hp1 h3m.2 cm.a cm.b;simp[go_sem];refine wdt good 12 ?_;simp[go_sem,hcm];refine cd (DW g cm.a cm.b (by omega) (fun l hl=>by have:=h3m.2 l hl;omega)) ?_;simp[go_sem];refine ai ?_;refine nxc (i+1,jB g cm.a cm.b) [8] ⟨(by omega),(by rw[hm]),(by rw[hp2];exact⟨by omega,hj.2⟩)⟩
  ·simp at am;rw[aO am]at h2m;have hG:g.length<=8/\∀l∈g,l.length<=256:=⟨by omega,fun l hl=>Nat.le_trans (h3m.2 l hl) (Nat.le_trans (Nat.pow_le_pow_right (by omega) (show i<=8 by omega)) (by decide))⟩;have hJ:joined kept=g:=by rw[joined,hM,h2m]
   clear h2m h3m h1m am;have hz0:=afF g items;simp[go_sem];refine wl good (fun(i:Nat)=>[(0,.val (aU kept)),(1,.val (nInts items)),(6,.own (bN A)),(8,.val (aL g)),(10,.own (yK (zO g items i))),(11,.val (dI i))]) (fun(i:Nat)=>items.length-i) (fun(i:Nat)=>(i<=items.length)) (0) (by omega) ?_ (h0:=by simp[go_sem,hs0,ha0,hz0]);rintro i h1i;have hlen:=aiZ g items i;simp[go_sem];refine gw (fun d=> ?_) (fun d=> ?_)
   ·have hd:=aF (l:=items) (i:=i) d;have hfl:=SY g items i;simp[go_sem,hd];refine ck (jF g (at1 items i) (by omega) (fun l hl=>by have:=hG.2 l hl;omega)) ?_;obtain⟨ga,hga⟩:∃ga,bB g (at1 items i)=ga:=⟨_,rfl⟩;simp[go_sem,hga];refine ai ?_;refine wl good (fun(k:Nat)=>[(0,.val (aU kept)),(1,.val (nInts items)),(6,.own (bN A)),(8,.val (aL g)),(10,.own (yK (zO g items i))),(11,.val (dI i)),(12,.val (dI ga)),(13,.val (dI k))]) (fun(k:Nat)=>items.length-k) (fun(k:Nat)=>(i<k/\k<=items.length)/\(∀j,i<j->j<k->bB g (at1 items j)≠ga)) (i+1) ⟨(by omega),(fun j h1 h2=>absurd h2 (by omega))⟩ ?_;rintro k ⟨h1k,h2k⟩;simp[go_sem];refine gv (fun e=> ?_) (fun e=> ?_)
    ·have e':=e;simp[go_sem,e];refine gw (fun f=> ?_) (fun f=> ?_)
     ·have hdk:=aF (l:=items) (i:=k) e;have h10:((zO g items i).length:Int)<10:=by omega
      simp[go_sem,hdk];refine ck (jF g (at1 items k) (by omega) (fun l hl=>by have:=hG.2 l hl;omega)) ?_;simp[go_sem];refine gv (fun m=> ?_) (fun m=> ?_)
      ·have m':=m;have hn:=aeI e h1k.1 (m'.trans hga.symm) (fun j h1 h2=>by rw[hga];exact h2k j h1 h2);have hsc:kM g items i=[⟨i,k,true⟩]:=by rw[kM,if_pos (by omega),hn]
       rw[hsc]at hfl;simp[go_sem,h10,m];iterate 2 refine ai ?_
       refine nx (i+1) (by first|omega|(simp;omega)|grind) (h3:=by simp[go_sem,hs0,ha0,hz0,hga,hdk,h10,m,hfl])
      ·have m':=m;simp[go_sem,m];refine ai ?_;refine nx (k+1) ⟨(by omega),(fun j h1 h2=>by by_cases hj:j=k;(subst hj;exact m);exact h2k j h1 (by omega))⟩
     ·simp at f;have hsc:kM g items i=[]:=by rw[kM,if_neg (by omega)]
      rw[hsc,List.append_nil]at hfl;simp[go_sem];refine ai ?_;refine nx (i+1) (by first|omega|(simp;omega)|grind) (h3:=by simp[go_sem,hs0,ha0,hz0,hga,e,hfl])
    ·have e':=e;simp at e';have hn:=agI (g:=g) (items:=items) (i:=i) (fun j h1 h2=>by rw[hga];exact h2k j h1 (by omega));have hsc:kM g items i=[]:=by rw[kM,hn];simp
     rw[hsc,List.append_nil]at hfl;simp[go_sem,e];refine ai ?_;refine nx (i+1) (by first|omega|(simp;omega)|grind) (h3:=by simp[go_sem,hs0,ha0,hz0,hga,e,hfl])
   ·simp at d;obtain rfl:i=items.length:=by omega
    have hvl:(vO A items).length<=A.length:=List.length_filterMap_le _ _;have hsg:zY g items=zO g items items.length:=rfl;simp[go_sem];refine ck (xN _ _) ?_;simp[go_sem];refine ai ?_;simp[iI,hJ,hA,hsg]
theorem vD (l:List Ver)(hl:l.length<=1048576):Fk 65 [aU l] (.val (aU (bW l))):=by
 refine fE good [11] func65 ntmps65 fun w0 ow0=> ?_;simp[go_sem];refine wlc good [3] (fun(x':(Nat)×(List Ver))=>match x' with|(i,out)=>[(0,.val (aU l)),(3,.val (aU out)),(4,.val (dI i))]) (fun(x':(Nat)×(List Ver))=>match x' with|(i,out)=>(l).length-i) (fun(x':(Nat)×(List Ver))=>match x' with|(i,out)=>(i<=(l).length)/\(out=(l.take i).foldl (fun o v=>eU (kQ v) o v) [])/\(out.length=i)) ((0,[])) ⟨(by omega),rfl,rfl⟩ ?_;rintro⟨i,out⟩ ⟨h1,h2,h3⟩;simp[go_sem];refine gw (fun a=> ?_) (fun a=> ?_)
 ·obtain⟨c,hc⟩:=aC (l:=l) (i:=i) (by omega);have hm:=bC (fun o v=>eU (kQ v) o v) [] hc;rw[←h2]at hm;have hil:=ES (kQ c) out c;simp[go_sem];refine IG good (fun(k:Nat)=>[(0,.val (aU l)),(3,.val (aU out)),(4,.val (dI i)),(5,.val (dI k))]) (fun(k:Nat)=>(eU (kQ c) out c=out.take k++[c]++out.drop k)/\(k<=out.length)) ?_ ?_
  ·simp[go_sem];refine wl good (fun(k:Nat)=>[(0,.val (aU l)),(3,.val (aU out)),(4,.val (dI i)),(5,.val (dI k))]) (fun(k:Nat)=>k) (fun(k:Nat)=>(k<=out.length)/\(∀j,k<=j->(h:j<out.length)->kQ c out[j]=true)) (out.length) ⟨(by omega),(fun j h1 h2=>absurd h2 (by omega))⟩ ?_;rintro k ⟨h1k,h2k⟩;simp[go_sem];refine wdr good ?_;simp[go_sem];refine gv (fun e=> ?_) (fun e=> ?_)
   ·have e':=e;obtain⟨d,hd⟩:=aC (l:=out) (i:=k-1) (by omega);have hk1:((k:Int)-1).toNat=k-1:=by omega
    have hk2:(k:Int)-1=((k-1:Nat):Int):=by omega
    simp[go_sem,hc,e,hd,hk2];refine ai ?_;refine cd (kZ d c) ?_;simp[go_sem];refine gw (fun f=> ?_) (fun f=> ?_)
    ·simp[go_sem,hk2];refine ai ?_;refine nx (k-1) ⟨(by omega),(fun j h1 h2=>by by_cases hj:j=k-1;(subst hj;have hdd:out[k-1]=d:=(by simpa[List.getElem?_eq_getElem h2]using hd);rw[hdd];simp[kQ];omega);exact h2k j (by omega) h2)⟩
    ·simp at f;have hb:=G8 (p:=kQ c) h1k h2k (.inr ⟨d,hd,by simp[kQ];omega⟩);simp[go_sem];refine jn (k) ⟨(by rw[eU,hb]),(h1k)⟩
   ·have e':=e;simp at e';have hb:=G8 (p:=kQ c) h1k h2k (.inl (by omega));simp[go_sem,e];refine jn (k) ⟨(by rw[eU,hb]),(h1k)⟩
  rintro k ⟨h5,h6⟩;simp[go_sem];refine wdf good [(0,[32]),(4,[32,35,36]),(9,[40,41]),(10,[36,41,42]),(14,[42,45,46]),(15,[46,3])] [(0,.val (aU l)),(3,.val (aU out)),(4,.val (dI i)),(5,.val (dI k))] [] (by simp[go_sem]) ?_;simp[go_sem,hc];iterate 6 refine ai ?_
  refine nxc (i+1,out.take k++[c]++out.drop k) [3] ⟨(by omega),(by rw[hm,h5]),(by rw[←h5];omega)⟩
 ·simp at a;rw[aO a]at h2;simp[go_sem];grind[bW]
theorem ae6 {l:List Ver}{v:Ver}{k:Nat}(hk:k<=l.length)(h1:(l.take k).all (fun u=>decide (bQ u v<0))=true)(h2:k=l.length\/∃c,l[k]?=some c/\¬bQ c v<0):YY l v=k:=by
 refine adJ hk h1 ?_;rcases h2 with h|⟨c,h3,h4⟩
 ·exact .inl h
 ·exact .inr ⟨c,h3,by simpa using h4⟩
theorem LH (l:List Ver)(v:Ver)(hl:l.length<=1048576):Fk 64 [aU l,dP v] (.tup [.val (aU (pW l v)),.val (dB (xJ l v))]):=by
 refine fE good [5,7,13] func64 ntmps64 fun w0 ow0=> ?_;have hix:0<=ix (fun y=>decide (y=v)) l↔l.any (fun y=>decide (y=v))=true:=eH;simp[go_sem];refine ck (oP _) ?_;simp[go_sem];refine gv (fun a=> ?_) (fun a=> ?_)
 ·have a':=a;simp at a';have ho:xJ l v=false:=by simp[xJ,a']
  simp[go_sem,a];refine ck (mI _) ?_;simp[go_sem];refine eD good [] (aR 4) ?_;simp[go_sem];simp[pW,ho]
 ·have a':=a;simp at a';simp[go_sem,a];refine ck (qU _) ?_;simp[go_sem];refine gv (fun b=> ?_) (fun b=> ?_)
  ·have b':=b;simp at b';have ho:xJ l v=false:=by simp only[xJ];rw[b'];simp
   simp[go_sem,b];refine ck (mI _) ?_;simp[go_sem];refine eD good [] (aR 4) ?_;simp[go_sem];simp[pW,ho]
  ·have b':=b;simp at b';simp[go_sem,b];refine ck (ZL _ _) ?_;simp[go_sem];refine gv (fun d=> ?_) (fun d=> ?_)
   ·have d':=d;have ho:xJ l v=false:=by simp only[xJ];rw[hix.1 d];simp
    simp[go_sem,d];refine ck (mI _) ?_;simp[go_sem];refine eD good [] (aR 4) ?_;simp[go_sem];simp[pW,ho]
   ·have d':=d;simp at d';simp[go_sem,d];refine gw (fun e=> ?_) (fun e=> ?_)
    ·have ho:xJ l v=false:=by simp only[xJ];rw[show decide (l.length≠8)=false by simp;omega];simp
     simp[go_sem];refine ck (mI _) ?_;simp[go_sem];refine eD good [] (aR 4) ?_;simp[go_sem];simp[pW,ho]
    ·have hna:l.any (fun y=>decide (y=v))=false:=by rw[Bool.eq_false_iff];intro h;exact d (hix.2 h)
     have ho:xJ l v=true:=by simp only[xJ];rw[hna,a',b'];simp;omega
     simp[go_sem];refine IG good (fun(k:Nat)=>[(0,.val (aU l)),(3,.own (.bx true (dP v))),(6,.val (dI k))]) (fun(k:Nat)=>(YY l v=k)/\(k<=l.length)) ?_ ?_
     ·simp[go_sem];refine wl good (fun(k:Nat)=>[(0,.val (aU l)),(3,.own (.bx true (dP v))),(6,.val (dI k))]) (fun(k:Nat)=>l.length-k) (fun(k:Nat)=>(k<=l.length)/\((l.take k).all (fun u=>decide (bQ u v<0))=true)) (0) ⟨(by omega),rfl⟩ ?_;rintro k ⟨h1k,h2k⟩;simp[go_sem];refine wdr good ?_;simp[go_sem];refine gv (fun f=> ?_) (fun f=> ?_)
      ·have f':=f;obtain⟨c,hc⟩:=aC (l:=l) (i:=k) (by omega);have hcc:l[k]=c:=by simpa[List.getElem?_eq_getElem f]using hc
       simp[go_sem,f,hcc];refine cd (kZ c v) ?_;simp[go_sem];refine gw (fun g=> ?_) (fun g=> ?_)
       ·simp[go_sem];refine ai ?_;refine nx (k+1) ⟨(by omega),(aM hc h2k (by simpa using g))⟩
       ·simp at g;simp[go_sem];refine jn (k) ⟨(ae6 h1k h2k (.inr ⟨c,hc,by omega⟩)),(h1k)⟩
      ·have f':=f;simp at f';simp[go_sem,f];refine jn (k) ⟨(ae6 h1k h2k (.inl (by omega))),(h1k)⟩
     rintro k ⟨h5,h6⟩;simp[go_sem];refine wdf good [(0,[43]),(4,[43,46,47]),(6,[48,49]),(7,[47,49,50]),(11,[50,53,54]),(12,[54,4]),(13,[5])] [(0,.val (aU l)),(3,.own (.bx true (dP v))),(6,.val (dI k))] [] (by simp[go_sem]) ?_;simp[go_sem];iterate 5 refine ai ?_
     refine eD good [] (aR 4) ?_;simp[go_sem];simp[pW,ho,h5]
theorem aeK (o:List Ver)(c:Ver):(j6 o c).length<=o.length+1:=by
 unfold j6;split
 ·simp
 ·split
  ·simp
  ·split<;>simp
theorem RY (l:List Ver):(bS l).length<=l.length:=by
 have:=wI j6 aeK l [];simpa[bS]using this
theorem XC (l:List Ver):(lM l).length=l.length:=by
 have:=tV sN l [];simpa[lM]using this
theorem yP (l:List Ver):(bW l).length=l.length:=by
 have:=tV kQ l [];simpa[bW]using this
theorem ahO (l:List Ver)(v:Ver):(pW l v).length<=l.length+1:=by
 unfold pW;split
 ·simp;omega
 ·omega
theorem ag4 (l:List Ver)(c:Ver):lM (l++[c])=eU (sN c) (lM l) c:=by simp[lM,List.foldl_append]
theorem EJ (l:List Ver)(hl:l.length<=8)(hv:eO l=true):Fk 27 [aU l] (.tup [.val (aU (kH l)),.val (aU (iD l))]):=by
 refine fE good [19,48] func27 ntmps27 fun w0 ow0=> ?_;have hcl:=RY l;have hap:apart (bS l)=apart (bS l):=rfl;have hks:kH l=bW (yT l).2.1:=rfl;have hrs:iD l=bW (yT l).2.2:=rfl;have hst:yT l=(lM (l8 (bS l))).foldl (mH (apart (bS l))) ([],apart (bS l),[]):=rfl;simp[go_sem];refine ck (A8 l (by omega) hv) ?_;generalize bS l=cur at hcl hap hst|-
 simp[go_sem];refine wlc good [6] (fun(x':(Nat)×(List Ver)×(List Ver))=>match x' with|(i,A,M)=>[(4,.own (bN cur)),(5,.own (bN A)),(6,.val (aU M)),(7,.val (dI i))]) (fun(x':(Nat)×(List Ver)×(List Ver))=>match x' with|(i,A,M)=>(cur).length-i) (fun(x':(Nat)×(List Ver)×(List Ver))=>match x' with|(i,A,M)=>(i<=(cur).length)/\(A=apart (cur.take i)/\M=lM (l8 (cur.take i)))/\(A.length<=i/\M.length<=i)) ((0,[],[])) ⟨(by simp),(⟨rfl,rfl⟩),(by simp)⟩ ?_;rintro⟨i,A,M⟩ ⟨h1,h2,h3⟩;simp[go_sem];refine gw (fun a=> ?_) (fun a=> ?_)
 ·obtain⟨c,hc⟩:=aC (l:=cur) (i:=i) (by omega);have h1f:=LX hc;have h2f:=KM hc;simp[go_sem,hc];refine gw (fun b=> ?_) (fun b=> ?_)
  ·simp at b;simp only[b,Bool.not_false,Bool.false_eq_true,if_true,if_false,List.append_nil]at h1f h2f;simp[go_sem,hc];iterate 2 refine ai ?_
   refine nxc (i+1,A++[c],M) [6] ⟨(by omega),(⟨by rw[h2f,h2.1],by rw[h1f,h2.2]⟩),(by simp;omega)⟩
  ·simp at b;simp only[b,Bool.not_true,Bool.false_eq_true,if_true,if_false,List.append_nil]at h1f h2f;have hil:=ES (sN c) M c;simp[go_sem];refine IG good (fun(k:Nat)=>[(4,.own (bN cur)),(5,.own (bN A)),(6,.val (aU M)),(7,.val (dI i)),(8,.val (dI k))]) (fun(k:Nat)=>(eU (sN c) M c=M.take k++[c]++M.drop k)/\(k<=M.length)) ?_ ?_
   ·simp[go_sem];refine wl good (fun(k:Nat)=>[(4,.own (bN cur)),(5,.own (bN A)),(6,.val (aU M)),(7,.val (dI i)),(8,.val (dI k))]) (fun(k:Nat)=>k) (fun(k:Nat)=>(k<=M.length)/\(∀j,k<=j->(h:j<M.length)->sN c M[j]=true)) (M.length) ⟨(by omega),(fun j h1 h2=>absurd h2 (by omega))⟩ ?_;rintro k ⟨h1k,h2k⟩;simp[go_sem];refine wdr good ?_;simp[go_sem];refine gv (fun e=> ?_) (fun e=> ?_)
    ·have e':=e;obtain⟨d,hd⟩:=aC (l:=M) (i:=k-1) (by omega);have hk1:((k:Int)-1).toNat=k-1:=by omega
     have hk2:(k:Int)-1=((k-1:Nat):Int):=by omega
     simp[go_sem,hc,e,hd,hk2];refine ai ?_;refine gw (fun f=> ?_) (fun f=> ?_)
     ·simp[go_sem,hk2];refine ai ?_;refine nx (k-1) ⟨(by omega),(fun j h1 h2=>by by_cases hj:j=k-1;(subst hj;have hdd:M[k-1]=d:=(by simpa[List.getElem?_eq_getElem h2]using hd);rw[hdd];simp[sN];omega);exact h2k j (by omega) h2)⟩
     ·simp at f;have hb:=G8 (p:=sN c) h1k h2k (.inr ⟨d,hd,by simp[sN];omega⟩);simp[go_sem];refine jn (k) ⟨(by rw[eU,hb]),(h1k)⟩
    ·have e':=e;simp at e';have hb:=G8 (p:=sN c) h1k h2k (.inl (by omega));simp[go_sem,e];refine jn (k) ⟨(by rw[eU,hb]),(h1k)⟩
   rintro k ⟨h5,h6⟩;simp[go_sem];refine wdf good [(0,[57]),(4,[57,60,61]),(9,[65,66]),(10,[61,66,67]),(14,[67,70,71]),(15,[71,6])] [(4,.own (bN cur)),(5,.own (bN A)),(6,.val (aU M)),(7,.val (dI i)),(8,.val (dI k))] [] (by simp[go_sem]) ?_;simp[go_sem,hc];iterate 6 refine ai ?_
   refine nxc (i+1,A,M.take k++[c]++M.drop k) [6] ⟨(by omega),(⟨by rw[h2f,h2.1],by rw[h1f,ag4,←h2.2,h5]⟩),(by rw[←h5];omega)⟩
 ·simp at a;rw[aO a]at h2;obtain⟨rfl,rfl⟩:=h2;clear hap;generalize apart cur=A at*
  generalize lM (l8 cur)=M at*
  simp[go_sem];refine ck (mI _) ?_;simp[go_sem];refine wlc good [11,9] (fun(x':(Nat)×(List (List Int))×(List Ver)×(List Ver))=>match x' with|(i,g,kp,rf)=>[(5,.own (bN A)),(6,.val (aU M)),(9,.val (aU kp)),(10,.own (bN rf)),(11,.val (aL g)),(12,.val (dI i))]) (fun(x':(Nat)×(List (List Int))×(List Ver)×(List Ver))=>match x' with|(i,g,kp,rf)=>(M).length-i) (fun(x':(Nat)×(List (List Int))×(List Ver)×(List Ver))=>match x' with|(i,g,kp,rf)=>(i<=(M).length)/\((g,kp,rf)=(M.take i).foldl (mH A) ([],A,[]))/\(g.length<=i/\∀l∈g,l.length<=2^i)/\(kp.length<=A.length+i/\rf.length<=i)) ((0,[],A,[])) ⟨(by simp),(rfl),(by simp),(by simp)⟩ ?_;rintro⟨i,g,kp,rf⟩ ⟨h1m,h2m,h3m,h4m⟩;simp[go_sem];refine gw (fun am=> ?_) (fun am=> ?_)
  ·obtain⟨cm,hcm⟩:=aC (l:=M) (i:=i) (by omega);have hm:=bC (mH A) ([],A,[]) hcm;rw[←h2m]at hm;have hp:2^i<=256:=Nat.le_trans (Nat.pow_le_pow_right (by omega) (show i<=8 by omega)) (by decide);have hp2:2^(i+1)=2*2^i:=by omega
   have hp1:1<=2^i:=Nat.one_le_two_pow;have hj:=XU (m:=2^i) hp1 h3m.2 cm.a cm.b;have hsl:=yP kp;have hal:=ahO (bW kp) cm;simp[go_sem];refine wdt good 12 ?_;simp[go_sem,hcm];refine cd (DW g cm.a cm.b (by omega) (fun l hl=>by have:=h3m.2 l hl;omega)) ?_;simp[go_sem];refine ck (QN (jB g cm.a cm.b) A (by omega) (fun l hl=>by have:=hj.2 l hl;omega) (by omega)) ?_;simp[go_sem];refine gw (fun b=> ?_) (fun b=> ?_)
   ·simp at b;have hu:mH A (g,kp,rf) cm=(jB g cm.a cm.b,pW (bW kp) cm,rf):=if_pos (by simpa using b);simp[go_sem];refine wdf good [(7,[105,98]),(10,[106,9])] [(5,.own (bN A)),(6,.val (aU M)),(9,.val (aU kp)),(10,.own (bN rf)),(11,.val (aL (jB g cm.a cm.b))),(12,.val (dI i))] [] (by simp[go_sem]) ?_;simp[go_sem];refine cd (vD kp (by omega)) ?_;simp[go_sem,hcm];refine cd (LH (bW kp) cm (by omega)) ?_;simp[go_sem];refine ai ?_;refine nxc (i+1,jB g cm.a cm.b,pW (bW kp) cm,rf) [11,9] ⟨(by omega),(by rw[hm,hu]),(by rw[hp2];exact⟨by omega,hj.2⟩),(by omega)⟩
   ·simp at b;have hu:mH A (g,kp,rf) cm=(g,kp,rf++[cm]):=if_neg (by simpa using b);simp[go_sem,hcm];iterate 2 refine ai ?_
    refine nxc (i+1,g,kp,rf++[cm]) [11,9] ⟨(by omega),(by rw[hm,hu]),(by rw[hp2];exact⟨by omega,fun l hl=>by have:=h3m.2 l hl;omega⟩),(by simp;omega)⟩
  ·simp at am;rw[aO am,←hst]at h2m;have e1:(yT l).2.1=kp:=by rw[←h2m]
   have e2:(yT l).2.2=rf:=by rw[←h2m]
   rw[hks,hrs,e1,e2];simp[go_sem];refine eD good [] (aR 10) ?_;simp[go_sem];refine ck (vD kp (by omega)) ?_;simp[go_sem];refine ck (vD rf (by omega)) ?_;simp[go_sem]
end Go.Proofs.YtnglphdfhegnmaaGreatDoor
end
section
namespace Go.Dv
open Go.RowKit
variable [eZ]
section
variable {P:Program}{T:TypeId->TyE}{n:Nat}{ops:Array Oper}{p:Pin}{w0:World}{ow0:Own}
theorem ZO {z:Array Value}{n:Nat}{v:Value}(h:v∈(Builtin.zeroCells z n).toList)(hz:0<z.size):v∈z.toList:=by
 simp only[Builtin.zeroCells,Array.toList_map,List.mem_map,Array.toList_range]at h;obtain⟨i,_,rfl⟩:=h;have hm:i % z.size<z.size:=Nat.mod_lt _ hz;rw[getElem!_pos z _ hm];simp
theorem R.azE {w:World}{ow:Own}{e:TypeId}{xs:List D}{l:List Nat}{b cap s:Nat}{i:TypeInfo}{C:Array Value}{fz:Nat×Nat}{vs:List Value}{j:Nat}(hb:w.heap[b]?=some (.cells C e fz)) (hone:∀v∈vs,v.oneCell'=true)
  (ho:ow b=some l) (hU:acF fz C.size) (hC:C.size=cap*s) (hi:P.info? e=some i) (his:i.size=s) (hrow:Rs P w ow xs l 0 C 0 s) (hc1:xs.length<=cap) (hc2:cap<=maxLen) (hj:j<=xs.length) (hv:vs.length=(xs.length-j)*s):
  R P (w.setRow b (C.toList.take (j*s)++vs++C.toList.drop (j*s+vs.length)).toArray) ow (.sl (some e) (xs.take j++List.replicate (xs.length-j) (.any s))) l [.slice (some ⟨b,0,none⟩) xs.length cap]:=by
 have hfit:j*s+vs.length<=C.size:=by
  rw[hv,hC,←Nat.add_mul];exact Nat.mul_le_mul_right _ (by omega)
 obtain⟨hw,hb',hcs⟩:=Wr.setRow (o:=j*s) (vs:=vs) hb hfit;have hlen:(xs.take j++List.replicate (xs.length-j) (D.any s)).length=xs.length:=by simp;omega
 have hr:=(Rs.iff hb).1 hrow;simp only[R];refine⟨_,_,by rw[hlen],by omega,hc2,.inr (.inr ⟨b,0,s,_,e,fz,rfl,hb',(fun h=>by cases h),(fun t ht=> ?_),(Rs.iff hb').2 fun k x hx=> ?_⟩)⟩
 ·obtain rfl:=Option.some.inj ht;have hsz:(C.toList.take (j*s)++vs++C.toList.drop (j*s+vs.length)).toArray.size=C.size:=by simp;omega
  exact⟨ho,rfl,by rw[hsz];exact hU,rfl,by rw[hsz];exact hC,i,hi,his⟩
 ·by_cases hk:k<j
  ·rw[List.getElem?_append_left (by simp;omega),List.getElem?_take,if_pos hk]at hx;obtain⟨g1,g2⟩:=hr k x hx;refine⟨g1,g2.frame hw ⟨by rw[ho];simp,fun q e=> ?_⟩ ?_⟩
   ·rw[ho]at e;exact suffix_absurd (Option.some.inj e)
   ·first
     |exact .inr (.inr (by simp only[Nat.zero_add];rw[g1];have:=Nat.mul_le_mul_right s (show k+1<=j by omega);rw[Nat.add_mul]at this;omega))
     |exact .inr (.inl (by simp only[Nat.zero_add];rw[g1];have:=Nat.mul_le_mul_right s (show k+1<=j by omega);rw[Nat.add_mul]at this;omega))
  ·have hkl:k<xs.length:=by have:=(List.getElem?_eq_some_iff.1 hx).1;rw[hlen]at this;exact this
   rw[List.getElem?_append_right (by simp;omega),List.getElem?_replicate]at hx;split at hx
   ·obtain rfl:=Option.some.inj hx
    have hm:(k-j)*s+s<=vs.length:=by
     rw[hv];have:=Nat.mul_le_mul_right s (show k-j+1<=xs.length-j by omega);rw[Nat.add_mul]at this;omega
    refine⟨rfl,_,_,_,(vs.drop ((k-j)*s)).take s,hb',fun m hm2=> ?_,?_⟩
    ·have hm2:m<s:=hm2;have h1:=hcs ((k-j)*s+m) (by omega);rw[List.getElem?_take,if_pos hm2,List.getElem?_drop];rw[←h1];congr 1;have:k*s=j*s+(k-j)*s:=by rw[←Nat.add_mul];congr 1;omega
     omega
    ·simp only[R];refine⟨by simp;omega,fun v hv2=>hone v (List.mem_of_mem_drop (List.mem_of_mem_take hv2))⟩
   ·cases hx
theorem apK {w:World}{e:TypeId}{i:TypeInfo}{zv:Value}(hi:P.info? e=some i)(hz:i.zero=some zv):(zeroValue e).run P w= .ok zv w:=by simp[zeroValue,typeInfo,hi,hz]
theorem aiE {w:World}{t e ty:TypeId}(ht:P.underlying t=some (.slice e))(a:Option Addr)(cap:Nat):(Builtin.clear_ #[t] ty #[.slice a 0 cap]).run P w= .ok (.tuple #[]) w:=by
 cases a<;>simp[Builtin.clear_,run_underlying ht]
theorem ajG {w w':World}{t e ty:TypeId}{zv:Value}(ht:P.underlying t=some (.slice e))(hz:(zeroValue e).run P w= .ok zv w)(a:Addr)(n cap:Nat)(hn:n≠0)(h:(storeCells a (Builtin.zeroCells zv.cells n).toList).run P w= .ok () w'):(Builtin.clear_ #[t] ty #[.slice (some a) n cap]).run P w= .ok (.tuple #[]) w':=by
 obtain⟨m,rfl⟩:∃m,n=m+1:=⟨n-1,by omega⟩;simp[Builtin.clear_,run_underlying ht,hz,h]
theorem WM {w w':World}{a:Act}{o:Oper}{x:Operand}{t:TypeId}{v:Value}(ho:o.op= .call {callee:= .builtin .clear,args:= #[x],argTypes:= #[t]})(hv:a.eval x=v)(h:∀ty,(Builtin.clear_ #[t] ty #[v]).run P w= .ok (.tuple #[]) w'):(execOp a.eval o).run P w= .ok (.value (.tuple #[])) w':=by
 unfold execOp;rw[ho];have h0:=fun ty=>h ty;simp[resolve,invoke,builtin,hv,h0]
theorem arP {Q:Exit->Act->World->Prop}(hG:∀t,Good P T t) {o1 o2:Oper}{s:St}{K:St->Prop}{t e:TypeId}{x lo:Operand}{r u j:Nat}{k:IntKind}{xs:List D}(ht:(T t).ty= .sl e) (he:(T e).ok=true) (hew:0<(T e).w) (hg1:o1.guard=none) (hg2:o2.guard=none)
  (ho1:o1.op= .slice t x (some lo) none none) (hd1:o1.dst=some u) (hu:u<n) (ho2:o2.op= .call {callee:= .builtin .clear,args:= #[.tmp u],argTypes:= #[t]}) (hd2:∀v,o2.dst=some v->v<n/\v≠r) (hur:u≠r)
  (hx:evS s x= .al r []) (hs:s r= .own (.sl (some e) xs)) (hlo:evS s lo= .val (.one (.int k j))) (hj:j<=xs.length) (hn1:kF p o1=true) (hn2:kF p o2=true)
  (hK:K ((((s.set u .un).kill r).put r (.own (.sl (some e) (xs.take j++List.replicate (xs.length-j) (.any (T e).w))))).dN o2.dst (.tup [])))
  {a:Act}{w:World}(hR:Rel P n w0 ow0 s a w) (hp:Pinned p a) (hQ:∀s' a' w',K s'->Rel P n w0 ow0 s' a' w'->Pinned p a'->Q .normal a' w'):wpList P ops Q [o1,o2] a w:=by
 obtain⟨ow,hf⟩:=hR;have hsl:=(hG t).desc ht (by simp);obtain⟨_,i,zv,hi,his,hz,hflat,_,_,_,hzw⟩:=(hG e).of (fun y hy e2=>by subst e2;unfold TyE.ok at he;rw[hy]at he;cases he);have hu6:u<1000000:=Nat.lt_of_lt_of_le hu hf.small
 have hval:a.eval x=aval a r:=by
  have hv:=hf.eval x;rw[hx]at hv;obtain⟨_,_,_,_,_,h4⟩:=hv;rcases h4 with⟨_,h4⟩|⟨b,off,h4,_⟩
  ·exact h4
  ·simp[loc]at h4
 have hV:=hf.slot r;rw[hs]at hV;simp only[SV,V,R]at hV;obtain⟨ad,cap,hv,hc1,hc2,h4⟩:=hV;have hv:aval a r= .slice ad xs.length cap:=by simpa using hv
 have hlov:a.eval lo= .int k j:=(hf.one hlo).1;obtain⟨v1,hv1⟩:∃v1,v1=Value.slice (if cap=j then ad else ad.map (·.add (j*i.size))) (xs.length-j) (cap-j):=⟨_,rfl⟩
 have hrun1:(execOp a.eval o1).run P w= .ok (.value v1) w:=by
  unfold execOp;rw[ho1];simp only[hval,hv,Instr.sliceAt,Instr.slice,Sem.run_bind,run_underlying hsl w,Result.andThen_ok,Option.map_none];have hbr:=MK (P:=P) (w:=w) (a:=a) (lo:=some lo) (hi:=none) (isS:=true) (len:=xs.length) (cap:=cap) (.inr ⟨lo,k,j,rfl,hlov,by omega,Int.toNat_natCast j⟩) (.inl ⟨rfl,rfl⟩) hj hc1;simp only[Option.map_none]at hbr;rw[hbr];simp only[Result.andThen_ok,uN hi w,Sem.run_pure,hv1]
 have hf1:Fits P n w0 ow0 ow (s.set u .un) (a.put (some u) v1) w:=hf.set hu trivial;have hp1:Pinned p (a.put (some u) v1):=by rw[←hd1];exact hp.put hn1
 have hev:(a.put (some u) v1).eval (.tmp u)=v1:=by simp[Act.eval,Act.put,hf.size,hu]
 have hav:aval (a.put (some u) v1) r= .slice ad xs.length cap:=by rw[rF hf.size hf.small hu,if_neg (Ne.symm hur),hv]
 have hs1:(s.set u .un) r= .own (.sl (some e) xs):=by
  rw[St.set];simp only[St.put,if_neg (Ne.symm hur)];rw[free_own (by rw[hs];rfl) (Ne.symm hur),hs]
 have key:∃w2 ow2,(execOp (a.put (some u) v1).eval o2).run P w= .ok (.value (.tuple #[])) w2/\Fits P n w0 ow0 ow2 (((s.set u .un).kill r).put r (.own (.sl (some e) (xs.take j++List.replicate (xs.length-j) (.any (T e).w))))) (a.put (some u) v1) w2:=by
  have hrf:r≠far0:=fun e=>by have:=hf.far;rw[←e,hs]at this;cases this
  by_cases hjl:xs.length-j=0
  ·refine⟨w,ow,?_,?_⟩
   ·exact WM ho2 hev fun ty=>by rw[hv1,hjl];exact aiE hsl _ _
   ·have hxs:xs.take j++List.replicate (xs.length-j) (D.any (T e).w)=xs:=by rw[hjl];simp;exact List.take_of_length_le (by omega)
    rw[hxs];refine hf1.change hf1.nodef hf1.size rfl rfl rfl (Nat.le_refl _) (fun b _ h=>⟨rfl,h⟩) hf1.new (fun k=>k=r) (fun k _ b _ q hq=>⟨rfl,hq⟩) (fun k hk=>⟨rfl,?_⟩) ?_ (fun e=>hrf e.symm)
    ·have hkr:k≠r:=hk;simp only[St.put,if_neg hkr];rcases lS (s.set u .un) r k with h1|⟨h1,_,h2⟩
     ·exact .inl h1
     ·refine .inr ⟨h1,fun m hm=> ?_⟩;have hmr:m≠r:=by rintro rfl;exact h2 hm
      exact⟨hmr,by simp only[if_neg hmr];exact kS ((hf1.slot k).root hm) hmr⟩
    ·rintro k rfl;have:=hf1.slot k;rw[hs1]at this;simp only[St.put,if_true];exact this
  ·rcases h4 with⟨_,h4,_⟩|⟨h4,_⟩|⟨b,off,sz,C,e',fz,rfl,hb,_,h5,hrow⟩
   ·rw[h4]at hjl;simp at hjl
   ·cases h4
   obtain⟨hob,rfl,hU,rfl,hC,i',hi',his'⟩:=h5 e rfl;obtain rfl:i=i':=by rw[hi]at hi';exact Option.some.inj hi'
   have hcj:cap≠j:=by omega
   have hzl:zv.cells.size=i.size:=by
    have h1:=(R.zf (P:=P) (w:=w) (ow:=ow) (l:=[]) hflat).len;rw[Array.length_toList,hzw,←his]at h1;exact h1
   obtain⟨vs,hvs⟩:∃vs,vs=(Builtin.zeroCells zv.cells (xs.length-j)).toList:=⟨_,rfl⟩;have hvl:vs.length=(xs.length-j)*sz:=by rw[hvs,Array.length_toList,size_zeroCells,hzl,his']
   have hone:∀v∈vs,v.oneCell'=true:=fun v hv=>(R.zf (P:=P) (w:=w) (ow:=ow) (l:=[]) hflat).FU v (ZO (by rw[←hvs];exact hv) (by rw[hzl,his];exact hew))
   have hfit:0+j*sz+0+vs.length<=C.size:=by
    rw[hvl,hC];have:=Nat.mul_le_mul_right sz (show j+(xs.length-j)<=cap by omega);rw[Nat.add_mul]at this;omega
   have hst:=oD P b (0+j*sz) e fz vs 0 C w hb hU hfit hone;have hct:=R.azE (P:=P) hb hone hob hU hC hi his' hrow hc1 hc2 hj hvl;simp only[Nat.zero_add,Nat.add_zero]at hst
   refine⟨_,ow,WM ho2 hev fun ty=>by
    rw[hv1,if_neg hcj]
    exact ajG hsl (apK hi hz) _ _ _ hjl (by
     rw[←hvs];have hadd:(⟨b,0,none⟩:Addr).add (j*i.size)=⟨b,j*sz,none⟩:=by rw[his'];unfold Addr.add;split<;>simp_all
     show(storeCells ((⟨b,0,none⟩:Addr).add (j*i.size)) vs).run P w=_;rw[hadd];exact hst),?_⟩
   have hfit':j*sz+vs.length<=C.size:=by omega
   obtain⟨hw,hb',_⟩:=Wr.setRow (o:=j*sz) (vs:=vs) hb hfit';obtain⟨e1,e2,e3,e4⟩:=aeD (w:=w) (b:=b) (C:=(C.toList.take (j*sz)++vs++C.toList.drop (j*sz+vs.length)).toArray)
   have hob2:∀k,k≠r->∀b2 q,ow b2=some (q++[k])->b2=b->False:=fun k hk b2 q hq e=>by
    rw[e,hob]at hq;have:=congrArg List.getLast? (Option.some.inj hq);simp at this;exact hk this.symm
   refine hf1.change hf1.nodef hf1.size e1 e2 e3 (Nat.le_of_eq e4.symm) (fun b2 hb2 ho=>⟨hw.other b2 (fun e=>by rw[e,hob]at ho;cases ho),ho⟩) (fun b2 hb2=>hf1.new b2 (by rw[e4]at hb2;exact hb2)) (fun k=>k=r) (fun k hk b2 hb2 q hq=>⟨hw.other b2 (fun e=>hob2 k hk b2 q hq e),hq⟩) (fun k hk=>⟨rfl,?_⟩) ?_ (fun e=>hrf e.symm)
   ·have hkr:k≠r:=hk;simp only[St.put,if_neg hkr];rcases lS (s.set u .un) r k with h1|⟨h1,_,h2⟩
    ·exact .inl h1
    ·refine .inr ⟨h1,fun m hm=> ?_⟩;have hmr:m≠r:=by rintro rfl;exact h2 hm
     exact⟨hmr,by simp only[if_neg hmr];exact kS ((hf1.slot k).root hm) hmr⟩
   ·rintro k rfl;simp only[St.put,if_true,SV,V];rw[hav,←his,his'];exact hct
 obtain⟨w2,ow2,hrun2,hf2⟩:=key;have hp2:∀v,Pinned p ((a.put (some u) v1).put o2.dst v):=fun v=>hp1.put hn2;unfold wpList;rw[if_pos (by simp[Region.wanted,hg1])];left;unfold Oper.wp;rw[hrun1];simp only[Oper.upon,hd1];unfold wpList;rw[if_pos (by simp[Region.wanted,hg2])];left;unfold Oper.wp;rw[hrun2];simp only[Oper.upon];unfold wpList;refine hQ _ _ _ hK ?_ (hp2 _);cases hod:o2.dst with
 |none=>exact⟨ow2,hf2⟩
 |some v=>exact⟨ow2,hf2.set (hd2 v hod).1 ⟨#[],rfl,rfl,fun k x hx=>by simp at hx⟩⟩
theorem aAI (hG:∀t,Good P T t) {sp:List Nat}{s:St}{K:Exit->St->Prop}{i:Nat}(m:Nat) {o1 o2:Oper}{t e u:Nat}{x lo:Operand}
  (h:vcL P T n ops (ops.toList.take m) s (fun s1=>match evS s1 x with
   | .al r []=>(match s1 r with
    | .own (.sl (some e') xs)=>e'=e/\QG (evS s1 lo) fun j=>0<=j/\j<=xs.length/\u≠r/\ @GR (((s1.set u .un).kill r).put r (.own (.sl (some e) (xs.take j.toNat++List.replicate (xs.length-j.toNat) (.any (T e).w))))) ⟨K⟩
    |_=>False)
   |_=>False))
  (ho:ops.toList.drop m=[o1,o2]:=by rfl) (ho1:o1.op= .slice t x (some lo) none none:=by rfl) (ht:(T t).ty= .sl e:=by rfl) (he:(T e).ok=true:=by rfl) (hew:0<(T e).w:=by decide) (hg1:o1.guard=none:=by rfl) (hg2:o2.guard=none:=by rfl)
  (hd1:o1.dst=some u:=by rfl) (hu:u<n:=by decide) (ho2:o2.op= .call {callee:= .builtin .clear,args:= #[.tmp u],argTypes:= #[t]}:=by rfl) (hd2:o2.dst=none:=by rfl): @lD _ P T n w0 ow0 p sp ⟨.region i ops false⟩ s ⟨K⟩:=fun hd a w hR hp Q hQ=>wp_region_list (by
 have hd':kE p ops.toList=true:=hd
 have:=GA (Q:=Q) (l2:=ops.toList.drop m) (ops.toList.take m) s _ (uK hG _ _ _ h) (fun o ho=>kE.one hd' o (List.mem_of_mem_take ho)) a w hR hp fun s' a' w' hK hR' hp'=>by
  have hn1:kF p o1=true:=kE.one hd' o1 (List.mem_of_mem_drop (by rw[ho];simp));have hn2:kF p o2=true:=kE.one hd' o2 (List.mem_of_mem_drop (by rw[ho];simp));rw[ho];split at hK
  rotate_left
  ·exact hK.elim
  rename_i r hx;split at hK
  rotate_left
  ·exact hK.elim
  rename_i e' xs hs;obtain⟨rfl,hK⟩:=hK;obtain⟨k,j,hj,h1,h2,h3,h4⟩:=rH hK;refine arP hG (j:=j.toNat) ht he hew hg1 hg2 ho1 hd1 hu ho2 (fun v hv=>by rw[hd2]at hv;cases hv) h3 hx hs (by rw[hj,Int.toNat_of_nonneg h1]) (by omega) hn1 hn2 ?_ hR' hp' fun s2 a2 w2 hK2 hR2 hp2=>hQ .normal s2 a2 w2 hK2 hR2 hp2;rw[hd2];exact h4
 rwa [List.take_append_drop]at this)
theorem awO {o:Oper}{s:St}{K:St->Prop}{t t' e:TypeId}{x:Operand}{xs:List D}(ht:P.underlying t=some (.slice e)) (ho:o.op= .binOp .eql t x (.const (.slice none 0 0)) t') (hd:dstOk n o=true) (hx:asSl s (slotOf x) (evS s x)= .fr xs)
  (h1:xs=[]->K (s.dN o.dst (.val (.one (.bool true))))) (h2:K (s.dN o.dst (.val (.one (.bool false))))):Ok P n w0 ow0 o s K:=by
 refine bX fun a w ow hf=> ?_
 have fin:∀r:Bool,Rel P n w0 ow0 (s.dN o.dst (.val (.one (.bool r)))) (a.put o.dst (.bool r)) w:=fun r=>⟨ow,by
  cases hod:o.dst with
  |none=>exact hf
  |some t=>
   have ht:t<n:=by simpa[dstOk,hod]using hd
   exact hf.set ht (SV.pR rfl)⟩
 have hv:=hf.asSl x;rw[hx]at hv;simp only[qX]at hv
 have hemp:∀(a0:Option Addr) m c,a.eval x= .slice a0 m c->a0=none->xs=[]:=fun a0 m c e0 hn=>by
  by_cases hne:xs=[]
  ·exact hne
  ·have h3:=qX.hdr (s:=s) (a:=a) (z:= .fr xs) (by simpa only[qX]using hv) (by simp) (by simpa[SLv.xs]using hne);obtain⟨ad,m',c',h4⟩:=h3;rw[e0,hn]at h4;cases h4
 obtain⟨ad,cap,hval,hcap,_⟩:=hv.hdr;have ev:a.eval (.const (.slice none 0 0))= .slice none 0 0:=rfl
 have e2:∀m c,(Op.equal t (.slice ad m c) (.slice none 0 0)).run P w= .ok ad.isNone w:=fun m c=>by
  unfold Op.equal Op.maxDepth Op.equalIn;rw[Sem.run_bind,run_underlying ht w];cases ad<;>rfl
 refine⟨.bool ad.isNone,w,?_,_,?_,fin _⟩
 ·unfold execOp;rw[ho];simp only[hval,ev];have hg:∀m c,(eqGuard .eql t x (.const (.slice none 0 0)) (.slice ad m c) (.slice none 0 0)).run P w= .ok () w:=fun m c=>rfl;simp only[Sem.run_bind,hg,Result.andThen_ok,binOp,e2,Sem.run_pure];try rfl
 ·cases had:ad with
  |none=>exact h1 (hemp _ _ _ hval had)
  |some _=>exact h2
theorem aD5 (hG:∀t,Good P T t) {sp:List Nat}{s:St}{K:Exit->St->Prop}{i:Nat}(m:Nat) {o:Oper}{l2:List Oper}{t t' e u:Nat}{x:Operand}
  (h:vcL P T n ops (ops.toList.take m) s (fun s1=>∃xs,asSl s1 (slotOf x) (evS s1 x)= .fr xs/\(xs=[]->vcL P T n ops l2 (s1.set u (.val (.one (.bool true)))) (fun s3=> @GR s3 ⟨K⟩))/\vcL P T n ops l2 (s1.set u (.val (.one (.bool false)))) (fun s3=> @GR s3 ⟨K⟩)))
  (ho:ops.toList.drop m=o::l2:=by rfl) (hop:o.op= .binOp .eql t x (.const (.slice none 0 0)) t':=by rfl) (ht:(T t).ty= .sl e:=by rfl) (hg:o.guard=none:=by rfl) (hdst:o.dst=some u:=by rfl) (hu:u<n:=by decide): @lD _ P T n w0 ow0 p sp ⟨.region i ops false⟩ s ⟨K⟩:=by
 refine aD4 hG m ho hg h fun s1 ⟨xs,h1,h2,h3⟩=>awO ((hG t).desc ht (by simp)) hop (dstOk_of fun v hv=>by rw[hdst]at hv;cases hv;exact hu) h1 ?_ ?_
 ·rw[hdst];exact h2
 ·rw[hdst];exact h3
end
end Go.Dv
end
section
namespace Go.Proofs.YtnglphdfhegnmaaGreatDoor
open Go.Dv Go.Pl Go.Proofs.Tryz
theorem fZ (l:List Ver)(hl:l.length<=1048576):Fk 155 [aU l] (.own (bN l)):=by
 refine fE good [2,5] func155 ntmps155 fun w0 ow0=> ?_;have hle:l.length<=1073741824:=by omega
 simp[go_sem];refine aD5 good 1 ?_;simp[go_sem,hle];intro hnil;subst hnil;try simp[go_sem,hle]
 refine eD good [] (AQ (L:=[(2,.own (bN []))]) (by simp[go_sem])) ?_;simp[go_sem]
theorem amA {α β:Type}(f:β->α->β)(z:β){l:List α}{i:Nat}{c:α}(h:l[i]?=some c):(l.take (i+1)).foldl f z=f ((l.take i).foldl f z) c:=bC f z h
theorem ac6 (l:List Ver):(apart l).length+(l8 l).length=l.length:=by
 induction l with
 |nil=>rfl
 |cons v l ih=>unfold apart l8 at ih|-;cases hv:v.same<;>simp[hv]<;>omega
def byT (a b:Ver):Int:=oM b.time a.time
theorem gT (l:List Ver):∀a∈l,∀b∈l,bR prog 152 [dP a,dP b] (fun r=>r= .val (dI (byT a b))):=fun a _ b _=>AZ a b
theorem gC (l:List Ver):∀a∈l,∀b∈l,bR prog 149 [dP a,dP b] (fun r=>r= .val (dI (bQ a b))):=fun a _ b _=>qA a b
theorem ax3 {l:List Ver}{c:Ver}(h:∀v∈l,bH v=true)(hc:bH c=true):∀v∈l++[c],inT v.a/\inT v.b:=fun v hv=>by
 have hv2:bH v=true:=by
  rcases List.mem_append.1 hv with h2|h2
  ·exact h v h2
  ·rw[List.mem_singleton.1 h2];exact hc
 exact⟨(jX hv2).1,(jX hv2).2.1⟩
theorem an5 (l:List Ver):gV (cfB byT) l=lM l:=abZ l
theorem EA (l:List Ver)(hl:l.length<=1048576)(hv:eO l=true):Fk 96 [aU l] (.tup [.own (bN (kH l)),.own (bN (iD l))]):=by
 refine fE good [20] func96 ntmps96 fun w0 ow0=> ?_;have h8:=(CE hv).2.2;have hse:=YQ hv;obtain⟨hcv,_⟩:=ahP hv;have hcl:=XF l;simp[go_sem];refine ck (BA l hl hv) ?_;unfold XR at hse;generalize bS l=cur at*
 simp[go_sem];refine wl good (fun(x':(Nat)×(List Ver)×(List Ver))=>match x' with|(i,ke,op)=>[(4,.own (bN ke)),(5,.val (.one (.slice none 0 0))),(6,.own (bN op)),(12,.own (bN cur)),(13,.val (dI cur.length)),(14,.val (dI i))]) (fun(x':(Nat)×(List Ver)×(List Ver))=>match x' with|(i,ke,op)=>cur.length-i) (fun(x':(Nat)×(List Ver)×(List Ver))=>match x' with|(i,ke,op)=>(i<=cur.length)/\(ke=apart (cur.take i))/\(op=l8 (cur.take i))) ((0,[],[])) ⟨(by omega),(rfl),(rfl)⟩ ?_;rintro⟨i,ke,op⟩ ⟨h1,h2,h3⟩;simp[go_sem];refine gw (fun a=> ?_) (fun a=> ?_)
 ·obtain⟨c,hc⟩:=aC (l:=cur) (i:=i) (by omega);have hs1:=LX hc;have hs2:=KM hc;have hm:=ac6 (cur.take i);rw[←h2,←h3]at hm;have htl:(cur.take i).length<=8:=by simp;omega
  simp[go_sem,hc];refine gw (fun b=> ?_) (fun b=> ?_)
  ·simp[go_sem];iterate 2 refine ai ?_
   refine nx (i+1,ke,op++[c]) ⟨(by omega),(by rw[hs2,h2];simp[b]),(by rw[hs1,h3];simp[b])⟩
  ·simp[go_sem];iterate 2 refine ai ?_
   refine nx (i+1,ke++[c],op) ⟨(by omega),(by rw[hs2,h2];simp[b]),(by rw[hs1,h3];simp[b])⟩
 ·simp at a;have hcur:cur.take i=cur:=List.take_of_length_le (by omega);rw[hcur]at h2 h3;have hm:=ac6 cur;rw[←h2,←h3]at hm;have hbt:=an5 op;have hbl:=XC op;simp[go_sem];refine dJ rfl (aiI op byT 152 aDO aDB (gT op) (by omega)) ?_;rintro r d ⟨rfl,rfl⟩;have hLv:∀v∈lM op,bH v=true:=fun v hv=>hcv v (by have:=(yE op).mem_iff.1 hv;rw[h3]at this;exact(List.mem_filter.1 this).1);have hkv:∀v∈ke,bH v=true:=fun v hv=>hcv v (by rw[h2]at hv;exact(List.mem_filter.1 hv).1);rw[←h2,←h3]at hse;generalize lM op=L at*
  simp[go_sem,hbt];refine eD good [] (aR 6) ?_;simp[go_sem];refine wl good (fun(x':(Nat)×(List Ver)×(List Ver))=>match x' with|(j,k2,re)=>[(4,.own (bN k2)),(5,.own (bN re)),(6,.val (aU L)),(31,.val (aU L)),(32,.val (dI L.length)),(33,.val (dI j))]) (fun(x':(Nat)×(List Ver)×(List Ver))=>match x' with|(j,k2,re)=>L.length-j) (fun(x':(Nat)×(List Ver)×(List Ver))=>match x' with|(j,k2,re)=>(j<=L.length)/\((L.take j).foldl wU (ke,[])=(k2,re))/\(k2.length+re.length=ke.length+j)/\(∀v∈k2,bH v=true)) ((0,ke,[])) ⟨(by omega),(rfl),(by simp),(hkv)⟩ ?_;rintro⟨j,k2,re⟩ ⟨h4,h5,h6,h7⟩;simp[go_sem];refine gw (fun d=> ?_) (fun d=> ?_)
  ·obtain⟨c,hc⟩:=aC (l:=L) (i:=j) (by omega);have hfs:=amA wU (ke,[]) hc;rw[h5]at hfs;have hcv2:=hLv c (List.mem_of_getElem? hc);have hin:=ax3 h7 hcv2;simp[go_sem,hc];refine wdf good [(1,[37,38,4]),(3,[39,40]),(4,[38,40,41])] [(4,.own (bN k2)),(5,.own (bN re)),(6,.val (aU L)),(10,.own (.bx true (dP c))),(31,.val (aU L)),(32,.val (dI L.length)),(33,.val (dI j))] [] (by simp[go_sem]) ?_;simp[go_sem];refine cf (fZ k2 (by omega)) ?_;simp[go_sem];refine ai ?_;refine cdz (Y5 (k2++[c]) (by simp;omega) hin) ?_;simp[go_sem];refine gw (fun e=> ?_) (fun e=> ?_)
   ·simp[go_sem];iterate 2 refine ai ?_
    refine nx (j+1,k2,re++[c]) ⟨(by omega),(by rw[hfs,wU,if_pos e]),(by simp;omega),(h7)⟩
   ·simp[go_sem];iterate 2 refine ai ?_
    refine nx (j+1,k2++[c],re) ⟨(by omega),(by rw[hfs,wU,if_neg (by simp[e])]),(by simp;omega),(fun v hv=>by rcases List.mem_append.1 hv with h|h;(exact h7 v h);(rw[List.mem_singleton.1 h];exact hcv2))⟩
  ·simp at d;rw[List.take_of_length_le (by omega)]at h5;rw[h5]at hse;have hk:=J6 k2;have hr:=J6 re;have hk2:=hse.1;have hr2:=hse.2;simp[go_sem];refine dJ rfl (aeT k2 bQ 149 azS az3 (gC k2) (by omega)) ?_;rintro r d ⟨rfl,rfl⟩;simp[go_sem,hk,hk2];refine dJ rfl (aeT re bQ 149 azS az3 (gC re) (by omega)) ?_;rintro r d ⟨rfl,rfl⟩;simp[go_sem,hr,hr2]
theorem yL (x:Int):Fk 140 [dI x] (.val (dB (inR x 0 5))):=by
 refine fE good [] func140 ntmps140 fun w0 ow0=> ?_;simp[go_sem];refine ck (aG x 0 5) ?_;simp[go_sem]
theorem JF (x:Int):Fk 141 [dI x] (.val (dB (inR x 1 1000))):=by
 refine fE good [] func141 ntmps141 fun w0 ow0=> ?_;simp[go_sem];refine ck (aG x 1 1000) ?_;simp[go_sem]
theorem jY (r:List (List Tst))(hs:r.length<=1048576)(hr:∀l∈r,l.length<=1048576):Fk 89 [gG r] (.val (dB (dF r))):=by
 refine fE good [] func89 ntmps89 fun w0 ow0=> ?_;simp[go_sem];refine wl good (fun(i:Nat)=>[(1,.own (.bx true (gG r))),(8,.val (.sl none (r.map mZ))),(9,.val (dI r.length)),(10,.val (dI i))]) (fun(i:Nat)=>(r).length-i) (fun(i:Nat)=>(i<=(r).length)/\(((r).take i).all dD=true)) (0) ⟨(by omega),rfl⟩ ?_;rintro i ⟨h1,h2⟩;simp[go_sem];refine gw (fun a=> ?_) (fun a=> ?_)
 ·obtain⟨c,hc⟩:=aC (l:=r) (i:=i) (by omega);have hcl:=hr c (List.mem_of_getElem? hc);simp[go_sem,hc];refine ck (aG c.length 1 3) ?_;simp[go_sem];refine gw (fun b=> ?_) (fun b=> ?_)
  ·simp at b;have hn:=bO hc (P:=dD) (by simp[dD];omega);simp[go_sem];grind[dF]
  ·simp at b;simp[go_sem];refine wl good (fun(k:Nat)=>[(1,.own (.bx true (gG r))),(4,.own (.bx true (mZ c))),(8,.val (.sl none (r.map mZ))),(9,.val (dI r.length)),(10,.val (dI i)),(20,.val (.sl none (c.map lJ))),(21,.val (dI c.length)),(22,.val (dI k))]) (fun(k:Nat)=>(c).length-k) (fun(k:Nat)=>(k<=(c).length)/\((c.take k).all wL=true)/\(adj (fun a b=>decide (a.feature<b.feature)) (c.take k)=true)) (0) ⟨(by omega),rfl,rfl⟩ ?_;rintro k ⟨h1k,h2k,h3k⟩;simp[go_sem];refine gw (fun ak=> ?_) (fun ak=> ?_)
   ·obtain⟨ck,hck⟩:=aC (l:=c) (i:=k) (by omega);simp[go_sem,hck];refine wdr good ?_;simp[go_sem];refine cd (yL ck.feature) ?_;simp[go_sem];refine gv (fun e=> ?_) (fun e=> ?_)
    ·have e':=e;simp at e';have hn:=bO hc (P:=dD) (by have:=bO hck (P:=wL) (by simp[wL];omega);simp[dD,this]);simp[go_sem,e];grind[dF]
    ·have e':=e;simp at e';simp[go_sem,e];refine cd (JF ck.threshold) ?_;simp[go_sem];refine gv (fun f=> ?_) (fun f=> ?_)
     ·have f':=f;simp at f';have hn:=bO hc (P:=dD) (by have:=bO hck (P:=wL) (by simp[wL];omega);simp[dD,this]);simp[go_sem,f];grind[dF]
     ·have f':=f;simp at f';simp[go_sem,f];refine gv (fun g=> ?_) (fun g=> ?_)
      ·have g':=g;obtain⟨p,hp⟩:=aC (l:=c) (i:=k-1) (by omega);have hi1:k-1+1=k:=by omega
       simp[go_sem,g,hp];iterate 2 refine ai ?_
       refine gw (fun d=> ?_) (fun d=> ?_)
       ·have hn:=bO hc (P:=dD) (by have:=ER hp (by rw[hi1];exact hck) (R:=fun a b=>decide (a.feature<b.feature)) (by simp;omega);simp[dD,this]);simp[go_sem];grind[dF]
       ·simp at d;simp[go_sem];refine ai ?_;refine nx (k+1) ⟨(by omega),(aM hck h2k (by simp[wL];omega)),(by have:=uV (i:=k-1) (by rw[hi1];exact h3k) hp (by rw[hi1];exact hck) (by simp;omega);rwa [hi1]at this)⟩
      ·have g':=g;simp at g';simp[go_sem,g];refine ai ?_;refine nx (k+1) ⟨(by omega),(aM hck h2k (by simp[wL];omega)),(by obtain rfl:k=0:=(by omega);exact qK)⟩
   ·simp at ak;have hfk:=dM h2k ak;rw[aO ak]at h3k;simp[go_sem];refine ai ?_;refine nx (i+1) ⟨(by omega),(aM hc h2 (by simp[dD,hfk,h3k];omega))⟩
 ·simp at a;have hf:=dM h2 a;simp[go_sem];refine ck (aG r.length 1 3) ?_;simp[go_sem];grind[dF]
theorem iV (s:Sco)(hw:s.weights.length<=1048576):Fk 90 [xK s] (.val (dB (fG s))):=by
 refine fE good [] func90 ntmps90 fun w0 ow0=> ?_;simp[go_sem];refine wl good (fun(i:Nat)=>[(1,.own (.bx true (xK s))),(3,.val (dI (s.weights.take i).sum)),(7,.val (nInts s.weights)),(8,.val (dI s.weights.length)),(9,.val (dI i))]) (fun(i:Nat)=>(s.weights).length-i) (fun(i:Nat)=>(i<=(s.weights).length)/\((s.weights.take i).all vZ=true)/\(0<=(s.weights.take i).sum/\(s.weights.take i).sum<=9*i)) (0) ⟨(by omega),rfl,(by simp)⟩ ?_;rintro i ⟨h1,h2,h3⟩;simp[go_sem];refine gw (fun a=> ?_) (fun a=> ?_)
 ·obtain⟨c,hc⟩:=aC (l:=s.weights) (i:=i) (by omega);simp[go_sem,hc];refine ck (aG c 0 9) ?_;simp[go_sem];refine gw (fun b=> ?_) (fun b=> ?_)
  ·simp at b;have hn:=bO hc (P:=vZ) (by simp[vZ];omega);simp[go_sem];grind[fG]
  ·simp at b;have hsum:(s.weights.take (i+1)).sum=(s.weights.take i).sum+c:=by rw[aW hc];simp
   simp[go_sem];iterate 2 refine ai ?_
   refine nx (i+1) ⟨(by omega),(aM hc h2 (by simp[vZ];omega)),(by omega)⟩ (h3:=by simp[go_sem,hc,hsum])
 ·simp at a;have hf:=dM h2 a;rw[aO a];simp[go_sem];refine gv (fun d=> ?_) (fun d=> ?_)
  ·have d':=d;simp[go_sem,d];refine gv (fun e=> ?_) (fun e=> ?_)
   ·have e':=e;simp[go_sem,e];refine ck (aG s.bias 0 1000) ?_;simp[go_sem];grind[fG]
   ·have e':=e;simp at e';simp[go_sem,e];grind[fG]
  ·have d':=d;simp[go_sem,d];grind[fG]
theorem CU (x:Int):Fk 144 [dI x] (.val (dB (inR x 1 4))):=by
 refine fE good [] func144 ntmps144 fun w0 ow0=> ?_;simp[go_sem];refine ck (aG x 1 4) ?_;simp[go_sem]
def vR (x:Int):Bool:= !inR x 1 4
theorem xV (x:Int):Fk 143 [dI x] (.val (dB (vR x))):=by
 refine fE good [] func143 ntmps143 fun w0 ow0=> ?_;simp[go_sem];refine ck (CU x) ?_;simp[go_sem];grind[vR]
theorem ahF (l:List Int)(hl:l.length<=1048576):Fk 199 [nInts l,.one (.func (.func 143) #[] #[])] (.val (dI (ix vR l))):=by
 refine fE good [] func199 ntmps199 fun w0 ow0=> ?_;simp[go_sem];refine wl good (fun(i:Nat)=>[(0,.val (nInts l)),(1,.val (.one (.func (.func 143) #[] #[]))),(7,.val (dI l.length)),(8,.val (dI i))]) (fun(i:Nat)=>(l).length-i) (fun(i:Nat)=>(i<=(l).length)/\(((l).take i).any vR=false)) (0) ⟨(by omega),rfl⟩ ?_;rintro i ⟨h1,h2⟩;simp[go_sem];refine gw (fun a=> ?_) (fun a=> ?_)
 ·obtain⟨c,hc⟩:=aC (l:=l) (i:=i) (by omega);simp[go_sem,hc];refine ck (xV c) ?_;simp[go_sem];refine gw (fun b=> ?_) (fun b=> ?_)
  ·have hn:=vH hc h2 (by simp[b]);simp[go_sem,hn]
  ·simp[go_sem];refine ai ?_;refine nx (i+1) ⟨(by omega),(eX hc h2 (by simp[b]))⟩
 ·simp at a;have hf:=j5 h2 a;have hx:=lX hf;simp[go_sem,hx]
theorem ahZ (l:List Int)(hl:l.length<=1048576):Fk 142 [nInts l,.one (.func (.func 143) #[] #[])] (.val (dB (l.any vR))):=by
 refine fE good [] func142 ntmps142 fun w0 ow0=> ?_;have hq:decide (0<=ix vR l)=l.any vR:=by rw[Bool.eq_iff_iff,decide_eq_true_eq];exact eH
 simp[go_sem];refine ck (ahF l hl) ?_;simp[go_sem,hq]
theorem asG (l:List Int):l.any vR= !(l.all H5):=by
 induction l with
 |nil=>rfl
 |cons x l ih=>rw[List.any_cons,List.all_cons,ih,vR,H5];simp
theorem zD (l:List Int)(hl:l.length<=1048576):Fk 91 [nInts l] (.val (dB (tC l))):=by
 refine fE good [] func91 ntmps91 fun w0 ow0=> ?_;simp[go_sem];refine gv (fun e=> ?_) (fun e=> ?_)
 ·have e':=e;simp[go_sem,e];refine ck (ahZ l hl) ?_;simp[go_sem];rw[asG,tC,decide_eq_true (show l.length=4 by omega)];simp
 ·have e':=e;simp[go_sem,e];rw[tC,decide_eq_false (show¬l.length=4 by omega)];simp
theorem EG (c:Cfg)(hs:c.rules.length<=1048576)(hr:∀l∈c.rules,l.length<=1048576)(hw:c.sco.weights.length<=1048576)(hv:c.surv.length<=1048576):Fk 38 [F6 c] (.val (dB (fJ c))):=by
 refine fE good [] func38 ntmps38 fun w0 ow0=> ?_;simp[go_sem];refine ck (jY c.rules hs hr) ?_;simp[go_sem];refine gv (fun e=> ?_) (fun e=> ?_)
 ·have e':=e;simp[go_sem,e];refine ck (iV c.sco hw) ?_;simp[go_sem];refine gv (fun f=> ?_) (fun f=> ?_)
  ·have f':=f;simp[go_sem,f];refine ck (zD c.surv hv) ?_;simp[go_sem];grind[fJ]
  ·have f':=f;simp[go_sem,f];grind[fJ]
 ·have e':=e;simp[go_sem,e];simp[fJ,e']
abbrev Q6 (m:List (List Bool)):D:= .sl none (m.map fun r=> .sl none (r.map dB))
abbrev LU (m:List (List Bool)):D:= .sl (some 172) (m.map fun r=> .sl (some 4) (r.map dB))
theorem drop_at {α:Type}{l:List α}{i:Nat}{c:α}(h:l[i]?=some c):l.drop i=c::l.drop (i+1):=by
 have hi:=aS h;rw[List.drop_eq_getElem_cons hi];congr 1;simpa[List.getElem?_eq_getElem hi]using h
theorem azW {m:List (List Int)}(h:m.all (fun r=>decide (r.length=m.length))=true){i:Nat}(hi:i<m.length):∃r,m[i]?=some r/\r.length=m.length:=by
 obtain⟨r,hr⟩:=aC (l:=m) hi;exact⟨r,hr,by simpa using List.all_eq_true.1 h r (List.mem_of_getElem? hr)⟩
theorem aY (m:List (List Int))(hs:m.length<=1048576:=by first|assumption|omega|(simp;omega)|grind):Fk 71 [aL m] (.val (dB (aI m))):=by
 refine fE good [] func71 ntmps71 fun w0 ow0=> ?_;simp[go_sem];refine wl good (fun(i:Nat)=>[(0,.val (aL m)),(3,.val (dI i))]) (fun(i:Nat)=>(m).length-i) (fun(i:Nat)=>(i<=(m).length)/\(((m).take i).all (fun r=>decide (r.length=m.length))=true)) (0) ⟨(by omega),rfl⟩ ?_;rintro i ⟨h1,h2⟩;simp[go_sem];refine gw (fun a=> ?_) (fun a=> ?_)
 ·obtain⟨c,hc⟩:=aC (l:=m) (i:=i) (by omega);simp[go_sem,hc];refine gw (fun b=> ?_) (fun b=> ?_)
  ·have hn:=bO hc (P:=(fun r=>decide (r.length=m.length))) (by first|assumption|(simp[*];done)|grind|(simp;omega));simp[go_sem];grind[aI]
  ·simp[go_sem];refine ai ?_;refine nx (i+1) ⟨(by omega),(aM hc h2 (by first|assumption|(simp[*];done)|grind|(simp;omega)))⟩
 ·simp at a;have hf:=dM h2 a;simp[go_sem];refine wl good (fun(i:Nat)=>[(0,.val (aL m)),(4,.val (dI i))]) (fun(i:Nat)=>m.length-i) (fun(i:Nat)=>(i<=m.length)/\((List.range i).all (fun i=>(List.range m.length).all (wT m i))=true)) (0) ⟨(by omega),rfl⟩ ?_;rintro i ⟨h1j,h2j⟩;simp[go_sem];refine gw (fun aj=> ?_) (fun aj=> ?_)
  ·simp[go_sem];refine wl good (fun(k:Nat)=>[(0,.val (aL m)),(4,.val (dI i)),(5,.val (dI k))]) (fun(k:Nat)=>m.length-k) (fun(k:Nat)=>(k<=m.length)/\((List.range k).all (wT m i)=true)) (0) ⟨(by omega),rfl⟩ ?_;rintro k ⟨h1k,h2k⟩;simp[go_sem];refine gw (fun ak=> ?_) (fun ak=> ?_)
   ·obtain⟨r,hr,hrl⟩:=azW hf aj;obtain⟨q,hq,hql⟩:=azW hf ak;obtain⟨c,hc⟩:=aC (l:=r) (i:=k) (by omega);obtain⟨d,hd⟩:=aC (l:=q) (i:=i) (by omega);have e1:=H8 hr hc;have e2:=H8 hq hd;simp[go_sem];refine wdr good ?_;simp[go_sem,hr,hc];refine cd (aH _ _ _) ?_;simp[go_sem];refine gv (fun e=> ?_) (fun e=> ?_)
    ·have e':=e;simp at e';have e':wT m i k=false:=by simp[wT,e1,e2];grind
     have hnk:=gZ ak (P:=(wT m i)) e';have hn2:=gZ aj (P:=fun i=>(List.range m.length).all (wT m i)) hnk;simp[go_sem,e];grind[aI]
    ·have e':=e;simp at e';simp[go_sem,hr,hq,hc,hd,e];refine gv (fun f=> ?_) (fun f=> ?_)
     ·have f':=f;have f':wT m i k=false:=by simp[wT,e1,e2];grind
      have hnk:=gZ ak (P:=(wT m i)) f';have hn2:=gZ aj (P:=fun i=>(List.range m.length).all (wT m i)) hnk;simp[go_sem,f];grind[aI]
     ·have f':=f;simp[go_sem,f];refine gv (fun g=> ?_) (fun g=> ?_)
      ·have g':=g;have gk:i=k:=by omega
       subst gk;obtain rfl:r=q:=by simpa[hr]using hq
       obtain rfl:c=d:=by simpa[hc]using hd
       simp[go_sem,hr,hc];refine gw (fun b=> ?_) (fun b=> ?_)
       ·have f':wT m i i=false:=by simp[wT,e1,b]
        have hnk:=gZ ak (P:=(wT m i)) f';have hn2:=gZ aj (P:=fun i=>(List.range m.length).all (wT m i)) hnk;simp[go_sem];grind[aI]
       ·simp[go_sem];refine ai ?_;refine nx (i+1) ⟨(by omega),(nD h2k (by simp[wT,e1,b]))⟩
      ·have g':=g;simp[go_sem,g];refine ai ?_;refine nx (k+1) ⟨(by omega),(nD h2k (by simp[wT,e1,e2];grind))⟩
   ·simp at ak;have hfk:=BC (n:=m.length) h2k (by omega) (by omega);simp[go_sem];refine ai ?_;refine nx (i+1) ⟨(by omega),(nD h2j hfk)⟩
  ·simp at aj;have hfj:=BC (n:=m.length) h2j (by omega) (by omega);simp[go_sem];refine ck (aH _ _ _) ?_;simp[go_sem];grind[aI]
theorem fK (l:List Int)(hs:l.length<=1048576:=by first|assumption|omega|(simp;omega)|grind):Fk 85 [nInts l] (.val (dB (bJ l))):=by
 refine fE good [] func85 ntmps85 fun w0 ow0=> ?_;simp[go_sem];refine wl good (fun(x':(Nat)×(Int))=>match x' with|(i,t)=>[(0,.val (nInts l)),(3,.val (dI t)),(4,.val (dI i))]) (fun(x':(Nat)×(Int))=>match x' with|(i,t)=>(l).length-i) (fun(x':(Nat)×(Int))=>match x' with|(i,t)=>(i<=(l).length)/\(qV (-1) l=qV t (l.drop i))/\(-1<=t/\t<=i)) ((0,(-1))) ⟨(by omega),rfl,(by omega)⟩ ?_;rintro⟨i,t⟩ ⟨h1,h2,h3⟩;simp[go_sem];refine gw (fun a=> ?_) (fun a=> ?_)
 ·obtain⟨c,hc⟩:=aC (l:=l) (i:=i) (by omega);have hdr:=drop_at hc;rw[hdr,qV]at h2;simp[go_sem,hc];refine ai ?_;refine ck (aH _ _ _) ?_;simp[go_sem];refine gw (fun b=> ?_) (fun b=> ?_)
  ·simp at b;rw[show inR c 0 (t+1)=false by simp;omega]at h2;simp[go_sem];grind[bJ]
  ·simp at b;rw[show inR c 0 (t+1)=true by simp;omega,Bool.true_and]at h2;simp[go_sem,hc];refine ai ?_;refine nx (i+1,max t c) ⟨(by omega),(h2),(by omega)⟩
 ·simp at a;rw[List.drop_eq_nil_of_le a]at h2;have hx:qV (-1) l=true:=h2;simp[go_sem];refine ck (aH _ _ _) ?_;simp[go_sem];grind[bJ]
theorem lN (n:Int)(l:List Con)(hn: -1048576<=n/\n<=1048576:=by first|assumption|omega|(simp;omega)|grind)(hs:l.length<=1048576:=by first|assumption|omega|(simp;omega)|grind):Fk 123 [dI n,bG l] (.val (dB (aK n l))):=by
 refine fE good [] func123 ntmps123 fun w0 ow0=> ?_;simp[go_sem];refine wl good (fun(i:Nat)=>[(0,.val (dI n)),(1,.val (bG l)),(5,.val (dI i))]) (fun(i:Nat)=>(l).length-i) (fun(i:Nat)=>(i<=(l).length)/\(((l).take i).all (EI n)=true)) (0) ⟨(by omega),rfl⟩ ?_;rintro i ⟨h1,h2⟩;simp[go_sem];refine gw (fun a=> ?_) (fun a=> ?_)
 ·obtain⟨c,hc⟩:=aC (l:=l) (i:=i) (by omega);simp[go_sem];refine wdr good ?_;simp[go_sem,hc];refine ai ?_;refine cd (aH _ _ _) ?_;simp[go_sem];refine gv (fun e=> ?_) (fun e=> ?_)
  ·have e':=e;simp at e';have hn:=bO hc (P:=(EI n)) (by simp[EI];omega);simp[go_sem,e];grind[aK]
  ·have e':=e;simp at e';simp[go_sem,hc,e];refine ai ?_;refine cd (aH _ _ _) ?_;simp[go_sem];refine gv (fun f=> ?_) (fun f=> ?_)
   ·have f':=f;simp at f';have hn:=bO hc (P:=(EI n)) (by simp[EI];omega);simp[go_sem,f];grind[aK]
   ·have f':=f;simp at f';simp[go_sem,hc,f];refine gw (fun b=> ?_) (fun b=> ?_)
    ·have hn:=bO hc (P:=(EI n)) (by simp[EI];omega);simp[go_sem];grind[aK]
    ·simp at b;simp[go_sem];refine ai ?_;refine nx (i+1) ⟨(by omega),(aM hc h2 (by simp[EI];omega))⟩
 ·simp at a;have hf:=dM h2 a;simp[go_sem];refine ck (aH _ _ _) ?_;simp[go_sem];refine gv (fun e=> ?_) (fun e=> ?_)
  ·have e':=e;simp at e';simp[go_sem,e];grind[aK]
  ·have e':=e;simp at e';simp[go_sem,e];grind[aK]
theorem kK (l:List Int)(cs:List Con)(hs:l.length<=1048576)(hc:cs.length<=1048576):Fk 78 [nInts l,bG cs] (.val (dB (cs.all (oH l)&&bJ l))):=by
 refine fE good [] func78 ntmps78 fun w0 ow0=> ?_;simp[go_sem];refine wl good (fun(i:Nat)=>[(0,.val (nInts l)),(1,.val (bG cs)),(5,.val (dI i))]) (fun(i:Nat)=>(cs).length-i) (fun(i:Nat)=>(i<=(cs).length)/\(((cs).take i).all (oH l)=true)) (0) ⟨(by omega),rfl⟩ ?_;rintro i ⟨h1,h2⟩;simp[go_sem];refine gw (fun a=> ?_) (fun a=> ?_)
 ·obtain⟨c,hc⟩:=aC (l:=cs) (i:=i) (by omega);simp[go_sem];refine wdr good ?_;simp[go_sem,hc];refine ai ?_;refine cd (aH _ _ _) ?_;simp[go_sem];refine gv (fun e=> ?_) (fun e=> ?_)
  ·have e':=e;simp at e';have hn:=bO hc (P:=(oH l)) (by simp[oH];intros;omega);simp[go_sem,e,hn]
  ·have e':=e;simp at e';simp[go_sem,hc,e];refine ai ?_;refine cd (aH _ _ _) ?_;simp[go_sem];refine gv (fun f=> ?_) (fun f=> ?_)
   ·have f':=f;simp at f';have hn:=bO hc (P:=(oH l)) (by simp[oH];intros;omega);simp[go_sem,f,hn]
   ·have f':=f;simp at f';obtain⟨x,hx⟩:=aC (l:=l) (i:=c.a.toNat) (by omega);obtain⟨y,hy⟩:=aC (l:=l) (i:=c.b.toNat) (by omega);have ex:=WN hx;have ey:=WN hy;simp[go_sem,hc,f,hx,hy];iterate 2 refine ai ?_
    refine gw (fun b=> ?_) (fun b=> ?_)
    ·simp at b;have hn:=bO hc (P:=(oH l)) (by simp[oH,ex,ey];grind);simp[go_sem,hn]
    ·simp at b;simp[go_sem];refine ai ?_;refine nx (i+1) ⟨(by omega),(aM hc h2 (by simp[oH,ex,ey];grind))⟩
 ·simp at a;have hf:=dM h2 a;simp[go_sem];refine ck (fK _) ?_;simp[go_sem,hf]
theorem DY (m:List (List Int))(l:List Int)(hm:aI m=true:=by first|assumption|omega|(simp;omega)|grind)(hl:l.length=m.length:=by first|assumption|omega|(simp;omega)|grind):Fk 129 [aL m,nInts l] (.val (dI (aQ m l))):=by
 refine fE good [] func129 ntmps129 fun w0 ow0=> ?_;have hml:=aP hm;simp[go_sem];refine wl good (fun(x':(Nat)×(Int))=>match x' with|(i,s)=>[(0,.val (aL m)),(1,.val (nInts l)),(5,.val (dI s)),(6,.val (dI i))]) (fun(x':(Nat)×(Int))=>match x' with|(i,s)=>l.length-i) (fun(x':(Nat)×(Int))=>match x' with|(i,s)=>(i<=l.length)/\(s=loopN i (0) (pU m l))/\(0<=s/\s<=8000*i)) ((0,0)) ⟨(by omega),rfl,(by omega)⟩ ?_;rintro⟨i,s⟩ ⟨h1,h2,h3⟩;simp[go_sem];refine gw (fun a=> ?_) (fun a=> ?_)
 ·have hs:=aA i (0) (pU m l);rw[←h2]at hs;simp[go_sem];refine wl good (fun(x':(Nat)×(Int))=>match x' with|(k,t)=>[(0,.val (aL m)),(1,.val (nInts l)),(5,.val (dI t)),(6,.val (dI i)),(7,.val (dI k))]) (fun(x':(Nat)×(Int))=>match x' with|(k,t)=>i-k) (fun(x':(Nat)×(Int))=>match x' with|(k,t)=>(k<=i)/\(t=loopN k (s) (fun k s=>s+kV m l i k))/\(s<=t/\t<=s+1000*k)) ((0,s)) ⟨(by omega),rfl,(by omega)⟩ ?_;rintro⟨k,t⟩ ⟨h1k,h2k,h3k⟩;simp[go_sem];refine gw (fun ak=> ?_) (fun ak=> ?_)
  ·have hsk:=aA k (s) (fun k s=>s+kV m l i k);rw[←h2k]at hsk;obtain⟨r,hr,hrk⟩:=eP hm (i:=i) (k:=k) (by omega) (by omega);have hi:=aF (l:=l) (i:=i) (by omega);have hk:=aF (l:=l) (i:=k) (by omega);have hb:=cB hm i k;simp[go_sem];refine wdr good ?_;simp[go_sem,hr,hrk];refine gv (fun e=> ?_) (fun e=> ?_)
   ·have e':=e;simp[go_sem,hi,hk,e];refine gw (fun f=> ?_) (fun f=> ?_)
    ·have hc:kV m l i k=at2 m i k:=if_pos ⟨e,f⟩;simp[go_sem,hr,hrk];refine ai ?_;refine wdr good ?_;simp[go_sem,hr,hrk];refine gv (fun g=> ?_) (fun g=> ?_)
     ·have g':=g;exfalso;omega
     ·have g':=g;simp at g';simp[go_sem,g];refine ai ?_;refine nx (k+1,t+at2 m i k) ⟨(by omega),(by rw[hsk,hc]),(by omega)⟩
    ·simp[go_sem];refine wdr good ?_;simp[go_sem,hr,hrk];refine gv (fun g=> ?_) (fun g=> ?_)
     ·have g':=g;exfalso;omega
     ·have g':=g;simp at g';have hc:kV m l i k=0:=by rw[kV,if_neg (by simp[f]),if_neg (by omega)]
      simp[go_sem,g];refine ai ?_;refine nx (k+1,t) ⟨(by omega),(by rw[hsk,hc];simp),(by omega)⟩
   ·have e':=e;simp at e';simp[go_sem,e];refine wdr good ?_;simp[go_sem,hr,hrk];refine gv (fun g=> ?_) (fun g=> ?_)
    ·have g':=g;simp[go_sem,hi,hk,g];refine gw (fun f=> ?_) (fun f=> ?_)
     ·have hc:kV m l i k= - at2 m i k:=by rw[kV,if_neg (by omega),if_pos ⟨g,f⟩]
      simp[go_sem,hr,hrk];iterate 2 refine ai ?_
      refine nx (k+1,t-at2 m i k) ⟨(by omega),(by rw[hsk,hc];omega),(by omega)⟩
     ·have hc:kV m l i k=0:=by rw[kV,if_neg (by omega),if_neg (by simp[f])]
      simp[go_sem];refine ai ?_;refine nx (k+1,t) ⟨(by omega),(by rw[hsk,hc];simp),(by omega)⟩
    ·have g':=g;simp at g';have hc:kV m l i k=0:=by rw[kV,if_neg (by omega),if_neg (by omega)]
     simp[go_sem,g];refine ai ?_;refine nx (k+1,t) ⟨(by omega),(by rw[hsk,hc];simp),(by omega)⟩
  ·simp at ak;have hik:i=k:=by omega
   subst hik;simp[go_sem];refine ai ?_;refine nx (i+1,t) ⟨(by omega),(by rw[hs,pU,h2k]),(by omega)⟩
 ·simp at a;have hi:l.length=i:=by omega
  subst hi;simp[go_sem];exact h2
theorem gJ (m:List (List Int))(l:List Int)(hm:m.length<=1048576)(hl:l.length<=1048576):Fk 82 [aL m,nInts l] (.val (dI (if aI m=true/\bJ l=true/\l.length=m.length then aQ m l else -1))):=by
 refine fE good [] func82 ntmps82 fun w0 ow0=> ?_;simp[go_sem];refine ck (aY _) ?_;simp[go_sem];refine gv (fun e=> ?_) (fun e=> ?_)
 ·have e':=e;simp at e';simp[go_sem,e];all_goals grind
 ·have e':=e;simp at e';simp[go_sem,e];refine ck (fK _) ?_;simp[go_sem];refine gv (fun f=> ?_) (fun f=> ?_)
  ·have f':=f;simp at f';simp[go_sem,f];all_goals grind
  ·have f':=f;simp at f';simp[go_sem,f];refine gw (fun b=> ?_) (fun b=> ?_)
   ·simp[go_sem];all_goals grind
   ·simp[go_sem];refine ck (DY _ _) ?_;simp[go_sem];all_goals grind
theorem iA (x n:Int)(hn: -1048576<=n/\n<=1048576:=by first|assumption|omega|(simp;omega)|grind):Fk 269 [dI x,dI n] (.val (dB (inR x 0 (n-1)))):=by
 refine fE good [] func269 ntmps269 fun w0 ow0=> ?_;simp[go_sem];refine ai ?_;refine ck (aG x 0 (n-1)) ?_;simp[go_sem]
theorem oK (l:List Int)(hs:l.length<=1048576):Fk 280 [nInts l] (.val (dB (bJ l))):=by
 refine fE good [] func280 ntmps280 fun w0 ow0=> ?_;simp[go_sem];refine wl good (fun(x':(Nat)×(Int))=>match x' with|(i,t)=>[(0,.val (nInts l)),(3,.val (dI (t+1))),(6,.val (nInts l)),(7,.val (dI l.length)),(8,.val (dI i))]) (fun(x':(Nat)×(Int))=>match x' with|(i,t)=>(l).length-i) (fun(x':(Nat)×(Int))=>match x' with|(i,t)=>(i<=(l).length)/\(qV (-1) l=qV t (l.drop i))/\(-1<=t/\t<=i)) ((0,(-1))) ⟨(by omega),rfl,(by omega)⟩ ?_;rintro⟨i,t⟩ ⟨h1,h2,h3⟩;simp[go_sem];refine gw (fun a=> ?_) (fun a=> ?_)
 ·obtain⟨c,hc⟩:=aC (l:=l) (i:=i) (by omega);have hdr:=drop_at hc;rw[hdr,qV]at h2;simp[go_sem,hc];refine ck (aG c 0 (t+1)) ?_;simp[go_sem];refine gw (fun b=> ?_) (fun b=> ?_)
  ·simp at b;rw[show inR c 0 (t+1)=false by simp;omega]at h2;simp[go_sem];grind[bJ]
  ·simp at b;rw[show inR c 0 (t+1)=true by simp;omega,Bool.true_and]at h2;have hmx:max (t+1) (c+1)=max t c+1:=by omega
   simp[go_sem,hmx];iterate 2 refine ai ?_
   refine nx (i+1,max t c) ⟨(by omega),(h2),(by omega)⟩
 ·simp at a;rw[List.drop_eq_nil_of_le a]at h2;have hx:qV (-1) l=true:=h2;simp[go_sem];refine ck (aG l.length 1 8) ?_;simp[go_sem];grind[bJ]
theorem LQ (s:Sto)(hs:s.recs.length<=1048576)(hi:∀r∈s.recs,inI .i64 (eG r)/\inI .i64 (100*r.source)):Fk 97 [xZ s] (.own (aD (s.recs.map eG))):=by
 refine fE good [] func97 ntmps97 fun w0 ow0=> ?_;simp[go_sem];refine wl good (fun(x':(Nat)×(List Int))=>match x' with|(i,o)=>[(3,.own (aD o)),(7,.val (iG s.recs)),(8,.val (dI s.recs.length)),(9,.val (dI i))]) (fun(x':(Nat)×(List Int))=>match x' with|(i,o)=>s.recs.length-i) (fun(x':(Nat)×(List Int))=>match x' with|(i,o)=>(i<=s.recs.length)/\(o=(s.recs.take i).map eG)) ((0,[])) ⟨(by omega),(rfl)⟩ ?_;rintro⟨i,o⟩ ⟨h1,h2⟩;simp[go_sem];refine gw (fun a=> ?_) (fun a=> ?_)
 ·obtain⟨c,hc⟩:=aC a;have hm:=nC eG hc;rw[←h2]at hm;have hol:o.length=i:=by rw[h2];simp;omega
  have hci:=hi c (List.mem_of_getElem? hc);simp[go_sem,hc];refine ck (tF c hci.1 hci.2) ?_;simp[go_sem];iterate 2 refine ai ?_
  refine nx (i+1,o++[eG c]) ⟨(by omega),(hm.symm)⟩
 ·simp at a;rw[aO a]at h2;subst h2;simp[go_sem]
theorem XL {o:List (List Int)}{k:Nat}(h:k<o.length):o[k]?=some (gat o k):=by
 obtain⟨r,hr⟩:=aC h;rw[rQ hr];exact hr
theorem alJ {l:List Int}{i:Nat}{o:List (List Int)}(h:ZQ l i o)(k:Nat):(gat o k).length<=i:=by
 by_cases hk:k<o.length
 ·rw[h.row k hk,List.length_map];exact Nat.le_trans (List.length_filter_le _ _) (by simp)
 ·simp[gat,hk]
theorem aaK {l:List Int}{i:Nat}{o:List (List Int)}(h:ZQ l i o)(k:Nat):(gat (blkIn l i o) k).length<=i:=by
 unfold blkIn;split
 ·by_cases hk:k<o.length
  ·have:gat (o++[[]]) k=gat o k:=by simp[gat,List.getElem?_append,hk]
   rw[this];exact alJ h k
  ·have:gat (o++[[]]) k=[]:=by
    by_cases h2:k=o.length
    ·subst h2;simp[gat]
    ·have:(o++[[]]).length<=k:=by simp;omega
     simp[gat,List.getElem?_eq_none this]
   rw[this];simp
 ·exact alJ h k
theorem qC (l:List Int)(hs:l.length<=1048576)(hp:l.length=0\/bJ l=true):Fk 32 [nInts l] (.own (eB (blocksP l))):=by
 refine fE good [200001] func32 ntmps32 fun w0 ow0=> ?_;have hrg:RG l:=by rcases hp with h|h;(intro k hk;omega);exact(isPart_iff.1 h).1
 have hl8:l.length<=8:=by rcases hp with h|h;omega;exact(isPart_len h).2
 simp[go_sem];refine wl good (fun(x':(Nat)×(List (List Int)))=>match x' with|(i,o)=>[(0,.val (nInts l)),(3,.own (eB o)),(4,.val (dI i))]) (fun(x':(Nat)×(List (List Int)))=>match x' with|(i,o)=>l.length-i) (fun(x':(Nat)×(List (List Int)))=>match x' with|(i,o)=>(i<=l.length)/\(o=loopN i [] (iZ l))) ((0,[])) ⟨(by omega),rfl⟩ ?_;rintro⟨i,o⟩ ⟨h1,h2⟩;simp[go_sem];refine gv (fun a=> ?_) (fun a=> ?_)
 ·have a':=a;simp[go_sem,a];refine ck (fK l) ?_;have hpp:bJ l=true:=hp.resolve_left (by omega);have hI:=blocksI hrg h1;rw[←h2]at hI;have hst:=(hI.step hrg a).1;have hle:=hI.le hrg a;have hol:=hI.len;have hlen:=aaK hI (at1 l i).toNat;have hs:=aA i [] (iZ l);rw[←h2]at hs;have hg:=aF a;simp[go_sem,hpp];refine IG good (fun(_:Unit)=>[(0,.val (nInts l)),(3,.own (eB (blkIn l i o))),(4,.val (dI i))]) (fun(_:Unit)=>True) ?_ ?_
  ·simp[go_sem,hg];refine gw (fun b=> ?_) (fun b=> ?_)
   ·have hb:blkIn l i o=o++[[]]:=if_pos b;simp[go_sem];refine ai ?_;refine jn (()) trivial (h3:=by simp[go_sem,hpp,hg,hb])
   ·have hb:blkIn l i o=o:=if_neg b;simp[go_sem];refine jn (()) trivial (h3:=by simp[go_sem,hpp,hg,hb])
  rintro⟨⟩ -
  have hbs:iZ l i o=(blkIn l i o).set (at1 l i).toNat (gat (blkIn l i o) (at1 l i).toNat++[(i:Int)]):=rfl;have hr:=XL hst;have hr2:(blkIn l i o)[(at1 l i).toNat]=gat (blkIn l i o) (at1 l i).toNat:=by rw[List.getElem?_eq_getElem hst]at hr;exact Option.some.inj hr
  generalize blkIn l i o=q at hst hbs hr hr2 hlen|-
  have hset:(q.map aD).set (at1 l i).toNat (D.sl (some 3) ((gat q (at1 l i).toNat).map dI++[D.one (.int .i64 (i:Int))]))=(iZ l i o).map aD:=by rw[hbs,List.map_set];simp[aD,dI]
  simp[go_sem];refine wdh good [0] [(13,[39,40]),(14,[38,40,41,3,27,32,37]),(16,[42,41,3,27,32,37,38])] [(0,.val (nInts l)),(3,.own (eB q)),(4,.val (dI i)),(27,.al 3 [])] [] ?_;simp[go_sem,hg,hst,hr2,hset];iterate 4 refine ai ?_
  refine nx (i+1,iZ l i o) ⟨(by omega),(hs.symm)⟩
 ·have a':=a;simp at a';obtain rfl:i=l.length:=by omega
  have hbl:blocksP l=o:=h2.symm;simp[go_sem,a,hbl]
theorem agX {n:Nat}{items:List Int}(h:GK n items){i:Nat}(hi:i<items.length):0<=at1 items i/\at1 items i<n:=h.1 _ (List.mem_of_getElem? (aF hi))
theorem aq0 {n:Nat}{items:List Int}(h:GK n items){i k:Nat}(hi:i<k)(hk:k<items.length):at1 items i<at1 items k:=by
 have h1:=aF (l:=items) (i:=i) (by omega);have h2:=aF hk;have:=List.pairwise_iff_getElem.1 h.2 i k (by omega) hk hi;rw[List.getElem?_eq_getElem (by omega)]at h1 h2;rw[Option.some.inj h1,Option.some.inj h2]at this;exact this
def XP (m:List (List Int))(items:List Int)(x:Int):List Int:=items.map fun y=>at2 m x.toNat y.toNat
def vN (m:List (List Int))(items:List Int)(x:Int)(k:Nat):List Int:=(items.take k).map fun y=>at2 m x.toNat y.toNat
theorem adC (m:List (List Int))(items:List Int)(x:Int):vN m items x 0=[]:=rfl
theorem abR {m:List (List Int)}{items:List Int}{x:Int}{k:Nat}(h:k<items.length):vN m items x (k+1)=vN m items x k++[at2 m x.toNat (at1 items k).toNat]:=nC _ (aF h)
theorem agS (m:List (List Int))(items:List Int)(x:Int):vN m items x items.length=XP m items x:=by simp[vN,XP]
def rG (m:List (List Int))(items:List Int)(i:Nat):List (List Int):=(items.take i).map (XP m items)
theorem acH (m:List (List Int))(items:List Int):rG m items 0=[]:=rfl
theorem acE {m:List (List Int)}{items:List Int}{i:Nat}(h:i<items.length):rG m items (i+1)=rG m items i++[XP m items (at1 items i)]:=nC _ (aF h)
theorem af0 (m:List (List Int))(items:List Int):rG m items items.length=dZ m items:=by simp[rG,dZ,XP]
theorem agD (m:List (List Int))(items:List Int)(i:Nat):(rG m items i).length<=items.length:=by simp[rG];omega
theorem af4 (m:List (List Int))(items:List Int)(x:Int)(i:Nat):(vN m items x i).length<=items.length:=by simp[vN];omega
theorem NS (m:List (List Int))(items:List Int)(hm:aI m=true)(hi:GK m.length items)(hl:items.length<=8):Fk 74 [aL m,nInts items] (.own (eB (dZ m items))):=by
 refine fE good [200001] func74 ntmps74 fun w0 ow0=> ?_;have hml:=aP hm;have hz:=acH m items;have hz2:=adC m items;have hall:=af0 m items;have hall2:=agS m items;simp[go_sem];refine ck (aY m) ?_;simp[go_sem,hm];refine wl good (fun(i:Nat)=>[(0,.val (aL m)),(1,.val (nInts items)),(5,.own (eB (rG m items i))),(6,.val (dI i))]) (fun(i:Nat)=>items.length-i) (fun(i:Nat)=>(i<=items.length)) (0) (by omega) ?_ (h0:=by simp[go_sem,hm,hz,hz2]);rintro i h1;simp[go_sem];refine gw (fun a=> ?_) (fun a=> ?_)
 ·have hx:=agX hi a;have hg:=aF a;have hms:=acE (m:=m) a;have hml2:=agD m items i;obtain⟨r,hr,hrl⟩:=sP hm (a:=(at1 items i).toNat) (by omega);simp[go_sem];refine IG good (fun(_:Unit)=>[(0,.val (aL m)),(1,.val (nInts items)),(5,.own (eB (rG m items i))),(6,.val (dI i))]) (fun(_:Unit)=>True) ?_ ?_
  ·have hx1:=hx.1;have hx2:at1 items i<=(m.length:Int)-1:=by omega
   simp[go_sem];refine wdr good ?_;simp[go_sem,hg];refine ai ?_;refine cd (aH (at1 items i) _ _) ?_;simp[go_sem,hx1,hx2];refine gv (fun e=> ?_) (fun e=> ?_)
   ·have e':=e;have hlt:=aq0 hi (i:=i-1) (k:=i) (by omega) a;have hlt2:¬at1 items i<=at1 items (i-1):=by omega
    have hg1:=aF (l:=items) (i:=i-1) (by omega);have hi1:((i:Int)-1).toNat=i-1:=by omega
    simp[go_sem,hg,e,hg1,hlt2];iterate 2 refine ai ?_
    refine jn (()) trivial
   ·have e':=e;simp at e';simp[go_sem,e];refine jn (()) trivial
  rintro⟨⟩ -
  simp[go_sem];refine wl good (fun(k:Nat)=>[(0,.val (aL m)),(1,.val (nInts items)),(5,.own (eB (rG m items i))),(6,.val (dI i)),(7,.own (aD (vN m items (at1 items i) k))),(8,.val (dI k))]) (fun(k:Nat)=>items.length-k) (fun(k:Nat)=>(k<=items.length)) (0) (by omega) ?_ (h0:=by simp[go_sem,hz,hz2]);rintro k h2;simp[go_sem];refine gw (fun b=> ?_) (fun b=> ?_)
  ·have hy:=agX hi b;have hk:=aF b;have hks:=abR (m:=m) (x:=at1 items i) b;have hkl2:=af4 m items (at1 items i) k;have hy1:=hy.1;have hy2:at1 items k<=(m.length:Int)-1:=by omega
   obtain⟨q,hq,hqk⟩:=eP hm (i:=(at1 items i).toNat) (k:=(at1 items k).toNat) (by omega) (by omega);simp[go_sem,hk];refine ai ?_;refine ck (aH (at1 items k) _ _) ?_;simp[go_sem,hy1,hy2];refine wdf good [(14,[76,77]),(15,[63,77,78,7]),(16,[78,7])] [(0,.val (aL m)),(1,.val (nInts items)),(5,.own (eB (rG m items i))),(6,.val (dI i)),(7,.own (aD (vN m items (at1 items i) k))),(8,.val (dI k))] [] (by simp[go_sem]) ?_;simp[go_sem,hg,hk,hy1,hq,hqk];iterate 3 refine ai ?_
   refine nx (k+1) (by first|omega|(simp;omega)|grind) (h3:=by simp[go_sem,hz,hz2,hks,hks,hg,hk,hy1,hy2,hq,hqk])
  ·simp at b;obtain rfl:k=items.length:=by omega
   simp[go_sem,hall2];iterate 2 refine ai ?_
   refine nx (i+1) (by first|omega|(simp;omega)|grind) (h3:=by simp[go_sem,hz,hz2,hms,hall2])
 ·simp at a;obtain rfl:i=items.length:=by omega
  simp[go_sem,hall]
theorem last_at {α:Type}(l:List α)(a:α){k:Nat}(h:l.length=k):(l++[a])[k]?=some a:=by subst h;simp
theorem ag2 {α:Type}(l:List α)(a b:α){k:Nat}(h:l.length=k):(l++[a]).set k b=l++[b]:=by subst h;simp
theorem FL (l:List Int)(hs:l.length<=1048576)(hp:l.length=0\/bJ l=true):Fk 101 [nInts l] (.own (eB (blocksP l))):=by
 refine fE good [] func101 ntmps101 fun w0 ow0=> ?_;have hrg:RG l:=by rcases hp with h|h;(intro k hk;omega);exact(isPart_iff.1 h).1
 have hl8:l.length<=8:=by rcases hp with h|h;omega;exact(isPart_len h).2
 simp[go_sem];refine wl good (fun(x':(Nat)×(List (List Int)))=>match x' with|(i,o)=>[(3,.own (eB o)),(6,.val (nInts l)),(7,.val (dI l.length)),(8,.val (dI i))]) (fun(x':(Nat)×(List (List Int)))=>match x' with|(i,o)=>l.length-i) (fun(x':(Nat)×(List (List Int)))=>match x' with|(i,o)=>(i<=l.length)/\(o=loopN i [] (iZ l))) ((0,[])) ⟨(by omega),rfl⟩ ?_;rintro⟨i,o⟩ ⟨h1,h2⟩;simp[go_sem];refine gw (fun a=> ?_) (fun a=> ?_)
 ·have hI:=blocksI hrg h1;rw[←h2]at hI;have hst:=(hI.step hrg a).1;have hle:=hI.le hrg a;have hol:=hI.len;have hlen:=aaK hI (at1 l i).toNat;have hs:=aA i [] (iZ l);rw[←h2]at hs;have hg:=aF a;have hbs:iZ l i o=(blkIn l i o).set (at1 l i).toNat (gat (blkIn l i o) (at1 l i).toNat++[(i:Int)]):=rfl;simp[go_sem,hg];refine gw (fun b=> ?_) (fun b=> ?_)
  ·have hb:blkIn l i o=o++[[]]:=if_pos b;rw[hb]at hbs;have hbn:(at1 l i).toNat=o.length:=by omega
   have hq:=last_at (o.map aD) (D.sl none []) (k:=o.length) (by simp);have hq2:=ag2 (o.map aD) (D.sl none []) (D.any 1) (k:=o.length) (by simp);have hq3:=last_at (o.map aD) (D.any 1) (k:=o.length) (by simp);have hq4:=ag2 (o.map aD) (D.any 1) (D.sl (some 3) [D.one (.int .i64 (i:Int))]) (k:=o.length) (by simp);have hgl:gat (o++[[]]) o.length=[]:=by simp[gat]
   have hnew:iZ l i o=o++[[(i:Int)]]:=by rw[hbs,hbn,hgl];simp
   simp[go_sem,b];iterate 2 refine ai ?_
   refine nx (i+1,iZ l i o) ⟨(by omega),(hs.symm)⟩ (h3:=by simp[go_sem,hg,b,hq,hq2,hq3,hq4,hnew])
  ·have hb:blkIn l i o=o:=if_neg b;rw[hb]at hbs hst hlen;have hr:=XL hst;have hr2:o[(at1 l i).toNat]=gat o (at1 l i).toNat:=by rw[List.getElem?_eq_getElem hst]at hr;exact Option.some.inj hr
   have hset:(o.map aD).set (at1 l i).toNat (D.sl (some 3) ((gat o (at1 l i).toNat).map dI++[D.one (.int .i64 (i:Int))]))=(iZ l i o).map aD:=by rw[hbs,List.map_set];simp[aD,dI]
   have ha0:=hle.1;simp[go_sem,hst,hr2,ha0,hset];iterate 2 refine ai ?_
   refine nx (i+1,iZ l i o) ⟨(by omega),(hs.symm)⟩
 ·simp at a;obtain rfl:i=l.length:=by omega
  have hbl:blocksP l=o:=h2.symm;simp[go_sem,hbl]
theorem aAO {l:List Str}{x c:Str}{i:Nat}(hc:l[i]?=some c)(h:i<=rY l x)(hb:ltL c x=true):i+1<=rY l x:=by
 induction l generalizing i with
 |nil=>cases hc
 |cons y l ih=>
  unfold rY at*
  cases i with
  |zero=>
   obtain rfl:y=c:=by simpa using hc
   simp[hb]
  |succ i=>
   by_cases hy:ltL y x=true
   ·simp only[List.takeWhile_cons,hy,if_true,List.length_cons]at h|-
    have:=ih (i:=i) (by simpa using hc) (by omega);omega
   ·simp[hy]at h
theorem aB7 {l:List Str}{x c:Str}{i:Nat}(hc:l[i]?=some c)(h:i<=rY l x)(hb:ltL c x=false):rY l x=i:=by
 induction l generalizing i with
 |nil=>cases hc
 |cons y l ih=>
  unfold rY at*
  cases i with
  |zero=>
   obtain rfl:y=c:=by simpa using hc
   simp[hb]
  |succ i=>
   by_cases hy:ltL y x=true
   ·simp only[List.takeWhile_cons,hy,if_true,List.length_cons]at h|-
    have:=ih (i:=i) (by simpa using hc) (by omega);omega
   ·simp[hy]at h
theorem pG (l:List Str)(x:Str)(again:Bool)(hl:l.length<=1048576:=by first|assumption|omega|(simp;omega)|grind):Fk 187 [bD l,dS x,dB again] (.val (bD (dQ l x again))):=by
 refine fE good [13] func187 ntmps187 fun w0 ow0=> ?_;simp[go_sem];refine wl good (fun(i:Nat)=>[(0,.val (bD l)),(1,.val (dS x)),(2,.val (dB again)),(7,.val (dI i))]) (fun(i:Nat)=>l.length-i) (fun(i:Nat)=>(i<=l.length)/\(i<=rY l x)) (0) ⟨(by omega),(by omega)⟩ ?_;rintro i ⟨h1,h2⟩;simp[go_sem];refine gv (fun a=> ?_) (fun a=> ?_)
 ·have a':=a;obtain⟨c,hc⟩:=aC (l:=l) (i:=i) (by omega);have hcc:l[i]=c:=by simpa[List.getElem?_eq_getElem a]using hc
  simp[go_sem,a,hcc];refine gw (fun b=> ?_) (fun b=> ?_)
  ·simp[go_sem];refine ai ?_;refine nx (i+1) ⟨(by omega),(aAO hc h2 b)⟩
  ·have hi:rY l x=i:=aB7 hc h2 b;have htp:dQ l x again=if again=false/\c=x then l else l.take i++[x]++l.drop i:=by simp[dQ,hi,hc]
   simp[go_sem];refine gv (fun e=> ?_) (fun e=> ?_)
   ·have e':=e;simp at e';simp[go_sem,a,hcc,e];refine gw (fun f=> ?_) (fun f=> ?_)
    ·simp[go_sem];simp_all
    ·simp[go_sem];refine wdf good [(0,[39]),(4,[39,42,43]),(6,[44,45]),(7,[43,45,46]),(11,[46,49,50]),(12,[50,6])] [(0,.val (bD l)),(1,.val (dS x)),(7,.val (dI i))] [] (by simp[go_sem]) ?_;simp[go_sem];iterate 5 refine ai ?_
     refine eD good [] (aR 6) ?_;simp[go_sem];simp_all
   ·have e':=e;simp at e';simp[go_sem,e];refine wdf good [(0,[39]),(4,[39,42,43]),(6,[44,45]),(7,[43,45,46]),(11,[46,49,50]),(12,[50,6])] [(0,.val (bD l)),(1,.val (dS x)),(7,.val (dI i))] [] (by simp[go_sem]) ?_;simp[go_sem];iterate 5 refine ai ?_
    refine eD good [] (aR 6) ?_;simp[go_sem];simp_all
 ·have a':=a;simp at a';have hi:l.length=i:=by omega
  have hia:rY l x=i:=by have:=aq3 l x;omega
  have htp:dQ l x again=l.take i++[x]++l.drop i:=by simp[dQ,hia,List.getElem?_eq_none (show l.length<=i by omega)]
  simp[go_sem,a];refine gv (fun e=> ?_) (fun e=> ?_)
  ·have e':=e;simp at e';simp[go_sem,a,e];refine wdf good [(0,[39]),(4,[39,42,43]),(6,[44,45]),(7,[43,45,46]),(11,[46,49,50]),(12,[50,6])] [(0,.val (bD l)),(1,.val (dS x)),(7,.val (dI i))] [] (by simp[go_sem]) ?_;simp[go_sem];iterate 5 refine ai ?_
   refine eD good [] (aR 6) ?_;simp[go_sem];simp_all
  ·have e':=e;simp at e';simp[go_sem,e];refine wdf good [(0,[39]),(4,[39,42,43]),(6,[44,45]),(7,[43,45,46]),(11,[46,49,50]),(12,[50,6])] [(0,.val (bD l)),(1,.val (dS x)),(7,.val (dI i))] [] (by simp[go_sem]) ?_;simp[go_sem];iterate 5 refine ai ?_
   refine eD good [] (aR 6) ?_;simp[go_sem];simp_all
abbrev oBs (l:Str):D:= .sl (some 5) (l.map dU)
abbrev dC (c:UInt8):D:= .one (.int .u8 c.toNat)
theorem F9 (c:UInt8):Fk 299 [dC c] (.val (dB (nN c))):=by
 refine fE good [] func299 ntmps299 fun w0 ow0=> ?_;simp[go_sem];refine gv (fun e=> ?_) (fun e=> ?_)
 ·have e':=e;simp[go_sem,e];refine gv (fun f=> ?_) (fun f=> ?_)
  ·have f':=f;simp[go_sem,f];grind[nN]
  ·have f':=f;simp at f';simp[go_sem,f];refine gv (fun g=> ?_) (fun g=> ?_)
   ·have g':=g;simp[go_sem,g];refine gv (fun g1=> ?_) (fun g1=> ?_)
    ·have g1':=g1;simp[go_sem,g1];omega
    ·have g1':=g1;simp at g1';simp[go_sem,g1];refine gv (fun g2=> ?_) (fun g2=> ?_)
     ·have g2':=g2;simp[go_sem,g2];grind[nN]
     ·have g2':=g2;simp at g2';simp[go_sem,g2];omega
   ·have g':=g;simp at g';simp[go_sem,g];refine gv (fun g3=> ?_) (fun g3=> ?_)
    ·have g3':=g3;simp[go_sem,g3];omega
    ·have g3':=g3;simp at g3';simp[go_sem,g3];omega
 ·have e':=e;simp at e';simp[go_sem,e];refine gv (fun g4=> ?_) (fun g4=> ?_)
  ·have g4':=g4;simp[go_sem,g4];refine gv (fun g5=> ?_) (fun g5=> ?_)
   ·have g5':=g5;simp[go_sem,g5];grind[nN]
   ·have g5':=g5;simp at g5';simp[go_sem,g5];refine gv (fun g6=> ?_) (fun g6=> ?_)
    ·have g6':=g6;simp[go_sem,g6];grind[nN]
    ·have g6':=g6;simp at g6';simp[go_sem,g6];omega
  ·have g4':=g4;simp at g4';simp[go_sem,g4];refine gv (fun g7=> ?_) (fun g7=> ?_)
   ·have g7':=g7;simp[go_sem,g7];grind[nN]
   ·have g7':=g7;simp at g7';simp[go_sem,g7];grind[nN]
theorem nY (s:Str)(hs:s.length<=1048576:=by first|assumption|omega|(simp;omega)|grind):Fk 244 [dS s] (.val (dS (nH s))):=by
 refine fE good [] func244 ntmps244 fun w0 ow0=> ?_;simp[go_sem];refine wl good (fun(x':(Nat)×(Str))=>match x' with|(i,o)=>[(0,.val (dS s)),(3,.own (oBs o)),(4,.val (dI i))]) (fun(x':(Nat)×(Str))=>match x' with|(i,o)=>(s).length-i) (fun(x':(Nat)×(Str))=>match x' with|(i,o)=>(i<=(s).length)/\(o=(s.take i).map cK)/\(o.length=i)) ((0,[])) ⟨(by omega),rfl,rfl⟩ ?_;rintro⟨i,o⟩ ⟨h1,h2,h3⟩;simp[go_sem];refine gw (fun a=> ?_) (fun a=> ?_)
 ·obtain⟨c,hc⟩:=aC (l:=s) (i:=i) (by omega);have hm:=nC cK hc;rw[←h2]at hm;simp[go_sem,hc];refine gv (fun e=> ?_) (fun e=> ?_)
  ·have e':=e;simp[go_sem,e];refine gw (fun f=> ?_) (fun f=> ?_)
   ·have hu:=UV (c:=c) (by omega) (by omega);simp[go_sem];iterate 3 refine ai ?_
    refine nx (i+1,o++[cK c]) ⟨(by omega),(by rw[hm]),(by simp;omega)⟩ (h3:=by simp[go_sem,hc,e,hu])
   ·simp at f;have hu:=IQ (c:=c) (by omega);simp[go_sem];iterate 2 refine ai ?_
    refine nx (i+1,o++[cK c]) ⟨(by omega),(by rw[hm]),(by simp;omega)⟩ (h3:=by simp[go_sem,hc,e,hu])
  ·have e':=e;simp at e';have hu:=IQ (c:=c) (by omega);simp[go_sem,e];iterate 2 refine ai ?_
   refine nx (i+1,o++[cK c]) ⟨(by omega),(by rw[hm]),(by simp;omega)⟩ (h3:=by simp[go_sem,hc,e,hu])
 ·simp at a;rw[aO a]at h2;simp[go_sem];grind[nH]
theorem L9 (s:Str)(hs:s.length<=1048576):Fk 243 [dS s] (.val (dS (oI s))):=by
 refine fE good [] func243 ntmps243 fun w0 ow0=> ?_;simp[go_sem];refine wl good (fun(x':(Nat)×(Str))=>match x' with|(i,o)=>[(0,.val (dS s)),(3,.own (oBs o)),(4,.val (dI i))]) (fun(x':(Nat)×(Str))=>match x' with|(i,o)=>(s).length-i) (fun(x':(Nat)×(Str))=>match x' with|(i,o)=>(i<=(s).length)/\(o=(s.take i).flatMap qW)/\(o.length<=i)) ((0,[])) ⟨(by omega),rfl,(by simp)⟩ ?_;rintro⟨i,o⟩ ⟨h1,h2,h3⟩;simp[go_sem];refine gw (fun a=> ?_) (fun a=> ?_)
 ·obtain⟨c,hc⟩:=aC (l:=s) (i:=i) (by omega);have hm:=abM qW hc;rw[←h2]at hm;simp[go_sem,hc];refine ck (F9 _) ?_;simp[go_sem];refine gv (fun e=> ?_) (fun e=> ?_)
  ·have e':=e;have hu:qW c=[c]:=if_pos (.inl e);simp[go_sem,hc,e];iterate 2 refine ai ?_
   refine nx (i+1,o++[c]) ⟨(by omega),(by rw[hm,hu]),(by simp;omega)⟩
  ·have e':=e;simp[go_sem,hc,e];refine gw (fun f=> ?_) (fun f=> ?_)
   ·have hu:qW c=[c]:=if_pos (.inr (by omega));simp[go_sem,hc];iterate 2 refine ai ?_
    refine nx (i+1,o++[c]) ⟨(by omega),(by rw[hm,hu]),(by simp;omega)⟩
   ·simp[go_sem,hc];refine gw (fun g=> ?_) (fun g=> ?_)
    ·have hu:qW c=[32]:=by rw[qW,if_neg (fun h=>by rcases h with h|h;(rw[e']at h;cases h);omega),if_pos (by omega)]
     simp[go_sem];iterate 2 refine ai ?_
     refine nx (i+1,o++[32]) ⟨(by omega),(by rw[hm,hu]),(by simp;omega)⟩
    ·have hu:qW c=[]:=by rw[qW,if_neg (fun h=>by rcases h with h|h;(rw[e']at h;cases h);omega),if_neg (by omega)]
     simp[go_sem];refine ai ?_;refine nx (i+1,o) ⟨(by omega),(by rw[hm,hu];simp),(by omega)⟩
 ·simp at a;rw[aO a]at h2;simp[go_sem];grind[oI]
theorem CF (s:Str)(hs:s.length<=1048576):Fk 242 [dS s] (.val (dS (uD s))):=by
 refine fE good [] func242 ntmps242 fun w0 ow0=> ?_;simp[go_sem];refine wl good (fun(x':(Nat)×(Str))=>match x' with|(i,o)=>[(0,.val (dS s)),(3,.own (oBs o)),(4,.val (dI i))]) (fun(x':(Nat)×(Str))=>match x' with|(i,o)=>s.length-i) (fun(x':(Nat)×(Str))=>match x' with|(i,o)=>(i<=s.length)/\(o=loopN i ([]) (kC s))/\(o.length<=2*i)/\(i=0->o=[])) ((0,[])) ⟨(by omega),rfl,(by simp),(by simp)⟩ ?_;rintro⟨i,o⟩ ⟨h1,h2,h3,h4⟩;simp[go_sem];refine gw (fun a=> ?_) (fun a=> ?_)
 ·have hs:=aA i ([]) (kC s);rw[←h2]at hs;obtain⟨c,hc⟩:=aC (l:=s) (i:=i) (by omega);have hg:=O3 hc;simp[go_sem,hc];refine gw (fun b=> ?_) (fun b=> ?_)
  ·have hu:kC s i o=(if 0<o.length/\(s.getD (i-1) 0).toNat=32 then o++[32]else o)++[c]:=by rw[kC,hg,if_neg (by omega)]
   simp[go_sem];refine gv (fun e=> ?_) (fun e=> ?_)
   ·have e':=e;have hi:0<i:=by rcases Nat.eq_zero_or_pos i with h|h;(have:=h4 h;subst this;simp at e);exact h
    obtain⟨d,hd⟩:=aC (l:=s) (i:=i-1) (by omega);have hdg:=O3 hd;simp[go_sem,e,hd];iterate 2 refine ai ?_
    refine gw (fun f=> ?_) (fun f=> ?_)
    ·have hv:kC s i o=o++[32]++[c]:=by rw[hu,if_pos ⟨by simpa using e,by rw[hdg];omega⟩]
     simp[go_sem,hc];iterate 3 refine ai ?_
     refine nx (i+1,o++[32]++[c]) ⟨(by omega),(by rw[hs,hv]),(by simp;omega),(by omega)⟩
    ·have hv:kC s i o=o++[c]:=by rw[hu,if_neg (by rw[hdg];omega)]
     simp[go_sem,hc];iterate 2 refine ai ?_
     refine nx (i+1,o++[c]) ⟨(by omega),(by rw[hs,hv]),(by simp;omega),(by omega)⟩
   ·have e':=e;simp at e';have hv:kC s i o=o++[c]:=by rw[hu,if_neg (by simp_all)]
    simp[go_sem,hc,e];iterate 2 refine ai ?_
    refine nx (i+1,o++[c]) ⟨(by omega),(by rw[hs,hv]),(by simp;omega),(by omega)⟩
  ·have hu:kC s i o=o:=by rw[kC,hg,if_pos (by omega)]
   simp[go_sem];refine ai ?_;refine nx (i+1,o) ⟨(by omega),(by rw[hs,hu]),(by omega),(by omega)⟩
 ·simp at a;have hi:s.length=i:=by omega
  subst hi;simp[go_sem];grind[uD]
theorem xL (s:Str):(normal s).length<=2*s.length:=by
 have h1:=P5 (oI (nH s));have h2:=CG (nH s);have h3:=AB s;unfold normal;omega
theorem rP (s:Str)(hs:s.length<=65536:=by first|assumption|omega|(simp;omega)|grind):Fk 183 [dS s] (.val (dS (normal s))):=by
 refine fE good [] func183 ntmps183 fun w0 ow0=> ?_;simp[go_sem];refine ck (nY _) ?_;simp[go_sem];refine ck (L9 _ (by rw[AB];omega)) ?_;simp[go_sem];refine ck (CF _ (by have:=CG (nH s);rw[AB]at this;omega)) ?_;simp[go_sem];grind[normal]
theorem avM {l:Str}{i:Nat}{c:UInt8}(h:l[i]?=some c):l.drop i=c::l.drop (i+1):=drop_at h
theorem Y3 (s:Str)(c:UInt8)(hs:s.length<=1048576):Fk 186 [dS s,dC c] (.own (oG (VK c s))):=by
 refine fE good [] func186 ntmps186 fun w0 ow0=> ?_;simp[go_sem];refine wl good (fun(x':(Nat)×(Nat)×(List Str))=>match x' with|(i,f,o)=>[(0,.val (dS s)),(1,.val (dC c)),(5,.own (oG o)),(6,.val (dI f)),(7,.val (dI i))]) (fun(x':(Nat)×(Nat)×(List Str))=>match x' with|(i,f,o)=>s.length-i) (fun(x':(Nat)×(Nat)×(List Str))=>match x' with|(i,f,o)=>(i<=s.length)/\(f<=i)/\(o.length<=i)/\(o++KL c ((s.drop f).take (i-f)) (s.drop i)=VK c s)) ((0,0,[])) ⟨(by simp),(by simp),(by simp),(by simp[VK])⟩ ?_;rintro⟨i,f,o⟩ ⟨h1,h2,h3,h4⟩;simp[go_sem];refine gw (fun a=> ?_) (fun a=> ?_)
 ·obtain⟨d,hd⟩:=aC (l:=s) (i:=i) (by omega);rw[avM hd]at h4;simp[go_sem,hd];refine gw (fun b=> ?_) (fun b=> ?_)
  ·simp[go_sem];iterate 4 refine ai ?_
   refine nx (i+1,i+1,o++[(s.drop f).take (i-f)]) ⟨(by omega),(by omega),(by simp;omega),(by simpa[KL,b]using h4)⟩
  ·have he:(s.drop f).take (i+1-f)=(s.drop f).take (i-f)++[d]:=by rw[show i+1-f=(i-f)+1 by omega];exact aW (by rw[List.getElem?_drop,show f+(i-f)=i by omega];exact hd)
   simp[go_sem];refine ai ?_;refine nx (i+1,f,o) ⟨(by omega),(by omega),(by omega),(by rw[he];simpa[KL,b]using h4)⟩
 ·simp at a;have:i=s.length:=by omega
  subst this;rw[List.drop_length,J7]at h4;simp[go_sem];iterate 2 refine ai ?_
  rw[←h4];simp[KL]
theorem O5 (c:UInt8):Fk 250 [dC c] (.val (dI (aB c))):=by
 refine fE good [] func250 ntmps250 fun w0 ow0=> ?_;have hf:nH [c]=[cK c]:=rfl;simp[go_sem];refine ck (nY [c]) ?_;simp[go_sem,hf];refine gw (fun a1=> ?_) (fun a1=> ?_)
 ·have b1:(cK c).toNat=98:=by rw[a1];rfl
  simp[go_sem,a1];all_goals simp[aB,codeOf,b1]
 ·have b1:¬(cK c).toNat=98:=fun h=>a1 (UInt8.toNat_inj.1 h);simp[go_sem,a1];refine gw (fun a2=> ?_) (fun a2=> ?_)
  ·have b2:(cK c).toNat=102:=by rw[a2];rfl
   simp[go_sem,a2];all_goals simp[aB,codeOf,b2]
  ·have b2:¬(cK c).toNat=102:=fun h=>a2 (UInt8.toNat_inj.1 h);simp[go_sem,a2];refine gw (fun a3=> ?_) (fun a3=> ?_)
   ·have b3:(cK c).toNat=112:=by rw[a3];rfl
    simp[go_sem,a3];all_goals simp[aB,codeOf,b3]
   ·have b3:¬(cK c).toNat=112:=fun h=>a3 (UInt8.toNat_inj.1 h);simp[go_sem,a3];refine gw (fun a4=> ?_) (fun a4=> ?_)
    ·have b4:(cK c).toNat=118:=by rw[a4];rfl
     simp[go_sem];all_goals simp[aB,codeOf,b4]
    ·have b4:¬(cK c).toNat=118:=fun h=>a4 (UInt8.toNat_inj.1 h);simp[go_sem,a4];refine gw (fun a5=> ?_) (fun a5=> ?_)
     ·have b5:(cK c).toNat=99:=by rw[a5];rfl
      simp[go_sem,a5];all_goals simp[aB,codeOf,b5]
     ·have b5:¬(cK c).toNat=99:=fun h=>a5 (UInt8.toNat_inj.1 h);simp[go_sem,a5];refine gw (fun a6=> ?_) (fun a6=> ?_)
      ·have b6:(cK c).toNat=103:=by rw[a6];rfl
       simp[go_sem,a6];all_goals simp[aB,codeOf,b6]
      ·have b6:¬(cK c).toNat=103:=fun h=>a6 (UInt8.toNat_inj.1 h);simp[go_sem,a6];refine gw (fun a7=> ?_) (fun a7=> ?_)
       ·have b7:(cK c).toNat=106:=by rw[a7];rfl
        simp[go_sem,a7];all_goals simp[aB,codeOf,b7]
       ·have b7:¬(cK c).toNat=106:=fun h=>a7 (UInt8.toNat_inj.1 h);simp[go_sem,a7];refine gw (fun a8=> ?_) (fun a8=> ?_)
        ·have b8:(cK c).toNat=107:=by rw[a8];rfl
         simp[go_sem,a8];all_goals simp[aB,codeOf,b8]
        ·have b8:¬(cK c).toNat=107:=fun h=>a8 (UInt8.toNat_inj.1 h);simp[go_sem,a8];refine gw (fun a9=> ?_) (fun a9=> ?_)
         ·have b9:(cK c).toNat=113:=by rw[a9];rfl
          simp[go_sem,a9];all_goals simp[aB,codeOf,b9]
         ·have b9:¬(cK c).toNat=113:=fun h=>a9 (UInt8.toNat_inj.1 h);simp[go_sem,a9];refine gw (fun a10=> ?_) (fun a10=> ?_)
          ·have b10:(cK c).toNat=115:=by rw[a10];rfl
           simp[go_sem,a10];all_goals simp[aB,codeOf,b10]
          ·have b10:¬(cK c).toNat=115:=fun h=>a10 (UInt8.toNat_inj.1 h);simp[go_sem,a10];refine gw (fun a11=> ?_) (fun a11=> ?_)
           ·have b11:(cK c).toNat=120:=by rw[a11];rfl
            simp[go_sem,a11];all_goals simp[aB,codeOf,b11]
           ·have b11:¬(cK c).toNat=120:=fun h=>a11 (UInt8.toNat_inj.1 h);simp[go_sem,a11];refine gw (fun a12=> ?_) (fun a12=> ?_)
            ·have b12:(cK c).toNat=122:=by rw[a12];rfl
             simp[go_sem];all_goals simp[aB,codeOf,b12]
            ·have b12:¬(cK c).toNat=122:=fun h=>a12 (UInt8.toNat_inj.1 h);simp[go_sem,a12];refine gw (fun a13=> ?_) (fun a13=> ?_)
             ·have b13:(cK c).toNat=100:=by rw[a13];rfl
              simp[go_sem,a13];all_goals simp[aB,codeOf,b13]
             ·have b13:¬(cK c).toNat=100:=fun h=>a13 (UInt8.toNat_inj.1 h);simp[go_sem,a13];refine gw (fun a14=> ?_) (fun a14=> ?_)
              ·have b14:(cK c).toNat=116:=by rw[a14];rfl
               simp[go_sem];all_goals simp[aB,codeOf,b14]
              ·have b14:¬(cK c).toNat=116:=fun h=>a14 (UInt8.toNat_inj.1 h);simp[go_sem,a14];refine gw (fun a15=> ?_) (fun a15=> ?_)
               ·have b15:(cK c).toNat=108:=by rw[a15];rfl
                simp[go_sem];all_goals simp[aB,codeOf,b15]
               ·have b15:¬(cK c).toNat=108:=fun h=>a15 (UInt8.toNat_inj.1 h);simp[go_sem,a15];refine gw (fun a16=> ?_) (fun a16=> ?_)
                ·have b16:(cK c).toNat=109:=by rw[a16];rfl
                 simp[go_sem,a16];all_goals simp[aB,codeOf,b16]
                ·have b16:¬(cK c).toNat=109:=fun h=>a16 (UInt8.toNat_inj.1 h);simp[go_sem,a16];refine gw (fun a17=> ?_) (fun a17=> ?_)
                 ·have b17:(cK c).toNat=110:=by rw[a17];rfl
                  simp[go_sem];all_goals simp[aB,codeOf,b17]
                 ·have b17:¬(cK c).toNat=110:=fun h=>a17 (UInt8.toNat_inj.1 h);simp[go_sem,a17];refine gw (fun a18=> ?_) (fun a18=> ?_)
                  ·have b18:(cK c).toNat=114:=by rw[a18];rfl
                   simp[go_sem];all_goals simp[aB,codeOf,b18]
                  ·have b18:¬(cK c).toNat=114:=fun h=>a18 (UInt8.toNat_inj.1 h);simp[go_sem,a18];refine gw (fun a19=> ?_) (fun a19=> ?_)
                   ·have b19:(cK c).toNat=97:=by rw[a19];rfl
                    simp[go_sem,a19];all_goals simp[aB,codeOf,b19]
                   ·have b19:¬(cK c).toNat=97:=fun h=>a19 (UInt8.toNat_inj.1 h);simp[go_sem,a19];refine gw (fun a20=> ?_) (fun a20=> ?_)
                    ·have b20:(cK c).toNat=101:=by rw[a20];rfl
                     simp[go_sem,a20];all_goals simp[aB,codeOf,b20]
                    ·have b20:¬(cK c).toNat=101:=fun h=>a20 (UInt8.toNat_inj.1 h);simp[go_sem,a20];refine gw (fun a21=> ?_) (fun a21=> ?_)
                     ·have b21:(cK c).toNat=105:=by rw[a21];rfl
                      simp[go_sem,a21];all_goals simp[aB,codeOf,b21]
                     ·have b21:¬(cK c).toNat=105:=fun h=>a21 (UInt8.toNat_inj.1 h);simp[go_sem,a21];refine gw (fun a22=> ?_) (fun a22=> ?_)
                      ·have b22:(cK c).toNat=111:=by rw[a22];rfl
                       simp[go_sem,a22];all_goals simp[aB,codeOf,b22]
                      ·have b22:¬(cK c).toNat=111:=fun h=>a22 (UInt8.toNat_inj.1 h);simp[go_sem,a22];refine gw (fun a23=> ?_) (fun a23=> ?_)
                       ·have b23:(cK c).toNat=117:=by rw[a23];rfl
                        simp[go_sem,a23];all_goals simp[aB,codeOf,b23]
                       ·have b23:¬(cK c).toNat=117:=fun h=>a23 (UInt8.toNat_inj.1 h);simp[go_sem,a23];refine gw (fun a24=> ?_) (fun a24=> ?_)
                        ·have b24:(cK c).toNat=121:=by rw[a24];rfl
                         simp[go_sem];all_goals simp[aB,codeOf,b24]
                        ·have b24:¬(cK c).toNat=121:=fun h=>a24 (UInt8.toNat_inj.1 h);simp[go_sem,a24];refine gw (fun a25=> ?_) (fun a25=> ?_)
                         ·have b25:(cK c).toNat=104:=by rw[a25];rfl
                          simp[go_sem,a25];all_goals simp[aB,codeOf,b25]
                         ·have b25:¬(cK c).toNat=104:=fun h=>a25 (UInt8.toNat_inj.1 h);simp[go_sem,a25];refine gw (fun a26=> ?_) (fun a26=> ?_)
                          ·have b26:(cK c).toNat=119:=by rw[a26];rfl
                           simp[go_sem];all_goals simp[aB,codeOf,b26]
                          ·have b26:¬(cK c).toNat=119:=fun h=>a26 (UInt8.toNat_inj.1 h);simp[go_sem,a26];all_goals simp[aB,codeOf,b1,b2,b3,b4,b5,b6,b7,b8,b9,b10,b11,b12,b13,b14,b15,b16,b17,b18,b19,b20,b21,b22,b23,b24,b25,b26]
theorem zK {α:Type}{l:List α}{i:Nat}{c:α}(h:l[i]?=some c):c∈l:=List.mem_of_getElem? h
theorem wQ (s:Str)(hs:s.length<=65536:=by first|assumption|omega|(simp;omega)|grind):Fk 117 [dS s] (.val (bD (tokens s))):=by
 refine fE good [] func117 ntmps117 fun w0 ow0=> ?_;simp[go_sem];refine ck (rP _) ?_;simp[go_sem];refine ck (Y3 (normal s) 32 (by have:=xL s;omega)) ?_;have hL:=(adU 32 (normal s)).1;have hn:=xL s;generalize hcs:VK 32 (normal s)=L at hL|-
 simp[go_sem];refine wlc good [3] (fun(x':(Nat)×(List Str))=>match x' with|(i,o)=>[(3,.val (bD o)),(4,.own (oG L)),(5,.val (dI i))]) (fun(x':(Nat)×(List Str))=>match x' with|(i,o)=>(L).length-i) (fun(x':(Nat)×(List Str))=>match x' with|(i,o)=>(i<=(L).length)/\(o=(L.take i).foldl nQ [])/\(o.length<=i)) ((0,[])) ⟨(by omega),rfl,(by simp)⟩ ?_;rintro⟨i,o⟩ ⟨h1,h2,h3⟩;simp[go_sem];refine gw (fun a=> ?_) (fun a=> ?_)
 ·obtain⟨c,hc⟩:=aC (l:=L) (i:=i) (by omega);have hm:=bC nQ [] hc;rw[←h2]at hm;simp[go_sem,hc];refine gw (fun b=> ?_) (fun b=> ?_)
  ·have hu:nQ o c=dQ o c false:=if_pos b;have hl:=kI o c false;simp[go_sem,hc];refine ck (pG _ _ _) ?_;simp[go_sem];refine ai ?_;refine nxc (i+1,dQ o c false) [3] ⟨(by omega),(by rw[hm,hu]),(by omega)⟩
  ·have hu:nQ o c=o:=if_neg (by simp[b]);simp[go_sem];refine ai ?_;refine nxc (i+1,o) [3] ⟨(by omega),(by rw[hm,hu]),(by omega)⟩
 ·simp at a;rw[aO a]at h2;simp[go_sem];simp[tokens,hcs,←h2]
theorem ZJ (l:List Str)(x:Str)(hl:l.length<=1048576:=by first|assumption|omega|(simp;omega)|grind):Fk 303 [bD l,dS x] (.val (dB (l.any fun y=>decide (y=x)))):=by
 refine fE good [] func303 ntmps303 fun w0 ow0=> ?_;simp[go_sem];refine wl good (fun(i:Nat)=>[(0,.val (bD l)),(1,.val (dS x)),(5,.val (dI i))]) (fun(i:Nat)=>(l).length-i) (fun(i:Nat)=>(i<=(l).length)/\(((l).take i).any (fun y=>decide (y=x))=false)) (0) ⟨(by omega),rfl⟩ ?_;rintro i ⟨h1,h2⟩;simp[go_sem];refine gw (fun a=> ?_) (fun a=> ?_)
 ·obtain⟨c,hc⟩:=aC (l:=l) (i:=i) (by omega);simp[go_sem,hc];refine gw (fun b=> ?_) (fun b=> ?_)
  ·have hn:=alA hc (P:=(fun y=>decide (y=x))) (by simp[b]);simp[go_sem,hn]
  ·simp[go_sem];refine ai ?_;refine nx (i+1) ⟨(by omega),(eX hc h2 (by simp[b]))⟩
 ·simp at a;have hf:=j5 h2 a;simp[go_sem,hf]
theorem FZ (l m:List Str)(hl:l.length<=262144)(hm:m.length<=262144):Fk 248 [bD l,bD m] (.val (bD (common l m))):=by
 refine fE good [] func248 ntmps248 fun w0 ow0=> ?_;simp[go_sem];refine wlc good [5] (fun(x':(Nat)×(List Str))=>match x' with|(i,o)=>[(0,.val (bD l)),(1,.val (bD m)),(5,.val (bD o)),(6,.val (dI i))]) (fun(x':(Nat)×(List Str))=>match x' with|(i,o)=>(l).length-i) (fun(x':(Nat)×(List Str))=>match x' with|(i,o)=>(i<=(l).length)/\(o=(l.take i).foldl (yF m) [])/\(o.length<=i)) ((0,[])) ⟨(by omega),rfl,(by simp)⟩ ?_;rintro⟨i,o⟩ ⟨h1,h2,h3⟩;simp[go_sem];refine gw (fun a=> ?_) (fun a=> ?_)
 ·obtain⟨c,hc⟩:=aC (l:=l) (i:=i) (by omega);have hq:=bC (yF m) [] hc;rw[←h2]at hq;simp[go_sem,hc];refine ck (ZJ _ _) ?_;simp[go_sem];refine gw (fun b=> ?_) (fun b=> ?_)
  ·simp at b;have hu:yF m o c=dQ o c false:=if_pos (by simpa using b);have hp:=kI o c false;simp[go_sem,hc];refine ck (pG _ _ _) ?_;simp[go_sem];refine ai ?_;refine nxc (i+1,dQ o c false) [5] ⟨(by omega),(by rw[hq,hu]),(by omega)⟩
  ·simp at b;have hu:yF m o c=o:=if_neg (fun h=>by obtain⟨y,h1,h2⟩:=List.any_eq_true.1 h;exact b y h1 (by simpa using h2));simp[go_sem];refine ai ?_;refine nxc (i+1,o) [5] ⟨(by omega),(by rw[hq,hu]),(by omega)⟩
 ·simp at a;rw[aO a]at h2;simp[go_sem];grind[common]
theorem JS (l m:List Str)(hl:l.length<=262144)(hm:m.length<=262144):Fk 249 [bD l,bD m] (.val (bD (NA l m))):=by
 refine fE good [] func249 ntmps249 fun w0 ow0=> ?_;simp[go_sem];refine wlc good [5] (fun(x':(Nat)×(List Str))=>match x' with|(i,o)=>[(0,.val (bD l)),(1,.val (bD m)),(5,.val (bD o)),(6,.val (dI i))]) (fun(x':(Nat)×(List Str))=>match x' with|(i,o)=>(l).length-i) (fun(x':(Nat)×(List Str))=>match x' with|(i,o)=>(i<=(l).length)/\(o=(l.take i).foldl nZ [])/\(o.length<=i)) ((0,[])) ⟨(by omega),rfl,(by simp)⟩ ?_;rintro⟨i,o⟩ ⟨h1,h2,h3⟩;simp[go_sem];refine gw (fun a=> ?_) (fun a=> ?_)
 ·obtain⟨c,hc⟩:=aC (l:=l) (i:=i) (by omega);have hq:=bC nZ [] hc;rw[←h2]at hq;have hp:=kI o c false;simp[go_sem,hc];refine ck (pG _ _ _) ?_;simp[go_sem];refine ai ?_;refine nxc (i+1,dQ o c false) [5] ⟨(by omega),(by rw[hq];rfl),(by omega)⟩
 ·simp at a;rw[aO a]at h2;simp[go_sem];refine wl good (fun(x':(Nat)×(List Str))=>match x' with|(i,q)=>[(1,.val (bD m)),(5,.val (bD q)),(7,.val (dI i))]) (fun(x':(Nat)×(List Str))=>match x' with|(i,q)=>(m).length-i) (fun(x':(Nat)×(List Str))=>match x' with|(i,q)=>(i<=(m).length)/\(q=(m.take i).foldl nZ o)/\(q.length<=o.length+i)) ((0,o)) ⟨(by omega),rfl,(by omega)⟩ ?_;rintro⟨i,q⟩ ⟨h1j,h2j,h3j⟩;simp[go_sem];refine gw (fun aj=> ?_) (fun aj=> ?_)
  ·obtain⟨cj,hcj⟩:=aC (l:=m) (i:=i) (by omega);have hq:=bC nZ o hcj;rw[←h2j]at hq;have hp:=kI q cj false;simp[go_sem,hcj];refine ck (pG q cj false) ?_;simp[go_sem];refine ai ?_;refine nx (i+1,dQ q cj false) ⟨(by omega),(by rw[hq];rfl),(by omega)⟩
  ·simp at aj;rw[aO aj]at h2j;simp[go_sem];grind[NA]
theorem BD (s:Str)(hs:s.length<=1048576):Fk 189 [dS s] (.val (dS (digits s))):=by
 refine fE good [] func189 ntmps189 fun w0 ow0=> ?_;simp[go_sem];refine wl good (fun(x':(Nat)×(Str))=>match x' with|(i,o)=>[(0,.val (dS s)),(3,.own (oBs o)),(4,.val (dI i))]) (fun(x':(Nat)×(Str))=>match x' with|(i,o)=>(s).length-i) (fun(x':(Nat)×(Str))=>match x' with|(i,o)=>(i<=(s).length)/\(o=(s.take i).filter (fun c=>decide (48<=c.toNat/\c.toNat<=57)))/\(o.length<=i)) ((0,[])) ⟨(by omega),rfl,(by simp)⟩ ?_;rintro⟨i,o⟩ ⟨h1,h2,h3⟩;simp[go_sem];refine gw (fun a=> ?_) (fun a=> ?_)
 ·obtain⟨c,hc⟩:=aC (l:=s) (i:=i) (by omega);have hm:=qB (fun c:UInt8=>decide (48<=c.toNat/\c.toNat<=57)) hc;rw[←h2]at hm;simp[go_sem,hc];refine gv (fun e=> ?_) (fun e=> ?_)
  ·have e':=e;simp[go_sem,hc,e];refine gw (fun f=> ?_) (fun f=> ?_)
   ·have hd:(decide (48<=c.toNat/\c.toNat<=57))=true:=by simp;omega
    simp[go_sem,hc];iterate 2 refine ai ?_
    refine nx (i+1,o++[c]) ⟨(by omega),(by rw[hm,hd];rfl),(by simp;omega)⟩
   ·simp at f;have hd:(decide (48<=c.toNat/\c.toNat<=57))=false:=by simp;omega
    simp[go_sem];refine ai ?_;refine nx (i+1,o) ⟨(by omega),(by rw[hm,hd];simp),(by omega)⟩
  ·have e':=e;simp at e';have hd:(decide (48<=c.toNat/\c.toNat<=57))=false:=by simp;omega
   simp[go_sem,e];refine ai ?_;refine nx (i+1,o) ⟨(by omega),(by rw[hm,hd];simp),(by omega)⟩
 ·simp at a;rw[aO a]at h2;simp[go_sem];grind[digits]
theorem KA (x:Int):Fk 191 [dI x] (.val (dB (inR x 0 9999))):=by
 refine fE good [] func191 ntmps191 fun w0 ow0=> ?_;simp[go_sem];refine ck (aH _ _ _) ?_;simp[go_sem]
abbrev af9 (t:Tri):D:= .agg [dI t.a,dI t.b,dI t.c,dI t.w]
abbrev xM (l:List Tri):D:= .sl none (l.map af9)
abbrev qE (l:List Tri):D:= .sl (some 182) (l.map af9)
def rJ (x:Int):Int:=if x<0 then -x else x
def ZK (m:List (List Int))(a b c:Nat):List Int:=[at2 m a b,at2 m a c,at2 m b c]
def LJ (l:List Int):Nat:=(l.filter fun x=>decide (x<0)).length
def F5 (l:List Int):Nat:=(l.filter fun x=>decide (x>0)).length
def OJ (m:List (List Int))(a b c:Int):Bool:=aI m&&decide (0<=a)&&decide (a<b)&&decide (b<c)&&decide (c<m.length)
def nE (m:List (List Int))(a b c:Int):Bool:=OJ m a b c&&(decide (LJ (ZK m a.toNat b.toNat c.toNat)=1)&&decide (F5 (ZK m a.toNat b.toNat c.toNat)=2))
def x8 (x y:Int)(t:Tri):Bool:=(decide (t.a=x)&&decide (t.b=y))||(decide (t.a=x)&&decide (t.c=y))||(decide (t.b=x)&&decide (t.c=y))
def qF (l:List Tri)(x y:Int):Int:=l.foldl (fun s t=>if x8 x y t=true then s+t.w else s) 0
theorem X4 {l:List Tri}{w:Int}(hw:0<=w)(h:∀t∈l, -w<=t.w/\t.w<=w)(x y:Int): -(w*l.length)<=qF l x y/\qF l x y<=w*l.length:=by
 have key:∀(l:List Tri) (s:Int),(∀t∈l, -w<=t.w/\t.w<=w)->s-w*l.length<=l.foldl (fun s t=>if x8 x y t=true then s+t.w else s) s/\l.foldl (fun s t=>if x8 x y t=true then s+t.w else s) s<=s+w*l.length:=by
  intro l
  induction l with
  |nil=>intro s _;simp
  |cons t l ih=>
   intro s h;have h1:=h t (by simp);have h2:=ih (if x8 x y t=true then s+t.w else s) (fun t ht=>h t (List.mem_cons_of_mem _ ht));have e:w*((t::l).length:Int)=w*l.length+w:=by simp[Int.mul_add]
   rw[List.foldl_cons,e];by_cases hh:x8 x y t=true
   ·simp only[hh,if_true]at h2|-;omega
   ·simp only[hh,if_false,Bool.false_eq_true]at h2|-;omega
 have:=key l 0 h;unfold qF;omega
theorem iP (x:Int)(hx: -1048576<=x/\x<=1048576):Fk 136 [dI x] (.val (dI (rJ x))):=by
 refine fE good [] func136 ntmps136 fun w0 ow0=> ?_;simp[go_sem];refine gw (fun h1=> ?_) (fun h1=> ?_)
 ·simp[go_sem];refine ai ?_;grind[rJ]
 ·simp at h1;simp[go_sem];grind[rJ]
theorem rR (m:List (List Int))(a b c:Int)(hm:m.length<=1048576:=by first|assumption|omega|(simp;omega)|grind):Fk 197 [aL m,dI a,dI b,dI c] (.val (dB (nE m a b c))):=by
 refine fE good [] func197 ntmps197 fun w0 ow0=> ?_;simp[go_sem];refine ck (aY m hm) ?_;simp[go_sem];refine gv (fun e1=> ?_) (fun e1=> ?_)
 ·have e1':=e1;simp at e1';have h0:nE m a b c=false:=by simp only[nE,OJ];rw[e1'];simp
  simp[go_sem,e1,h0]
 ·have e1':=e1;simp at e1';simp[go_sem,e1];refine gv (fun e2=> ?_) (fun e2=> ?_)
  ·have e2':=e2;have h0:nE m a b c=false:=by simp only[nE,OJ];rw[decide_eq_false (p:=0<=a) (by omega)];simp
   simp[go_sem,e2,h0]
  ·have e2':=e2;simp at e2';simp[go_sem,e2];refine gv (fun e3=> ?_) (fun e3=> ?_)
   ·have e3':=e3;have h0:nE m a b c=false:=by simp only[nE,OJ];rw[decide_eq_false (p:=a<b) (by omega)];simp
    simp[go_sem,e3,h0]
   ·have e3':=e3;simp at e3';simp[go_sem,e3];refine gv (fun e4=> ?_) (fun e4=> ?_)
    ·have e4':=e4;have h0:nE m a b c=false:=by simp only[nE,OJ];rw[decide_eq_false (p:=b<c) (by omega)];simp
     simp[go_sem,e4,h0]
    ·have e4':=e4;simp at e4';simp[go_sem,e4];refine gw (fun e5=> ?_) (fun e5=> ?_)
     ·have h0:nE m a b c=false:=by simp only[nE,OJ];rw[decide_eq_false (p:=c<m.length) (by omega)];simp
      simp[go_sem,h0]
     ·simp at e5;have ht:OJ m a b c=true:=by simp only[OJ];rw[e1'];simp;omega
      have h0:nE m a b c=(decide (LJ (ZK m a.toNat b.toNat c.toNat)=1)&&decide (F5 (ZK m a.toNat b.toNat c.toNat)=2)):=by simp[nE,ht]
      obtain⟨r,hr,hrb⟩:=eP e1' (i:=a.toNat) (k:=b.toNat) (by omega) (by omega);obtain⟨r',hr',hrc⟩:=eP e1' (i:=a.toNat) (k:=c.toNat) (by omega) (by omega);obtain rfl:r=r':=by rw[hr]at hr';exact Option.some.inj hr'
      obtain⟨q,hq,hqc⟩:=eP e1' (i:=b.toNat) (k:=c.toNat) (by omega) (by omega);have hb0:0<=b:=by omega
      have hc0:0<=c:=by omega
      have hT:ZK m a.toNat b.toNat c.toNat=[at2 m a.toNat b.toNat,at2 m a.toNat c.toNat,at2 m b.toNat c.toNat]:=rfl;have hTl:(ZK m a.toNat b.toNat c.toNat).length=3:=rfl;have hn0:LJ []=0:=rfl;have hp0:F5 []=0:=rfl;simp[go_sem];refine wdt good 21 ?_;simp[go_sem,hr,hrb,hrc,hq,hqc,hb0,hc0];refine ai ?_;refine wl good (fun(i:Nat)=>[(9,.val (dI (LJ ((ZK m a.toNat b.toNat c.toNat).take i)))),(10,.val (dI (F5 ((ZK m a.toNat b.toNat c.toNat).take i)))),(11,.own (aD (ZK m a.toNat b.toNat c.toNat))),(12,.val (dI i))]) (fun(i:Nat)=>3-i) (fun(i:Nat)=>(i<=3)) (0) (by omega) ?_ (h0:=by simp[go_sem,e2,hr,hrb,hrc,hq,hqc,hb0,hc0,hn0,hp0,hT]);rintro i h1;clear hT;generalize ZK m a.toNat b.toNat c.toNat=T at*
      simp[go_sem];refine gw (fun f=> ?_) (fun f=> ?_)
      ·have hg:=aF (l:=T) (i:=i) (by omega);have hn1:=qB (fun x:Int=>decide (x<0)) hg;have hp1:=qB (fun x:Int=>decide (x>0)) hg;have hnl:(LJ (T.take i))<=3:=Nat.le_trans (List.length_filter_le _ _) (by simp;omega);have hpl:(F5 (T.take i))<=3:=Nat.le_trans (List.length_filter_le _ _) (by simp;omega);simp[go_sem,hg];refine gw (fun g=> ?_) (fun g=> ?_)
       ·have hn2:LJ (T.take (i+1))=LJ (T.take i)+1:=by rw[LJ,hn1,decide_eq_true g];simp[LJ]
        simp[go_sem,hg];refine ai ?_;refine gw (fun k=> ?_) (fun k=> ?_)
        ·exfalso;omega
        ·simp at k;have hp2:F5 (T.take (i+1))=F5 (T.take i):=by rw[F5,hp1,decide_eq_false (by omega)];simp[F5]
         simp[go_sem];refine ai ?_;refine nx (i+1) (by first|omega|(simp;omega)|grind) (h3:=by simp[go_sem,e2,hg,hn2,hp2])
       ·simp at g;have hn2:LJ (T.take (i+1))=LJ (T.take i):=by rw[LJ,hn1,decide_eq_false (by omega)];simp[LJ]
        simp[go_sem,hg];refine gw (fun k=> ?_) (fun k=> ?_)
        ·have hp2:F5 (T.take (i+1))=F5 (T.take i)+1:=by rw[F5,hp1,decide_eq_true k];simp[F5]
         simp[go_sem];iterate 2 refine ai ?_
         refine nx (i+1) (by first|omega|(simp;omega)|grind) (h3:=by simp[go_sem,e2,hg,hn2,hp2])
        ·simp at k;have hp2:F5 (T.take (i+1))=F5 (T.take i):=by rw[F5,hp1,decide_eq_false (by omega)];simp[F5]
         simp[go_sem];refine ai ?_;refine nx (i+1) (by first|omega|(simp;omega)|grind) (h3:=by simp[go_sem,e2,hg,hn2,hp2])
      ·simp at f;obtain rfl:i=3:=by omega
       rw[show T.take 3=T from List.take_of_length_le (by omega)];simp[go_sem];refine gv (fun g=> ?_) (fun g=> ?_)
       ·have g':=g;simp[go_sem,g];rw[h0,decide_eq_true (p:=LJ T=1) (by omega),Bool.true_and];exact decide_eq_decide.2 (by omega)
       ·have g':=g;simp[go_sem,g];rw[h0,decide_eq_false (p:=LJ T=1) (by omega),Bool.false_and]
def OC (n:Nat)(t:Tri):Prop:=0<=t.a/\t.a<t.b/\t.b<t.c/\t.c<n/\0<=t.w/\t.w<=1000
theorem DC {x:Int}{w:Int}(h: -w<=x/\x<=w):0<=rJ x/\rJ x<=w:=by unfold rJ;split<;>omega
theorem aoF {m:List (List Int)}{a b c:Int}(h:nE m a b c=true):aI m=true/\0<=a/\a<b/\b<c/\c<m.length:=by
 simp only[nE,OJ,Bool.and_eq_true,decide_eq_true_eq]at h;exact⟨h.1.1.1.1.1,h.1.1.1.1.2,h.1.1.1.2,h.1.1.2,h.1.2⟩
def w3 (m:List (List Int))(a b c:Nat):Int:=min (rJ (at2 m a b)) (min (rJ (at2 m a c)) (rJ (at2 m b c)))
def IE (m:List (List Int))(a b c:Nat)(q:List Tri):List Tri:=if nE m a b c=true then q++[⟨a,b,c,w3 m a b c⟩]else q
def auD (m:List (List Int))(a b:Nat)(p:List Tri):List Tri:=loopN (m.length-(b+1)) p fun j q=>IE m a b (b+1+j) q
def auE (m:List (List Int))(a:Nat)(o:List Tri):List Tri:=loopN (m.length-(a+1)) o fun j p=>auD m a (a+1+j) p
def vX (m:List (List Int)):List Tri:=loopN m.length [] (auE m)
def C8 (m:List (List Int))(k:Nat)(L:List Tri):Prop:=L.length<=k/\∀t∈L,OC m.length t
theorem aaH {m:List (List Int)}(hm:aI m=true){a b c k:Nat}{q:List Tri}(h:C8 m k q):C8 m (k+1) (IE m a b c q):=by
 unfold IE;split
 ·rename_i hb;have h1:=aoF hb;have v1:=DC (cB hm a b);have v2:=DC (cB hm a c);have v3:=DC (cB hm b c);have hw:0<=w3 m a b c/\w3 m a b c<=1000:=by unfold w3;omega
  refine⟨by have:=h.1;simp;omega,fun t ht=> ?_⟩;rcases List.mem_append.1 ht with h2|h2
  ·exact h.2 t h2
  ·rw[List.mem_singleton.1 h2];unfold OC;simp only;omega
 ·exact⟨by have:=h.1;omega,h.2⟩
theorem akN {m:List (List Int)}(hm:aI m=true){a b k:Nat}{p:List Tri}(h:C8 m k p):C8 m (k+8) (auD m a b p):=by
 have h8:=aP hm;have:=loopN_inv (n:=m.length-(b+1)) (fun j (q:List Tri)=>C8 m (k+j) q) (f:=fun j q=>IE m a b (b+1+j) q) h (fun j q _ hq=>aaH hm hq);exact⟨Nat.le_trans this.1 (by omega),this.2⟩
theorem ak5 {m:List (List Int)}(hm:aI m=true){a k:Nat}{o:List Tri}(h:C8 m k o):C8 m (k+64) (auE m a o):=by
 have h8:=aP hm;have:=loopN_inv (n:=m.length-(a+1)) (fun j (q:List Tri)=>C8 m (k+8*j) q) (f:=fun j p=>auD m a (a+1+j) p) (by simpa using h) (fun j q _ hq=>akN hm hq);exact⟨Nat.le_trans this.1 (by omega),this.2⟩
theorem XI {m:List (List Int)}(hm:aI m=true)(i:Nat):C8 m (64*i) (loopN i [] (auE m)):=
 loopN_inv (fun i (q:List Tri)=>C8 m (64*i) q) ⟨by simp,by simp⟩ fun i q _ hq=>ak5 hm hq
theorem EU (m:List (List Int))(hm:aI m=true):Fk 135 [aL m] (.own (qE (vX m))):=by
 refine fE good [] func135 ntmps135 fun w0 ow0=> ?_;have hml:=aP hm;simp[go_sem];refine wl good (fun(x':(Nat)×(List Tri))=>match x' with|(a,o)=>[(0,.val (aL m)),(3,.own (qE o)),(4,.val (dI a))]) (fun(x':(Nat)×(List Tri))=>match x' with|(a,o)=>m.length-a) (fun(x':(Nat)×(List Tri))=>match x' with|(a,o)=>(a<=m.length)/\(o=loopN a ([]) (auE m))/\(C8 m (64*a) o)) ((0,[])) ⟨(by omega),(rfl),(⟨by simp,by simp⟩)⟩ ?_;rintro⟨a,o⟩ ⟨h1z,h2z,h3⟩;simp[go_sem];refine gw (fun az=> ?_) (fun az=> ?_)
 ·have hsz:=aA a ([]) (auE m);rw[←h2z]at hsz;simp[go_sem];refine ai ?_;refine wl good (fun(x':(Nat)×(List Tri))=>match x' with|(b,p)=>[(0,.val (aL m)),(3,.own (qE p)),(4,.val (dI a)),(5,.val (dI b))]) (fun(x':(Nat)×(List Tri))=>match x' with|(b,p)=>m.length-b) (fun(x':(Nat)×(List Tri))=>match x' with|(b,p)=>(a<b/\b<=m.length)/\(p=loopN (b-(a+1)) o (fun j p=>auD m a (a+1+j) p))/\(C8 m (64*a+8*(b-(a+1))) p)) ((a+1,o)) ⟨(by omega),(by simp[loopN_zero]),(by simpa using h3)⟩ ?_;rintro⟨b,p⟩ ⟨h4,h5,h6⟩;simp[go_sem];refine gw (fun f=> ?_) (fun f=> ?_)
  ·have hsb:=aA (b-(a+1)) o (fun j p=>auD m a (a+1+j) p);rw[←h5,show b-(a+1)+1=b+1-(a+1) by omega,show a+1+(b-(a+1))=b by omega]at hsb;simp[go_sem];refine ai ?_;refine wl good (fun(x':(Nat)×(List Tri))=>match x' with|(c,q)=>[(0,.val (aL m)),(3,.own (qE q)),(4,.val (dI a)),(5,.val (dI b)),(6,.val (dI c))]) (fun(x':(Nat)×(List Tri))=>match x' with|(c,q)=>m.length-c) (fun(x':(Nat)×(List Tri))=>match x' with|(c,q)=>(b<c/\c<=m.length)/\(q=loopN (c-(b+1)) p (fun j q=>IE m a b (b+1+j) q))/\(C8 m (64*a+8*(b-(a+1))+(c-(b+1))) q)) ((b+1,p)) ⟨(by omega),(by simp[loopN_zero]),(by simpa using h6)⟩ ?_;rintro⟨c,q⟩ ⟨h7,h8,h9⟩;simp[go_sem];refine gw (fun g=> ?_) (fun g=> ?_)
   ·have hsc:=aA (c-(b+1)) p (fun j q=>IE m a b (b+1+j) q);rw[←h8,show c-(b+1)+1=c+1-(b+1) by omega,show b+1+(c-(b+1))=c by omega]at hsc;have hok:=aaH hm (a:=a) (b:=b) (c:=c) h9;rw[show 64*a+8*(b-(a+1))+(c-(b+1))+1=64*a+8*(b-(a+1))+(c+1-(b+1)) by omega]at hok;have hq512:=h9.1;simp[go_sem];refine ck (rR m a b c) ?_;simp[go_sem];refine gw (fun k=> ?_) (fun k=> ?_)
    ·obtain⟨r,hr,hrb⟩:=eP hm (i:=a) (k:=b) (by omega) (by omega);obtain⟨r',hr',hrc⟩:=eP hm (i:=a) (k:=c) (by omega) (by omega);obtain rfl:r=r':=by rw[hr]at hr';exact Option.some.inj hr'
     obtain⟨s,hs',hsc'⟩:=eP hm (i:=b) (k:=c) (by omega) (by omega);have v1:=cB hm a b;have v2:=cB hm a c;have v3:=cB hm b c;have hta:IE m a b c q=q++[⟨a,b,c,w3 m a b c⟩]:=if_pos k;have hw:min (rJ (at2 m a b)) (min (rJ (at2 m a c)) (rJ (at2 m b c)))=w3 m a b c:=rfl;rw[hta]at hok;simp[go_sem];refine wdf good [(29,[36,37,38,63,64]),(30,[64,65]),(31,[35,65,66,3]),(32,[66,3])] [(0,.val (aL m)),(3,.own (qE q)),(4,.val (dI a)),(5,.val (dI b)),(6,.val (dI c))] [] (by simp[go_sem]) ?_;simp[go_sem,hr,hrb];refine cd (iP (at2 m a b) (by omega)) ?_;simp[go_sem,hr,hrc];refine cd (iP (at2 m a c) (by omega)) ?_;simp[go_sem,hs',hsc'];refine cd (iP (at2 m b c) (by omega)) ?_;simp[go_sem,hw];iterate 2 refine ai ?_
     refine nx (c+1,q++[⟨a,b,c,w3 m a b c⟩]) ⟨(by omega),(by rw[hsc,hta]),(hok)⟩
    ·have hta:IE m a b c q=q:=if_neg (by simp[k]);rw[hta]at hok;simp[go_sem];refine ai ?_;refine nx (c+1,q) ⟨(by omega),(by rw[hsc,hta]),(hok)⟩
   ·simp at g;obtain rfl:c=m.length:=by omega
    have hok:=akN hm (a:=a) (b:=b) h6;simp[go_sem];refine ai ?_;refine nx (b+1,q) ⟨(by omega),(by rw[hsb,h8];rfl),(by rw[h8];rw[show 64*a+8*(b+1-(a+1))=64*a+8*(b-(a+1))+8 by omega];exact hok)⟩
  ·simp at f;obtain rfl:b=m.length:=by omega
   simp[go_sem];refine ai ?_;refine nx (a+1,p) ⟨(by omega),(by rw[hsz,h5];rfl),(by rw[h5];exact ak5 hm h3)⟩
 ·simp at az;have hiz:m.length=a:=by omega
  subst hiz;simp[go_sem];simp[vX,←h2z]
theorem apH (l:List Tri)(t:Tri)(x y:Int):qF (l++[t]) x y=if x8 x y t=true then qF l x y+t.w else qF l x y:=by simp[qF,List.foldl_append]
theorem ao2 {l:List Tri}{i:Nat}{t:Tri}(h:l[i]?=some t)(x y:Int):qF (l.take (i+1)) x y=if x8 x y t=true then qF (l.take i) x y+t.w else qF (l.take i) x y:=by rw[aW h,apH]
theorem pO (l:List Tri)(x y:Int)(hl:l.length<=1048576:=by first|assumption|omega|(simp;omega)|grind)(hw:∀t∈l, -1048576<=t.w/\t.w<=1048576:=by first|assumption|omega|(simp;omega)|grind):Fk 137 [xM l,dI x,dI y] (.val (dI (qF l x y))):=by
 refine fE good [] func137 ntmps137 fun w0 ow0=> ?_;simp[go_sem];refine wl good (fun(x':(Nat)×(Int))=>match x' with|(i,s)=>[(0,.val (xM l)),(1,.val (dI x)),(2,.val (dI y)),(7,.val (dI s)),(8,.val (dI i))]) (fun(x':(Nat)×(Int))=>match x' with|(i,s)=>l.length-i) (fun(x':(Nat)×(Int))=>match x' with|(i,s)=>(i<=l.length)/\(s=qF (l.take i) x y)/\(-(1048576*i)<=s/\s<=1048576*i)) ((0,0)) ⟨(by omega),(rfl),(by simp)⟩ ?_;rintro⟨i,s⟩ ⟨h1,h2,h3⟩;simp[go_sem];refine gw (fun a=> ?_) (fun a=> ?_)
 ·obtain⟨t,ht⟩:=aC a;have hwt:=hw t (zK ht);have hu:=ao2 ht x y;simp[go_sem,ht];refine gv (fun e=> ?_) (fun e=> ?_)
  ·have e':=e;simp[go_sem,e];refine gv (fun f=> ?_) (fun f=> ?_)
   ·have f':=f;have hb:x8 x y t=true:=by simp[x8,e,f]
    simp[go_sem,f];iterate 2 refine ai ?_
    refine nx (i+1,s+t.w) ⟨(by omega),(by rw[hu,hb,if_pos rfl,h2]),(by omega)⟩
   ·have f':=f;simp[go_sem,f];refine gv (fun g=> ?_) (fun g=> ?_)
    ·have g':=g;have hb:x8 x y t=true:=by simp[x8,e,g]
     simp[go_sem,g];iterate 2 refine ai ?_
     refine nx (i+1,s+t.w) ⟨(by omega),(by rw[hu,hb,if_pos rfl,h2]),(by omega)⟩
    ·have g':=g;simp[go_sem,g];refine gv (fun k=> ?_) (fun k=> ?_)
     ·have k':=k;have hb:x8 x y t=false:=by simp[x8,f,g]
      simp[go_sem,g,k];refine ai ?_;refine nx (i+1,s) ⟨(by omega),(by rw[hu,hb,if_neg (by simp),h2]),(by omega)⟩
     ·have k':=k;have hb:x8 x y t=false:=by simp[x8,f,g]
      simp[go_sem,k];refine ai ?_;refine nx (i+1,s) ⟨(by omega),(by rw[hu,hb,if_neg (by simp),h2]),(by omega)⟩
  ·have e':=e;simp[go_sem,e];refine gv (fun k=> ?_) (fun k=> ?_)
   ·have k':=k;simp[go_sem,k];refine gw (fun n=> ?_) (fun n=> ?_)
    ·have hb:x8 x y t=true:=by simp[x8,k,n]
     simp[go_sem];iterate 2 refine ai ?_
     refine nx (i+1,s+t.w) ⟨(by omega),(by rw[hu,hb,if_pos rfl,h2]),(by omega)⟩
    ·have hb:x8 x y t=false:=by simp[x8,e,n]
     simp[go_sem];refine ai ?_;refine nx (i+1,s) ⟨(by omega),(by rw[hu,hb,if_neg (by simp),h2]),(by omega)⟩
   ·have k':=k;have hb:x8 x y t=false:=by simp[x8,e,k]
    simp[go_sem,k];refine ai ?_;refine nx (i+1,s) ⟨(by omega),(by rw[hu,hb,if_neg (by simp),h2]),(by omega)⟩
 ·simp at a;obtain rfl:i=l.length:=by omega
  rw[List.take_length]at h2;simp[go_sem];omega
theorem dK (l:List Int)(x:Int)(hl:l.length<=1048576:=by first|assumption|omega|(simp;omega)|grind):Fk 222 [nInts l,dI x] (.val (dI (ix (fun y=>decide (x=y)) l))):=by
 refine fE good [] func222 ntmps222 fun w0 ow0=> ?_;simp[go_sem];refine wl good (fun(i:Nat)=>[(0,.val (nInts l)),(1,.val (dI x)),(6,.val (nInts l)),(7,.val (dI l.length)),(8,.val (dI i))]) (fun(i:Nat)=>(l).length-i) (fun(i:Nat)=>(i<=(l).length)/\(((l).take i).any (fun y=>decide (x=y))=false)) (0) ⟨(by omega),rfl⟩ ?_;rintro i ⟨h1,h2⟩;simp[go_sem];refine gw (fun a=> ?_) (fun a=> ?_)
 ·obtain⟨c,hc⟩:=aC (l:=l) (i:=i) (by omega);simp[go_sem,hc];refine gw (fun b=> ?_) (fun b=> ?_)
  ·have hn:=vH hc h2 (by simp[b]);simp[go_sem,hn]
  ·simp[go_sem];refine ai ?_;refine nx (i+1) ⟨(by omega),(eX hc h2 (by simp[b]))⟩
 ·simp at a;have hf:=j5 h2 a;have hx:=lX hf;simp[go_sem,hx]
theorem kU (x:Int)(hx: -9000000000000000000<=x/\x<=9000000000000000000):Fk 227 [dI x] (.val (dI (rJ x))):=by
 refine fE good [] func227 ntmps227 fun w0 ow0=> ?_;have ha:max x (-x)=rJ x:=by unfold rJ;split<;>omega
 simp[go_sem,ha];simp only[inI];omega
theorem iK (l:List Int)(hl:1<=l.length/\l.length<=1048576):Fk 275 [nInts l] (.own (aD l)):=by
 refine fE good [] func275 ntmps275 fun w0 ow0=> ?_;have hne:¬l=[]:=by rintro rfl;simp at hl
 have hle:l.length<=1073741824:=by omega
 simp[go_sem,hne,hle]
theorem lH (l:List Int)(hs:l.length<=1048576):Fk 162 [nInts l] (.own (aD (canon l))):=by
 refine fE good [] func162 ntmps162 fun w0 ow0=> ?_;simp[go_sem];refine wl good (fun(x':(Nat)×(List Int×List Int))=>match x' with|(i,s)=>[(3,.own (aD s.2)),(4,.own (aD s.1)),(8,.val (nInts l)),(9,.val (dI l.length)),(10,.val (dI i))]) (fun(x':(Nat)×(List Int×List Int))=>match x' with|(i,s)=>(l).length-i) (fun(x':(Nat)×(List Int×List Int))=>match x' with|(i,s)=>(i<=(l).length)/\(s=(l.take i).foldl dL ([],[]))/\(s.1.length<=i/\s.2.length<=i)/\(s.2.Nodup)) ((0,([],[]))) ⟨(by omega),rfl,(by simp),(by simp)⟩ ?_;rintro⟨i,s⟩ ⟨h1,h2,h3,h4⟩;simp[go_sem];refine gw (fun a=> ?_) (fun a=> ?_)
 ·obtain⟨c,hc⟩:=aC (l:=l) (i:=i) (by omega);have hm:=bC dL ([],[]) hc;rw[←h2]at hm;simp[go_sem,hc];refine ck (dK s.2 c (by omega)) ?_;have hli:=aaL c h4 s.2.length (Nat.le_refl _);rw[List.take_length]at hli;simp[go_sem];refine gw (fun b=> ?_) (fun b=> ?_)
  ·have hx:dL s c=(s.1++[(s.2.length:Int)],s.2++[c]):=if_pos (by rw[hli];exact b);have hni:c∉s.2:=fun hmem=>by have h9:s.2.any (fun y=>decide (c=y))=true:=List.any_eq_true.2 ⟨c,hmem,by simp⟩;have:=eH.2 h9;omega
   simp[go_sem];iterate 3 refine ai ?_
   refine nx (i+1,(s.1++[(s.2.length:Int)],s.2++[c])) ⟨(by omega),(by rw[hm,hx]),(by simp;omega),(by simp[List.nodup_append,h4];intro a ha e;exact hni (e▸ha))⟩
  ·simp at b;have hx:dL s c=(s.1++[ix (fun y=>decide (c=y)) s.2],s.2):=by rw[dL,if_neg (by rw[hli];omega),hli]
   simp[go_sem];iterate 2 refine ai ?_
   refine nx (i+1,(s.1++[ix (fun y=>decide (c=y)) s.2],s.2)) ⟨(by omega),(by rw[hm,hx]),(by simp;omega),(h4)⟩
 ·simp at a;rw[aO a]at h2;simp[go_sem];grind[canon]
def sqz (n i:Nat):List (List Int):=List.replicate i (List.replicate n 0)++List.replicate (n-i) []
theorem aBO {n i:Nat}(h:i<n):(sqz n i)[i]?=some []:=by
 obtain⟨k,rfl⟩:∃k,n=i+(k+1):=⟨n-i-1,by omega⟩;rw[sqz,List.getElem?_append_right (by simp),show i+(k+1)-i=k+1 by omega];simp
theorem axU {n i:Nat}(h:i<n):(sqz n i).set i (List.replicate n 0)=sqz n (i+1):=by
 obtain⟨k,rfl⟩:∃k,n=i+(k+1):=⟨n-i-1,by omega⟩;rw[sqz,sqz,show i+(k+1)-i=k+1 by omega,show i+(k+1)-(i+1)=k by omega,List.set_append_right _ _ (by simp),List.replicate_succ' (n:=i),List.replicate_succ (n:=k)];simp
theorem kX (n:Nat)(hn:n<=1048576):Fk 167 [dI n] (.own (eB (List.replicate n (List.replicate n 0)))):=by
 refine fE good [] func167 ntmps167 fun w0 ow0=> ?_;have hz:(sqz n 0).map aD=List.replicate n (D.sl (some 3) []):=by simp[sqz]
 simp[go_sem];refine ai ?_;refine wl good (fun(i:Nat)=>[(0,.val (dI n)),(3,.own (eB (sqz n i))),(8,.val (dI n)),(9,.val (dI i))]) (fun(i:Nat)=>n-i) (fun(i:Nat)=>(i<=n)) (0) (by omega) ?_ (h0:=by simp[go_sem,hz]);rintro i h1;simp[go_sem];refine gw (fun a=> ?_) (fun a=> ?_)
 ·have hat:=aBO a;have hset:=axU a;have hset2:((sqz n i).map aD).set i (D.sl (some 3) (List.replicate n (dI 0)))=(sqz n (i+1)).map aD:=by rw[←hset,List.map_set];simp[aD]
  simp[go_sem,hat,hset2];iterate 2 refine ai ?_
  refine nx (i+1) (by omega)
 ·simp at a;obtain rfl:i=n:=by omega
  have hfin:sqz i i=List.replicate i (List.replicate i 0):=by simp[sqz]
  simp[go_sem,hfin]
theorem bV (m:List (List Int))(hm:m.length<=1048576)(hr:∀r∈m,r.length<=1048576):Fk 212 [aL m] (.val (dB (aI m))):=by
 refine fE good [] func212 ntmps212 fun w0 ow0=> ?_;rw[Q0];simp[go_sem];refine ck (aG m.length 1 8) ?_;simp[go_sem];refine gw (fun b=> ?_) (fun b=> ?_)
 ·simp at b;simp[go_sem];omega
 ·simp at b;simp[go_sem];refine wl good (fun(i:Nat)=>[(0,.val (aL m)),(11,.val (aL m)),(12,.val (dI m.length)),(13,.val (dI i))]) (fun(i:Nat)=>m.length-i) (fun(i:Nat)=>(i<=m.length)/\((List.range i).all (vE m)=true)) (0) ⟨(by omega),rfl⟩ ?_;rintro i ⟨h1,h2⟩;simp[go_sem];refine gw (fun a=> ?_) (fun a=> ?_)
  ·obtain⟨r,hri⟩:=aC (l:=m) (i:=i) (by omega);have hrl:=hr r (List.mem_of_getElem? hri);have hgr:=rQ hri;simp[go_sem,hri];refine gv (fun e=> ?_) (fun e=> ?_)
   ·have e':=e;have hn:=gZ a (P:=(vE m)) (by unfold vE;rw[hgr];simp;omega);simp[go_sem,e,hn]
   ·have e':=e;obtain⟨d,hd⟩:=aC (l:=r) (i:=i) (by omega);have hdd:=H8 hri hd;simp[go_sem,e,hd];refine gw (fun d0=> ?_) (fun d0=> ?_)
    ·have hn:=gZ a (P:=(vE m)) (by unfold vE;rw[hdd];simp[d0]);simp[go_sem,hn]
    ·have hmin:min i r.length=i:=by omega
     simp[go_sem,hmin,d0];refine ai ?_;refine wl good (fun(k:Nat)=>[(0,.val (aL m)),(3,.val (dI i)),(11,.val (aL m)),(12,.val (dI m.length)),(13,.val (dI i)),(32,.val (.sl none ((r.map dI).take i))),(33,.val (dI i)),(34,.val (dI k))]) (fun(k:Nat)=>i-k) (fun(k:Nat)=>(k<=i)/\((List.range k).all (PO m i)=true)) (0) ⟨(by omega),rfl⟩ ?_;rintro k ⟨h1k,h2k⟩;simp[go_sem];refine gw (fun ak=> ?_) (fun ak=> ?_)
     ·obtain⟨w,hw⟩:=aC (l:=r) (i:=k) (by omega);have hww:=H8 hri hw;have hw2:(List.take i (List.map dI r))[k]?=some (dI w):=by rw[List.getElem?_take,if_pos (by omega),List.getElem?_map,hw];rfl
      simp[go_sem,hw2];refine ck (aG w (-1000) 1000) ?_;simp[go_sem];refine gv (fun f=> ?_) (fun f=> ?_)
      ·have f':=f;simp at f';have hn:=gZ a (P:=vE m) (ad2 ak (by unfold PO;rw[hww];simp;omega));simp[go_sem,f,hn]
      ·have f':=f;simp at f';obtain⟨q,hq⟩:=aC (l:=m) (i:=k) (by omega);have hql:q.length=m.length:=by have:=List.all_eq_true.1 h2 k (List.mem_range.2 (by omega));simp only[vE,Bool.and_eq_true,decide_eq_true_eq]at this;rw[←rQ hq];exact this.1.1
       obtain⟨z,hz⟩:=aC (l:=q) (i:=i) (by omega);have hzz:=H8 hq hz;simp[go_sem,f,hq,hz];refine gw (fun g=> ?_) (fun g=> ?_)
       ·have hn:=gZ a (P:=vE m) (ad2 ak (by unfold PO;rw[hww,hzz];simp[g]));simp[go_sem,hn]
       ·simp[go_sem];refine ai ?_;refine nx (k+1) ⟨(by omega),(nD h2k (by unfold PO;rw[hww,hzz];simp[g];omega))⟩
     ·simp at ak;have hf:=BC (n:=i) h2k (by omega) (by omega);simp[go_sem];refine ai ?_;refine nx (i+1) ⟨(by omega),(nD h2 (amJ (by rw[hgr];omega) (by rw[hdd];exact d0) hf))⟩
  ·simp at a;have hf:=BC (n:=m.length) h2 (by omega) (by omega);simp[go_sem,hf];refine ai ?_;omega
theorem acM {α:Type}(p:α->Bool)(l:List α):(l.any fun c=> !p c)= !(l.all p):=by rw[List.not_all_eq_any_not]
theorem XJ (l:List Con)(p:Con->Bool)(g:FuncId)(b:Nat)(d:D)(F:d.fz=d)(E:Dv.Enters prog g)(U:T (1000000+g)=⟨.no,0,.any 0⟩)(G:∀c∈l,bR prog g [aeQ c,.bx false d] (fun r=>r= .val (dB (p c))))(hl:l.length<=1048576):rT prog 314 [bG l,.one (.func (.func g) #[] #[.pointer (some ⟨b,0,none⟩)])] [(b,d)] (fun res'=>res'= .val (dI (ix p l))):=by
 refine fB good [] func314 ntmps314 fun w0 ow0=> ?_;simp[go_sem];refine wl good (fun(i:Nat)=>[(0,.val (bG l)),(1,.val (.one (.func (.func g) #[] #[.pointer (some ⟨b,0,none⟩)]))),(7,.val (dI l.length)),(8,.val (dI i)),(1000000+2*b,.rp (d))]) (fun(i:Nat)=>(l).length-i) (fun(i:Nat)=>(i<=(l).length)/\(((l).take i).any p=false)) (0) ⟨(by omega),rfl⟩ ?_;rintro i ⟨h1,h2⟩;simp[go_sem];refine gw (fun a=> ?_) (fun a=> ?_)
 ·obtain⟨c,hc⟩:=aC (l:=l) (i:=i) (by omega);simp[go_sem,E,U,F,hc];refine ck ((G c (List.mem_of_getElem? hc))) ?_;simp[go_sem];refine gw (fun e=> ?_) (fun e=> ?_)
  ·have hn:=vH hc h2 (by simp[e]);simp[go_sem,hn]
  ·simp[go_sem];refine ai ?_;refine nx (i+1) ⟨(by omega),(eX hc h2 (by simp[e]))⟩
 ·simp at a;have hf:=j5 h2 a;have hx:=lX hf;simp[go_sem,hx]
theorem ZZ (l:List Con)(p:Con->Bool)(g:FuncId)(b:Nat)(d:D)(F:d.fz=d)(E:Dv.Enters prog g)(U:T (1000000+g)=⟨.no,0,.any 0⟩)(G:∀c∈l,bR prog g [aeQ c,.bx false d] (fun r=>r= .val (dB (p c))))(hl:l.length<=1048576):rT prog 267 [bG l,.one (.func (.func g) #[] #[.pointer (some ⟨b,0,none⟩)])] [(b,d)] (fun res'=>res'= .val (dB (l.any p))):=by
 refine fB good [] func267 ntmps267 fun w0 ow0=> ?_;have hq:decide (0<=ix p l)=l.any p:=by rw[Bool.eq_iff_iff,decide_eq_true_eq];exact eH
 simp[go_sem,F];refine ckB (XJ l p g b d F E U G hl) ?_;simp[go_sem,hq]
theorem zG (c:Con)(n:Int)(hn: -1048576<=n/\n<=1048576):Fk 268 [aeQ c,.bx false (dI n)] (.val (dB (!EI n c))):=by
 refine fE good [] func268 ntmps268 fun w0 ow0=> ?_;simp[go_sem];refine ck (iA c.a n) ?_;simp[go_sem];refine gv (fun e=> ?_) (fun e=> ?_)
 ·have e':=e;simp at e';simp[go_sem,e];grind[EI]
 ·have e':=e;simp at e';simp[go_sem,e];refine ck (iA c.b n) ?_;simp[go_sem];refine gv (fun f=> ?_) (fun f=> ?_)
  ·have f':=f;simp at f';simp[go_sem,f];grind[EI]
  ·have f':=f;simp at f';simp[go_sem,f];grind[EI]
theorem lZ (n:Int)(l:List Con)(hn: -1048576<=n/\n<=1048576:=by first|assumption|omega|(simp;omega)|grind)(hl:l.length<=1048576:=by first|assumption|omega|(simp;omega)|grind):Fk 214 [dI n,bG l] (.val (dB (aK n l))):=by
 refine fE good [] func214 ntmps214 fun w0 ow0=> ?_;simp[go_sem];refine ck (aG n 1 8) ?_;simp[go_sem];refine gv (fun e=> ?_) (fun e=> ?_)
 ·have e':=e;simp at e';simp[go_sem,e];grind[aK]
 ·have e':=e;simp at e';simp[go_sem,e];refine gw (fun f=> ?_) (fun f=> ?_)
  ·simp[go_sem];grind[aK]
  ·simp at f;simp[go_sem];intro b;refine ckB (ZZ l (fun c=> !EI n c) 268 b (dI n) rfl aCY aC3 (fun c _=>zG c n hn) hl) ?_;simp[go_sem];grind[aK]
theorem zZ (m:List (List Int))(i k:Nat)(v:Int):(m.map aD).set i (D.sl (some 3) (((gat m i).map dI).set k (dI v)))=(set2 m i k v).map aD:=by rw[set2,List.map_set];simp[aD,List.map_set]
theorem aq7 {m:List (List Int)}{i k j:Nat}(v:Int)(h:¬i=j):gat (set2 m i k v) j=gat m j:=by simp[gat,set2,List.getD_eq_getElem?_getD,h]
theorem akU {m:List (List Int)}{i k:Nat}{v w:Int}(h:¬i=k):((m.map aD).set i (D.sl (some 3) (((gat m i).map dI).set k (dI v)))).set k (D.sl (some 3) (((gat m k).map dI).set i (dI w)))=(set2 (set2 m i k v) k i w).map aD:=by
 rw[zZ,←aq7 v h,zZ]
theorem KJ (n:Nat)(l:List Con)(hn:1<=n/\n<=8:=by first|assumption|omega|(simp;omega)|grind)(hl:l.length<=1048576:=by first|assumption|omega|(simp;omega)|grind)(hc:∀c∈l,0<=c.a/\c.a<c.b/\c.b<(n:Int):=by first|assumption|omega|(simp;omega)|grind):Fk 272 [dI n,bG l] (.own (eB (GU n l))):=by
 refine fE good [] func272 ntmps272 fun w0 ow0=> ?_;have hz:List.replicate n (aD (List.replicate n 0))=(zeros n).map aD:=by simp[zeros]
 simp[go_sem];refine ck (kX n (by omega)) ?_;simp[go_sem,hz];refine wl good (fun(x':(Nat)×(List (List Int)))=>match x' with|(i,m)=>[(5,.own (eB m)),(10,.val (bG l)),(11,.val (dI l.length)),(12,.val (dI i))]) (fun(x':(Nat)×(List (List Int)))=>match x' with|(i,m)=>l.length-i) (fun(x':(Nat)×(List (List Int)))=>match x' with|(i,m)=>(i<=l.length)/\(m=(l.take i).foldl jU (zeros n))/\(sq2 n m)) ((0,zeros n)) ⟨(by omega),(by simp),(jD n)⟩ ?_ (h0:=by simp[go_sem,hz]);rintro⟨i,m⟩ ⟨h1,h2,h3⟩;simp[go_sem];refine gw (fun a=> ?_) (fun a=> ?_)
 ·obtain⟨c,hcc⟩:=aC (l:=l) (i:=i) (by omega);have hb:=hc c (List.mem_of_getElem? hcc);have hm:=bC jU (zeros n) hcc;rw[←h2]at hm;have ha0:0<=c.a:=hb.1;have hb0:0<=c.b:=by omega
  obtain⟨hA,hA2⟩:=kN h3 (i:=c.a.toNat) (by omega);obtain⟨hB,hB2⟩:=kN h3 (i:=c.b.toNat) (by omega);have hgA:=CR h3 (i:=c.a.toNat) (k:=c.b.toNat) (by omega) (by omega);have hgB:=CR h3 (i:=c.b.toNat) (k:=c.a.toNat) (by omega) (by omega);have hml:c.a.toNat<m.length:=by rw[h3.1];omega
  have hml2:c.b.toNat<m.length:=by rw[h3.1];omega
  have hne:¬c.a.toNat=c.b.toNat:=by omega
  simp[go_sem,hcc];refine gw (fun e=> ?_) (fun e=> ?_)
  ·have hset:=akU (m:=m) (v:=1) (w:=1) hne;have hmm:jU m c=set2 (set2 m c.a.toNat c.b.toNat 1) c.b.toNat c.a.toNat 1:=if_pos e;rw[←hmm]at hset;simp[go_sem];refine wdf good [(15,[32,5,18,21,22,25,28,29]),(17,[33,5,18,21,22,25,28,29,32])] [(5,.own (eB m)),(7,.own (.bx true (aeQ c))),(10,.val (bG l)),(11,.val (dI l.length)),(12,.val (dI i))] [] (by simp[go_sem]) ?_;simp[go_sem,ha0,hb0,hA,hB,hgA,hgB,hne,hset];refine ai ?_;refine nx (i+1,jU m c) ⟨(by omega),(hm.symm),(OM h3 hb)⟩
  ·have hmm:jU m c=m:=if_neg (by simp[e]);simp[go_sem];refine ai ?_;refine nx (i+1,m) ⟨(by omega),(by rw[hm,hmm]),(h3)⟩
 ·simp at a;rw[aO a]at h2;have hfin:GU n l=m:=h2.symm;simp[go_sem,hfin]
abbrev QB (b:Nat):Value:= .pointer (some ⟨b,0,none⟩)
abbrev aj0 (bc bo bm bv:Nat):D:= .one (.func (.func 271) #[] #[QB bc,QB bo,QB bm,QB bv])
structure aiX (a b c d:Nat):Prop where
 ab:¬a=b
 ac:¬a=c
 ad:¬a=d
 bc:¬b=c
 bd:¬b=d
 cd:¬c=d
 ba:¬b=a
 ca:¬c=a
 da:¬d=a
 cb:¬c=b
 db:¬d=b
 dc:¬d=c
def alM (n:Nat)(m:List (List Int))(c:Int)(bc bo bm bv f:Nat):Prop:=∀(i:Nat) (o:List Int),o.length=n->i<n->at1 o i<0->negs n o<=f->
 FnW prog 271 [dI i] [(bc,some (dI c)),(bo,none),(bm,some (aL m)),(bv,some (aj0 bc bo bm bv))] [(bc,dI c),(bm,aL m),(bv,aj0 bc bo bm bv)] [(bo,aD o)] (fun r ds'=>r= .tup []/\ds'=[aD (dfs n m c f i o)])
theorem dfs_keeps {n:Nat}{m:List (List Int)}{c:Int}(hc:0<=c):∀(f i:Nat) (o:List Int),o.length=n->(dfs n m c f i o).length=n/\∀k,0<=at1 o k->0<=at1 (dfs n m c f i o) k
 |0,i,o,h=>⟨h,fun k hk=>hk⟩
 |f+1,i,o,h=>by
  rw[dfs];refine loopN_inv (fun _ (p:List Int)=>p.length=n/\∀k,0<=at1 o k->0<=at1 p k) ⟨by simp[h],fun k hk=> ?_⟩ fun k p _ ⟨h1,h2⟩=> ?_
  ·by_cases hi:i<o.length
   ·rw[pQ k hi];split<;>omega
   ·rw[List.set_eq_of_length_le (by omega)];exact hk
  ·split
   ·have:=dfs_keeps (m:=m) hc f k p h1;exact⟨this.1,fun k hk=>this.2 k (h2 k hk)⟩
   ·exact⟨h1,h2⟩
def vstep (n:Nat)(m:List (List Int))(c:Int)(f i k:Nat)(o:List Int):List Int:=if 0<at2 m i k/\at1 o k<0 then dfs n m c f k o else o
theorem agT {n:Nat}{m:List (List Int)}{c:Int}(hc:0<=c){f i k:Nat}{p:List Int}(h:p.length=n):(vstep n m c f i k p).length=n/\negs n (vstep n m c f i k p)<=negs n p:=by
 unfold vstep;split
 ·have:=dfs_keeps (m:=m) hc f k p h;exact⟨this.1,aaA fun k _ hk=>this.2 k hk⟩
 ·exact⟨h,Nat.le_refl _⟩
theorem apG (n:Nat)(m:List (List Int))(c:Int)(f i:Nat)(o:List Int):dfs n m c (f+1) i o=loopN n (o.set i c) (vstep n m c f i):=rfl
theorem auW (n:Nat)(m:List (List Int))(c:Int)(bc bo bm bv f:Nat)(hA:aiX bc bo bm bv)(hm:aI m=true)(hn:m.length=n)(hc:0<=c/\c<=1048576)(IH:alM n m c bc bo bm bv f)(i:Nat)(o:List Int)(hl:o.length=n)(hi:i<n)(h0:at1 o i<0)(hf:negs n o<=f+1):FnW prog 271 [dI i] [(bc,some (dI c)),(bo,none),(bm,some (aL m)),(bv,some (aj0 bc bo bm bv))] [(bc,dI c),(bm,aL m),(bv,aj0 bc bo bm bv)] [(bo,aD o)] (fun r ds'=>r= .tup []/\ds'=[aD (dfs n m c (f+1) i o)]):=by
 refine fW good [] func271 ntmps271 fun w0 ow0=> ?_;obtain⟨a1,a2,a3,a4,a5,a6,a7,a8,a9,a10,a11,a12⟩:=hA;have hn8:=aP hm;obtain⟨r,hr⟩:=aC (l:=m) (i:=i) (by omega);have hoi:=aF (l:=o) (i:=i) (by omega);have hr2:=(sP hm (show i<m.length by omega));have hrl:r.length=n:=by obtain⟨r',e1,e2⟩:=hr2;rw[hr]at e1;obtain rfl:=Option.some.inj e1;omega
 have hng:=NH hl hi h0 hc.1;simp[go_sem,hr,hoi];refine wl good (fun(x':(Nat)×(List Int))=>match x' with|(k,p)=>[(0,.val (dI i)),(1,.rp (dI c)),(2,.rf (1000000+2*bo) [0]),(3,.rp (aL m)),(4,.rp (aj0 bc bo bm bv)),(15,.val (nInts r)),(16,.val (dI r.length)),(17,.val (dI k)),(1000000+2*bc,.rp (dI c)),(1000000+2*bo,.own (.bx true (aD p))),(1000000+2*bm,.rp (aL m)),(1000000+2*bv,.rp (aj0 bc bo bm bv))]) (fun(x':(Nat)×(List Int))=>match x' with|(k,p)=>n-k) (fun(x':(Nat)×(List Int))=>match x' with|(k,p)=>(k<=n)/\(p=loopN k (o.set i c) (vstep n m c f i))/\(p.length=n)/\(negs n p<=f)) ((0,o.set i c)) ⟨(by omega),(rfl),(by simp[hl]),(by omega)⟩ ?_ (h0:=by simp[go_sem,a1,a2,a3,a4,a5,a6,a7,a8,a9,a10,a11,a12,hr,hoi]);rintro⟨k,p⟩ ⟨h1,h2,h3,h4⟩;simp[go_sem];refine gw (fun b=> ?_) (fun b=> ?_)
 ·obtain⟨w,hw⟩:=aC (l:=r) (i:=k) (by omega);have hww:=H8 hr hw;have hpk:=aF (l:=p) (i:=k) (by omega);have hs:=aA k (o.set i c) (vstep n m c f i);rw[←h2]at hs;have hv:=agT (n:=n) (m:=m) (c:=c) hc.1 (f:=f) (i:=i) (k:=k) h3;simp[go_sem,hw];refine gv (fun d=> ?_) (fun d=> ?_)
  ·have d':=d;simp[go_sem,a7,hpk,d];refine gw (fun e=> ?_) (fun e=> ?_)
   ·have hst:vstep n m c f i k p=dfs n m c f k p:=if_pos ⟨by rw[hww];exact d,e⟩;simp[go_sem];refine WB (IH k p h3 (by omega) e h4) rfl ?_;simp[go_sem,a7,a8,a9,a10,a11,a12];refine ai ?_;refine nx (k+1,dfs n m c f k p) ⟨(by omega),(by rw[hs,hst]),(by rw[←hst];exact hv.1),(by rw[←hst];omega)⟩ (h3:=by simp[go_sem,a1,a2,a3,a4,a5,a6,a7,a8,a9,a10,a11,a12,hr,hoi,hw,hpk,d])
   ·simp at e;have hst:vstep n m c f i k p=p:=if_neg (by omega);simp[go_sem];refine ai ?_;refine nx (k+1,p) ⟨(by omega),(by rw[hs,hst]),(h3),(h4)⟩ (h3:=by simp[go_sem,a1,a2,a3,a4,a5,a6,a7,a8,a9,a10,a11,a12,hr,hoi,hw,hpk,d])
  ·have d':=d;simp at d';have hst:vstep n m c f i k p=p:=if_neg (by omega);simp[go_sem,d];refine ai ?_;refine nx (k+1,p) ⟨(by omega),(by rw[hs,hst]),(h3),(h4)⟩ (h3:=by simp[go_sem,a1,a2,a3,a4,a5,a6,a7,a8,a9,a10,a11,a12,hr,hoi,hw,hpk,d])
 ·simp at b;obtain rfl:k=n:=by omega
  rw[←apG]at h2;simp[go_sem,a7,h2]
theorem aqO {n:Nat}{m:List (List Int)}{c:Int}{bc bo bm bv:Nat}(hA:aiX bc bo bm bv)(hm:aI m=true)(hn:m.length=n)(hc:0<=c/\c<=1048576):∀f,alM n m c bc bo bm bv f
 |0=>fun i o hl hi h0 hf=>by have:=NH hl hi h0 hc.1;omega
 |f+1=>fun i o hl hi h0 hf=>auW n m c bc bo bm bv f hA hm hn hc (aqO hA hm hn hc f) i o hl hi h0 hf
theorem nM {m:List (List Int)}(h:aI m=true):∀r∈m,r.length<=1048576:=fun r hr=>by
 have h8:=aP h;simp only[aI,Bool.and_eq_true,List.all_eq_true,decide_eq_true_eq]at h;have:=h.1.1 r hr;omega
def iY (n i:Nat):List Int:=List.replicate i (-1)++List.replicate (n-i) 0
theorem aAH {n i:Nat}(h:i<n):(iY n i)[i]?=some 0:=by
 rw[iY,List.getElem?_append_right (by simp),List.length_replicate,Nat.sub_self,List.getElem?_replicate,if_pos (by omega)]
theorem ayO {n i:Nat}(h:i<n):(iY n i).set i (-1)=iY n (i+1):=by
 obtain⟨k,hk⟩:∃k,n-i=k+1:=⟨n-i-1,by omega⟩;rw[iY,iY,hk,show n-(i+1)=k by omega,List.set_append_right _ _ (by simp),List.replicate_succ' (n:=i),List.replicate_succ (n:=k)];simp
theorem jK (m:List (List Int))(hm:aI m=true:=by first|assumption|omega|(simp;omega)|grind):Fk 216 [aL m] (.own (aD (iR m))):=by
 refine fE good [] func216 ntmps216 fun w0 ow0=> ?_;have hn8:=aP hm;have hz:iY m.length 0=List.replicate m.length 0:=by simp[iY]
 have hz2:List.replicate m.length (dI 0)=(iY m.length 0).map dI:=by rw[hz];simp
 have hnl:∀i≤m.length,(iY m.length i).length=m.length:=fun i hi=>by simp[iY];omega
 have hnl0:=hnl 0 (by omega);simp[go_sem];refine ck (bV m (by omega) (nM hm)) ?_;simp[go_sem,hm,hz2,hnl0];refine ai ?_;refine wl good (fun(i:Nat)=>[(1,.own (.bx true (aL m))),(3,.own (.bx true (aD (iY m.length i)))),(15,.val (dI m.length)),(16,.val (dI i))]) (fun(i:Nat)=>m.length-i) (fun(i:Nat)=>(i<=m.length)) (0) (by omega) ?_;rintro i h1;simp[go_sem];refine gw (fun a=> ?_) (fun a=> ?_)
 ·have hat:=aAH a;have hset:((iY m.length i).map dI).set i (dI (-1))=(iY m.length (i+1)).map dI:=by rw[←ayO a,List.map_set]
  simp[go_sem,hat,hset];refine ai ?_;refine nx (i+1) (by omega)
 ·simp at a;simp[go_sem];refine aj7 (jG (dI 0) (by simp[go_sem]) fun bc nc=> ?_);refine jG (aD (iY m.length i)) (by simp[go_sem]) fun bo no=> ?_;have d1:=jA.ne no (b':=bc) (o:=true) (d:=dI 0) (by simp[go_sem]);have e1:=d1.symm;refine jG (aL m) (by simp[go_sem]) fun bm nm=> ?_;have d2:=jA.ne nm (b':=bc) (o:=true) (d:=dI 0) (by simp[go_sem,e1]);have d3:=jA.ne nm (b':=bo) (o:=true) (d:=aD (iY m.length i)) (by simp[go_sem]);have e2:=d2.symm;have e3:=d3.symm;refine jG (.one .nilFunc) (by simp[go_sem]) fun bv nv=> ?_;have d4:=jA.ne nv (b':=bc) (o:=true) (d:=dI 0) (by simp[go_sem,e1,e2]);have d5:=jA.ne nv (b':=bo) (o:=true) (d:=aD (iY m.length i)) (by simp[go_sem,e3]);have d6:=jA.ne nv (b':=bm) (o:=true) (d:=aL m) (by simp[go_sem]);have e4:=d4.symm;have e5:=d5.symm;have e6:=d6.symm;refine P9 ?_;simp[go_sem,e6];clear nc no nm nv;obtain rfl:i=m.length:=by omega
  have hA:aiX bc bo bm bv:=⟨e1,e2,e4,e3,e5,e6,d1,d2,d4,d3,d5,d6⟩;have hng:iY m.length m.length=List.replicate m.length (-1):=by simp[iY]
  simp[go_sem,hng];refine wl good (fun(x':(Nat)×(List Int)×(Int))=>match x' with|(i,o,c)=>[(1,.rf (1000000+2*bm) [0]),(3,.rf (1000000+2*bo) [0]),(5,.rf (1000000+2*bc) [0]),(6,.rf (1000000+2*bv) [0]),(25,.val (dI m.length)),(26,.val (dI i)),(1000000+2*bc,.own (.bx true (dI c))),(1000000+2*bo,.own (.bx true (aD o))),(1000000+2*bm,.own (.bx true (aL m))),(1000000+2*bv,.own (.bx true (aj0 bc bo bm bv)))]) (fun(x':(Nat)×(List Int)×(Int))=>match x' with|(i,o,c)=>m.length-i) (fun(x':(Nat)×(List Int)×(Int))=>match x' with|(i,o,c)=>(i<=m.length)/\((o,c)=loopN i (List.replicate m.length (-1),0) (CX m.length m))/\(o.length=m.length)/\(0<=c/\c<=i)) ((0,List.replicate m.length (-1),0)) ⟨(by omega),(rfl),(by simp),(by omega)⟩ ?_ (h0:=by simp[go_sem,hm,hz2,hnl0,d1,e1,d2,e2,d3,e3,d4,e4,d5,e5,d6,e6,hng]);rintro⟨i,o,c⟩ ⟨h2,h3,h4,h5⟩;simp[go_sem];refine gw (fun b=> ?_) (fun b=> ?_)
  ·have hoi:=aF (l:=o) (i:=i) (by omega);have hs:=aA i (List.replicate m.length (-1),(0:Int)) (CX m.length m);rw[←h3]at hs;simp[go_sem,d1,hoi];refine gw (fun f=> ?_) (fun f=> ?_)
   ·have hst:CX m.length m i (o,c)=(dfs m.length m c m.length i o,c+1):=if_pos f;simp[go_sem,d4,d5,d6];refine WB (aqO (c:=c) hA hm rfl (by omega) m.length i o h4 b f (akI _ _)) rfl ?_;simp[go_sem,d1,e1,d2,d3,d4,d5,d6];iterate 2 refine ai ?_
    refine nx (i+1,dfs m.length m c m.length i o,c+1) ⟨(by show i+1<=m.length;omega),(by rw[hs,hst]),((dfs_keeps (c:=c) (by omega) _ _ _ h4).1),(by show 0<=c+1/\c+1<=((i+1:Nat):Int);omega)⟩ (h3:=by simp[go_sem,hm,hz2,hnl0,d1,e1,d2,e2,d3,e3,d4,e4,d5,e5,d6,e6,hng,hoi])
   ·simp at f;have hst:CX m.length m i (o,c)=(o,c):=if_neg (show¬at1 o i<0 by omega);simp[go_sem];refine ai ?_;refine nx (i+1,o,c) ⟨(by omega),(by rw[hs,hst]),(h4),(by omega)⟩ (h3:=by simp[go_sem,hm,hz2,hnl0,d1,e1,d2,e2,d3,e3,d4,e4,d5,e5,d6,e6,hng,hoi])
  ·simp at b;obtain rfl:i=m.length:=by omega
   have hfin:iR m=o:=by rw[←ayG hm];exact congrArg Prod.fst h3.symm
   simp[go_sem,d1,hfin];omega
theorem oU (n:Nat)(l:List Con)(hn:n<=1048576:=by first|assumption|omega|(simp;omega)|grind)(hl:l.length<=1048576:=by first|assumption|omega|(simp;omega)|grind)(hc:aK n l=true:=by first|assumption|omega|(simp;omega)|grind):Fk 217 [dI n,bG l] (.own (aD (aV n l))):=by
 refine fE good [] func217 ntmps217 fun w0 ow0=> ?_;simp[go_sem];refine ck (lZ n l) ?_;have hc2:=fO hc;have hm:=SB hc;have hx:=ai7 hc;simp[go_sem,hc];refine ck (KJ n l) ?_;simp[go_sem];refine ck (jK _) ?_;simp[go_sem];grind
theorem OI (l:List Int):(nInts l).fz=nInts l:=by simp[D.fz,D.EZ]
theorem BZ (c:Con)(p:List Int)(h0:0<=c.a/\c.a<c.b)(h1:c.b<(p.length:Int)):Fk 315 [aeQ c,.bx false (nInts p)] (.val (dB (wY p c))):=by
 refine fE good [] func315 ntmps315 fun w0 ow0=> ?_;have ha:0<=c.a:=h0.1;have hb:0<=c.b:=by omega
 have q1:=aF (l:=p) (i:=c.a.toNat) (by omega);have q2:=aF (l:=p) (i:=c.b.toNat) (by omega);simp[go_sem];refine wdt good 16 ?_;simp[go_sem];refine gv (fun g1=> ?_) (fun g1=> ?_)
 ·have g1':=g1;simp at g1';simp[go_sem,ha,hb,q1,q2,g1];grind[wY]
 ·have g1':=g1;simp at g1';simp[go_sem,g1];grind[wY]
theorem FO (n:Nat)(l:List Con)(hn:n<=1048576:=by first|assumption|omega|(simp;omega)|grind)(hl:l.length<=1048576:=by first|assumption|omega|(simp;omega)|grind)(hc:aK n l=true:=by first|assumption|omega|(simp;omega)|grind):Fk 266 [dI n,bG l] (.val (dI (nJ n l))):=by
 refine fE good [] func266 ntmps266 fun w0 ow0=> ?_;have hc2:=fO hc;have hml:(aV n l).length=n:=(iB hc).1;have hne:¬aV n l=[]:=by intro e;rw[e]at hml;simp at hml;omega
 have hf:nJ n l=ix (wY (aV n l)) l:=if_pos hc;simp[go_sem];refine ck (oU n l) ?_;simp[go_sem,hne,hf];intro b;refine ckB (XJ l (wY (aV n l)) 315 b (nInts (aV n l)) (OI _) aCQ aB9 (fun c hm=>BZ c (aV n l) (by have:=hc2.2.2.2 c hm;omega) (by have:=hc2.2.2.2 c hm;omega)) hl) ?_;simp[go_sem,hf]
theorem HV (n:Nat)(l:List Con)(hn:n<=1048576:=by first|assumption|omega|(simp;omega)|grind)(hl:l.length<=1048576:=by first|assumption|omega|(simp;omega)|grind):Fk 213 [dI n,bG l] (.val (dB (aX n l))):=by
 refine fE good [] func213 ntmps213 fun w0 ow0=> ?_;simp[go_sem];refine ck (lZ n l) ?_;simp[go_sem];refine gv (fun e=> ?_) (fun e=> ?_)
 ·have e':=e;simp[go_sem,e];refine ck (FO n l) ?_;simp[go_sem];grind[aX]
 ·have e':=e;simp[go_sem,e];grind[aX]
theorem MF (m:List (List Int))(l:List Con)(hm:m.length<=1048576)(hr:∀r∈m,r.length<=1048576)(hl:l.length<=1048576):Fk 157 [aL m,bG l] (.val (dB (aI m&&aX m.length l))):=by
 refine fE good [] func157 ntmps157 fun w0 ow0=> ?_;simp[go_sem];refine ck (bV m hm hr) ?_;simp[go_sem];refine gv (fun e=> ?_) (fun e=> ?_)
 ·have e':=e;simp[go_sem,e];refine ck (HV m.length l) ?_;simp[go_sem,e]
 ·have e':=e;simp[go_sem,e]
end Go.Proofs.YtnglphdfhegnmaaGreatDoor
end
