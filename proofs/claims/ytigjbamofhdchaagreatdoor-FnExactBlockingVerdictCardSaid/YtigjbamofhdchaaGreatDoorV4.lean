/- Lemmas and walks that the law leans on, part 4. No condition. -/
import Derived.Shelf.Strings.Builder1
import Derived.Shelf.Strings.Builder2
import Derived.Shelf.Small.Utf8
import Derived.Shelf.Small.Bits
import Derived.Shelf.Small.Strs
import Derived.Shelf.Strings.BuilderF
import Derived.Shelf.Strings.BuilderK
import Derived.Shelf.Utf8.RuneCount
import Derived.Shelf.Strings.Builder2Cap
import Derived.Shelf.Strconv.Atoi
import Derived.Shelf.Strconv.Itoa0
import Derived.Shelf.Strconv.Itoa1
import Derived.Shelf.LaysM
import Derived.Shelf.Strconv.Itoa2
import Derived.Shelf.Strconv.AtoiErrFast
import Derived.Shelf.Strconv.ParseIntEmpty
import Derived.Shelf.Strconv.AtoiFail
import Derived.Shelf.Strconv.Clone
import Derived.Shelf.Strconv.SyntaxError
import Derived.Shelf.LaysC
import Derived.Shelf.Strconv.ToError
import Derived.Shelf.Strconv.Lower
import Derived.Shelf.Strconv.ParseUint10
import Derived.Shelf.Strconv.ParseUint10Empty
import Derived.Shelf.Strconv.ParseUint10Any
import Derived.Shelf.Strconv.ParseInt10
import Derived.Shelf.Strconv.AtoiLong
import Derived.Shelf.Strconv.AtoiInnerAll
import Derived.Shelf.Strconv.RangeError
import Derived.Shelf.Strconv.ToErrorRange
import Derived.Shelf.Strconv.AtoiAll
import Derived.Shelf.Strconv.ErrVarAll
import Derived.Shelf.Strings.Search1
import Derived.Shelf.Strings.Search2
import Derived.Shelf.Strings.Search3
import Derived.Shelf.Strings.Count
import Derived.Shelf.Strings.Shaped
import Derived.Shelf.Sort.Plain
import Derived.Shelf.Strings.Prefix
import Derived.Shelf.Strings.Split
import Derived.Shelf.Strings.Replace
import Derived.Shelf.Strings.SplitShaped
import Derived.Shelf.Unicode.Decode
import Derived.Shelf.Strings.Runes
import Derived.Shelf.Strings.RuneCount
import Derived.Shelf.Strings.IndexAny
import Derived.Shelf.Strings.AsciiSet
import Derived.Shelf.Strings.IndexAnyAll
import Derived.Shelf.Bits.Mul64
import Derived.Shelf.Unicode.DecodeSlow
import Derived.Shelf.Unicode.DecodeAny
import Derived.Shelf.Strings.FieldsFuncAny
import Derived.Shelf.Strings.FieldsFuncGrows
import Derived.Shelf.Strings.BuilderCap
import Derived.Shelf.Slices.Clone
import Derived.Shelf.Slices.CompactS
import Derived.Shelf.Slices.SearchI
import Derived.Shelf.Slices.Cells
import Derived.Shelf.SlicesE.Clone
import Derived.Test.YtigjbamofhdchaaGreatDoorV3
set_option linter.unusedVariables false
set_option linter.defProp false
set_option linter.unusedSimpArgs false
set_option linter.unusedSectionVars false
set_option maxRecDepth 10000
set_option maxHeartbeats 1000000
def Go.cSz {α:Type}{a b:α}(h:a=b:=by kernel_rfl):some a=some b:=congrArg some h
section
namespace Go.Er
open Go.RowKit
def KF (B:Nat)(w w':World):Prop:=w.heap.size<=w'.heap.size/\∀k,B<=k->k<w.heap.size->w'.heap[k]?=w.heap[k]?
variable {B:Nat}{w':World}
def KF.ayE {w:World}(h:Ext w w'):KF B w w':=⟨h.size,fun k _ hk=>h.block k hk⟩
def KF.trans {a b c:World}(h:KF B a b)(k:KF B b c):KF B a c:=
 ⟨k_Nat_le_trans h.1 k.1,fun i hi hk=>(k.2 i hi (dW hk h.1)).trans (h.2 i hi hk)⟩
def KF.refl (B:Nat)(w:World):KF B w w:=⟨k_Nat_le_refl _,fun _ _ _=>rfl⟩
variable {b:Nat}
def KF.cell {w:World}(h:KF B w w'){o:Nat}{v:Value}(hb:B<=b)(hc:w.cell? ⟨b,o,none⟩=some v):w'.cell? ⟨b,o,none⟩=some v:=
 (World.cell?_of_block (a:=⟨b,o,none⟩) (h.2 b hb (lt_of_cell hc))).trans hc
def KF.setCell (w:World)(hb:b<B)(o:Nat)(u:Value):KF B w (w.setCell ⟨b,o,none⟩ u):=
 ⟨by simp,fun k hk _=>heap_setCell_other w ⟨b,o,none⟩ k u (by simp;omega)⟩
abbrev Rel (α:Type):=Nat->World->List Value->α->Prop
structure YZ {α:Type}(R:Rel α):Prop where
 keep:∀{B w w' vs x},KF B w w'->R B w vs x->R B w' vs x
 mono:∀{B B' w vs x},B'<=B->R B w vs x->R B' w vs x
variable {α:Type}
def YZ.ext {R:Rel α}(g:YZ R){w:World}{vs:List Value}{x:α}(h:R B w vs x)(hE:Ext w w'):R B w' vs x:=g.keep (KF.ayE hE) h
def ae4 (k:Nat)(R:Rel α)(B:Nat)(w:World)(a:Option Addr)(l:List α):Prop:=
 l.length<=maxLen/\∀i,(h:i<l.length)->∃b o vs,a=some ⟨b,o,none⟩/\B<=b/\vs.length=k/\(∀j,(hj:j<vs.length)->w.cell? ⟨b,o+i*k+j,none⟩=some vs[j])/\R B w vs l[i]
variable {k:Nat}{a:Option Addr}{l:List α}
def ae4.keep {R:Rel α}(g:YZ R){w:World}(h:ae4 k R B w a l)(hk:KF B w w'):ae4 k R B w' a l:=by
 refine⟨h.1,fun i hi=> ?_⟩;obtain⟨b,o,vs,h1,h2,h3,h4,h5⟩:=h.2 i hi;exact⟨b,o,vs,h1,h2,h3,fun j hj=>hk.cell h2 (h4 j hj),g.keep hk h5⟩
def ae4.mono {R:Rel α}(g:YZ R){B':Nat}{w:World}(h:ae4 k R B w a l)(hB:B'<=B):ae4 k R B' w a l:=by
 refine⟨h.1,fun i hi=> ?_⟩;obtain⟨b,o,vs,h1,h2,h3,h4,h5⟩:=h.2 i hi;exact⟨b,o,vs,h1,k_Nat_le_trans hB h2,h3,h4,g.mono hB h5⟩
def ae4.ext {R:Rel α}(g:YZ R){w:World}(h:ae4 k R B w a l)(hE:Ext w w'):ae4 k R B w' a l:=h.keep g (KF.ayE hE)
def setCells (w:World)(N:Nat):Nat->List Value->World
 |_,[]=>w
 |o,u::us=>setCells (w.setCell ⟨N,o,none⟩ u) N (o+1) us
def setMany (arr:Array Value):Nat->List Value->Array Value
 |_,[]=>arr
 |o,u::us=>setMany (arr.setIfInBounds o u) (o+1) us
def XE:∀(us:List Value) (arr:Array Value) (o:Nat),(setMany arr o us).size=arr.size
 |[],_,_=>rfl
 |u::us,arr,o=>by rw[setMany,XE us];simp
def O6:∀(us:List Value) (arr:Array Value) (o m:Nat),o+us.length<=arr.size->(setMany arr o us)[m]?=if o<=m/\m<o+us.length then us[m-o]? else arr[m]?
 |[],arr,o,m,_=>by
  have:¬(o<=m/\m<o+([]:List Value).length):=by simp
  rw[if_neg this];rfl
 |u::us,arr,o,m,h=>by
  simp only[aR]at h;rw[setMany,O6 us _ (o+1) m (by simp;omega)];by_cases h1:m=o
  ·subst h1;have h2:¬(m+1<=m/\m<m+1+us.length):=by omega
   have h3:m<=m/\m<m+(u::us).length:=by simp
   rw[if_neg h2,if_pos h3];have h4:m<arr.size:=by omega
   simp[h4]
  ·by_cases h2:o+1<=m/\m<o+1+us.length
   ·have h3:o<=m/\m<o+(u::us).length:=by simp;omega
    rw[if_pos h2,if_pos h3];have h4:m-o=(m-(o+1))+1:=by omega
    rw[h4,qN]
   ·have h3:¬(o<=m/\m<o+(u::us).length):=by simp;omega
    rw[if_neg h2,if_neg h3];rw[Array.getElem?_setIfInBounds];have h4:¬o=m:=fun h=>h1 h.symm;rw[if_neg h4]
variable {N:Nat}{e:TypeId}
def Box.setCells :∀(us:List Value) {w:World}{arr:Array Value}(o:Nat),Box w N e arr->Box (setCells w N o us) N e (setMany arr o us)
 |[],_,_,_,h=>h
 |u::us,_,_,o,h=>Box.setCells us (o+1) (h.set o u)
def RF (hB:N<B):∀(us:List Value) (w:World) (o:Nat),KF B w (setCells w N o us)
 |[],_,_=>⟨k_Nat_le_refl _,fun _ _ _=>rfl⟩
 |u::us,w,o=>(KF.setCell w hB o u).trans (RF hB us _ (o+1))
def xH (k:Nat)(R:Rel α)(N:Nat)(e:TypeId)(n:Nat)(w:World)(l:List α)(i:Nat):Prop:=
 ∃arr:Array Value,Box w N e arr/\arr.size=n*k/\∀j,(hj:j<l.length)->j<i->∃vs:List Value,vs.length=k/\(∀t,(ht:t<vs.length)->arr[j*k+t]?=some vs[t])/\R (N+1) w vs l[j]
variable {n i:Nat}
def xH.cell {R:Rel α}{w:World}(h:xH k R N e n w l i){m:Nat}(hm:m<n*k):∃y,w.cell? ⟨N,m,none⟩=some y:=by
 obtain⟨arr,h1,h2,_⟩:=h;have h3:m<arr.size:=by omega
 exact⟨arr[m],by rw[h1.cell m];simp[h3]⟩
def xH.free {R:Rel α}{w:World}(h:xH k R N e n w l i)(m:Nat):w.frozen? ⟨N,m,none⟩=false:=by
 obtain⟨arr,h1,_⟩:=h;exact h1.free m
def xH.lt {R:Rel α}{w:World}(h:xH k R N e n w l i):N<w.heap.size:=by
 obtain⟨arr,h1,_⟩:=h;exact h1.lt
def xH.ext {R:Rel α}(g:YZ R){w:World}(h:xH k R N e n w l i)(hE:Ext w w'):xH k R N e n w' l i:=by
 obtain⟨arr,h1,h2,h3⟩:=h;refine⟨arr,h1.ext hE,h2,fun j hj hji=> ?_⟩;obtain⟨vs,h4,h5,h6⟩:=h3 j hj hji;exact⟨vs,h4,h5,g.ext h6 hE⟩
def xH.start {R:Rel α}{w:World}{xs:List Value}(h:w.ownsRow B e k (.slice (some ⟨N,0,none⟩) n n) n xs)(hn:l.length<=n):xH k R N e n w l 0:=by
 rcases h.2 with⟨h1,_⟩|⟨g,cap,cur,h1,_,h2,_,_,h3,_⟩
 ·cases h1
 ·cases h1;exact⟨cur,h2,h3,fun j _ hj=>absurd hj (by omega)⟩
def xH.step {α:Type}{k:Nat}{R:Rel α}(g:YZ R) {N:Nat}{e:TypeId}{n:Nat}{w:World}{l:List α}{i:Nat}(h:xH k R N e n w l i) (hi:i<l.length) (hn:l.length<=n)
  {us:List Value}(hu:us.length=k) (hR:R (N+1) w us l[i]):xH k R N e n (setCells w N (i*k) us) l (i+1):=by
 obtain⟨arr,h1,h2,h3⟩:=h;have hb:(i+1)*k<=n*k:=aU k (by omega);have hb2:i*k+us.length<=arr.size:=by rw[h2,hu];rw[k_Nat_add_mul]at hb;omega
 have hkp:=RF (N:=N) (B:=N+1) (by omega) us w (i*k);refine⟨_,h1.setCells us (i*k),by rw[XE];exact h2,fun j hj hji=> ?_⟩;by_cases hji2:j=i
 ·subst hji2;refine⟨us,hu,fun t ht=> ?_,g.keep hkp hR⟩;rw[O6 us arr _ _ hb2,if_pos ⟨by omega,by omega⟩];have:j*k+t-j*k=t:=by omega
  rw[this];simp[ht]
 ·obtain⟨vs,h4,h5,h6⟩:=h3 j hj (by omega);refine⟨vs,h4,fun t ht=> ?_,g.keep hkp h6⟩;have hlt:(j+1)*k<=i*k:=aU k (by omega);rw[k_Nat_add_mul]at hlt;rw[O6 us arr _ _ hb2,if_neg (by omega)];exact h5 t ht
def xH.done {R:Rel α}(g:YZ R){w:World}(h:xH k R N e n w l l.length)(hl:l.length<=maxLen):ae4 k R N w (some ⟨N,0,none⟩) l:=by
 obtain⟨arr,h1,h2,h3⟩:=h;refine⟨hl,fun i hi=> ?_⟩;obtain⟨vs,h4,h5,h6⟩:=h3 i hi hi;refine⟨N,0,vs,rfl,k_Nat_le_refl _,h4,fun j hj=> ?_,g.mono (by omega) h6⟩;rw[h1.cell,bU];exact h5 j hj
def Box.keep {w:World}{t:TypeId}{vs:Array Value}(h:Box w b t vs)(hk:KF B w w')(hb:B<=b):Box w' b t vs:=by
 have hs:=h.lt;unfold Box at*
 rw[hk.2 b hb hs];exact h
end Go.Er
end
section
namespace Go.Dv
open Go.RowKit
variable [kW]
def putC:Nat->List (Nat×Option D)->St->St
 |k,(b,none)::cs,s=>(putC (k+1) cs s).put k (.rf (1000000+2*b) [0])
 |k,(_,some d)::cs,s=>(putC (k+1) cs s).put k (.rp d)
 |_,[],s=>s
def putR:List (Nat×D)->St->St
 |(b,d)::rd,s=>(putR rd s).put (1000000+2*b) (.rp d)
 |[],s=>s
def putG:List (Nat×D)->St->St
 |(b,d)::gs,s=>(putG gs s).put (1000000+2*b) (.own (.bx true d))
 |[],s=>s
def wSt (ds:List D)(cs:List (Nat×Option D))(rd gs:List (Nat×D)):St:=putG gs (putR rd (putC ds.length cs (argSt ds)))
def getG:List (Nat×D)->St->(List D->Prop)->Prop
 |[],_,K=>K []
 |(b,_)::gs,s,K=>match s (1000000+2*b)with
  | .own (.bx true d)=>getG gs s fun ds=>K (d::ds)
  |_=>False
def endW (T:TypeId->TyE)(rs:List ResultVar)(gs:List (Nat×D))(Q:S->List D->Prop):Exit->St->Prop
 | .normal,s=>retL T rs s fun ds s2=>getG gs s2 fun ds'=>Q (retS ds) ds'
 | .ret,s=>retL T rs s fun ds s2=>getG gs s2 fun ds'=>Q (retS ds) ds'
 |_,_=>False
def agH {s:St}:∀{gs:List (Nat×D)}{K:List D->Prop},getG gs s K->∃ds',K ds'/\ds'.length=gs.length/\∀(j:Nat) (g:Nat×D) (d':D),gs[j]?=some g->ds'[j]?=some d'->s (1000000+2*g.1)= .own (.bx true d')
 |[],K,h=>⟨[],h,rfl,fun j g d' hj=>by simp at hj⟩
 |(b,d0)::gs,K,h=>by
  unfold getG at h;split at h
  ·rename_i d hs;obtain⟨ds',h1,h2,h3⟩:=agH h;refine⟨d::ds',h1,by simp[h2],fun j g d' hj hj'=> ?_⟩;cases j with
   |zero=>simp at hj hj';subst hj;subst hj';exact hs
   |succ j=>exact h3 j g d' (by simpa using hj) (by simpa using hj')
  ·exact h.elim
def inG (gs:List (Nat×D))(lab:List Nat):Bool:=gs.any fun g=>lab.getLast?==some (1000000+2*g.1)
variable {gs:List (Nat×D)}
def axH {g:Nat×D}{q:List Nat}(hg:g∈gs):inG gs (q++[1000000+2*g.1])=true:=cK.2 ⟨g,hg,by simp⟩
def axG {lab:List Nat}(h:∀g∈gs,∀q,lab≠q++[1000000+2*g.1]):inG gs lab=false:=by
 rw[jR];intro hi;obtain⟨g,hg,he⟩:=cK.1 hi
 obtain⟨q,hq⟩:∃q,lab=q++[1000000+2*g.1]:=by
  have:lab.getLast?=some (1000000+2*g.1):=by simpa using he
  exact⟨lab.dropLast,by rw[oM]at this;obtain⟨ys,rfl⟩:=this;simp⟩
 exact h g hg q hq
def RH (gs:List (Nat×D))(ow:Own):Own:=fun b=>match ow b with
 |none=>none
 |some lab=>if inG gs lab=true then some lab else some (lab++[far0])
def M7 (w:World)(gs:List (Nat×D))(t:Nat)(ow ow1:Own):Own:=fun b=>
 if b<w.heap.size/\(match ow b with|none=>true|some lab=> !inG gs lab)=true then ow b else match ow1 b with
  |none=>none
  |some lab=>if inG gs lab=true then some lab else if lab.getLast?=some res0 then some (lab.dropLast++[t])else none
def LJ {P:Program}{w:World}{ow:Own}:∀{gs:List (Nat×D)}{s:St}{i:Nat},(∃g∈gs,i=1000000+2*g.1/\putG gs s i= .own (.bx true g.2))\/((∀g∈gs,i≠1000000+2*g.1)/\putG gs s i=s i)
 |[],s,i=> .inr ⟨fun g hg=>by simp at hg,rfl⟩
 |(b,d)::gs,s,i=>by
  by_cases hi:i=1000000+2*b
  ·exact .inl ⟨(b,d),by simp,hi,by simp[putG,St.put,hi]⟩
  ·simp only[putG,St.put,if_neg hi];rcases LJ (P:=P) (w:=w) (ow:=ow) (gs:=gs) (s:=s) (i:=i)with⟨g,h1,h2,h3⟩|⟨h1,h2⟩
   ·exact .inl ⟨g,by simp[h1],h2,h3⟩
   ·refine .inr ⟨fun g hg=> ?_,h2⟩;rcases aS.1 hg with rfl|hg
    ·exact hi
    ·exact h1 g hg
def TT:∀{rd:List (Nat×D)}{s:St}{i:Nat},(∃p∈rd,i=1000000+2*p.1/\putR rd s i= .rp p.2)\/putR rd s i=s i
 |[],s,i=> .inr rfl
 |(b,d)::rd,s,i=>by
  by_cases hi:i=1000000+2*b
  ·exact .inl ⟨(b,d),by simp,hi,by simp[putR,St.put,hi]⟩
  ·simp only[putR,St.put,if_neg hi];rcases TT (rd:=rd) (s:=s) (i:=i)with⟨g,h1,h2,h3⟩|h2
   ·exact .inl ⟨g,by simp[h1],h2,h3⟩
   ·exact .inr h2
def LH:∀{cs:List (Nat×Option D)}{k:Nat}{s:St}{i:Nat},(∃j c,cs[j]?=some c/\i=k+j/\putC k cs s i=(match c.2 with|none=> .rf (1000000+2*c.1) [0]|some d=> .rp d))\/putC k cs s i=s i
 |[],k,s,i=> .inr rfl
 |(b,none)::cs,k,s,i=>by
  by_cases hi:i=k
  ·exact .inl ⟨0,(b,none),rfl,hi,by simp[putC,St.put,hi]⟩
  ·simp only[putC,St.put,if_neg hi];rcases LH (cs:=cs) (k:=k+1) (s:=s) (i:=i)with⟨j,c,h1,h2,h3⟩|h2
   ·exact .inl ⟨j+1,c,by simpa using h1,by omega,h3⟩
   ·exact .inr h2
 |(b,some d)::cs,k,s,i=>by
  by_cases hi:i=k
  ·exact .inl ⟨0,(b,some d),rfl,hi,by simp[putC,St.put,hi]⟩
  ·simp only[putC,St.put,if_neg hi];rcases LH (cs:=cs) (k:=k+1) (s:=s) (i:=i)with⟨j,c,h1,h2,h3⟩|h2
   ·exact .inl ⟨j+1,c,by simpa using h1,by omega,h3⟩
   ·exact .inr h2
def aGX {P:Program}{T:TypeId->TyE}{f:FuncId}{fn:Func}{c:Code}{n:Nat}{rs:List ResultVar}{ds:List D}{cs:List (Nat×Option D)}{rd:List (Nat×D)}{Q:S->List D->Prop}(hG:∀t,Good P T t) (hf:P.funcs[f]?=some fn) (hb:fn.body=some c) (hn':fn.ntmps=n) (hn:n<=1000000) (hd:ds.length+cs.length<=n)
  (hr:fn.results=rs.toArray) (hcs:∀c∈cs,match c.2 with|none=>∃g∈gs,g.1=c.1|some d=>∃p∈rd,p=(c.1,d)) (h:∀w0 ow0,OkC P n w0 ow0 none c (wSt ds cs rd gs) (endW T rs gs Q)):FnW P f ds cs rd gs Q:=by
 subst hn';intro w ow vs t ht hL hnew hvs hargs hcap hrd hgs;refine calls_of_wp hf hb ?_
 have hav:∀i,i<ds.length+cs.length->aval {tmps:=vs++Array.replicate (fn.ntmps-vs.size) undef,defers:=[]} i=vs.getD i undef:=by
  intro i hi;unfold aval;rw[if_pos (by omega)];simp only[aF];rw[eU (by omega)]
 have havg:∀(a:Act) (b:Nat),aval a (1000000+2*b)= .pointer (some ⟨b,0,none⟩):=fun a b=>by
  unfold aval;rw[if_neg (by omega)];have:(1000000+2*b-1000000)/2=b:=by omega
  rw[this]
 have hlnone:∀b,ow b=none->RH gs ow b=none:=fun b hb=>by simp[RH,hb]
 have hlhit:∀g∈gs,∀b q,ow b=some (q++[1000000+2*g.1])->RH gs ow b=some (q++[1000000+2*g.1]):=fun g hg b q hb=>by simp only[RH,hb];rw[if_pos (axH hg)]
 have hq0:Quiet w ow w (RH gs ow):=fun b _ ho=>⟨rfl,hlnone b ho⟩
 have hrp:∀(b:Nat) (d:D),V P w ow (D.bx false d).fz [] (.pointer (some ⟨b,0,none⟩))->∀s a i,SV P w (RH gs ow) s a i (.rp d) (.pointer (some ⟨b,0,none⟩)):=by
  intro b d h1 s a i;have h2:=V.trf (l2:=[]) hq0 h1;simp only[V,D.fz,R]at h2;obtain⟨b',off,C,e,fz,cs,g1,g2,g3,_,g5,g6,g7⟩:=h2;simp only[lF,qI,aJ,and_true]at g1;obtain⟨rfl,rfl,_⟩:=Addr.mk.inj g1;exact⟨b,0,rfl,g3 trivial,C,e,fz,cs,g2,fun j hj=>g6 j (by rw[g5];exact hj),R.trf (fun b _ hb=>⟨rfl,hb⟩) g7⟩
 have hfit:Fits P fn.ntmps w (RH gs ow) (RH gs ow) (wSt ds cs rd gs) {tmps:=vs++Array.replicate (fn.ntmps-vs.size) undef,defers:=[]} w:=by
  refine⟨rfl,by simp;omega,hn,(hL.mono fun b o h1 h2=>⟨h1,hlnone b h2⟩),⟨rfl,rfl,rfl,k_Nat_le_refl _,fun _ _ _=>rfl⟩,fun _ _ h=>h,fun b hb=>hlnone b (hnew b hb),?_,fun _ _ _ h=>⟨rfl,h⟩,fun i=> ?_⟩
  ·have e0:argSt ds far0= .un:=by unfold argSt;rw[k_List_getElem__eq_none (by unfold far0;omega)]
   rcases LJ (P:=P) (w:=w) (ow:=ow) (gs:=gs) (s:=putR rd (putC ds.length cs (argSt ds))) (i:=far0)with⟨g,_,h2,_⟩|⟨_,h2⟩
   ·unfold far0 at h2;omega
   ·unfold wSt;rw[h2];rcases TT (rd:=rd) (s:=putC ds.length cs (argSt ds)) (i:=far0)with⟨g,_,h2,_⟩|h2
    ·unfold far0 at h2;omega
    ·rw[h2];rcases LH (cs:=cs) (k:=ds.length) (s:=argSt ds) (i:=far0)with⟨j,c,h1,h2,_⟩|h2
     ·have:=(aD.1 h1).1;unfold far0 at h2;omega
     ·rw[h2];exact e0
  ·rcases LJ (P:=P) (w:=w) (ow:=ow) (gs:=gs) (s:=putR rd (putC ds.length cs (argSt ds))) (i:=i)with⟨g,h1,rfl,h3⟩|⟨h1,h2⟩
   ·unfold wSt;rw[h3,havg];exact V.tr (fun b _=>⟨fun ho=>⟨rfl,hlnone b ho⟩,fun q hq=>⟨rfl,hlhit g h1 b q hq⟩⟩) (hgs g h1)
   ·have hw:wSt ds cs rd gs i=putR rd (putC ds.length cs (argSt ds)) i:=h2;rw[hw];rcases TT (rd:=rd) (s:=putC ds.length cs (argSt ds)) (i:=i)with⟨p,k1,rfl,k3⟩|k2
    ·rw[k3,havg];exact hrp _ _ (hrd p k1) _ _ _
    ·rw[k2];rcases LH (cs:=cs) (k:=ds.length) (s:=argSt ds) (i:=i)with⟨j,c,e1,rfl,e3⟩|e2
     ·have hjl:=(aD.1 e1).1;rw[e3,hav _ (by omega),hcap j c e1];have hc:=hcs c (aA e1);cases hc2:c.2 with
      |some d=>
       rw[hc2]at hc;obtain⟨p,hp,rfl⟩:=hc;exact hrp _ _ (hrd _ hp) _ _ _
      |none=>
       rw[hc2]at hc;obtain⟨g,hg,hgc⟩:=hc;rcases LJ (P:=P) (w:=w) (ow:=ow) (gs:=gs) (s:=putR rd (putC ds.length cs (argSt ds))) (i:=1000000+2*c.1)with⟨g',h1',h2',h3'⟩|⟨h1',_⟩
       ·have:g'.1=c.1:=by omega
        refine⟨.bx true g'.2,g'.2,c.1,0,h3',by simp[D.sub,D.kid],?_,rfl⟩;rw[havg];simp[loc,into,eO]
       ·exact absurd (by rw[hgc]) (h1' g hg)
     ·rw[e2];unfold argSt;cases hdi:ds[i]? with
      |none=>trivial
      |some d=>
       have hi:i<ds.length:=(aD.1 hdi).1;simp only[SV];rw[hav i (by omega)];exact V.trf hq0 (hargs i d hdi)
 refine h w _ _ w ⟨_,hfit⟩ (fun m v e=>by cases e) _ fun e s' a' w' hK hR _=> ?_
 have key:(retL T rs s' fun ds s2=>getG gs s2 fun ds'=>Q (retS ds) ds')->bodyPost P fn (fun e w'=>∃v ow' r ds',e= .returned v/\Q r ds'/\w'.os=w.os/\w'.tape=w.tape/\w'.output=w.output/\w.heap.size<=w'.heap.size/\
   (∀b,b<w.heap.size->(∀g∈gs,∀q,ow b≠some (q++[1000000+2*g.1]))->w'.heap[b]?=w.heap[b]?/\ow' b=ow b)/\(∀b,w'.heap.size<=b->ow' b=none)/\
   ds'.length=gs.length/\(∀(j:Nat) (g:Nat×D) (d':D),gs[j]?=some g->ds'[j]?=some d'->V P w' ow' (.bx true d') [1000000+2*g.1] (.pointer (some ⟨g.1,0,none⟩)))/\S.plain r=true/\∀s a,SV P w' ow' s a t r v) .ret a' w':=by
  intro hK;obtain⟨ow1,hf1⟩:=hR;obtain⟨vals,ow2,s2,ds2,hQ,hf2,hl1,hl2,hrun,hvals,hkeep⟩:=hf1.retL hG (fun k=>if rs.length=1 then[]else[k]) rs 0 hK;obtain⟨ds',hQ,hdl,hds⟩:=agH hQ
  have hres:(results fn a'.tmps).run P w'= .ok (if h:vals.toArray.size=1 then vals.toArray[0]else .tuple vals.toArray) w':=by
   unfold results;rw[hr];have hb:∀{α β:Type}(x:Sem α) (g:α->Sem β),Sem.run P (Sem.bind x g) w'=(Sem.run P x w').andThen fun a w'=>Sem.run P (g a) w':=fun x g=>aH ..;simp only[rW,Functor.map,aH,aP];rw[hb,hrun _ (XC a'.tmps P w' _ (fun _=>rfl) fun _ _=>rfl)];rfl
  refine⟨hf1.nodef,_,hres,?_⟩
  have hmiss:∀b,b<w.heap.size->(∀lab,ow b=some lab->inG gs lab=false)->w'.heap[b]?=w.heap[b]?/\(ow b=none->ow2 b=none)/\(∀lab,ow b=some lab->ow2 b=some (lab++[far0])):=by
   intro b hlt hno;cases ho:ow b with
   |none=>exact⟨hf2.bel.block b hlt (hlnone b ho),fun _=>hf2.own b hlt (hlnone b ho),fun lab e=>by cases e⟩
   |some lab=>
    have hlab:RH gs ow b=some (lab++[far0]):=by simp[RH,ho,hno lab ho]
    obtain⟨g1,g2⟩:=hf2.keep b hlt lab hlab;exact⟨g1,fun e=>(by cases e),fun lab' e=>by obtain rfl:=k_Option_some_inj e;exact g2⟩
  have hcond:∀b,(match ow b with|none=>true|some lab=> !inG gs lab)=true↔∀lab,ow b=some lab->inG gs lab=false:=by
   intro b;cases ho:ow b with
   |none=>simp
   |some lab=>simp
  have hnone:∀b,ow2 b=none->M7 w gs t ow ow2 b=none:=by
   intro b hb;unfold M7;by_cases hc:b<w.heap.size/\(match ow b with|none=>true|some lab=> !inG gs lab)=true
   ·rw[if_pos hc];cases ho:ow b with
    |none=>rfl
    |some lab=>
     have:=(hmiss b hc.1 ((hcond b).1 hc.2)).2.2 lab ho;rw[hb]at this;cases this
   ·rw[if_neg hc,hb]
  have hlast:∀b q j,ow2 b=some (q++[j])->j≠far0->¬(b<w.heap.size/\(match ow b with|none=>true|some lab=> !inG gs lab)=true):=by
   rintro b q j hq hj ⟨h1,h2⟩;obtain⟨_,g1,g2⟩:=hmiss b h1 ((hcond b).1 h2);cases ho:ow b with
   |none=>rw[g1 ho]at hq;cases hq
   |some lab=>
    rw[g2 lab ho]at hq;have:=congrArg List.getLast? (k_Option_some_inj hq);simp at this;exact hj this.symm
  have hkg:∀g∈gs,Keeps w' ow2 [1000000+2*g.1] w' (M7 w gs t ow ow2) [1000000+2*g.1]:=fun g hg b _=>⟨fun ho=>⟨rfl,hnone b ho⟩,fun q hq=>⟨rfl,by
   unfold M7;rw[if_neg (hlast b q _ hq (by unfold far0;omega)),hq];simp only;rw[if_pos (axH hg)]⟩⟩
  have hnr:∀q,inG gs (q++[res0])=false:=fun q=>axG fun g hg q' e=>by
   have:=congrArg List.getLast? e;simp[res0]at this;omega
  have hk:∀l2,Keeps w' ow2 (l2++[res0]) w' (M7 w gs t ow ow2) (l2++[t]):=fun l2 b _=>⟨fun ho=>⟨rfl,hnone b ho⟩,fun q hq=>⟨rfl,by
   have hq':ow2 b=some ((q++l2)++[res0]):=by rw[hq];simp
   unfold M7;rw[if_neg (hlast b _ res0 hq' (by unfold res0 far0;omega)),hq'];simp only;rw[hnr];simp⟩⟩
  have hq:Quiet w' ow2 w' (M7 w gs t ow ow2):=fun b _ ho=>⟨rfl,hnone b ho⟩
  have part:∀(j:Nat) (p:D×Bool),ds2[j]?=some p->∃v,vals[j]?=some v/\(if(p.2||p.1.frz)=true then V P w' (M7 w gs t ow ow2) p.1.fz [] v else V P w' (M7 w gs t ow ow2) p.1 ((if rs.length=1 then[]else[j])++[t]) v):=by
   intro j p hj;obtain⟨v,h1,h2,h3⟩:=hvals j p hj;rw[bU]at h2;refine⟨v,h1,?_⟩;by_cases hp:(p.2||p.1.frz)=true
   ·rw[if_pos hp]
    have hfz:p.1.fz=p.1:=by
     rcases bI _ _▸hp with hp|hp
     ·exact h3 hp
     ·exact D.TC hp
    rw[←hfz]at h2;exact V.trf hq h2
   ·rw[if_neg hp];exact V.tr (hk _) h2
  refine⟨_,M7 w gs t ow ow2,retS ds2,ds',rfl,hQ,hf2.bel.os,hf2.bel.tape,hf2.bel.output,hf2.bel.size,fun b hb hno=> ?_,fun b hb=>hnone b (hf2.new b hb),hdl,fun j g d' hj hj'=> ?_,?_,fun s a=> ?_⟩
  ·have hn2:∀lab,ow b=some lab->inG gs lab=false:=fun lab hl=>axG fun g hg q e=>hno g hg q (by rw[hl,e]);exact⟨(hmiss b hb hn2).1,by unfold M7;rw[if_pos ⟨hb,(hcond b).2 hn2⟩]⟩
  ·have h1:=hf2.slot (1000000+2*g.1);rw[hds j g d' hj hj',havg]at h1;exact V.tr (hkg g (aA hj)) h1
  ·unfold retS;split
   ·split<;>rfl
   ·rfl
  ·by_cases hone:rs.length=1
   ·have hd1:ds2.length=1:=by rw[hl1,hone]
    have hv1:vals.length=1:=by rw[hl2,hone]
    obtain⟨⟨d,b⟩,rfl⟩:=eD.1 hd1;obtain⟨v,rfl⟩:=eD.1 hv1;obtain⟨v',h1,h2⟩:=part 0 (d,b) rfl;obtain rfl:v=v':=by simpa using h1
    rw[if_pos hone]at h2;simp only[retS];by_cases hp:(b||d.frz)=true
    ·rw[if_pos hp]at h2|-
     exact h2
    ·rw[if_neg hp]at h2|-
     exact h2
   ·have hd1:∀p,ds2≠[p]:=fun p e=>by rw[e]at hl1;simp at hl1;exact hone hl1.symm
    have htup:retS ds2= .tup (ds2.map fun p=>if p.2||p.1.frz then .val p.1 else .own p.1):=by
     unfold retS;split
     ·rename_i d b;exact absurd rfl (hd1 _)
     ·rfl
    rw[htup];refine⟨vals.toArray,?_,by simp[hl1,hl2],fun j x hx=> ?_⟩
    ·rw[dif_neg];simp[hl2,hone]
    ·simp only[aN,aK]at hx;obtain⟨p,hp,rfl⟩:=hx;obtain⟨v,h1,h2⟩:=part j p hp;have hv:vals.toArray.getD j undef=v:=by simp[aF,h1]
     rw[hv];by_cases hpf:(p.2||p.1.frz)=true
     ·rw[if_pos hpf]at h2|-
      exact h2
     ·rw[if_neg hpf]at h2|-
      rw[if_neg hone]at h2;exact h2
 cases e with
 |normal=>exact key hK
 |ret=>exact key hK
 |_=>exact hK.elim
attribute [go_sem] endW wSt putG putR putC getG
end Go.Dv
end
section
namespace Go.Dv
open Go.RowKit Go.Pl
variable [kW]
variable {ds:List D}
def argB_nil :argB [] ds=argSt ds:=rfl
variable {b:Nat}{gs:List (Nat×D)}
def argB_cons {d:D}:argB ((b,d)::gs) ds=(argB gs ds).put (1000000+2*b) (.rp d):=rfl
variable {P:Program}{f:FuncId}{fn:Func}{c:Code}{n:Nat}{rs:List ResultVar}
def fB {T:TypeId->TyE}{Q:S->Prop}[hG:vM P T] (sp:List Nat) (hn':fn.ntmps=n) (h:∀w0 ow0,@WC _ P T n w0 ow0 none sp ⟨c⟩ (argB gs ds) ⟨endR T rs Q⟩) (hf:P.funcs[f]?=some fn:=by rfl)
  (hb:fn.body=some c:=by rfl) (hr:fn.results=rs.toArray:=by rfl) (hn:n<=1000000:=by decide) (hd:ds.length<=n:=by simp):yZ P f ds gs Q:=awV hG.g hf hb hn' hn hd hr fun w0 ow0=>wcI hG.g sp (h w0 ow0) (yF c)
def ckB {rs:List Nat}{K:S->Prop}{r:S}(h:yZ P f ds gs (fun r'=>r'=r))(hK:(rs=[]\/r.closed=true)/\K r):(aoE (k:=⟨K⟩) P f ds gs rs):=asC h hK.1 hK.2
variable {cs:List (Nat×Option D)}{rd:List (Nat×D)}{Q:S->List D->Prop}
def fW {T:TypeId->TyE}[hG:vM P T] (sp:List Nat) (hn':fn.ntmps=n) (h:∀w0 ow0,@WC _ P T n w0 ow0 none sp ⟨c⟩ (wSt ds cs rd gs) ⟨endW T rs gs Q⟩) (hf:P.funcs[f]?=some fn:=by rfl)
  (hb:fn.body=some c:=by rfl) (hr:fn.results=rs.toArray:=by rfl) (hn:n<=1000000:=by decide) (hd:ds.length+cs.length<=n:=by simp) (hcs:∀c∈cs,match c.2 with|none=>∃g∈gs,g.1=c.1|some d=>∃p∈rd,p=(c.1,d):=by simp):FnW P f ds cs rd gs Q:=aGX hG.g hf hb hn' hn hd hr hcs fun w0 ow0=>wcI hG.g sp (h w0 ow0) (yF c)
variable {s:St}
def awK {T:TypeId->TyE}:endW T rs gs Q .normal s=retL T rs s fun ds s2=>getG gs s2 fun ds'=>Q (retS ds) ds':=rfl
def awL {T:TypeId->TyE}:endW T rs gs Q .ret s=retL T rs s fun ds s2=>getG gs s2 fun ds'=>Q (retS ds) ds':=rfl
attribute [go_sem ↓] awK awL
class aGS where
 P:Prop
def aC9 [E:aGS]:Prop:=E.P
def WK {A:Prop}(h:A): @aC9 ⟨A⟩:=h
def UM {bs rs:List Nat}{L:List (Nat×D)->List (Nat×D)->(List Nat->Prop)->Prop}{K:S->List D->List (Nat×D)->Prop}(h:FnW P f ds cs rd gs Q) (hc:cs.map (fun c=>c.1)=bs)
  (hL:L rd gs fun rs2=>(∀r∈rs++rs2,∀g∈gs,r≠1000000+2*g.1)/\ @aC9 ⟨∀r ds',Q r ds'->(rs++rs2=[]\/(r.closed=true/\D.nC ds'=true))/\K r ds' gs⟩): @avY _ P f ds bs rs ⟨L,K⟩:=acE h hc hL
variable {u:Nat}{K:List Nat->St->Prop}
def oW {c:Nat}{cs:List Nat}(d:D)(hs:s c= .own (.bx true d))(h:∀b,oG s b->Q7 u ((((s.kill (1000000+2*b)).kill c).put (1000000+2*b) (.own (.bx true d))).put c (.rf (1000000+2*b) [0])) cs fun bs s'=>K (b::bs) s')(h1:u≠c:=by decide)(h2:c<1000000:=by decide):Q7 u s (c::cs) K:=by
 unfold Q7;refine⟨h1,h2,?_⟩;rw[hs];exact h
def XW (h:K [] s):Q7 u s [] K:=h
def nD:List Nat->Prop
 |[]=>True
 |a::l=>(∀b∈l,¬a=b/\¬b=a)/\nD l
def gl_ne (h:n<1000000):(n=1000000+2*b)=False:=eq_false (by omega)
def gl_en (h:n<1000000):(1000000+2*b=n)=False:=eq_false (by omega)
def gl_lt :(1000000+2*b<1000000)=False:=eq_false (by omega)
def gl_eq {c:Nat}:(1000000+2*b=1000000+2*c)=(b=c):=propext ⟨fun h=>by omega,fun h=>by rw[h]⟩
def gl_eq2 {c:Nat}:(2*b=2*c)=(b=c):=propext ⟨fun h=>by omega,fun h=>by rw[h]⟩
attribute [go_sem] gl_ne gl_en gl_lt gl_eq gl_eq2
attribute [go_sem] argB_nil argB_cons
end Go.Dv
end
section
namespace Go.Dv
open Go.RowKit
variable [kW]
def anQ {P:Program}{n:Nat}{s:St}(k G:Nat){d:D}(h1:s k= .rf G [0])(h2:s G= .own (.bx true d))(hk:k≠far0):sD P n s ((s.R7 G).put k (.val (D.bx false d.fz))):=by
 intro w0 ow0 a w ⟨ow,hf⟩;have hkG:k≠G:=by rintro rfl;rw[h1]at h2;cases h2
 have hv:aval a k=aval a G:=by
  have hV:=hf.slot k;rw[h1]at hV;obtain⟨d',m,b,off,e1,e2,e3,e4⟩:=hV;rw[h2]at e1;obtain rfl:D.bx true d=d':=by injection e1
  have hG:=hf.slot G;rw[h2]at hG;simp only[SV,V,R]at hG;obtain⟨b2,off2,C,e,fz,cs',g1,_⟩:=hG;have g1:aval a G= .pointer (some ⟨b2,off2,none⟩):=by simpa using g1
  rw[g1]at e3;simp only[loc,into,if_true,eO,aJ,bX]at e3;obtain⟨rfl,rfl⟩:=e3;rw[e4,g1]
 obtain⟨ow',hf'⟩:=hf.R7 G;have hsG:(s.R7 G) G= .val (D.bx true d).fz:=by unfold St.R7;rw[h2];simp[St.put]
 have hsk:((s.R7 G) k).fF=false:=by
  unfold St.R7;rw[h2];simp only[St.put,if_neg hkG];unfold St.kill;simp[hkG,h1,S.drop,S.root,S.fF]
 refine⟨_,hf'.tell hk hsk ?_⟩;have:=hf'.slot G;rw[hsG]at this;simp only[SV,D.fz,D.V7]at this|-
 rw[hv];exact this
end Go.Dv
end
section
namespace Go.Proofs
open Tryz
open Go.Shelf
def Tryz.al0:Go.Shelf.Ren:=⟨fun|125=>119|128=>189|129=>190|n=>n,fun|46=>156|3=>3|51=>210|53=>212|4=>4|5=>5|9=>9|n=>n,fun|n=>n⟩
def Tryz.aBE:Go.Proofs.Lays.n125 Tryz.prog Tryz.al0:={
 mixed:=by kernel_rfl
 f125:=func119.trans cSz
 f128:=func189.trans cSz
 f129:=func190.trans cSz
 t3:=underlying3
 a3:=isAgg3
 z3:=sizeOf3
 v3:=zeroValue3
 t4:=underlying4
 a4:=isAgg4
 z4:=sizeOf4
 v4:=zeroValue4
 t5:=underlying5
 a5:=isAgg5
 z5:=sizeOf5
 v5:=zeroValue5
 t9:=underlying9
 a9:=isAgg9
 z9:=sizeOf9
 v9:=zeroValue9
 t46:=underlying156
 a46:=isAgg156
 z46:=sizeOf156
 v46:=zeroValue156
 t51:=underlying210
 a51:=isAgg210
 z51:=sizeOf210
 v51:=zeroValue210
 t53:=underlying212
 a53:=isAgg212
 z53:=sizeOf212
 v53:=zeroValue212}
def Tryz.bits_Len (x:Int)(w:World)(h0:0<=x)(h1:x<=18446744073709551615):
  Calls Tryz.prog 119 #[.int .u64 x] w fun e w'=>e= .returned (.int .i64 (Lib.bitLen x.toNat))/\w'=w:=Any.bits_Len Tryz.aBE x w h0 h1
def Tryz.aiQ:Go.Shelf.Ren:=⟨fun|171=>414|243=>431|246=>442|283=>448|284=>449|285=>450|286=>451|129=>190|317=>453|318=>454|319=>455|320=>456|337=>457|338=>458|n=>n,fun|3=>3|9=>9|2=>2|4=>4|171=>387|0=>0|53=>212|37=>298|5=>5|173=>389|212=>393|51=>210|20=>20|213=>394|46=>156|232=>395|233=>396|n=>n,fun|17=>6|18=>7|19=>8|n=>n⟩
def Tryz.axU:Go.Proofs.LaysM.n171 Tryz.prog Tryz.aiQ:={
 mixed:=by kernel_rfl
 f129:=func190.trans cSz
 f171:=func414.trans cSz
 f243:=func431.trans cSz
 f246:=func442.trans cSz
 f283:=func448.trans cSz
 f284:=func449.trans cSz
 f285:=func450.trans cSz
 f286:=func451.trans cSz
 f317:=func453.trans cSz
 f318:=func454.trans cSz
 f319:=func455.trans cSz
 f320:=func456.trans cSz
 f337:=func457.trans cSz
 f338:=func458.trans cSz
 t0:=underlying0
 a0:=isAgg0
 z0:=sizeOf0
 v0:=zeroValue0
 t2:=underlying2
 a2:=isAgg2
 z2:=sizeOf2
 v2:=zeroValue2
 t3:=underlying3
 a3:=isAgg3
 z3:=sizeOf3
 v3:=zeroValue3
 t4:=underlying4
 a4:=isAgg4
 z4:=sizeOf4
 v4:=zeroValue4
 t5:=underlying5
 a5:=isAgg5
 z5:=sizeOf5
 v5:=zeroValue5
 t9:=underlying9
 a9:=isAgg9
 z9:=sizeOf9
 v9:=zeroValue9
 t20:=underlying20
 a20:=isAgg20
 z20:=sizeOf20
 v20:=zeroValue20
 t37:=underlying298
 a37:=isAgg298
 z37:=sizeOf298
 v37:=zeroValue298
 t46:=underlying156
 a46:=isAgg156
 z46:=sizeOf156
 v46:=zeroValue156
 t51:=underlying210
 a51:=isAgg210
 z51:=sizeOf210
 v51:=zeroValue210
 t53:=underlying212
 a53:=isAgg212
 z53:=sizeOf212
 v53:=zeroValue212
 t171:=underlying387
 a171:=isAgg387
 z171:=sizeOf387
 v171:=zeroValue387
 t173:=underlying389
 a173:=isAgg389
 z173:=sizeOf389
 v173:=zeroValue389
 t212:=underlying393
 a212:=isAgg393
 z212:=sizeOf393
 v212:=zeroValue393
 t213:=underlying394
 a213:=isAgg394
 z213:=sizeOf394
 t232:=underlying395
 a232:=isAgg395
 z232:=sizeOf395
 v232:=zeroValue395
 t233:=underlying396
 a233:=isAgg396
 z233:=sizeOf396
 v233:=zeroValue396
 g17:=by kernel_rfl
 g18:=by kernel_rfl
 g19:=by kernel_rfl
 i0:=by kernel_rfl
 i2:=by kernel_rfl
 i3:=by kernel_rfl
 i4:=by kernel_rfl
 i5:=by kernel_rfl
 i9:=by kernel_rfl
 i20:=by kernel_rfl
 i37:=by kernel_rfl
 i46:=by kernel_rfl
 i51:=by kernel_rfl
 i53:=by kernel_rfl
 i171:=by kernel_rfl
 i173:=by kernel_rfl
 i212:=by kernel_rfl
 i232:=by kernel_rfl
 i233:=by kernel_rfl
 m17:=by kernel_rfl
 m18:=by kernel_rfl
 m19:=by kernel_rfl}
open Go.RowKit Go.Sort Go.Lib in
def Tryz.strconv_Itoa (n:Int)(h0: -9223372036854775808<=n)(h1:n<=9223372036854775807)(w:World)(htab:Lib.TabIs Tryz.prog w "internal/strconv.uint64pow10" .u64 Lib.pow10Tab):
  Calls Tryz.prog 414 #[.int .i64 n] w fun e w'=>e= .returned (.string ⟨(Lib.itoa n).toArray⟩)/\∃k os,w'=grow (w.drewN k) os:=Any.strconv_Itoa Tryz.axU n h0 h1 w htab
def Tryz.aiP:Go.Shelf.Ren:=⟨fun|172=>393|244=>412|245=>413|247=>426|279=>427|280=>428|281=>429|282=>430|287=>439|316=>440|171=>414|205=>441|321=>446|322=>447|243=>431|246=>442|283=>448|284=>449|285=>450|286=>451|129=>190|317=>453|318=>454|319=>455|320=>456|337=>457|338=>458|n=>n,fun|9=>9|3=>3|75=>340|76=>341|4=>4|5=>5|167=>363|37=>298|0=>0|85=>364|2=>2|168=>366|53=>212|175=>371|46=>156|210=>374|127=>369|145=>386|143=>384|21=>21|171=>387|173=>389|212=>393|51=>210|20=>20|213=>394|232=>395|233=>396|80=>360|n=>n,fun|15=>2|16=>3|17=>6|18=>7|19=>8|n=>n⟩
def Tryz.adY:Go.Proofs.LaysC.n172 Tryz.prog Tryz.aiP:={
 mixed:=by kernel_rfl
 f129:=func190.trans cSz
 f171:=func414.trans cSz
 f172:=func393.trans cSz
 f205:=func441.trans cSz
 f243:=func431.trans cSz
 f244:=func412.trans cSz
 f245:=func413.trans cSz
 f246:=func442.trans cSz
 f247:=func426.trans cSz
 f279:=func427.trans cSz
 f280:=func428.trans cSz
 f281:=func429.trans cSz
 f282:=func430.trans cSz
 f283:=func448.trans cSz
 f284:=func449.trans cSz
 f285:=func450.trans cSz
 f286:=func451.trans cSz
 f287:=func439.trans cSz
 f316:=func440.trans cSz
 f317:=func453.trans cSz
 f318:=func454.trans cSz
 f319:=func455.trans cSz
 f320:=func456.trans cSz
 f321:=func446.trans cSz
 f322:=func447.trans cSz
 f337:=func457.trans cSz
 f338:=func458.trans cSz
 t0:=underlying0
 a0:=isAgg0
 z0:=sizeOf0
 v0:=zeroValue0
 t2:=underlying2
 a2:=isAgg2
 z2:=sizeOf2
 v2:=zeroValue2
 t3:=underlying3
 a3:=isAgg3
 z3:=sizeOf3
 v3:=zeroValue3
 t4:=underlying4
 a4:=isAgg4
 z4:=sizeOf4
 v4:=zeroValue4
 t5:=underlying5
 a5:=isAgg5
 z5:=sizeOf5
 v5:=zeroValue5
 t9:=underlying9
 a9:=isAgg9
 z9:=sizeOf9
 v9:=zeroValue9
 t20:=underlying20
 a20:=isAgg20
 z20:=sizeOf20
 v20:=zeroValue20
 t21:=underlying21
 a21:=isAgg21
 z21:=sizeOf21
 v21:=zeroValue21
 t37:=underlying298
 a37:=isAgg298
 z37:=sizeOf298
 v37:=zeroValue298
 t46:=underlying156
 a46:=isAgg156
 z46:=sizeOf156
 v46:=zeroValue156
 t51:=underlying210
 a51:=isAgg210
 z51:=sizeOf210
 v51:=zeroValue210
 t53:=underlying212
 a53:=isAgg212
 z53:=sizeOf212
 v53:=zeroValue212
 t75:=underlying340
 a75:=isAgg340
 z75:=sizeOf340
 v75:=zeroValue340
 t76:=underlying341
 a76:=isAgg341
 z76:=sizeOf341
 v76:=zeroValue341
 t85:=underlying364
 a85:=isAgg364
 z85:=sizeOf364
 v85:=zeroValue364
 t127:=underlying369
 a127:=isAgg369
 z127:=sizeOf369
 v127:=zeroValue369
 t143:=underlying384
 a143:=isAgg384
 z143:=sizeOf384
 v143:=zeroValue384
 t145:=underlying386
 a145:=isAgg386
 z145:=sizeOf386
 v145:=zeroValue386
 t167:=underlying363
 a167:=isAgg363
 z167:=sizeOf363
 v167:=zeroValue363
 t168:=underlying366
 a168:=isAgg366
 z168:=sizeOf366
 v168:=zeroValue366
 t171:=underlying387
 a171:=isAgg387
 z171:=sizeOf387
 v171:=zeroValue387
 t173:=underlying389
 a173:=isAgg389
 z173:=sizeOf389
 v173:=zeroValue389
 t175:=underlying371
 a175:=isAgg371
 z175:=sizeOf371
 v175:=zeroValue371
 t210:=underlying374
 a210:=isAgg374
 z210:=sizeOf374
 v210:=zeroValue374
 t212:=underlying393
 a212:=isAgg393
 z212:=sizeOf393
 v212:=zeroValue393
 t213:=underlying394
 a213:=isAgg394
 z213:=sizeOf394
 t232:=underlying395
 a232:=isAgg395
 z232:=sizeOf395
 v232:=zeroValue395
 t233:=underlying396
 a233:=isAgg396
 z233:=sizeOf396
 v233:=zeroValue396
 g15:=by kernel_rfl
 g16:=by kernel_rfl
 g17:=by kernel_rfl
 g18:=by kernel_rfl
 g19:=by kernel_rfl
 t80:=underlying360
 a80:=isAgg360
 z80:=sizeOf360
 v80:=zeroValue360
 i0:=by kernel_rfl
 i2:=by kernel_rfl
 i3:=by kernel_rfl
 i4:=by kernel_rfl
 i5:=by kernel_rfl
 i9:=by kernel_rfl
 i20:=by kernel_rfl
 i21:=by kernel_rfl
 i37:=by kernel_rfl
 i46:=by kernel_rfl
 i51:=by kernel_rfl
 i53:=by kernel_rfl
 i75:=by kernel_rfl
 i76:=by kernel_rfl
 i80:=by kernel_rfl
 i85:=by kernel_rfl
 i127:=by kernel_rfl
 i143:=by kernel_rfl
 i145:=by kernel_rfl
 i167:=by kernel_rfl
 i168:=by kernel_rfl
 i171:=by kernel_rfl
 i173:=by kernel_rfl
 i175:=by kernel_rfl
 i210:=by kernel_rfl
 i212:=by kernel_rfl
 i232:=by kernel_rfl
 i233:=by kernel_rfl
 m15:=by kernel_rfl
 m16:=by kernel_rfl
 m17:=by kernel_rfl
 m18:=by kernel_rfl
 m19:=by kernel_rfl
 c0:=by kernel_rfl
 c2:=by kernel_rfl
 c3:=by kernel_rfl
 c4:=by kernel_rfl
 c5:=by kernel_rfl
 c9:=by kernel_rfl
 c20:=by kernel_rfl
 c21:=by kernel_rfl
 c37:=by kernel_rfl
 c46:=by kernel_rfl
 c51:=by kernel_rfl
 c53:=by kernel_rfl
 c75:=by kernel_rfl
 c76:=by kernel_rfl
 c80:=by kernel_rfl
 c85:=by kernel_rfl
 c127:=by kernel_rfl
 c143:=by kernel_rfl
 c145:=by kernel_rfl
 c167:=by kernel_rfl
 c168:=by kernel_rfl
 c171:=by kernel_rfl
 c173:=by kernel_rfl
 c175:=by kernel_rfl
 c210:=by kernel_rfl
 c212:=by kernel_rfl
 c213:=by kernel_rfl
 c232:=by kernel_rfl
 c233:=by kernel_rfl}
open Go.RowKit in
def Tryz.strconv_Atoi_ok (s:ByteArray)(hmax:s.size<=9223372036854775806)(v:Int)(h:Lib.atoiAll s.data.toList= .ok v)(w:World):
  Calls Tryz.prog 393 #[.string s] w fun e w'=>e= .returned (.tuple #[.int .i64 v,.nilIface])/\(w'=w\/∃t,w'=Lib.bytesWorld w 5 t):=Any.strconv_Atoi_ok Tryz.adY s hmax v h w
open Go.RowKit in
def Tryz.strconv_Atoi_syntax_var (s:ByteArray)(hlim:s.size<=281474976710656)(h1:∀v,Lib.atoiAll s.data.toList≠ .ok v)(h2:Lib.atoiAll s.data.toList≠ .range)(tp:TypeId)(p:Value)(w:World)(hvar:w.var? Tryz.prog "strconv.ErrSyntax" =some #[.iface tp p]):
  Calls Tryz.prog 393 #[.string s] w fun e w'=>∃N,e= .returned (.tuple #[.int .i64 0,.iface 366 (.pointer (some ⟨N,0,none⟩))])/\w.heap.size<=N/\w'.heap[N]?=some (.cells #[.string ⟨#[65,116,111,105]⟩,.string s,.iface tp p] 374 (0,0))/\Below w.heap.size w w':=by
 cases hx:Lib.atoiAll s.data.toList with
 |ok v=>exact absurd hx (h1 v)
 |range=>exact absurd hx h2
 |_=>exact Any.strconv_Atoi_syntax_var Tryz.adY s hlim hx tp p w hvar
open Go.RowKit in
def Tryz.strconv_Atoi_range_var (s:ByteArray)(hlim:s.size<=281474976710656)(h:Lib.atoiAll s.data.toList= .range)(tp:TypeId)(p:Value)(w:World)(hvar:w.var? Tryz.prog "strconv.ErrRange" =some #[.iface tp p]):
  Calls Tryz.prog 393 #[.string s] w fun e w'=>∃N,e= .returned (.tuple #[.int .i64 (Lib.atoiSat s.data.toList),.iface 366 (.pointer (some ⟨N,0,none⟩))])/\w.heap.size<=N/\w'.heap[N]?=some (.cells #[.string ⟨#[65,116,111,105]⟩,.string s,.iface tp p] 374 (0,0))/\Below w.heap.size w w':=Any.strconv_Atoi_range_var Tryz.adY s hlim h tp p w hvar
def Tryz.al2:Go.Shelf.Ren:=⟨fun|190=>358|125=>119|258=>391|128=>189|129=>190|302=>403|303=>404|304=>405|305=>406|306=>407|307=>408|308=>409|309=>410|310=>411|333=>422|329=>261|330=>262|334=>423|335=>424|336=>425|344=>438|n=>n,fun|31=>121|9=>9|3=>3|46=>156|0=>0|51=>210|53=>212|4=>4|183=>203|182=>202|131=>207|5=>5|218=>261|222=>265|228=>292|229=>293|n=>n,fun|n=>n⟩
def Tryz.aBH:Go.Proofs.Lays.n190 Tryz.prog Tryz.al2:={
 mixed:=by kernel_rfl
 f125:=func119.trans cSz
 f128:=func189.trans cSz
 f129:=func190.trans cSz
 f190:=func358.trans cSz
 f258:=func391.trans cSz
 f302:=func403.trans cSz
 f303:=func404.trans cSz
 f304:=func405.trans cSz
 f305:=func406.trans cSz
 f306:=func407.trans cSz
 f307:=func408.trans cSz
 f308:=func409.trans cSz
 f309:=func410.trans cSz
 f310:=func411.trans cSz
 f329:=func261.trans cSz
 f330:=func262.trans cSz
 f333:=func422.trans cSz
 f334:=func423.trans cSz
 f335:=func424.trans cSz
 f336:=func425.trans cSz
 f344:=func438.trans cSz
 t0:=underlying0
 a0:=isAgg0
 z0:=sizeOf0
 v0:=zeroValue0
 t3:=underlying3
 a3:=isAgg3
 z3:=sizeOf3
 v3:=zeroValue3
 t4:=underlying4
 a4:=isAgg4
 z4:=sizeOf4
 v4:=zeroValue4
 t5:=underlying5
 a5:=isAgg5
 z5:=sizeOf5
 v5:=zeroValue5
 t9:=underlying9
 a9:=isAgg9
 z9:=sizeOf9
 v9:=zeroValue9
 t31:=underlying121
 a31:=isAgg121
 z31:=sizeOf121
 v31:=zeroValue121
 t46:=underlying156
 a46:=isAgg156
 z46:=sizeOf156
 v46:=zeroValue156
 t51:=underlying210
 a51:=isAgg210
 z51:=sizeOf210
 v51:=zeroValue210
 t53:=underlying212
 a53:=isAgg212
 z53:=sizeOf212
 v53:=zeroValue212
 t131:=underlying207
 a131:=isAgg207
 z131:=sizeOf207
 v131:=zeroValue207
 t182:=underlying202
 a182:=isAgg202
 z182:=sizeOf202
 v182:=zeroValue202
 t183:=underlying203
 a183:=isAgg203
 z183:=sizeOf203
 v183:=zeroValue203
 t218:=underlying261
 a218:=isAgg261
 z218:=sizeOf261
 v218:=zeroValue261
 t222:=underlying265
 a222:=isAgg265
 z222:=sizeOf265
 v222:=zeroValue265
 t228:=underlying292
 a228:=isAgg292
 z228:=sizeOf292
 v228:=zeroValue292
 t229:=underlying293
 a229:=isAgg293
 z229:=sizeOf293
 v229:=zeroValue293}
open Go.Sort Go.RowKit in
def Tryz.slices_Sort_string (blk off cap:Nat)(ss:List (List UInt8))(w:World)(hH:Holds encStr w blk off ss.toArray)(hblk:blk<w.heap.size)(hsz:ss.length<4611686018427387904):
  Calls Tryz.prog 358 #[.slice (some ⟨blk,off,none⟩) ss.length cap] w fun e w'=>
   e= .returned (.tuple #[])/\∃n os,w'=grow (putRow encStr (Sort.ahead w n) blk off (ss.mergeSort fun x y=>decide (x<=y)).toArray) os:=Any.slices_Sort_string Tryz.aBH blk off cap ss w hH hblk hsz
def Tryz.alY:Go.Shelf.Ren:=⟨fun|100=>316|207=>365|n=>n,fun|9=>9|4=>4|3=>3|n=>n,fun|n=>n⟩
def Tryz.aBC:Go.Proofs.Lays.n100 Tryz.prog Tryz.alY:={
 mixed:=by kernel_rfl
 f100:=func316.trans cSz
 f207:=func365.trans cSz
 t3:=underlying3
 a3:=isAgg3
 z3:=sizeOf3
 v3:=zeroValue3
 t4:=underlying4
 a4:=isAgg4
 z4:=sizeOf4
 v4:=zeroValue4
 t9:=underlying9
 a9:=isAgg9
 z9:=sizeOf9
 v9:=zeroValue9}
open Go.RowKit Go.Lib in
def Tryz.strings_HasSuffix (s p:ByteArray)(w:World)(hs:s.size<=9223372036854775807):
  Calls Tryz.prog 316 #[.string s,.string p] w fun e w'=>e= .returned (.bool (Lib.hasSuffix s.data.toList p.data.toList))/\w'=w:=Any.strings_HasSuffix Tryz.aBC s p w hs
def Tryz.alZ:Go.Shelf.Ren:=⟨fun|102=>382|209=>399|207=>365|n=>n,fun|9=>9|4=>4|3=>3|n=>n,fun|n=>n⟩
def Tryz.aBD:Go.Proofs.Lays.n102 Tryz.prog Tryz.alZ:={
 mixed:=by kernel_rfl
 f102:=func382.trans cSz
 f207:=func365.trans cSz
 f209:=func399.trans cSz
 t3:=underlying3
 a3:=isAgg3
 z3:=sizeOf3
 v3:=zeroValue3
 t4:=underlying4
 a4:=isAgg4
 z4:=sizeOf4
 v4:=zeroValue4
 t9:=underlying9
 a9:=isAgg9
 z9:=sizeOf9
 v9:=zeroValue9}
open Go.RowKit Go.Lib in
def Tryz.strings_TrimSuffix (s p:ByteArray)(w:World)(hs:s.size<=9223372036854775807):
  Calls Tryz.prog 382 #[.string s,.string p] w fun e w'=>e= .returned (.string ⟨(Lib.trimSuffix s.data.toList p.data.toList).toArray⟩)/\w'=w:=Any.strings_TrimSuffix Tryz.aBD s p w hs
def Tryz.ZK:Go.Shelf.Ren:=⟨fun|155=>384|154=>400|138=>416|165=>417|143=>418|166=>419|197=>420|169=>421|195=>432|218=>433|240=>434|241=>435|219=>436|260=>437|276=>443|277=>444|217=>395|225=>376|224=>375|267=>445|266=>415|314=>452|n=>n,fun|9=>9|3=>3|4=>4|72=>357|0=>0|76=>341|105=>358|21=>21|5=>5|70=>355|20=>20|37=>298|75=>340|127=>369|164=>377|46=>156|119=>380|139=>383|138=>382|146=>343|51=>210|80=>360|n=>n,fun|1=>1|3=>4|4=>5|n=>n⟩
def Tryz.aBG:Go.Proofs.Lays.n155 Tryz.prog Tryz.ZK:={
 mixed:=by kernel_rfl
 f138:=func416.trans cSz
 f143:=func418.trans cSz
 f154:=func400.trans cSz
 f155:=func384.trans cSz
 f165:=func417.trans cSz
 f166:=func419.trans cSz
 f169:=func421.trans cSz
 f195:=func432.trans cSz
 f197:=func420.trans cSz
 f217:=func395.trans cSz
 f218:=func433.trans cSz
 f219:=func436.trans cSz
 f224:=func375.trans cSz
 f225:=func376.trans cSz
 f240:=func434.trans cSz
 f241:=func435.trans cSz
 f260:=func437.trans cSz
 f266:=func415.trans cSz
 f267:=func445.trans cSz
 f276:=func443.trans cSz
 f277:=func444.trans cSz
 f314:=func452.trans cSz
 t0:=underlying0
 a0:=isAgg0
 z0:=sizeOf0
 v0:=zeroValue0
 t3:=underlying3
 a3:=isAgg3
 z3:=sizeOf3
 v3:=zeroValue3
 t4:=underlying4
 a4:=isAgg4
 z4:=sizeOf4
 v4:=zeroValue4
 t5:=underlying5
 a5:=isAgg5
 z5:=sizeOf5
 v5:=zeroValue5
 t9:=underlying9
 a9:=isAgg9
 z9:=sizeOf9
 v9:=zeroValue9
 t20:=underlying20
 a20:=isAgg20
 z20:=sizeOf20
 v20:=zeroValue20
 t21:=underlying21
 a21:=isAgg21
 z21:=sizeOf21
 v21:=zeroValue21
 t37:=underlying298
 a37:=isAgg298
 z37:=sizeOf298
 v37:=zeroValue298
 t46:=underlying156
 a46:=isAgg156
 z46:=sizeOf156
 v46:=zeroValue156
 t51:=underlying210
 a51:=isAgg210
 z51:=sizeOf210
 v51:=zeroValue210
 t70:=underlying355
 a70:=isAgg355
 z70:=sizeOf355
 v70:=zeroValue355
 t72:=underlying357
 a72:=isAgg357
 z72:=sizeOf357
 v72:=zeroValue357
 t75:=underlying340
 a75:=isAgg340
 z75:=sizeOf340
 v75:=zeroValue340
 t76:=underlying341
 a76:=isAgg341
 z76:=sizeOf341
 v76:=zeroValue341
 t105:=underlying358
 a105:=isAgg358
 z105:=sizeOf358
 v105:=zeroValue358
 t119:=underlying380
 a119:=isAgg380
 z119:=sizeOf380
 t127:=underlying369
 a127:=isAgg369
 z127:=sizeOf369
 v127:=zeroValue369
 t138:=underlying382
 a138:=isAgg382
 z138:=sizeOf382
 v138:=zeroValue382
 t139:=underlying383
 a139:=isAgg383
 z139:=sizeOf383
 v139:=zeroValue383
 t146:=underlying343
 a146:=isAgg343
 z146:=sizeOf343
 v146:=zeroValue343
 t164:=underlying377
 a164:=isAgg377
 z164:=sizeOf377
 v164:=zeroValue377
 g1:=by kernel_rfl
 g3:=by kernel_rfl
 g4:=by kernel_rfl}
def Tryz.UF:Builder.Extra Tryz.prog Tryz.ZK:={
 sizeBuilder:=by kernel_rfl
 liesBuilder:=by kernel_rfl
 t5:=underlying5
 a5:=isAgg5
 z5:=sizeOf5
 v5:=zeroValue5
 infoByte:=by kernel_rfl
 cellsByte:=by kernel_rfl
 sizeByte:=by kernel_rfl
 neB5:=by decide}
open Go.RowKit Go.Lib in
def Tryz.strings_ReplaceAll (s old new:ByteArray)(m:Int)(w:World)(hs:s.size<4294967281)(hm:w.cell? ⟨1,0,none⟩=some (.int .i64 m))(h1:1<=old.size)(hlen:s.size+Lib.countB s old*new.size<=140737488355328):
  Calls Tryz.prog 384 #[.string s,.string old,.string new] w fun e w'=>
   e= .returned (.string ⟨(Lib.replaceAll s.data.toList old.data.toList new.data.toList).toArray⟩)/\Below w.heap.size w w':=Any.strings_ReplaceAll Tryz.aBG Tryz.UF s old new m w hs hm h1 hlen
def Tryz.al1:Go.Shelf.Ren:=⟨fun|150=>224|153=>285|152=>335|226=>336|227=>337|228=>338|137=>373|119=>374|224=>375|225=>376|217=>395|266=>415|n=>n,fun|9=>9|4=>4|3=>3|5=>5|21=>21|117=>305|116=>304|0=>0|46=>156|124=>324|n=>n,fun|n=>n⟩
def Tryz.aBF:Go.Proofs.Lays.n150 Tryz.prog Tryz.al1:={
 mixed:=by kernel_rfl
 f119:=func374.trans cSz
 f137:=func373.trans cSz
 f150:=func224.trans cSz
 f152:=func335.trans cSz
 f153:=func285.trans cSz
 f217:=func395.trans cSz
 f224:=func375.trans cSz
 f225:=func376.trans cSz
 f226:=func336.trans cSz
 f227:=func337.trans cSz
 f228:=func338.trans cSz
 f266:=func415.trans cSz
 t0:=underlying0
 a0:=isAgg0
 z0:=sizeOf0
 v0:=zeroValue0
 t3:=underlying3
 a3:=isAgg3
 z3:=sizeOf3
 v3:=zeroValue3
 t4:=underlying4
 a4:=isAgg4
 z4:=sizeOf4
 v4:=zeroValue4
 t5:=underlying5
 a5:=isAgg5
 z5:=sizeOf5
 v5:=zeroValue5
 t9:=underlying9
 a9:=isAgg9
 z9:=sizeOf9
 v9:=zeroValue9
 t21:=underlying21
 a21:=isAgg21
 z21:=sizeOf21
 v21:=zeroValue21
 t46:=underlying156
 a46:=isAgg156
 z46:=sizeOf156
 v46:=zeroValue156
 t116:=underlying304
 a116:=isAgg304
 z116:=sizeOf304
 t117:=underlying305
 a117:=isAgg305
 z117:=sizeOf305
 v117:=zeroValue305
 t124:=underlying324
 a124:=isAgg324
 z124:=sizeOf324
 v124:=zeroValue324}
open Go.RowKit Go.Lib in
def Tryz.strings_ContainsAny_laid (s chars:ByteArray)(w:World)(hs:s.size<4294967281)(hcs:chars.size<4294967281)(has:∀(j:Nat) b,s.data.toList[j]?=some b->b.toNat<128)(hac:∀(j:Nat) b,chars.data.toList[j]?=some b->b.toNat<128):
  Calls Tryz.prog 224 #[.string s,.string chars] w fun e w'=>e= .returned (.bool (Lib.containsAny s.data.toList chars.data.toList))/\Below w.heap.size w w':=Any.strings_ContainsAny_laid Tryz.aBF (by kernel_rfl) s chars w hs hcs has hac
def Tryz.al4:Go.Shelf.Ren:=⟨fun|212=>377|263=>396|264=>397|n=>n,fun|46=>156|51=>210|146=>343|53=>212|148=>345|n=>n,fun|n=>n⟩
def Tryz.aBI:Go.Proofs.Lays.n212 Tryz.prog Tryz.al4:={
 mixed:=by kernel_rfl
 f212:=func377.trans cSz
 f263:=func396.trans cSz
 f264:=func397.trans cSz
 t46:=underlying156
 a46:=isAgg156
 z46:=sizeOf156
 v46:=zeroValue156
 t51:=underlying210
 a51:=isAgg210
 z51:=sizeOf210
 v51:=zeroValue210
 t53:=underlying212
 a53:=isAgg212
 z53:=sizeOf212
 v53:=zeroValue212
 t146:=underlying343
 a146:=isAgg343
 z146:=sizeOf343
 v146:=zeroValue343
 t148:=underlying345
 a148:=isAgg345
 z148:=sizeOf345
 v148:=zeroValue345}
open Go.RowKit Go.Lib in
def Tryz.bits_Mul (x y:Nat)(hx:x<18446744073709551616)(hy:y<18446744073709551616)(w:World):
  Calls Tryz.prog 377 #[.int .u64 x,.int .u64 y] w fun e w'=>e= .returned (.tuple #[.int .u64 ((x*y/18446744073709551616:Nat):Int),.int .u64 ((x*y % 18446744073709551616:Nat):Int)])/\w'=w:=Any.bits_Mul Tryz.aBI x y hx hy w
def Tryz.al5:Go.Shelf.Ren:=⟨fun|229=>360|n=>n,fun|9=>9|40=>317|31=>121|152=>335|3=>3|0=>0|4=>4|21=>21|154=>337|n=>n,fun|n=>n⟩
def Tryz.aBJ:Go.Proofs.Lays.n229 Tryz.prog Tryz.al5:={
 mixed:=by kernel_rfl
 f229:=func360.trans cSz
 t0:=underlying0
 a0:=isAgg0
 z0:=sizeOf0
 v0:=zeroValue0
 t3:=underlying3
 a3:=isAgg3
 z3:=sizeOf3
 v3:=zeroValue3
 t4:=underlying4
 a4:=isAgg4
 z4:=sizeOf4
 v4:=zeroValue4
 t9:=underlying9
 a9:=isAgg9
 z9:=sizeOf9
 v9:=zeroValue9
 t21:=underlying21
 a21:=isAgg21
 z21:=sizeOf21
 v21:=zeroValue21
 t31:=underlying121
 a31:=isAgg121
 z31:=sizeOf121
 v31:=zeroValue121
 t40:=underlying317
 a40:=isAgg317
 z40:=sizeOf317
 v40:=zeroValue317
 t152:=underlying335
 a152:=isAgg335
 z152:=sizeOf335
 v152:=zeroValue335
 t154:=underlying337
 a154:=isAgg337
 z154:=sizeOf337
 v154:=zeroValue337}
open Go.RowKit Go.Lib in
def Tryz.strings_FieldsFunc_grows (g:Nat)(lb:Array Value)(eg:∀args w,(callFunc g args).run Tryz.prog w= .ok (.enter g args) w)(p:Nat->Bool)(s:ByteArray)(w:World)(hs:s.size<=4294967296)(hp:PredGrows Tryz.prog g lb p w):
  Calls Tryz.prog 360 #[.string s,.func (.func g) #[] lb] w fun e w'=>∃A,e= .returned (.slice (some ⟨A,0,none⟩) (Lib.goFieldsP p s).length (Lib.goFieldsP p s).length)/\w.heap.size<=A/\
   w'.ownsRow w.heap.size 9 1 (.slice (some ⟨A,0,none⟩) (Lib.goFieldsP p s).length (Lib.goFieldsP p s).length) (Lib.goFieldsP p s).length ((Lib.goFieldsP p s).map Value.string)/\Below w.heap.size w w':=Any.strings_FieldsFunc_grows Tryz.aBJ g lb eg p s w hs hp (by kernel_rfl) (by kernel_rfl)
def Tryz.afD:Go.Shelf.Ren:=⟨fun|16=>357|n=>n,fun|24=>121|9=>9|4=>4|n=>n,fun|n=>n⟩
def Tryz.YN:Go.Proofs.Lays2.n16 Tryz.prog Tryz.afD:={
 mixed:=by kernel_rfl
 f16:=func357.trans cSz
 t4:=underlying4
 a4:=isAgg4
 z4:=sizeOf4
 v4:=zeroValue4
 t9:=underlying9
 a9:=isAgg9
 z9:=sizeOf9
 v9:=zeroValue9
 t24:=underlying121
 a24:=isAgg121
 z24:=sizeOf121
 v24:=zeroValue121
 i9:=by kernel_rfl}
open Go.RowKit Go.Lib in
def Tryz.slices_Clone_string (b off n c:Nat)(zs:List ByteArray)(w:World)(hz:n<=zs.length)(hbig:n*16<=140737488355328)(hc:∀j,j<zs.length->w.cell? ⟨b,off+j,none⟩=some (.string (zs.getD j ByteArray.empty))):
  Calls Tryz.prog 357 #[.slice (some ⟨b,off,none⟩) n c] w fun e w'=>∃v',e= .returned v'/\w'.ownsRow w.heap.size 9 1 v' n ((zs.take n).map (Value.string))/\v'≠ .slice none 0 0/\Below w.heap.size w w':=Any.slices_Clone_string Tryz.YN b off n c zs w hz hbig hc
open Go.RowKit Go.Lib in
def Tryz.slices_Clone_string_nil (n c:Nat)(w:World):
  Calls Tryz.prog 357 #[.slice none n c] w fun e w'=>e= .returned (.slice none 0 0)/\w'=w:=Any.slices_Clone_string_nil Tryz.YN n c w
open Go.RowKit Go.Lib in
def Tryz.slices_Clone_string_zero (a:Addr)(c:Nat)(w:World):
  Calls Tryz.prog 357 #[.slice (some a) 0 c] w fun e w'=>∃v',e= .returned v'/\w'.ownsRow w.heap.size 9 1 v' 0 []/\v'≠ .slice none 0 0/\Below w.heap.size w w':=Any.slices_Clone_string_zero Tryz.YN a c w
def Tryz.al3:Go.Shelf.Ren:=⟨fun|194=>359|n=>n,fun|31=>121|9=>9|3=>3|4=>4|0=>0|n=>n,fun|n=>n⟩
def Tryz.aq5:Go.Proofs.Lays.n194 Tryz.prog Tryz.al3:={
 mixed:=by kernel_rfl
 f194:=func359.trans cSz
 t0:=underlying0
 a0:=isAgg0
 z0:=sizeOf0
 v0:=zeroValue0
 t3:=underlying3
 a3:=isAgg3
 z3:=sizeOf3
 v3:=zeroValue3
 t4:=underlying4
 a4:=isAgg4
 z4:=sizeOf4
 v4:=zeroValue4
 t9:=underlying9
 a9:=isAgg9
 z9:=sizeOf9
 v9:=zeroValue9
 t31:=underlying121
 a31:=isAgg121
 z31:=sizeOf121
 v31:=zeroValue121}
open Go.RowKit Go.Lib Go.Sort in
def Tryz.slices_Compact_string (blk off cap:Nat)(zs:List (List UInt8))(w:World)(hH:Holds encStr w blk off zs.toArray)(hsz:zs.length<=9223372036854775807)(hcap:zs.length<=cap):
  Calls Tryz.prog 359 #[.slice (some ⟨blk,off,none⟩) zs.length cap] w fun e w'=>e= .returned (.slice (some ⟨blk,off,none⟩) (Lib.compact zs).length cap)/\∃q,w'=putRow encStr (Sort.ahead w q) blk off (Lib.compact zs++List.replicate (zs.length-(Lib.compact zs).length) []).toArray:=Any.slices_Compact_string Tryz.aq5 blk off cap zs w hH hsz hcap
open Go.RowKit Go.Lib Go.Sort in
def Tryz.slices_Compact_string_empty (a:Option Addr)(cap:Nat)(w:World):
  Calls Tryz.prog 359 #[.slice a 0 cap] w fun e w'=>e= .returned (.slice a 0 cap)/\w'=w:=Any.slices_Compact_string_empty Tryz.aq5 a cap w
end Go.Proofs
end
section
namespace Go.Dv
open Go.RowKit
variable [kW]
variable {P:Program}{f:FuncId}{fn:Func}{c:Code}{n:Nat}{rs:List ResultVar}{ds:List D}{m:Nat}{dm:D}{Q:S->Prop}
def aFZ {T:TypeId->TyE}(hG:∀t,Good P T t) (hf:P.funcs[f]?=some fn) (hb:fn.body=some c) (hn':fn.ntmps=n) (hn:n<=1000000) (hd:ds.length<=n)
  (hr:fn.results=rs.toArray) (h:∀w0 ow0,OkC P n w0 ow0 none c (mutSt ds m dm) (endR T rs Q)):avA P f ds m dm Q:=by
 subst hn';intro w ow vs t l ht hL hnew hvs hm hargs hV;have hm6:m<1000000:=by omega
 refine calls_of_wp hf hb ?_
 have hav:∀i,i<ds.length->aval {tmps:=vs++Array.replicate (fn.ntmps-vs.size) undef,defers:=[]} i=vs.getD i undef:=by
  intro i hi;unfold aval;rw[if_pos (by omega)];simp only[aF];rw[eU (by omega)]
 have hfit:Fits P fn.ntmps w (I6 l m ow) (I6 l m ow) (mutSt ds m dm) {tmps:=vs++Array.replicate (fn.ntmps-vs.size) undef,defers:=[]} w:=by
  refine⟨rfl,by simp;omega,hn,(hL.mono fun b o h1 h2=>⟨h1,mE h2⟩),⟨rfl,rfl,rfl,k_Nat_le_refl _,fun _ _ _=>rfl⟩,fun _ _ h=>h,fun b hb=>mE (hnew b hb),?_,fun _ _ _ h=>⟨rfl,h⟩,fun i=> ?_⟩
  ·unfold mutSt argSt;rw[qE (by unfold far0;omega),k_List_getElem__eq_none (by unfold far0;omega)]
  ·by_cases him:i=m
   ·subst him;simp only[mutSt,put_eq,SV];rw[hav i hm];exact V.tr (fun b _=>⟨fun ho=>⟨rfl,mE ho⟩,fun q hq=>⟨rfl,adZ hq⟩⟩) hV
   ·simp only[mutSt,qE him];unfold argSt;cases hdi:ds[i]? with
    |none=>trivial
    |some d=>
     have hi:i<ds.length:=(aD.1 hdi).1;simp only[SV];rw[hav i hi];exact V.trf (fun b _ ho=>⟨rfl,mE ho⟩) (hargs i d hdi him)
 refine h w _ _ w ⟨_,hfit⟩ (by intro m v e;cases e) _ fun e s' a' w' hK hR hp'=> ?_
 have key:(retL T rs s' fun ds s2=>Q (retS ds))->bodyPost P fn (fun e w'=>∃v ow' r,e= .returned v/\Q r/\w'.os=w.os/\w'.tape=w.tape/\w'.output=w.output/\w.heap.size<=w'.heap.size/\
   (∀b,b<w.heap.size->(∀q,ow b≠some (q++l))->w'.heap[b]?=w.heap[b]?/\ow' b=ow b)/\(∀b,w'.heap.size<=b->ow' b=none)/\S.plain r=true/\∀s a,SV P w' ow' s a t r v) .ret a' w':=by
  intro hK;obtain⟨ow1,hf1⟩:=hR;obtain⟨vals,ow2,s2,ds2,hQ,hf2,hl1,hl2,hrun,hvals,hkeep⟩:=hf1.retL hG (fun k=>if rs.length=1 then[]else[k]) rs 0 hK
  have hres:(results fn a'.tmps).run P w'= .ok (if h:vals.toArray.size=1 then vals.toArray[0]else .tuple vals.toArray) w':=by
   unfold results;rw[hr];have hb:∀{α β:Type}(x:Sem α) (g:α->Sem β),Sem.run P (Sem.bind x g) w'=(Sem.run P x w').andThen fun a w'=>Sem.run P (g a) w':=fun x g=>aH ..;simp only[rW,Functor.map,aH,aP];rw[hb,hrun _ (XC a'.tmps P w' _ (fun _=>rfl) fun _ _=>rfl)];rfl
  refine⟨hf1.nodef,_,hres,?_⟩
  have hmiss:∀b,b<w.heap.size->(∀q,ow b≠some (q++l))->w'.heap[b]?=w.heap[b]?/\(ow b=none->ow2 b=none)/\(∀lab,ow b=some lab->ow2 b=some (lab++[far0])):=by
   intro b hlt hno;cases ho:ow b with
   |none=>exact⟨hf2.bel.block b hlt (mE ho),fun _=>hf2.own b hlt (mE ho),fun lab e=>by cases e⟩
   |some lab=>
    have hlab:=ZL (l:=l) (m:=m) ho (fun hu=>by obtain⟨q,hq⟩:=hu;exact hno q (by rw[ho,hq]));obtain⟨g1,g2⟩:=hf2.keep b hlt lab hlab;exact⟨g1,fun e=>(by cases e),fun lab' e=>by obtain rfl:=k_Option_some_inj e;exact g2⟩
  have hnone:∀b,ow2 b=none->jQ w l m t ow ow2 b=none:=by
   intro b hb;unfold jQ;split
   ·rename_i hc;cases ho:ow b with
    |none=>rfl
    |some lab=>have:=(hmiss b hc.1 hc.2).2.2 lab ho;rw[hb]at this;cases this
   ·rw[hb]
  have hlast:∀b q j,ow2 b=some (q++[j])->j≠far0->¬(b<w.heap.size/\∀q,ow b≠some (q++l)):=by
   rintro b q j hq hj ⟨h1,h2⟩;obtain⟨_,g1,g2⟩:=hmiss b h1 h2;cases ho:ow b with
   |none=>rw[g1 ho]at hq;cases hq
   |some lab=>
    rw[g2 lab ho]at hq;have:=congrArg List.getLast? (k_Option_some_inj hq);simp at this;exact hj this.symm
  have hmf:m≠far0:=by unfold far0;omega
  have hmr:m≠res0:=by unfold res0;omega
  have hkm:Keeps w' ow2 [m] w' (jQ w l m t ow ow2) l:=fun b _=>⟨fun ho=>⟨rfl,hnone b ho⟩,fun q hq=>⟨rfl,by
   unfold jQ;rw[if_neg (hlast b q m hq hmf),hq];simp⟩⟩
  have hk:∀l2,Keeps w' ow2 (l2++[res0]) w' (jQ w l m t ow ow2) (l2++[t]):=fun l2 b _=>⟨fun ho=>⟨rfl,hnone b ho⟩,fun q hq=>⟨rfl,by
   have hq':ow2 b=some ((q++l2)++[res0]):=by rw[hq];simp
   unfold jQ;rw[if_neg (hlast b _ res0 hq' (by unfold res0 far0;omega)),hq'];simp[k_Ne_symm hmr]⟩⟩
  have hq:Quiet w' ow2 w' (jQ w l m t ow ow2):=fun b _ ho=>⟨rfl,hnone b ho⟩
  have part:∀(j:Nat) (p:D×Bool),ds2[j]?=some p->∃v,vals[j]?=some v/\(if(p.2||p.1.frz)=true then V P w' (jQ w l m t ow ow2) p.1.fz [] v else V P w' (jQ w l m t ow ow2) p.1 ((if rs.length=1 then[]else[j])++[t]) v):=by
   intro j p hj;obtain⟨v,h1,h2,h3⟩:=hvals j p hj;rw[bU]at h2;refine⟨v,h1,?_⟩;by_cases hp:(p.2||p.1.frz)=true
   ·rw[if_pos hp]
    have hfz:p.1.fz=p.1:=by
     rcases bI _ _▸hp with hp|hp
     ·exact h3 hp
     ·exact D.TC hp
    rw[←hfz]at h2;exact V.trf hq h2
   ·rw[if_neg hp];exact V.tr (hk _) h2
  refine⟨_,jQ w l m t ow ow2,retS ds2,rfl,hQ,hf2.bel.os,hf2.bel.tape,hf2.bel.output,hf2.bel.size,fun b hb hno=>⟨(hmiss b hb hno).1,by unfold jQ;rw[if_pos ⟨hb,hno⟩]⟩,fun b hb=>hnone b (hf2.new b hb),?_,fun s a=> ?_⟩
  ·unfold retS;split
   ·split<;>rfl
   ·rfl
  ·by_cases hone:rs.length=1
   ·have hd1:ds2.length=1:=by rw[hl1,hone]
    have hv1:vals.length=1:=by rw[hl2,hone]
    obtain⟨⟨d,b⟩,rfl⟩:=eD.1 hd1;obtain⟨v,rfl⟩:=eD.1 hv1;obtain⟨v',h1,h2⟩:=part 0 (d,b) rfl;obtain rfl:v=v':=by simpa using h1
    rw[if_pos hone]at h2;simp only[retS];by_cases hp:(b||d.frz)=true
    ·rw[if_pos hp]at h2|-
     exact h2
    ·rw[if_neg hp]at h2|-
     exact h2
   ·have hd1:∀p,ds2≠[p]:=fun p e=>by rw[e]at hl1;simp at hl1;exact hone hl1.symm
    have htup:retS ds2= .tup (ds2.map fun p=>if p.2||p.1.frz then .val p.1 else .own p.1):=by
     unfold retS;split
     ·rename_i d b;exact absurd rfl (hd1 _)
     ·rfl
    rw[htup];refine⟨vals.toArray,?_,by simp[hl1,hl2],fun j x hx=> ?_⟩
    ·rw[dif_neg];simp[hl2,hone]
    ·simp only[aN,aK]at hx;obtain⟨p,hp,rfl⟩:=hx;obtain⟨v,h1,h2⟩:=part j p hp;have hv:vals.toArray.getD j undef=v:=by simp[aF,h1]
     rw[hv];by_cases hpf:(p.2||p.1.frz)=true
     ·rw[if_pos hpf]at h2|-
      exact h2
     ·rw[if_neg hpf]at h2|-
      rw[if_neg hone]at h2;exact h2
 cases e with
 |normal=>exact key hK
 |ret=>exact key hK
 |_=>exact hK.elim
def fT {T:TypeId->TyE}[hG:vM P T] (sp:List Nat) (hn':fn.ntmps=n) (h:∀w0 ow0,@WC _ P T n w0 ow0 none sp ⟨c⟩ ((argSt ds).put m (.own dm)) ⟨endR T rs Q⟩) (hf:P.funcs[f]?=some fn:=by rfl)
  (hb:fn.body=some c:=by rfl) (hr:fn.results=rs.toArray:=by rfl) (hn:n<=1000000:=by decide) (hd:ds.length<=n:=by simp):avA P f ds m dm Q:=aFZ hG.g hf hb hn' hn hd hr fun w0 ow0=>wcI hG.g sp (h w0 ow0) (yF c)
end Go.Dv
end
section
namespace Go.Proofs.YtigjbamofhdchaaGreatDoor
open Go.Dv Go.Pl
attribute [simp ↓] alT alO alU alP alS alR alQ alV arR arQ arS aj0 ajZ aj1 awI awJ ajY ajX ajW afW anH ahG awK awL
attribute [simp] agZ Dv.ones D.adI D.M5 D.J2 D.pJ D.nC S.closed acB NB R3 Q6 aq8 amH alC agI SA Y4 awC tmpsOf al9 az3 YU St.fresh S.fresh St.EG St.R7 wG amA ar0 ar1 arZ arY anX aq0 aq1 aC6 aw7 aw8 aC7 aq2 ak3 lL stepCall KQ NC acT afP akQ akT amM alD AY D.flat D.xD GX WG oneK uF CS af3 C9 SB zR EB JK acS UT PU dcall X0 acU Y8 St.DN S.ZW St.IE S.EA mU evS slotOf nM asSl srcOf Src.st Src.from Src.data SLv.xs MH setParts EW rowOf places St.set St.jH St.free St.kill St.put St.KS St.OV S.drop S.root S.fF Value.oneCell' dbin binV arithK strK unV dconvI eqB bndK dsliceT D.aeA isAny_one isAny_sl isAny_agg isAny_bx isAny_any isAgg_one isAgg_sl isAgg_agg isAgg_bx isAgg_any isHd_one isHd_sl isHd_agg isHd_bx isHd_any hkid_one hkid_sl hkid_agg hkid_bx hkid_any hsetKid_one hsetKid_sl hsetKid_agg hsetKid_bx hsetKid_any D.w D.ws D.frz D.vU D.fz D.fzs D.sub D.upd D.free TyE.ok Ty.isAgg dstOk lst argSt thenK blockK endK retK numb argB endR retL retS rvOp res0 far0 QL_nil QL_put QL_lst QL_arg stepD quietOp qmove endM mutSt gC_true gC_false gQ_eq ba_size ba_get ba_append ba_extract ba_lt take_drop_len ByteArray.mk.injEq fzs_app wrap_u8 u8_eq int_beq int_bne all_drop take_drop_map fzs_take fzs_drop all_take all_take_drop QM QF_nil QF_put QF_lst frK_put putAll rootIn rootOut rootOwn detOp List.lookup stepF fnOf fnC argsOf dcallF dcallMF vcW_nil vcW_put vcW_lst vcW_kill stepW wrapV St.av1 fzs_tail fzs_set frzs_tail frzs_set1 frzs_append S.plain wc_skip wc_ret wc_exit wc_label wc_block wc_loop wc_rf wc_draw wc_cond wc_region wc_seq holdA_eq holdB_eq T3 T4 T5 T9 T22 T24 T25 T27 T29 T30 T31 T33 T34 T36 T39 T42 T44 T45 T47 T48 T49 T51 T52 T54 T82 T83 T89 T101 T121 T123 T126 T129 T138 T151 T156 T162 T164 T170 T184 T186 T188 T192 T202 T227 T231 T233 T236 T243 T252 T253 T280 T284 T287 T298 T309 T340 enF muF mu62 mu67 mu108 mu113 mu118 mu175 mu178 mu179 mu251 mu279 mu291 mu293 mu294 mu341 mu358 okF QT QO endW wSt putG putR putC getG gl_ne gl_en gl_lt gl_eq gl_eq2 argB_nil argB_cons Go.Value.oneCell' Go.IntKind.bits List.lookup
end Go.Proofs.YtigjbamofhdchaaGreatDoor
end
section
namespace Go.Proofs.YtigjbamofhdchaaGreatDoor
open Go.Dv
instance:vM Tryz.prog T:=⟨good⟩
end Go.Proofs.YtigjbamofhdchaaGreatDoor
end
section
namespace Go
def qZ:= @BitVec.toNat_ofNat
def iI:= @Bool.false_and
def qL:= @Int.eq_ofNat_of_zero_le
def nH:= @List.find?_eq_none
def sP:= @List.length_replicate
def wD:= @List.map_replicate
def lH:= @List.replicate_succ'
end Go
end
