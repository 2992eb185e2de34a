/- Lemmas and walks that the law leans on, part V4. No condition. -/
import Derived.Shelf.Strings.Builder1
import Derived.Shelf.Strings.Builder2
import Derived.Shelf.Small.Utf8
import Derived.Shelf.Small.Bits
import Derived.Shelf.Small.Strs
import Derived.Shelf.Small.Wraps
import Derived.Shelf.Strings.BuilderF
import Derived.Shelf.Strings.BuilderK
import Derived.Shelf.Utf8.RuneCount
import Derived.Shelf.Strings.Builder2Cap
import Derived.Shelf.Strconv.Atoi
import Derived.Shelf.Strconv.Itoa0
import Derived.Shelf.Strconv.Itoa1
import Derived.Shelf.LaysM
import Derived.Shelf.Strconv.Itoa2
import Derived.Shelf.Strconv.AtoiErrFast
import Derived.Shelf.Strconv.ParseIntEmpty
import Derived.Shelf.Strconv.AtoiFail
import Derived.Shelf.Strconv.Clone
import Derived.Shelf.Strconv.SyntaxError
import Derived.Shelf.LaysC
import Derived.Shelf.Strconv.ToError
import Derived.Shelf.Strconv.Lower
import Derived.Shelf.Strconv.ParseUint10
import Derived.Shelf.Strconv.ParseUint10Empty
import Derived.Shelf.Strconv.ParseUint10Any
import Derived.Shelf.Strconv.ParseInt10
import Derived.Shelf.Strconv.AtoiLong
import Derived.Shelf.Strconv.AtoiInnerAll
import Derived.Shelf.Strconv.RangeError
import Derived.Shelf.Strconv.ToErrorRange
import Derived.Shelf.Strconv.AtoiAll
import Derived.Shelf.Strconv.ErrVarAll
import Derived.Shelf.Strings.Search1
import Derived.Shelf.Strings.Search2
import Derived.Shelf.Strings.Search3
import Derived.Shelf.Strings.Count
import Derived.Shelf.Strings.Shaped
import Derived.Shelf.Sort.Plain
import Derived.Shelf.Strings.Prefix
import Derived.Shelf.Strings.Split
import Derived.Shelf.Strings.Replace
import Derived.Shelf.Strings.SplitShaped
import Derived.Shelf.Unicode.Decode
import Derived.Shelf.Strings.Runes
import Derived.Shelf.Strings.RuneCount
import Derived.Shelf.Strings.IndexAny
import Derived.Shelf.Strings.AsciiSet
import Derived.Shelf.Strings.IndexAnyAll
import Derived.Shelf.Bits.Mul64
import Derived.Shelf.Unicode.DecodeSlow
import Derived.Shelf.Unicode.DecodeAny
import Derived.Shelf.Strings.FieldsFuncAny
import Derived.Shelf.Strings.FieldsFuncGrows
import Derived.Shelf.Strings.BuilderCap
import Derived.Shelf.Slices.Clone
import Derived.Shelf.Slices.CompactS
import Derived.Shelf.Slices.SearchI
import Derived.Shelf.Slices.Cells
import Derived.Shelf.SlicesE.Clone
import Derived.ChangeVars
import Derived.Handed
import Derived.LaidLaws
import Derived.Stop.LaidErr
import Derived.Test.YtafdbpehjfmnpaaGreatDoorCards
import Derived.Test.YtafdbpehjfmnpaaGreatDoorTie
import Derived.Laws.CopyOwn
import Derived.LoopTactic
import Derived.Sort.Grow
import Derived.Still
import Derived.StillTactics
import Derived.Test.YtafdbpehjfmnpaaGreatDoorV3
set_option linter.unusedVariables false
set_option linter.defProp false
set_option linter.unusedSimpArgs false
set_option linter.unusedSectionVars false
set_option maxRecDepth 10000
set_option maxHeartbeats 1000000
def Go.cSz {α:Type}{a b:α}(h:a=b:=by kernel_rfl):some a=some b:=congrArg some h
section
namespace Go.Er
open Go.RowKit
def aiJ (w:World)(a:Option Addr)(L:L2):Prop:=
 ∀i,(h:i<L.length)->∃b o ai ci,a=some ⟨b,o,none⟩/\w.cell? ⟨b,o+i,none⟩=some (.slice ai L[i].length ci)/\Ints w ai L[i]
variable {w':World}{a:Option Addr}
def aiJ.ext {w:World}{L:L2}(h:aiJ w a L)(e:Ext w w'):aiJ w' a L:=by
 intro i hi;obtain⟨b,o,ai,ci,h1,h2,h3⟩:=h i hi;exact⟨b,o,ai,ci,h1,e.at h2,h3.ext e⟩
variable {B:Nat}{e:TypeId}{v:Value}{cs:List Value}{b:Nat}
def Own1.setOther {w:World}(h:Own1 w B e v cs){j:Nat}(hne:v.ownBlock≠some b)(u:Value):Own1 (w.setCell ⟨b,j,none⟩ u) B e v cs:=by
 refine⟨h.1,?_⟩;rcases h.2 with h2|⟨g,cap,cur,rfl,hg,hh,r⟩
 ·exact Or.inl h2
 ·refine Or.inr ⟨g,cap,cur,rfl,hg,?_,r⟩;rw[heap_setCell_other w ⟨b,j,none⟩ g u (fun e=>hne (by simp only[Value.ownBlock];rw[e]))];exact hh
def Own1.shape {w:World}(h:Own1 w B e v cs)(hne:0<cs.length):∃g cap,v= .slice (some ⟨g,0,none⟩) cs.length cap:=by
 rcases h.2 with⟨_,hn⟩|⟨g,cap,cur,rfl,_⟩
 ·omega
 ·exact⟨g,cap,rfl⟩
def Apart.nil (v:Value):Apart (.slice none 0 0) v:=fun b h=>by simp[Value.ownBlock]at h
def Own2 (w:World)(B:Nat)(e2 e1:TypeId)(v:Value)(vs:List Value)(L:List (List Value)):Prop:=
 Own1 w B e2 v vs/\vs.length=L.length/\(∀i,(h:i<vs.length)->(h':i<L.length)->Own1 w B e1 vs[i] L[i]/\Apart vs[i] v)/\
  ∀i j,(h:i<vs.length)->(h':j<vs.length)->i≠j->Apart vs[i] vs[j]
variable {e2 e1:TypeId}{vs:List Value}{L:List (List Value)}
def Own2.ext {w:World}(h:Own2 w B e2 e1 v vs L)(hE:Ext w w'):Own2 w' B e2 e1 v vs L:=
 ⟨h.1.ext hE,h.2.1,fun i h1 h2=>⟨(h.2.2.1 i h1 h2).1.ext hE,(h.2.2.1 i h1 h2).2⟩,h.2.2.2⟩
variable {B':Nat}
def Own2.mono {w:World}(h:Own2 w B e2 e1 v vs L)(hB:B'<=B):Own2 w B' e2 e1 v vs L:=
 ⟨h.1.mono hB,h.2.1,fun i h1 h2=>⟨(h.2.2.1 i h1 h2).1.mono hB,(h.2.2.1 i h1 h2).2⟩,h.2.2.2⟩
def Own2.empty {w:World}(h:Own1 w B e2 v []):Own2 w B e2 e1 v [] []:=
 ⟨h,rfl,fun i h1 _=>by simp at h1,fun i j h1 _ _=>by simp at h1⟩
def Own2.push {w:World}{v':Value}{u:Value}(h:Own2 w B e2 e1 v vs L)
  (hu:Own1 w B e1 u cs) (huv:Apart u v) (hus:∀i,(hi:i<vs.length)->Apart u vs[i])
  (hv':Own1 w' B e2 v' (vs++[u])) (hg:w.grownBy w' v.ownBlock) (hb:(v'.ownBlock=v.ownBlock/\v.ownBlock≠none)\/v'.ownBlock=some w.heap.size):
  Own2 w' B e2 e1 v' (vs++[u]) (L++[cs]):=by
 obtain⟨h1,h2,h3,h4⟩:=h;have hbu:=hu.beside huv.symm hg hb;refine⟨hv',by simp[h2],?_,?_⟩
 ·intro i hi hi';simp only[aP,aR,jD]at hi hi';by_cases hlt:i<vs.length
  ·have:=h3 i hlt (by omega);have hbi:=this.1.beside this.2.symm hg hb;simp only[iI hlt,iI (show i<L.length by omega)];exact⟨hbi.1,hbi.2.symm⟩
  ·have e1:(vs++[u])[i]'(by simp;omega)=u:=by rw[lD (by omega)];simp
   have e2:(L++[cs])[i]'(by simp;omega)=cs:=by rw[lD (by omega)];simp
   rw[e1,e2];exact⟨hbu.1,hbu.2.symm⟩
 ·intro i j hi hj hne;simp only[aP,aR,jD]at hi hj;by_cases hli:i<vs.length
  ·by_cases hlj:j<vs.length
   ·simp only[iI hli,iI hlj];exact h4 i j hli hlj hne
   ·obtain rfl:j=vs.length:=by omega
    simp only[iI hli,lD (k_Nat_le_refl _),eO];exact(hus i hli).symm
  ·obtain rfl:i=vs.length:=by omega
   have hlj:j<vs.length:=by omega
   simp only[iI hlj,lD (k_Nat_le_refl _),eO];exact hus j hlj
variable {n k:Nat}
def Own2.put {w w0:World}{cap:Nat}{x:Value}(h:Own2 w w0.heap.size e2 e1 (.slice (some ⟨b,0,none⟩) n cap) vs L) (hE:Ext w0 w')
  (hk:k<vs.length) (hx:Own1 w' w0.heap.size e1 x cs) (hg:w.grownBy w' vs[k].ownBlock) (hb:(x.ownBlock=vs[k].ownBlock/\vs[k].ownBlock≠none)\/x.ownBlock=some w.heap.size):
  Own2 (w'.setCell ⟨b,k,none⟩ x) w0.heap.size e2 e1 (.slice (some ⟨b,0,none⟩) n cap) (vs.set k x) (L.set k cs)/\Ext w0 (w'.setCell ⟨b,k,none⟩ x):=by
 obtain⟨h1,h2,h3,h4⟩:=h;have hkv:=(h3 k hk (by omega)).2;have hv:=h1.beside hkv hg hb;have hset:=hv.1.set hE k x;have hne:∀y:Value,Apart y (.slice (some ⟨b,0,none⟩) n cap)->y.ownBlock≠some b:=fun y hy hyb=>hy b hyb rfl;refine⟨⟨hset.1,by simp[h2],?_,?_⟩,hset.2⟩
 ·intro i hi hi';have hi2:i<vs.length:=by simpa using hi
  have hi3:i<L.length:=by simpa using hi'
  rw[nD,nD];by_cases hik:k=i
  ·rw[if_pos hik,if_pos hik];exact⟨hx.setOther (hne _ hv.2) x,hv.2⟩
  ·rw[if_neg hik,if_neg hik];have:=h3 i hi2 hi3;have hbi:=this.1.beside (h4 k i hk hi2 hik) hg hb;exact⟨hbi.1.setOther (hne _ this.2) x,this.2⟩
 ·intro i j hi hj hne2;have hi2:i<vs.length:=by simpa using hi
  have hj2:j<vs.length:=by simpa using hj
  rw[nD,nD];by_cases hik:k=i
  ·rw[if_pos hik,if_neg (by omega)];subst hik;exact((h3 j hj2 (by omega)).1.beside (h4 k j hk hj2 hne2) hg hb).2
  ·rw[if_neg hik];by_cases hjk:k=j
   ·rw[if_pos hjk];subst hjk;exact((h3 i hi2 (by omega)).1.beside (h4 k i hk hi2 (k_Ne_symm hne2)) hg hb).2.symm
   ·rw[if_neg hjk];exact h4 i j hi2 hj2 hne2
def LD (B:Nat)(w w':World):Prop:=w.heap.size<=w'.heap.size/\∀k,B<=k->k<w.heap.size->w'.heap[k]?=w.heap[k]?
def LD.azL {w:World}(h:Ext w w'):LD B w w':=⟨h.size,fun k _ hk=>h.block k hk⟩
def LD.trans {a b c:World}(h:LD B a b)(k:LD B b c):LD B a c:=
 ⟨k_Nat_le_trans h.1 k.1,fun i hi hk=>(k.2 i hi (dR hk h.1)).trans (h.2 i hi hk)⟩
def LD.refl (B:Nat)(w:World):LD B w w:=⟨k_Nat_le_refl _,fun _ _ _=>rfl⟩
def LD.cell {w:World}(h:LD B w w'){o:Nat}(hb:B<=b)(hc:w.cell? ⟨b,o,none⟩=some v):w'.cell? ⟨b,o,none⟩=some v:=
 (World.cell?_of_block (a:=⟨b,o,none⟩) (h.2 b hb (lt_of_cell hc))).trans hc
def LD.setCell (w:World)(hb:b<B)(o:Nat)(u:Value):LD B w (w.setCell ⟨b,o,none⟩ u):=
 ⟨by simp,fun k hk _=>heap_setCell_other w ⟨b,o,none⟩ k u (by simp;omega)⟩
abbrev Rel (α:Type):=Nat->World->List Value->α->Prop
structure ZR {α:Type}(R:Rel α):Prop where
 keep:∀{B w w' vs x},LD B w w'->R B w vs x->R B w' vs x
 mono:∀{B B' w vs x},B'<=B->R B w vs x->R B' w vs x
variable {α:Type}
def ZR.ext {R:Rel α}(g:ZR R){w:World}{x:α}(h:R B w vs x)(hE:Ext w w'):R B w' vs x:=g.keep (LD.azL hE) h
def afZ (k:Nat)(R:Rel α)(B:Nat)(w:World)(a:Option Addr)(l:List α):Prop:=
 l.length<=maxLen/\∀i,(h:i<l.length)->∃b o vs,a=some ⟨b,o,none⟩/\B<=b/\vs.length=k/\(∀j,(hj:j<vs.length)->w.cell? ⟨b,o+i*k+j,none⟩=some vs[j])/\R B w vs l[i]
variable {l:List α}
def afZ.keep {R:Rel α}(g:ZR R){w:World}(h:afZ k R B w a l)(hk:LD B w w'):afZ k R B w' a l:=by
 refine⟨h.1,fun i hi=> ?_⟩;obtain⟨b,o,vs,h1,h2,h3,h4,h5⟩:=h.2 i hi;exact⟨b,o,vs,h1,h2,h3,fun j hj=>hk.cell h2 (h4 j hj),g.keep hk h5⟩
def afZ.mono {R:Rel α}(g:ZR R){w:World}(h:afZ k R B w a l)(hB:B'<=B):afZ k R B' w a l:=by
 refine⟨h.1,fun i hi=> ?_⟩;obtain⟨b,o,vs,h1,h2,h3,h4,h5⟩:=h.2 i hi;exact⟨b,o,vs,h1,k_Nat_le_trans hB h2,h3,h4,g.mono hB h5⟩
def afZ.ext {R:Rel α}(g:ZR R){w:World}(h:afZ k R B w a l)(hE:Ext w w'):afZ k R B w' a l:=h.keep g (LD.azL hE)
def setCells (w:World)(N:Nat):Nat->List Value->World
 |_,[]=>w
 |o,u::us=>setCells (w.setCell ⟨N,o,none⟩ u) N (o+1) us
def setMany (arr:Array Value):Nat->List Value->Array Value
 |_,[]=>arr
 |o,u::us=>setMany (arr.setIfInBounds o u) (o+1) us
def YA:∀(us:List Value) (arr:Array Value) (o:Nat),(setMany arr o us).size=arr.size
 |[],_,_=>rfl
 |u::us,arr,o=>by rw[setMany,YA us];simp
def QA:∀(us:List Value) (arr:Array Value) (o m:Nat),o+us.length<=arr.size->(setMany arr o us)[m]?=if o<=m/\m<o+us.length then us[m-o]? else arr[m]?
 |[],arr,o,m,_=>by
  have:¬(o<=m/\m<o+([]:List Value).length):=by simp
  rw[if_neg this];rfl
 |u::us,arr,o,m,h=>by
  simp only[aR]at h;rw[setMany,QA us _ (o+1) m (by simp;omega)];by_cases h1:m=o
  ·subst h1;have h2:¬(m+1<=m/\m<m+1+us.length):=by omega
   have h3:m<=m/\m<m+(u::us).length:=by simp
   rw[if_neg h2,if_pos h3];have h4:m<arr.size:=by omega
   simp[h4]
  ·by_cases h2:o+1<=m/\m<o+1+us.length
   ·have h3:o<=m/\m<o+(u::us).length:=by simp;omega
    rw[if_pos h2,if_pos h3];have h4:m-o=(m-(o+1))+1:=by omega
    rw[h4,qZ]
   ·have h3:¬(o<=m/\m<o+(u::us).length):=by simp;omega
    rw[if_neg h2,if_neg h3];rw[Array.getElem?_setIfInBounds];have h4:¬o=m:=fun h=>h1 h.symm;rw[if_neg h4]
variable {N:Nat}
def Box.setCells :∀(us:List Value) {w:World}{arr:Array Value}(o:Nat),Box w N e arr->Box (setCells w N o us) N e (setMany arr o us)
 |[],_,_,_,h=>h
 |u::us,_,_,o,h=>Box.setCells us (o+1) (h.set o u)
def SH (hB:N<B):∀(us:List Value) (w:World) (o:Nat),LD B w (setCells w N o us)
 |[],_,_=>⟨k_Nat_le_refl _,fun _ _ _=>rfl⟩
 |u::us,w,o=>(LD.setCell w hB o u).trans (SH hB us _ (o+1))
def xZ (k:Nat)(R:Rel α)(N:Nat)(e:TypeId)(n:Nat)(w:World)(l:List α)(i:Nat):Prop:=
 ∃arr:Array Value,Box w N e arr/\arr.size=n*k/\∀j,(hj:j<l.length)->j<i->∃vs:List Value,vs.length=k/\(∀t,(ht:t<vs.length)->arr[j*k+t]?=some vs[t])/\R (N+1) w vs l[j]
variable {i:Nat}
def xZ.cell {R:Rel α}{w:World}(h:xZ k R N e n w l i){m:Nat}(hm:m<n*k):∃y,w.cell? ⟨N,m,none⟩=some y:=by
 obtain⟨arr,h1,h2,_⟩:=h;have h3:m<arr.size:=by omega
 exact⟨arr[m],by rw[h1.cell m];simp[h3]⟩
def xZ.free {R:Rel α}{w:World}(h:xZ k R N e n w l i)(m:Nat):w.frozen? ⟨N,m,none⟩=false:=by
 obtain⟨arr,h1,_⟩:=h;exact h1.free m
def xZ.lt {R:Rel α}{w:World}(h:xZ k R N e n w l i):N<w.heap.size:=by
 obtain⟨arr,h1,_⟩:=h;exact h1.lt
def xZ.ext {R:Rel α}(g:ZR R){w:World}(h:xZ k R N e n w l i)(hE:Ext w w'):xZ k R N e n w' l i:=by
 obtain⟨arr,h1,h2,h3⟩:=h;refine⟨arr,h1.ext hE,h2,fun j hj hji=> ?_⟩;obtain⟨vs,h4,h5,h6⟩:=h3 j hj hji;exact⟨vs,h4,h5,g.ext h6 hE⟩
def xZ.start {R:Rel α}{w:World}{xs:List Value}(h:w.ownsRow B e k (.slice (some ⟨N,0,none⟩) n n) n xs)(hn:l.length<=n):xZ k R N e n w l 0:=by
 rcases h.2 with⟨h1,_⟩|⟨g,cap,cur,h1,_,h2,_,_,h3,_⟩
 ·cases h1
 ·cases h1;exact⟨cur,h2,h3,fun j _ hj=>absurd hj (by omega)⟩
def xZ.step {α:Type}{k:Nat}{R:Rel α}(g:ZR R) {N:Nat}{e:TypeId}{n:Nat}{w:World}{l:List α}{i:Nat}(h:xZ k R N e n w l i) (hi:i<l.length) (hn:l.length<=n)
  {us:List Value}(hu:us.length=k) (hR:R (N+1) w us l[i]):xZ k R N e n (setCells w N (i*k) us) l (i+1):=by
 obtain⟨arr,h1,h2,h3⟩:=h;have hb:(i+1)*k<=n*k:=aS k (by omega);have hb2:i*k+us.length<=arr.size:=by rw[h2,hu];rw[k_Nat_add_mul]at hb;omega
 have hkp:=SH (N:=N) (B:=N+1) (by omega) us w (i*k);refine⟨_,h1.setCells us (i*k),by rw[YA];exact h2,fun j hj hji=> ?_⟩;by_cases hji2:j=i
 ·subst hji2;refine⟨us,hu,fun t ht=> ?_,g.keep hkp hR⟩;rw[QA us arr _ _ hb2,if_pos ⟨by omega,by omega⟩];have:j*k+t-j*k=t:=by omega
  rw[this];simp[ht]
 ·obtain⟨vs,h4,h5,h6⟩:=h3 j hj (by omega);refine⟨vs,h4,fun t ht=> ?_,g.keep hkp h6⟩;have hlt:(j+1)*k<=i*k:=aS k (by omega);rw[k_Nat_add_mul]at hlt;rw[QA us arr _ _ hb2,if_neg (by omega)];exact h5 t ht
def xZ.done {R:Rel α}(g:ZR R){w:World}(h:xZ k R N e n w l l.length)(hl:l.length<=maxLen):afZ k R N w (some ⟨N,0,none⟩) l:=by
 obtain⟨arr,h1,h2,h3⟩:=h;refine⟨hl,fun i hi=> ?_⟩;obtain⟨vs,h4,h5,h6⟩:=h3 i hi hi;refine⟨N,0,vs,rfl,k_Nat_le_refl _,h4,fun j hj=> ?_,g.mono (by omega) h6⟩;rw[h1.cell,bU];exact h5 j hj
def Box.keep {w:World}{t:TypeId}{vs:Array Value}(h:Box w b t vs)(hk:LD B w w')(hb:B<=b):Box w' b t vs:=by
 have hs:=h.lt;unfold Box at*
 rw[hk.2 b hb hs];exact h
end Go.Er
end
section
namespace Go.Dv
open Go.RowKit
variable [lF]
def putC:Nat->List (Nat×Option D)->St->St
 |k,(b,none)::cs,s=>(putC (k+1) cs s).put k (.rf (1000000+2*b) [0])
 |k,(_,some d)::cs,s=>(putC (k+1) cs s).put k (.rp d)
 |_,[],s=>s
def putR:List (Nat×D)->St->St
 |(b,d)::rd,s=>(putR rd s).put (1000000+2*b) (.rp d)
 |[],s=>s
def putG:List (Nat×D)->St->St
 |(b,d)::gs,s=>(putG gs s).put (1000000+2*b) (.own (.bx true d))
 |[],s=>s
def wSt (ds:List D)(cs:List (Nat×Option D))(rd gs:List (Nat×D)):St:=putG gs (putR rd (putC ds.length cs (argSt ds)))
def getG:List (Nat×D)->St->(List D->Prop)->Prop
 |[],_,K=>K []
 |(b,_)::gs,s,K=>match s (1000000+2*b)with
  | .own (.bx true d)=>getG gs s fun ds=>K (d::ds)
  |_=>False
def endW (T:TypeId->TyE)(rs:List ResultVar)(gs:List (Nat×D))(Q:S->List D->Prop):Exit->St->Prop
 | .normal,s=>retL T rs s fun ds s2=>getG gs s2 fun ds'=>Q (retS ds) ds'
 | .ret,s=>retL T rs s fun ds s2=>getG gs s2 fun ds'=>Q (retS ds) ds'
 |_,_=>False
def ahD {s:St}:∀{gs:List (Nat×D)}{K:List D->Prop},getG gs s K->∃ds',K ds'/\ds'.length=gs.length/\∀(j:Nat) (g:Nat×D) (d':D),gs[j]?=some g->ds'[j]?=some d'->s (1000000+2*g.1)= .own (.bx true d')
 |[],K,h=>⟨[],h,rfl,fun j g d' hj=>by simp at hj⟩
 |(b,d0)::gs,K,h=>by
  unfold getG at h;split at h
  ·rename_i d hs;obtain⟨ds',h1,h2,h3⟩:=ahD h;refine⟨d::ds',h1,by simp[h2],fun j g d' hj hj'=> ?_⟩;cases j with
   |zero=>simp at hj hj';subst hj;subst hj';exact hs
   |succ j=>exact h3 j g d' (by simpa using hj) (by simpa using hj')
  ·exact h.elim
def inG (gs:List (Nat×D))(lab:List Nat):Bool:=gs.any fun g=>lab.getLast?==some (1000000+2*g.1)
variable {gs:List (Nat×D)}
def ayN {g:Nat×D}{q:List Nat}(hg:g∈gs):inG gs (q++[1000000+2*g.1])=true:=bP.2 ⟨g,hg,by simp⟩
def ayM {lab:List Nat}(h:∀g∈gs,∀q,lab≠q++[1000000+2*g.1]):inG gs lab=false:=by
 rw[jW];intro hi;obtain⟨g,hg,he⟩:=bP.1 hi
 obtain⟨q,hq⟩:∃q,lab=q++[1000000+2*g.1]:=by
  have:lab.getLast?=some (1000000+2*g.1):=by simpa using he
  exact⟨lab.dropLast,by rw[oW]at this;obtain⟨ys,rfl⟩:=this;simp⟩
 exact h g hg q hq
def SI (gs:List (Nat×D))(ow:Own):Own:=fun b=>match ow b with
 |none=>none
 |some lab=>if inG gs lab=true then some lab else some (lab++[far0])
def OA (w:World)(gs:List (Nat×D))(t:Nat)(ow ow1:Own):Own:=fun b=>
 if b<w.heap.size/\(match ow b with|none=>true|some lab=> !inG gs lab)=true then ow b else match ow1 b with
  |none=>none
  |some lab=>if inG gs lab=true then some lab else if lab.getLast?=some res0 then some (lab.dropLast++[t])else none
def MO {P:Program}{w:World}{ow:Own}:∀{gs:List (Nat×D)}{s:St}{i:Nat},(∃g∈gs,i=1000000+2*g.1/\putG gs s i= .own (.bx true g.2))\/((∀g∈gs,i≠1000000+2*g.1)/\putG gs s i=s i)
 |[],s,i=> .inr ⟨fun g hg=>by simp at hg,rfl⟩
 |(b,d)::gs,s,i=>by
  by_cases hi:i=1000000+2*b
  ·exact .inl ⟨(b,d),by simp,hi,by simp[putG,St.put,hi]⟩
  ·simp only[putG,St.put,if_neg hi];rcases MO (P:=P) (w:=w) (ow:=ow) (gs:=gs) (s:=s) (i:=i)with⟨g,h1,h2,h3⟩|⟨h1,h2⟩
   ·exact .inl ⟨g,by simp[h1],h2,h3⟩
   ·refine .inr ⟨fun g hg=> ?_,h2⟩;rcases k_List_mem_cons.1 hg with rfl|hg
    ·exact hi
    ·exact h1 g hg
def UZ:∀{rd:List (Nat×D)}{s:St}{i:Nat},(∃p∈rd,i=1000000+2*p.1/\putR rd s i= .rp p.2)\/putR rd s i=s i
 |[],s,i=> .inr rfl
 |(b,d)::rd,s,i=>by
  by_cases hi:i=1000000+2*b
  ·exact .inl ⟨(b,d),by simp,hi,by simp[putR,St.put,hi]⟩
  ·simp only[putR,St.put,if_neg hi];rcases UZ (rd:=rd) (s:=s) (i:=i)with⟨g,h1,h2,h3⟩|h2
   ·exact .inl ⟨g,by simp[h1],h2,h3⟩
   ·exact .inr h2
def MN:∀{cs:List (Nat×Option D)}{k:Nat}{s:St}{i:Nat},(∃j c,cs[j]?=some c/\i=k+j/\putC k cs s i=(match c.2 with|none=> .rf (1000000+2*c.1) [0]|some d=> .rp d))\/putC k cs s i=s i
 |[],k,s,i=> .inr rfl
 |(b,none)::cs,k,s,i=>by
  by_cases hi:i=k
  ·exact .inl ⟨0,(b,none),rfl,hi,by simp[putC,St.put,hi]⟩
  ·simp only[putC,St.put,if_neg hi];rcases MN (cs:=cs) (k:=k+1) (s:=s) (i:=i)with⟨j,c,h1,h2,h3⟩|h2
   ·exact .inl ⟨j+1,c,by simpa using h1,by omega,h3⟩
   ·exact .inr h2
 |(b,some d)::cs,k,s,i=>by
  by_cases hi:i=k
  ·exact .inl ⟨0,(b,some d),rfl,hi,by simp[putC,St.put,hi]⟩
  ·simp only[putC,St.put,if_neg hi];rcases MN (cs:=cs) (k:=k+1) (s:=s) (i:=i)with⟨j,c,h1,h2,h3⟩|h2
   ·exact .inl ⟨j+1,c,by simpa using h1,by omega,h3⟩
   ·exact .inr h2
def aIE {P:Program}{T:TypeId->TyE}{f:FuncId}{fn:Func}{c:Code}{n:Nat}{rs:List ResultVar}{ds:List D}{cs:List (Nat×Option D)}{rd:List (Nat×D)}{Q:S->List D->Prop}(hG:∀t,Good P T t) (hf:P.funcs[f]?=some fn) (hb:fn.body=some c) (hn':fn.ntmps=n) (hn:n<=1000000) (hd:ds.length+cs.length<=n)
  (hr:fn.results=rs.toArray) (hcs:∀c∈cs,match c.2 with|none=>∃g∈gs,g.1=c.1|some d=>∃p∈rd,p=(c.1,d)) (h:∀w0 ow0,OkC P n w0 ow0 none c (wSt ds cs rd gs) (endW T rs gs Q)):FnW P f ds cs rd gs Q:=by
 subst hn';intro w ow vs t ht hL hnew hvs hargs hcap hrd hgs;refine calls_of_wp hf hb ?_
 have hav:∀i,i<ds.length+cs.length->aval {tmps:=vs++Array.replicate (fn.ntmps-vs.size) undef,defers:=[]} i=vs.getD i undef:=by
  intro i hi;unfold aval;rw[if_pos (by omega)];simp only[aF];rw[eU (by omega)]
 have havg:∀(a:Act) (b:Nat),aval a (1000000+2*b)= .pointer (some ⟨b,0,none⟩):=fun a b=>by
  unfold aval;rw[if_neg (by omega)];have:(1000000+2*b-1000000)/2=b:=by omega
  rw[this]
 have hlnone:∀b,ow b=none->SI gs ow b=none:=fun b hb=>by simp[SI,hb]
 have hlhit:∀g∈gs,∀b q,ow b=some (q++[1000000+2*g.1])->SI gs ow b=some (q++[1000000+2*g.1]):=fun g hg b q hb=>by simp only[SI,hb];rw[if_pos (ayN hg)]
 have hq0:Quiet w ow w (SI gs ow):=fun b _ ho=>⟨rfl,hlnone b ho⟩
 have hrp:∀(b:Nat) (d:D),V P w ow (D.bx false d).fz [] (.pointer (some ⟨b,0,none⟩))->∀s a i,SV P w (SI gs ow) s a i (.rp d) (.pointer (some ⟨b,0,none⟩)):=by
  intro b d h1 s a i;have h2:=V.trf (l2:=[]) hq0 h1;simp only[V,D.fz,R]at h2;obtain⟨b',off,C,e,fz,cs,g1,g2,g3,_,g5,g6,g7⟩:=h2;simp only[lM,qU,aJ,and_true]at g1;obtain⟨rfl,rfl,_⟩:=Addr.mk.inj g1;exact⟨b,0,rfl,g3 trivial,C,e,fz,cs,g2,fun j hj=>g6 j (by rw[g5];exact hj),R.trf (fun b _ hb=>⟨rfl,hb⟩) g7⟩
 have hfit:Fits P fn.ntmps w (SI gs ow) (SI gs ow) (wSt ds cs rd gs) {tmps:=vs++Array.replicate (fn.ntmps-vs.size) undef,defers:=[]} w:=by
  refine⟨rfl,by simp;omega,hn,(hL.mono fun b o h1 h2=>⟨h1,hlnone b h2⟩),⟨rfl,rfl,rfl,k_Nat_le_refl _,fun _ _ _=>rfl⟩,fun _ _ h=>h,fun b hb=>hlnone b (hnew b hb),?_,fun _ _ _ h=>⟨rfl,h⟩,fun i=> ?_⟩
  ·have e0:argSt ds far0= .un:=by unfold argSt;rw[k_List_getElem__eq_none (by unfold far0;omega)]
   rcases MO (P:=P) (w:=w) (ow:=ow) (gs:=gs) (s:=putR rd (putC ds.length cs (argSt ds))) (i:=far0)with⟨g,_,h2,_⟩|⟨_,h2⟩
   ·unfold far0 at h2;omega
   ·unfold wSt;rw[h2];rcases UZ (rd:=rd) (s:=putC ds.length cs (argSt ds)) (i:=far0)with⟨g,_,h2,_⟩|h2
    ·unfold far0 at h2;omega
    ·rw[h2];rcases MN (cs:=cs) (k:=ds.length) (s:=argSt ds) (i:=far0)with⟨j,c,h1,h2,_⟩|h2
     ·have:=(aD.1 h1).1;unfold far0 at h2;omega
     ·rw[h2];exact e0
  ·rcases MO (P:=P) (w:=w) (ow:=ow) (gs:=gs) (s:=putR rd (putC ds.length cs (argSt ds))) (i:=i)with⟨g,h1,rfl,h3⟩|⟨h1,h2⟩
   ·unfold wSt;rw[h3,havg];exact V.tr (fun b _=>⟨fun ho=>⟨rfl,hlnone b ho⟩,fun q hq=>⟨rfl,hlhit g h1 b q hq⟩⟩) (hgs g h1)
   ·have hw:wSt ds cs rd gs i=putR rd (putC ds.length cs (argSt ds)) i:=h2;rw[hw];rcases UZ (rd:=rd) (s:=putC ds.length cs (argSt ds)) (i:=i)with⟨p,k1,rfl,k3⟩|k2
    ·rw[k3,havg];exact hrp _ _ (hrd p k1) _ _ _
    ·rw[k2];rcases MN (cs:=cs) (k:=ds.length) (s:=argSt ds) (i:=i)with⟨j,c,e1,rfl,e3⟩|e2
     ·have hjl:=(aD.1 e1).1;rw[e3,hav _ (by omega),hcap j c e1];have hc:=hcs c (aA e1);cases hc2:c.2 with
      |some d=>
       rw[hc2]at hc;obtain⟨p,hp,rfl⟩:=hc;exact hrp _ _ (hrd _ hp) _ _ _
      |none=>
       rw[hc2]at hc;obtain⟨g,hg,hgc⟩:=hc;rcases MO (P:=P) (w:=w) (ow:=ow) (gs:=gs) (s:=putR rd (putC ds.length cs (argSt ds))) (i:=1000000+2*c.1)with⟨g',h1',h2',h3'⟩|⟨h1',_⟩
       ·have:g'.1=c.1:=by omega
        refine⟨.bx true g'.2,g'.2,c.1,0,h3',by simp[D.sub,D.kid],?_,rfl⟩;rw[havg];simp[loc,into,eP]
       ·exact absurd (by rw[hgc]) (h1' g hg)
     ·rw[e2];unfold argSt;cases hdi:ds[i]? with
      |none=>trivial
      |some d=>
       have hi:i<ds.length:=(aD.1 hdi).1;simp only[SV];rw[hav i (by omega)];exact V.trf hq0 (hargs i d hdi)
 refine h w _ _ w ⟨_,hfit⟩ (fun m v e=>by cases e) _ fun e s' a' w' hK hR _=> ?_
 have key:(retL T rs s' fun ds s2=>getG gs s2 fun ds'=>Q (retS ds) ds')->bodyPost P fn (fun e w'=>∃v ow' r ds',e= .returned v/\Q r ds'/\w'.os=w.os/\w'.tape=w.tape/\w'.output=w.output/\w.heap.size<=w'.heap.size/\
   (∀b,b<w.heap.size->(∀g∈gs,∀q,ow b≠some (q++[1000000+2*g.1]))->w'.heap[b]?=w.heap[b]?/\ow' b=ow b)/\(∀b,w'.heap.size<=b->ow' b=none)/\
   ds'.length=gs.length/\(∀(j:Nat) (g:Nat×D) (d':D),gs[j]?=some g->ds'[j]?=some d'->V P w' ow' (.bx true d') [1000000+2*g.1] (.pointer (some ⟨g.1,0,none⟩)))/\S.plain r=true/\∀s a,SV P w' ow' s a t r v) .ret a' w':=by
  intro hK;obtain⟨ow1,hf1⟩:=hR;obtain⟨vals,ow2,s2,ds2,hQ,hf2,hl1,hl2,hrun,hvals,hkeep⟩:=hf1.retL hG (fun k=>if rs.length=1 then[]else[k]) rs 0 hK;obtain⟨ds',hQ,hdl,hds⟩:=ahD hQ
  have hres:(results fn a'.tmps).run P w'= .ok (if h:vals.toArray.size=1 then vals.toArray[0]else .tuple vals.toArray) w':=by
   unfold results;rw[hr];have hb:∀{α β:Type}(x:Sem α) (g:α->Sem β),Sem.run P (Sem.bind x g) w'=(Sem.run P x w').andThen fun a w'=>Sem.run P (g a) w':=fun x g=>aH ..;simp only[sK,Functor.map,aH,aQ];rw[hb,hrun _ (X8 a'.tmps P w' _ (fun _=>rfl) fun _ _=>rfl)];rfl
  refine⟨hf1.nodef,_,hres,?_⟩
  have hmiss:∀b,b<w.heap.size->(∀lab,ow b=some lab->inG gs lab=false)->w'.heap[b]?=w.heap[b]?/\(ow b=none->ow2 b=none)/\(∀lab,ow b=some lab->ow2 b=some (lab++[far0])):=by
   intro b hlt hno;cases ho:ow b with
   |none=>exact⟨hf2.bel.block b hlt (hlnone b ho),fun _=>hf2.own b hlt (hlnone b ho),fun lab e=>by cases e⟩
   |some lab=>
    have hlab:SI gs ow b=some (lab++[far0]):=by simp[SI,ho,hno lab ho]
    obtain⟨g1,g2⟩:=hf2.keep b hlt lab hlab;exact⟨g1,fun e=>(by cases e),fun lab' e=>by obtain rfl:=k_Option_some_inj e;exact g2⟩
  have hcond:∀b,(match ow b with|none=>true|some lab=> !inG gs lab)=true↔∀lab,ow b=some lab->inG gs lab=false:=by
   intro b;cases ho:ow b with
   |none=>simp
   |some lab=>simp
  have hnone:∀b,ow2 b=none->OA w gs t ow ow2 b=none:=by
   intro b hb;unfold OA;by_cases hc:b<w.heap.size/\(match ow b with|none=>true|some lab=> !inG gs lab)=true
   ·rw[if_pos hc];cases ho:ow b with
    |none=>rfl
    |some lab=>
     have:=(hmiss b hc.1 ((hcond b).1 hc.2)).2.2 lab ho;rw[hb]at this;cases this
   ·rw[if_neg hc,hb]
  have hlast:∀b q j,ow2 b=some (q++[j])->j≠far0->¬(b<w.heap.size/\(match ow b with|none=>true|some lab=> !inG gs lab)=true):=by
   rintro b q j hq hj ⟨h1,h2⟩;obtain⟨_,g1,g2⟩:=hmiss b h1 ((hcond b).1 h2);cases ho:ow b with
   |none=>rw[g1 ho]at hq;cases hq
   |some lab=>
    rw[g2 lab ho]at hq;have:=congrArg List.getLast? (k_Option_some_inj hq);simp at this;exact hj this.symm
  have hkg:∀g∈gs,Keeps w' ow2 [1000000+2*g.1] w' (OA w gs t ow ow2) [1000000+2*g.1]:=fun g hg b _=>⟨fun ho=>⟨rfl,hnone b ho⟩,fun q hq=>⟨rfl,by
   unfold OA;rw[if_neg (hlast b q _ hq (by unfold far0;omega)),hq];simp only;rw[if_pos (ayN hg)]⟩⟩
  have hnr:∀q,inG gs (q++[res0])=false:=fun q=>ayM fun g hg q' e=>by
   have:=congrArg List.getLast? e;simp[res0]at this;omega
  have hk:∀l2,Keeps w' ow2 (l2++[res0]) w' (OA w gs t ow ow2) (l2++[t]):=fun l2 b _=>⟨fun ho=>⟨rfl,hnone b ho⟩,fun q hq=>⟨rfl,by
   have hq':ow2 b=some ((q++l2)++[res0]):=by rw[hq];simp
   unfold OA;rw[if_neg (hlast b _ res0 hq' (by unfold res0 far0;omega)),hq'];simp only;rw[hnr];simp⟩⟩
  have hq:Quiet w' ow2 w' (OA w gs t ow ow2):=fun b _ ho=>⟨rfl,hnone b ho⟩
  have part:∀(j:Nat) (p:D×Bool),ds2[j]?=some p->∃v,vals[j]?=some v/\(if(p.2||p.1.frz)=true then V P w' (OA w gs t ow ow2) p.1.fz [] v else V P w' (OA w gs t ow ow2) p.1 ((if rs.length=1 then[]else[j])++[t]) v):=by
   intro j p hj;obtain⟨v,h1,h2,h3⟩:=hvals j p hj;rw[bU]at h2;refine⟨v,h1,?_⟩;by_cases hp:(p.2||p.1.frz)=true
   ·rw[if_pos hp]
    have hfz:p.1.fz=p.1:=by
     rcases bH _ _▸hp with hp|hp
     ·exact h3 hp
     ·exact D.UH hp
    rw[←hfz]at h2;exact V.trf hq h2
   ·rw[if_neg hp];exact V.tr (hk _) h2
  refine⟨_,OA w gs t ow ow2,retS ds2,ds',rfl,hQ,hf2.bel.os,hf2.bel.tape,hf2.bel.output,hf2.bel.size,fun b hb hno=> ?_,fun b hb=>hnone b (hf2.new b hb),hdl,fun j g d' hj hj'=> ?_,?_,fun s a=> ?_⟩
  ·have hn2:∀lab,ow b=some lab->inG gs lab=false:=fun lab hl=>ayM fun g hg q e=>hno g hg q (by rw[hl,e]);exact⟨(hmiss b hb hn2).1,by unfold OA;rw[if_pos ⟨hb,(hcond b).2 hn2⟩]⟩
  ·have h1:=hf2.slot (1000000+2*g.1);rw[hds j g d' hj hj',havg]at h1;exact V.tr (hkg g (aA hj)) h1
  ·unfold retS;split
   ·split<;>rfl
   ·rfl
  ·by_cases hone:rs.length=1
   ·have hd1:ds2.length=1:=by rw[hl1,hone]
    have hv1:vals.length=1:=by rw[hl2,hone]
    obtain⟨⟨d,b⟩,rfl⟩:=eD.1 hd1;obtain⟨v,rfl⟩:=eD.1 hv1;obtain⟨v',h1,h2⟩:=part 0 (d,b) rfl;obtain rfl:v=v':=by simpa using h1
    rw[if_pos hone]at h2;simp only[retS];by_cases hp:(b||d.frz)=true
    ·rw[if_pos hp]at h2|-
     exact h2
    ·rw[if_neg hp]at h2|-
     exact h2
   ·have hd1:∀p,ds2≠[p]:=fun p e=>by rw[e]at hl1;simp at hl1;exact hone hl1.symm
    have htup:retS ds2= .tup (ds2.map fun p=>if p.2||p.1.frz then .val p.1 else .own p.1):=by
     unfold retS;split
     ·rename_i d b;exact absurd rfl (hd1 _)
     ·rfl
    rw[htup];refine⟨vals.toArray,?_,by simp[hl1,hl2],fun j x hx=> ?_⟩
    ·rw[dif_neg];simp[hl2,hone]
    ·simp only[aO,aK]at hx;obtain⟨p,hp,rfl⟩:=hx;obtain⟨v,h1,h2⟩:=part j p hp;have hv:vals.toArray.getD j undef=v:=by simp[aF,h1]
     rw[hv];by_cases hpf:(p.2||p.1.frz)=true
     ·rw[if_pos hpf]at h2|-
      exact h2
     ·rw[if_neg hpf]at h2|-
      rw[if_neg hone]at h2;exact h2
 cases e with
 |normal=>exact key hK
 |ret=>exact key hK
 |_=>exact hK.elim
attribute [go_sem] endW wSt putG putR putC getG
end Go.Dv
end
section
namespace Go.Dv
open Go.RowKit Go.Pl
variable [lF]
variable {ds:List D}
def argB_nil :argB [] ds=argSt ds:=rfl
variable {b:Nat}{gs:List (Nat×D)}
def argB_cons {d:D}:argB ((b,d)::gs) ds=(argB gs ds).put (1000000+2*b) (.rp d):=rfl
variable {P:Program}{f:FuncId}{fn:Func}{c:Code}{n:Nat}{rs:List ResultVar}
def fB {T:TypeId->TyE}{Q:S->Prop}[hG:wG P T] (sp:List Nat) (hn':fn.ntmps=n) (h:∀w0 ow0,@WC _ P T n w0 ow0 none sp ⟨c⟩ (argB gs ds) ⟨endR T rs Q⟩) (hf:P.funcs[f]?=some fn:=by rfl)
  (hb:fn.body=some c:=by rfl) (hr:fn.results=rs.toArray:=by rfl) (hn:n<=1000000:=by decide) (hd:ds.length<=n:=by simp):yT P f ds gs Q:=ax0 hG.g hf hb hn' hn hd hr fun w0 ow0=>wcI hG.g sp (h w0 ow0) (zB c)
def ckB {rs:List Nat}{K:S->Prop}{r:S}(h:yT P f ds gs (fun r'=>r'=r))(hK:(rs=[]\/r.closed=true)/\K r):(apC (k:=⟨K⟩) P f ds gs rs):=atH h hK.1 hK.2
variable {cs:List (Nat×Option D)}{rd:List (Nat×D)}{Q:S->List D->Prop}
def fW {T:TypeId->TyE}[hG:wG P T] (sp:List Nat) (hn':fn.ntmps=n) (h:∀w0 ow0,@WC _ P T n w0 ow0 none sp ⟨c⟩ (wSt ds cs rd gs) ⟨endW T rs gs Q⟩) (hf:P.funcs[f]?=some fn:=by rfl)
  (hb:fn.body=some c:=by rfl) (hr:fn.results=rs.toArray:=by rfl) (hn:n<=1000000:=by decide) (hd:ds.length+cs.length<=n:=by simp) (hcs:∀c∈cs,match c.2 with|none=>∃g∈gs,g.1=c.1|some d=>∃p∈rd,p=(c.1,d):=by simp):FnW P f ds cs rd gs Q:=aIE hG.g hf hb hn' hn hd hr hcs fun w0 ow0=>wcI hG.g sp (h w0 ow0) (zB c)
variable {s:St}
def axO {T:TypeId->TyE}:endW T rs gs Q .normal s=retL T rs s fun ds s2=>getG gs s2 fun ds'=>Q (retS ds) ds':=rfl
def axP {T:TypeId->TyE}:endW T rs gs Q .ret s=retL T rs s fun ds s2=>getG gs s2 fun ds'=>Q (retS ds) ds':=rfl
attribute [go_sem ↓] axO axP
class aIA where
 P:Prop
def aEP [E:aIA]:Prop:=E.P
def XN {A:Prop}(h:A): @aEP ⟨A⟩:=h
def VG {bs rs:List Nat}{L:List (Nat×D)->List (Nat×D)->(List Nat->Prop)->Prop}{K:S->List D->List (Nat×D)->Prop}(h:FnW P f ds cs rd gs Q) (hc:cs.map (fun c=>c.1)=bs)
  (hL:L rd gs fun rs2=>(∀r∈rs++rs2,∀g∈gs,r≠1000000+2*g.1)/\ @aEP ⟨∀r ds',Q r ds'->(rs++rs2=[]\/(r.closed=true/\D.nJ ds'=true))/\K r ds' gs⟩): @aw4 _ P f ds bs rs ⟨L,K⟩:=ac7 h hc hL
variable {u:Nat}{K:List Nat->St->Prop}
def pJ {c:Nat}{cs:List Nat}(d:D)(hs:s c= .own (.bx true d))(h:∀b,oN s b->SA u ((((s.kill (1000000+2*b)).kill c).put (1000000+2*b) (.own (.bx true d))).put c (.rf (1000000+2*b) [0])) cs fun bs s'=>K (b::bs) s')(h1:u≠c:=by decide)(h2:c<1000000:=by decide):SA u s (c::cs) K:=by
 unfold SA;refine⟨h1,h2,?_⟩;rw[hs];exact h
def YQ (h:K [] s):SA u s [] K:=h
def nK:List Nat->Prop
 |[]=>True
 |a::l=>(∀b∈l,¬a=b/\¬b=a)/\nK l
def gl_ne (h:n<1000000):(n=1000000+2*b)=False:=eq_false (by omega)
def gl_en (h:n<1000000):(1000000+2*b=n)=False:=eq_false (by omega)
def gl_lt :(1000000+2*b<1000000)=False:=eq_false (by omega)
def gl_eq {c:Nat}:(1000000+2*b=1000000+2*c)=(b=c):=propext ⟨fun h=>by omega,fun h=>by rw[h]⟩
def gl_eq2 {c:Nat}:(2*b=2*c)=(b=c):=propext ⟨fun h=>by omega,fun h=>by rw[h]⟩
attribute [go_sem] gl_ne gl_en gl_lt gl_eq gl_eq2
attribute [go_sem] argB_nil argB_cons
end Go.Dv
end
section
namespace Go.Dv
open Go.RowKit
variable [lF]
def aoQ {P:Program}{n:Nat}{s:St}(k G:Nat){d:D}(h1:s k= .rf G [0])(h2:s G= .own (.bx true d))(hk:k≠far0):uQ P n s ((s.TK G).put k (.val (D.bx false d.fz))):=by
 intro w0 ow0 a w ⟨ow,hf⟩;have hkG:k≠G:=by rintro rfl;rw[h1]at h2;cases h2
 have hv:aval a k=aval a G:=by
  have hV:=hf.slot k;rw[h1]at hV;obtain⟨d',m,b,off,e1,e2,e3,e4⟩:=hV;rw[h2]at e1;obtain rfl:D.bx true d=d':=by injection e1
  have hG:=hf.slot G;rw[h2]at hG;simp only[SV,V,R]at hG;obtain⟨b2,off2,C,e,fz,cs',g1,_⟩:=hG;have g1:aval a G= .pointer (some ⟨b2,off2,none⟩):=by simpa using g1
  rw[g1]at e3;simp only[loc,into,if_true,eP,aJ,bX]at e3;obtain⟨rfl,rfl⟩:=e3;rw[e4,g1]
 obtain⟨ow',hf'⟩:=hf.TK G;have hsG:(s.TK G) G= .val (D.bx true d).fz:=by unfold St.TK;rw[h2];simp[St.put]
 have hsk:((s.TK G) k).fC=false:=by
  unfold St.TK;rw[h2];simp only[St.put,if_neg hkG];unfold St.kill;simp[hkG,h1,S.drop,S.root,S.fC]
 refine⟨_,hf'.tell hk hsk ?_⟩;have:=hf'.slot G;rw[hsG]at this;simp only[SV,D.fz,D.XA]at this|-
 rw[hv];exact this
end Go.Dv
end
section
namespace Go.Proofs
open Tryz
open Go.Shelf
def Tryz.am0:Go.Shelf.Ren:=⟨fun|125=>217|128=>303|129=>304|n=>n,fun|46=>226|3=>3|51=>285|53=>287|4=>4|5=>5|9=>9|n=>n,fun|n=>n⟩
def Tryz.aCS:Go.Proofs.Lays.n125 Tryz.prog Tryz.am0:={
 mixed:=by kernel_rfl
 f125:=func217.trans cSz
 f128:=func303.trans cSz
 f129:=func304.trans cSz
 t3:=underlying3
 a3:=isAgg3
 z3:=sizeOf3
 v3:=zeroValue3
 t4:=underlying4
 a4:=isAgg4
 z4:=sizeOf4
 v4:=zeroValue4
 t5:=underlying5
 a5:=isAgg5
 z5:=sizeOf5
 v5:=zeroValue5
 t9:=underlying9
 a9:=isAgg9
 z9:=sizeOf9
 v9:=zeroValue9
 t46:=underlying226
 a46:=isAgg226
 z46:=sizeOf226
 v46:=zeroValue226
 t51:=underlying285
 a51:=isAgg285
 z51:=sizeOf285
 v51:=zeroValue285
 t53:=underlying287
 a53:=isAgg287
 z53:=sizeOf287
 v53:=zeroValue287}
def Tryz.bits_Len (x:Int)(w:World)(h0:0<=x)(h1:x<=18446744073709551615):
  Calls Tryz.prog 217 #[.int .u64 x] w fun e w'=>e= .returned (.int .i64 (Lib.bitLen x.toNat))/\w'=w:=Any.bits_Len Tryz.aCS x w h0 h1
def Tryz.ajL:Go.Shelf.Ren:=⟨fun|171=>419|243=>441|246=>455|283=>462|284=>463|285=>464|286=>465|129=>304|317=>467|318=>468|319=>469|320=>470|337=>471|338=>472|n=>n,fun|3=>3|9=>9|2=>2|4=>4|171=>403|0=>0|53=>287|37=>264|5=>5|173=>405|212=>409|51=>285|20=>20|213=>410|46=>226|232=>411|233=>412|n=>n,fun|17=>6|18=>7|19=>8|n=>n⟩
def Tryz.ay0:Go.Proofs.LaysM.n171 Tryz.prog Tryz.ajL:={
 mixed:=by kernel_rfl
 f129:=func304.trans cSz
 f171:=func419.trans cSz
 f243:=func441.trans cSz
 f246:=func455.trans cSz
 f283:=func462.trans cSz
 f284:=func463.trans cSz
 f285:=func464.trans cSz
 f286:=func465.trans cSz
 f317:=func467.trans cSz
 f318:=func468.trans cSz
 f319:=func469.trans cSz
 f320:=func470.trans cSz
 f337:=func471.trans cSz
 f338:=func472.trans cSz
 t0:=underlying0
 a0:=isAgg0
 z0:=sizeOf0
 v0:=zeroValue0
 t2:=underlying2
 a2:=isAgg2
 z2:=sizeOf2
 v2:=zeroValue2
 t3:=underlying3
 a3:=isAgg3
 z3:=sizeOf3
 v3:=zeroValue3
 t4:=underlying4
 a4:=isAgg4
 z4:=sizeOf4
 v4:=zeroValue4
 t5:=underlying5
 a5:=isAgg5
 z5:=sizeOf5
 v5:=zeroValue5
 t9:=underlying9
 a9:=isAgg9
 z9:=sizeOf9
 v9:=zeroValue9
 t20:=underlying20
 a20:=isAgg20
 z20:=sizeOf20
 v20:=zeroValue20
 t37:=underlying264
 a37:=isAgg264
 z37:=sizeOf264
 v37:=zeroValue264
 t46:=underlying226
 a46:=isAgg226
 z46:=sizeOf226
 v46:=zeroValue226
 t51:=underlying285
 a51:=isAgg285
 z51:=sizeOf285
 v51:=zeroValue285
 t53:=underlying287
 a53:=isAgg287
 z53:=sizeOf287
 v53:=zeroValue287
 t171:=underlying403
 a171:=isAgg403
 z171:=sizeOf403
 v171:=zeroValue403
 t173:=underlying405
 a173:=isAgg405
 z173:=sizeOf405
 v173:=zeroValue405
 t212:=underlying409
 a212:=isAgg409
 z212:=sizeOf409
 v212:=zeroValue409
 t213:=underlying410
 a213:=isAgg410
 z213:=sizeOf410
 t232:=underlying411
 a232:=isAgg411
 z232:=sizeOf411
 v232:=zeroValue411
 t233:=underlying412
 a233:=isAgg412
 z233:=sizeOf412
 v233:=zeroValue412
 g17:=by kernel_rfl
 g18:=by kernel_rfl
 g19:=by kernel_rfl
 i0:=by kernel_rfl
 i2:=by kernel_rfl
 i3:=by kernel_rfl
 i4:=by kernel_rfl
 i5:=by kernel_rfl
 i9:=by kernel_rfl
 i20:=by kernel_rfl
 i37:=by kernel_rfl
 i46:=by kernel_rfl
 i51:=by kernel_rfl
 i53:=by kernel_rfl
 i171:=by kernel_rfl
 i173:=by kernel_rfl
 i212:=by kernel_rfl
 i232:=by kernel_rfl
 i233:=by kernel_rfl
 m17:=by kernel_rfl
 m18:=by kernel_rfl
 m19:=by kernel_rfl}
open Go.RowKit Go.Sort Go.Lib in
def Tryz.strconv_Itoa (n:Int)(h0: -9223372036854775808<=n)(h1:n<=9223372036854775807)(w:World)(htab:Lib.TabIs Tryz.prog w "internal/strconv.uint64pow10" .u64 Lib.pow10Tab):
  Calls Tryz.prog 419 #[.int .i64 n] w fun e w'=>e= .returned (.string ⟨(Lib.itoa n).toArray⟩)/\∃k os,w'=grow (w.drewN k) os:=Any.strconv_Itoa Tryz.ay0 n h0 h1 w htab
def Tryz.ajK:Go.Shelf.Ren:=⟨fun|172=>385|244=>417|245=>418|247=>436|279=>437|280=>438|281=>439|282=>440|287=>452|316=>453|171=>419|205=>454|321=>460|322=>461|243=>441|246=>455|283=>462|284=>463|285=>464|286=>465|129=>304|317=>467|318=>468|319=>469|320=>470|337=>471|338=>472|n=>n,fun|9=>9|3=>3|75=>337|76=>338|4=>4|5=>5|167=>375|37=>264|0=>0|85=>376|2=>2|168=>378|53=>287|175=>387|46=>226|210=>390|127=>385|145=>402|143=>400|21=>21|171=>403|173=>405|212=>409|51=>285|20=>20|213=>410|232=>411|233=>412|80=>372|n=>n,fun|15=>2|16=>3|17=>6|18=>7|19=>8|n=>n⟩
def Tryz.aeU:Go.Proofs.LaysC.n172 Tryz.prog Tryz.ajK:={
 mixed:=by kernel_rfl
 f129:=func304.trans cSz
 f171:=func419.trans cSz
 f172:=func385.trans cSz
 f205:=func454.trans cSz
 f243:=func441.trans cSz
 f244:=func417.trans cSz
 f245:=func418.trans cSz
 f246:=func455.trans cSz
 f247:=func436.trans cSz
 f279:=func437.trans cSz
 f280:=func438.trans cSz
 f281:=func439.trans cSz
 f282:=func440.trans cSz
 f283:=func462.trans cSz
 f284:=func463.trans cSz
 f285:=func464.trans cSz
 f286:=func465.trans cSz
 f287:=func452.trans cSz
 f316:=func453.trans cSz
 f317:=func467.trans cSz
 f318:=func468.trans cSz
 f319:=func469.trans cSz
 f320:=func470.trans cSz
 f321:=func460.trans cSz
 f322:=func461.trans cSz
 f337:=func471.trans cSz
 f338:=func472.trans cSz
 t0:=underlying0
 a0:=isAgg0
 z0:=sizeOf0
 v0:=zeroValue0
 t2:=underlying2
 a2:=isAgg2
 z2:=sizeOf2
 v2:=zeroValue2
 t3:=underlying3
 a3:=isAgg3
 z3:=sizeOf3
 v3:=zeroValue3
 t4:=underlying4
 a4:=isAgg4
 z4:=sizeOf4
 v4:=zeroValue4
 t5:=underlying5
 a5:=isAgg5
 z5:=sizeOf5
 v5:=zeroValue5
 t9:=underlying9
 a9:=isAgg9
 z9:=sizeOf9
 v9:=zeroValue9
 t20:=underlying20
 a20:=isAgg20
 z20:=sizeOf20
 v20:=zeroValue20
 t21:=underlying21
 a21:=isAgg21
 z21:=sizeOf21
 v21:=zeroValue21
 t37:=underlying264
 a37:=isAgg264
 z37:=sizeOf264
 v37:=zeroValue264
 t46:=underlying226
 a46:=isAgg226
 z46:=sizeOf226
 v46:=zeroValue226
 t51:=underlying285
 a51:=isAgg285
 z51:=sizeOf285
 v51:=zeroValue285
 t53:=underlying287
 a53:=isAgg287
 z53:=sizeOf287
 v53:=zeroValue287
 t75:=underlying337
 a75:=isAgg337
 z75:=sizeOf337
 v75:=zeroValue337
 t76:=underlying338
 a76:=isAgg338
 z76:=sizeOf338
 v76:=zeroValue338
 t85:=underlying376
 a85:=isAgg376
 z85:=sizeOf376
 v85:=zeroValue376
 t127:=underlying385
 a127:=isAgg385
 z127:=sizeOf385
 v127:=zeroValue385
 t143:=underlying400
 a143:=isAgg400
 z143:=sizeOf400
 v143:=zeroValue400
 t145:=underlying402
 a145:=isAgg402
 z145:=sizeOf402
 v145:=zeroValue402
 t167:=underlying375
 a167:=isAgg375
 z167:=sizeOf375
 v167:=zeroValue375
 t168:=underlying378
 a168:=isAgg378
 z168:=sizeOf378
 v168:=zeroValue378
 t171:=underlying403
 a171:=isAgg403
 z171:=sizeOf403
 v171:=zeroValue403
 t173:=underlying405
 a173:=isAgg405
 z173:=sizeOf405
 v173:=zeroValue405
 t175:=underlying387
 a175:=isAgg387
 z175:=sizeOf387
 v175:=zeroValue387
 t210:=underlying390
 a210:=isAgg390
 z210:=sizeOf390
 v210:=zeroValue390
 t212:=underlying409
 a212:=isAgg409
 z212:=sizeOf409
 v212:=zeroValue409
 t213:=underlying410
 a213:=isAgg410
 z213:=sizeOf410
 t232:=underlying411
 a232:=isAgg411
 z232:=sizeOf411
 v232:=zeroValue411
 t233:=underlying412
 a233:=isAgg412
 z233:=sizeOf412
 v233:=zeroValue412
 g15:=by kernel_rfl
 g16:=by kernel_rfl
 g17:=by kernel_rfl
 g18:=by kernel_rfl
 g19:=by kernel_rfl
 t80:=underlying372
 a80:=isAgg372
 z80:=sizeOf372
 v80:=zeroValue372
 i0:=by kernel_rfl
 i2:=by kernel_rfl
 i3:=by kernel_rfl
 i4:=by kernel_rfl
 i5:=by kernel_rfl
 i9:=by kernel_rfl
 i20:=by kernel_rfl
 i21:=by kernel_rfl
 i37:=by kernel_rfl
 i46:=by kernel_rfl
 i51:=by kernel_rfl
 i53:=by kernel_rfl
 i75:=by kernel_rfl
 i76:=by kernel_rfl
 i80:=by kernel_rfl
 i85:=by kernel_rfl
 i127:=by kernel_rfl
 i143:=by kernel_rfl
 i145:=by kernel_rfl
 i167:=by kernel_rfl
 i168:=by kernel_rfl
 i171:=by kernel_rfl
 i173:=by kernel_rfl
 i175:=by kernel_rfl
 i210:=by kernel_rfl
 i212:=by kernel_rfl
 i232:=by kernel_rfl
 i233:=by kernel_rfl
 m15:=by kernel_rfl
 m16:=by kernel_rfl
 m17:=by kernel_rfl
 m18:=by kernel_rfl
 m19:=by kernel_rfl
 c0:=by kernel_rfl
 c2:=by kernel_rfl
 c3:=by kernel_rfl
 c4:=by kernel_rfl
 c5:=by kernel_rfl
 c9:=by kernel_rfl
 c20:=by kernel_rfl
 c21:=by kernel_rfl
 c37:=by kernel_rfl
 c46:=by kernel_rfl
 c51:=by kernel_rfl
 c53:=by kernel_rfl
 c75:=by kernel_rfl
 c76:=by kernel_rfl
 c80:=by kernel_rfl
 c85:=by kernel_rfl
 c127:=by kernel_rfl
 c143:=by kernel_rfl
 c145:=by kernel_rfl
 c167:=by kernel_rfl
 c168:=by kernel_rfl
 c171:=by kernel_rfl
 c173:=by kernel_rfl
 c175:=by kernel_rfl
 c210:=by kernel_rfl
 c212:=by kernel_rfl
 c213:=by kernel_rfl
 c232:=by kernel_rfl
 c233:=by kernel_rfl}
open Go.RowKit in
def Tryz.strconv_Atoi_ok (s:ByteArray)(hmax:s.size<=9223372036854775806)(v:Int)(h:Lib.atoiAll s.data.toList= .ok v)(w:World):
  Calls Tryz.prog 385 #[.string s] w fun e w'=>e= .returned (.tuple #[.int .i64 v,.nilIface])/\(w'=w\/∃t,w'=Lib.bytesWorld w 5 t):=Any.strconv_Atoi_ok Tryz.aeU s hmax v h w
open Go.RowKit in
def Tryz.strconv_Atoi_syntax_var (s:ByteArray)(hlim:s.size<=281474976710656)(h1:∀v,Lib.atoiAll s.data.toList≠ .ok v)(h2:Lib.atoiAll s.data.toList≠ .range)(tp:TypeId)(p:Value)(w:World)(hvar:w.var? Tryz.prog "strconv.ErrSyntax" =some #[.iface tp p]):
  Calls Tryz.prog 385 #[.string s] w fun e w'=>∃N,e= .returned (.tuple #[.int .i64 0,.iface 378 (.pointer (some ⟨N,0,none⟩))])/\w.heap.size<=N/\w'.heap[N]?=some (.cells #[.string ⟨#[65,116,111,105]⟩,.string s,.iface tp p] 390 (0,0))/\Below w.heap.size w w':=by
 cases hx:Lib.atoiAll s.data.toList with
 |ok v=>exact absurd hx (h1 v)
 |range=>exact absurd hx h2
 |_=>exact Any.strconv_Atoi_syntax_var Tryz.aeU s hlim hx tp p w hvar
open Go.RowKit in
def Tryz.strconv_Atoi_range_var (s:ByteArray)(hlim:s.size<=281474976710656)(h:Lib.atoiAll s.data.toList= .range)(tp:TypeId)(p:Value)(w:World)(hvar:w.var? Tryz.prog "strconv.ErrRange" =some #[.iface tp p]):
  Calls Tryz.prog 385 #[.string s] w fun e w'=>∃N,e= .returned (.tuple #[.int .i64 (Lib.atoiSat s.data.toList),.iface 378 (.pointer (some ⟨N,0,none⟩))])/\w.heap.size<=N/\w'.heap[N]?=some (.cells #[.string ⟨#[65,116,111,105]⟩,.string s,.iface tp p] 390 (0,0))/\Below w.heap.size w w':=Any.strconv_Atoi_range_var Tryz.aeU s hlim h tp p w hvar
def Tryz.am2:Go.Shelf.Ren:=⟨fun|190=>324|125=>217|258=>383|128=>303|129=>304|302=>408|303=>409|304=>410|305=>411|306=>412|307=>413|308=>414|309=>415|310=>416|333=>432|329=>366|330=>367|334=>433|335=>434|336=>435|344=>451|n=>n,fun|31=>106|9=>9|3=>3|46=>226|0=>0|51=>285|53=>287|4=>4|183=>279|182=>278|131=>212|5=>5|218=>318|222=>322|228=>352|229=>353|n=>n,fun|n=>n⟩
def Tryz.aCV:Go.Proofs.Lays.n190 Tryz.prog Tryz.am2:={
 mixed:=by kernel_rfl
 f125:=func217.trans cSz
 f128:=func303.trans cSz
 f129:=func304.trans cSz
 f190:=func324.trans cSz
 f258:=func383.trans cSz
 f302:=func408.trans cSz
 f303:=func409.trans cSz
 f304:=func410.trans cSz
 f305:=func411.trans cSz
 f306:=func412.trans cSz
 f307:=func413.trans cSz
 f308:=func414.trans cSz
 f309:=func415.trans cSz
 f310:=func416.trans cSz
 f329:=func366.trans cSz
 f330:=func367.trans cSz
 f333:=func432.trans cSz
 f334:=func433.trans cSz
 f335:=func434.trans cSz
 f336:=func435.trans cSz
 f344:=func451.trans cSz
 t0:=underlying0
 a0:=isAgg0
 z0:=sizeOf0
 v0:=zeroValue0
 t3:=underlying3
 a3:=isAgg3
 z3:=sizeOf3
 v3:=zeroValue3
 t4:=underlying4
 a4:=isAgg4
 z4:=sizeOf4
 v4:=zeroValue4
 t5:=underlying5
 a5:=isAgg5
 z5:=sizeOf5
 v5:=zeroValue5
 t9:=underlying9
 a9:=isAgg9
 z9:=sizeOf9
 v9:=zeroValue9
 t31:=underlying106
 a31:=isAgg106
 z31:=sizeOf106
 v31:=zeroValue106
 t46:=underlying226
 a46:=isAgg226
 z46:=sizeOf226
 v46:=zeroValue226
 t51:=underlying285
 a51:=isAgg285
 z51:=sizeOf285
 v51:=zeroValue285
 t53:=underlying287
 a53:=isAgg287
 z53:=sizeOf287
 v53:=zeroValue287
 t131:=underlying212
 a131:=isAgg212
 z131:=sizeOf212
 v131:=zeroValue212
 t182:=underlying278
 a182:=isAgg278
 z182:=sizeOf278
 v182:=zeroValue278
 t183:=underlying279
 a183:=isAgg279
 z183:=sizeOf279
 v183:=zeroValue279
 t218:=underlying318
 a218:=isAgg318
 z218:=sizeOf318
 v218:=zeroValue318
 t222:=underlying322
 a222:=isAgg322
 z222:=sizeOf322
 v222:=zeroValue322
 t228:=underlying352
 a228:=isAgg352
 z228:=sizeOf352
 v228:=zeroValue352
 t229:=underlying353
 a229:=isAgg353
 z229:=sizeOf353
 v229:=zeroValue353}
open Go.Sort Go.RowKit in
def Tryz.slices_Sort_string (blk off cap:Nat)(ss:List (List UInt8))(w:World)(hH:Holds encStr w blk off ss.toArray)(hblk:blk<w.heap.size)(hsz:ss.length<4611686018427387904):
  Calls Tryz.prog 324 #[.slice (some ⟨blk,off,none⟩) ss.length cap] w fun e w'=>
   e= .returned (.tuple #[])/\∃n os,w'=grow (putRow encStr (Sort.ahead w n) blk off (ss.mergeSort fun x y=>decide (x<=y)).toArray) os:=Any.slices_Sort_string Tryz.aCV blk off cap ss w hH hblk hsz
def Tryz.amY:Go.Shelf.Ren:=⟨fun|100=>238|207=>331|n=>n,fun|9=>9|4=>4|3=>3|n=>n,fun|n=>n⟩
def Tryz.aCQ:Go.Proofs.Lays.n100 Tryz.prog Tryz.amY:={
 mixed:=by kernel_rfl
 f100:=func238.trans cSz
 f207:=func331.trans cSz
 t3:=underlying3
 a3:=isAgg3
 z3:=sizeOf3
 v3:=zeroValue3
 t4:=underlying4
 a4:=isAgg4
 z4:=sizeOf4
 v4:=zeroValue4
 t9:=underlying9
 a9:=isAgg9
 z9:=sizeOf9
 v9:=zeroValue9}
open Go.RowKit Go.Lib in
def Tryz.strings_HasSuffix (s p:ByteArray)(w:World)(hs:s.size<=9223372036854775807):
  Calls Tryz.prog 238 #[.string s,.string p] w fun e w'=>e= .returned (.bool (Lib.hasSuffix s.data.toList p.data.toList))/\w'=w:=Any.strings_HasSuffix Tryz.aCQ s p w hs
def Tryz.amZ:Go.Shelf.Ren:=⟨fun|102=>374|209=>404|207=>331|n=>n,fun|9=>9|4=>4|3=>3|n=>n,fun|n=>n⟩
def Tryz.aCR:Go.Proofs.Lays.n102 Tryz.prog Tryz.amZ:={
 mixed:=by kernel_rfl
 f102:=func374.trans cSz
 f207:=func331.trans cSz
 f209:=func404.trans cSz
 t3:=underlying3
 a3:=isAgg3
 z3:=sizeOf3
 v3:=zeroValue3
 t4:=underlying4
 a4:=isAgg4
 z4:=sizeOf4
 v4:=zeroValue4
 t9:=underlying9
 a9:=isAgg9
 z9:=sizeOf9
 v9:=zeroValue9}
open Go.RowKit Go.Lib in
def Tryz.strings_TrimSuffix (s p:ByteArray)(w:World)(hs:s.size<=9223372036854775807):
  Calls Tryz.prog 374 #[.string s,.string p] w fun e w'=>e= .returned (.string ⟨(Lib.trimSuffix s.data.toList p.data.toList).toArray⟩)/\w'=w:=Any.strings_TrimSuffix Tryz.aCR s p w hs
def Tryz.aaI:Go.Shelf.Ren:=⟨fun|155=>376|154=>405|138=>426|165=>427|143=>428|166=>429|197=>430|169=>431|195=>445|218=>446|240=>447|241=>448|219=>449|260=>450|276=>457|277=>458|217=>442|225=>423|224=>422|267=>459|266=>456|314=>466|n=>n,fun|9=>9|3=>3|4=>4|72=>369|0=>0|76=>338|105=>370|21=>21|5=>5|70=>367|20=>20|37=>264|75=>337|127=>385|164=>393|46=>226|119=>396|139=>399|138=>398|146=>381|51=>285|80=>372|n=>n,fun|1=>1|3=>4|4=>5|n=>n⟩
def Tryz.aCU:Go.Proofs.Lays.n155 Tryz.prog Tryz.aaI:={
 mixed:=by kernel_rfl
 f138:=func426.trans cSz
 f143:=func428.trans cSz
 f154:=func405.trans cSz
 f155:=func376.trans cSz
 f165:=func427.trans cSz
 f166:=func429.trans cSz
 f169:=func431.trans cSz
 f195:=func445.trans cSz
 f197:=func430.trans cSz
 f217:=func442.trans cSz
 f218:=func446.trans cSz
 f219:=func449.trans cSz
 f224:=func422.trans cSz
 f225:=func423.trans cSz
 f240:=func447.trans cSz
 f241:=func448.trans cSz
 f260:=func450.trans cSz
 f266:=func456.trans cSz
 f267:=func459.trans cSz
 f276:=func457.trans cSz
 f277:=func458.trans cSz
 f314:=func466.trans cSz
 t0:=underlying0
 a0:=isAgg0
 z0:=sizeOf0
 v0:=zeroValue0
 t3:=underlying3
 a3:=isAgg3
 z3:=sizeOf3
 v3:=zeroValue3
 t4:=underlying4
 a4:=isAgg4
 z4:=sizeOf4
 v4:=zeroValue4
 t5:=underlying5
 a5:=isAgg5
 z5:=sizeOf5
 v5:=zeroValue5
 t9:=underlying9
 a9:=isAgg9
 z9:=sizeOf9
 v9:=zeroValue9
 t20:=underlying20
 a20:=isAgg20
 z20:=sizeOf20
 v20:=zeroValue20
 t21:=underlying21
 a21:=isAgg21
 z21:=sizeOf21
 v21:=zeroValue21
 t37:=underlying264
 a37:=isAgg264
 z37:=sizeOf264
 v37:=zeroValue264
 t46:=underlying226
 a46:=isAgg226
 z46:=sizeOf226
 v46:=zeroValue226
 t51:=underlying285
 a51:=isAgg285
 z51:=sizeOf285
 v51:=zeroValue285
 t70:=underlying367
 a70:=isAgg367
 z70:=sizeOf367
 v70:=zeroValue367
 t72:=underlying369
 a72:=isAgg369
 z72:=sizeOf369
 v72:=zeroValue369
 t75:=underlying337
 a75:=isAgg337
 z75:=sizeOf337
 v75:=zeroValue337
 t76:=underlying338
 a76:=isAgg338
 z76:=sizeOf338
 v76:=zeroValue338
 t105:=underlying370
 a105:=isAgg370
 z105:=sizeOf370
 v105:=zeroValue370
 t119:=underlying396
 a119:=isAgg396
 z119:=sizeOf396
 t127:=underlying385
 a127:=isAgg385
 z127:=sizeOf385
 v127:=zeroValue385
 t138:=underlying398
 a138:=isAgg398
 z138:=sizeOf398
 v138:=zeroValue398
 t139:=underlying399
 a139:=isAgg399
 z139:=sizeOf399
 v139:=zeroValue399
 t146:=underlying381
 a146:=isAgg381
 z146:=sizeOf381
 v146:=zeroValue381
 t164:=underlying393
 a164:=isAgg393
 z164:=sizeOf393
 v164:=zeroValue393
 g1:=by kernel_rfl
 g3:=by kernel_rfl
 g4:=by kernel_rfl}
def Tryz.U9:Builder.Extra Tryz.prog Tryz.aaI:={
 sizeBuilder:=by kernel_rfl
 liesBuilder:=by kernel_rfl
 t5:=underlying5
 a5:=isAgg5
 z5:=sizeOf5
 v5:=zeroValue5
 infoByte:=by kernel_rfl
 cellsByte:=by kernel_rfl
 sizeByte:=by kernel_rfl
 neB5:=by decide}
open Go.RowKit Go.Lib in
def Tryz.strings_ReplaceAll (s old new:ByteArray)(m:Int)(w:World)(hs:s.size<4294967281)(hm:w.cell? ⟨1,0,none⟩=some (.int .i64 m))(h1:1<=old.size)(hlen:s.size+Lib.countB s old*new.size<=140737488355328):
  Calls Tryz.prog 376 #[.string s,.string old,.string new] w fun e w'=>
   e= .returned (.string ⟨(Lib.replaceAll s.data.toList old.data.toList new.data.toList).toArray⟩)/\Below w.heap.size w w':=Any.strings_ReplaceAll Tryz.aCU Tryz.U9 s old new m w hs hm h1 hlen
def Tryz.am1:Go.Shelf.Ren:=⟨fun|150=>274|153=>346|152=>389|226=>390|227=>391|228=>392|137=>420|119=>421|224=>422|225=>423|217=>442|266=>456|n=>n,fun|9=>9|4=>4|3=>3|5=>5|21=>21|117=>345|116=>344|0=>0|46=>226|124=>364|n=>n,fun|n=>n⟩
def Tryz.aCT:Go.Proofs.Lays.n150 Tryz.prog Tryz.am1:={
 mixed:=by kernel_rfl
 f119:=func421.trans cSz
 f137:=func420.trans cSz
 f150:=func274.trans cSz
 f152:=func389.trans cSz
 f153:=func346.trans cSz
 f217:=func442.trans cSz
 f224:=func422.trans cSz
 f225:=func423.trans cSz
 f226:=func390.trans cSz
 f227:=func391.trans cSz
 f228:=func392.trans cSz
 f266:=func456.trans cSz
 t0:=underlying0
 a0:=isAgg0
 z0:=sizeOf0
 v0:=zeroValue0
 t3:=underlying3
 a3:=isAgg3
 z3:=sizeOf3
 v3:=zeroValue3
 t4:=underlying4
 a4:=isAgg4
 z4:=sizeOf4
 v4:=zeroValue4
 t5:=underlying5
 a5:=isAgg5
 z5:=sizeOf5
 v5:=zeroValue5
 t9:=underlying9
 a9:=isAgg9
 z9:=sizeOf9
 v9:=zeroValue9
 t21:=underlying21
 a21:=isAgg21
 z21:=sizeOf21
 v21:=zeroValue21
 t46:=underlying226
 a46:=isAgg226
 z46:=sizeOf226
 v46:=zeroValue226
 t116:=underlying344
 a116:=isAgg344
 z116:=sizeOf344
 t117:=underlying345
 a117:=isAgg345
 z117:=sizeOf345
 v117:=zeroValue345
 t124:=underlying364
 a124:=isAgg364
 z124:=sizeOf364
 v124:=zeroValue364}
open Go.RowKit Go.Lib in
def Tryz.strings_ContainsAny_laid (s chars:ByteArray)(w:World)(hs:s.size<4294967281)(hcs:chars.size<4294967281)(has:∀(j:Nat) b,s.data.toList[j]?=some b->b.toNat<128)(hac:∀(j:Nat) b,chars.data.toList[j]?=some b->b.toNat<128):
  Calls Tryz.prog 274 #[.string s,.string chars] w fun e w'=>e= .returned (.bool (Lib.containsAny s.data.toList chars.data.toList))/\Below w.heap.size w w':=Any.strings_ContainsAny_laid Tryz.aCT (by kernel_rfl) s chars w hs hcs has hac
def Tryz.am4:Go.Shelf.Ren:=⟨fun|212=>424|263=>443|264=>444|n=>n,fun|46=>226|51=>285|146=>381|53=>287|148=>383|n=>n,fun|n=>n⟩
def Tryz.aCW:Go.Proofs.Lays.n212 Tryz.prog Tryz.am4:={
 mixed:=by kernel_rfl
 f212:=func424.trans cSz
 f263:=func443.trans cSz
 f264:=func444.trans cSz
 t46:=underlying226
 a46:=isAgg226
 z46:=sizeOf226
 v46:=zeroValue226
 t51:=underlying285
 a51:=isAgg285
 z51:=sizeOf285
 v51:=zeroValue285
 t53:=underlying287
 a53:=isAgg287
 z53:=sizeOf287
 v53:=zeroValue287
 t146:=underlying381
 a146:=isAgg381
 z146:=sizeOf381
 v146:=zeroValue381
 t148:=underlying383
 a148:=isAgg383
 z148:=sizeOf383
 v148:=zeroValue383}
open Go.RowKit Go.Lib in
def Tryz.bits_Mul (x y:Nat)(hx:x<18446744073709551616)(hy:y<18446744073709551616)(w:World):
  Calls Tryz.prog 424 #[.int .u64 x,.int .u64 y] w fun e w'=>e= .returned (.tuple #[.int .u64 ((x*y/18446744073709551616:Nat):Int),.int .u64 ((x*y % 18446744073709551616:Nat):Int)])/\w'=w:=Any.bits_Mul Tryz.aCW x y hx hy w
def Tryz.am5:Go.Shelf.Ren:=⟨fun|229=>326|n=>n,fun|9=>9|40=>296|31=>106|152=>332|3=>3|0=>0|4=>4|21=>21|154=>334|n=>n,fun|n=>n⟩
def Tryz.aCX:Go.Proofs.Lays.n229 Tryz.prog Tryz.am5:={
 mixed:=by kernel_rfl
 f229:=func326.trans cSz
 t0:=underlying0
 a0:=isAgg0
 z0:=sizeOf0
 v0:=zeroValue0
 t3:=underlying3
 a3:=isAgg3
 z3:=sizeOf3
 v3:=zeroValue3
 t4:=underlying4
 a4:=isAgg4
 z4:=sizeOf4
 v4:=zeroValue4
 t9:=underlying9
 a9:=isAgg9
 z9:=sizeOf9
 v9:=zeroValue9
 t21:=underlying21
 a21:=isAgg21
 z21:=sizeOf21
 v21:=zeroValue21
 t31:=underlying106
 a31:=isAgg106
 z31:=sizeOf106
 v31:=zeroValue106
 t40:=underlying296
 a40:=isAgg296
 z40:=sizeOf296
 v40:=zeroValue296
 t152:=underlying332
 a152:=isAgg332
 z152:=sizeOf332
 v152:=zeroValue332
 t154:=underlying334
 a154:=isAgg334
 z154:=sizeOf334
 v154:=zeroValue334}
open Go.RowKit Go.Lib in
def Tryz.strings_FieldsFunc_grows (g:Nat)(lb:Array Value)(eg:∀args w,(callFunc g args).run Tryz.prog w= .ok (.enter g args) w)(p:Nat->Bool)(s:ByteArray)(w:World)(hs:s.size<=4294967296)(hp:PredGrows Tryz.prog g lb p w):
  Calls Tryz.prog 326 #[.string s,.func (.func g) #[] lb] w fun e w'=>∃A,e= .returned (.slice (some ⟨A,0,none⟩) (Lib.goFieldsP p s).length (Lib.goFieldsP p s).length)/\w.heap.size<=A/\
   w'.ownsRow w.heap.size 9 1 (.slice (some ⟨A,0,none⟩) (Lib.goFieldsP p s).length (Lib.goFieldsP p s).length) (Lib.goFieldsP p s).length ((Lib.goFieldsP p s).map Value.string)/\Below w.heap.size w w':=Any.strings_FieldsFunc_grows Tryz.aCX g lb eg p s w hs hp (by kernel_rfl) (by kernel_rfl)
def Tryz.af8:Go.Shelf.Ren:=⟨fun|16=>323|n=>n,fun|24=>106|9=>9|4=>4|n=>n,fun|n=>n⟩
def Tryz.ZF:Go.Proofs.Lays2.n16 Tryz.prog Tryz.af8:={
 mixed:=by kernel_rfl
 f16:=func323.trans cSz
 t4:=underlying4
 a4:=isAgg4
 z4:=sizeOf4
 v4:=zeroValue4
 t9:=underlying9
 a9:=isAgg9
 z9:=sizeOf9
 v9:=zeroValue9
 t24:=underlying106
 a24:=isAgg106
 z24:=sizeOf106
 v24:=zeroValue106
 i9:=by kernel_rfl}
open Go.RowKit Go.Lib in
def Tryz.slices_Clone_string (b off n c:Nat)(zs:List ByteArray)(w:World)(hz:n<=zs.length)(hbig:n*16<=140737488355328)(hc:∀j,j<zs.length->w.cell? ⟨b,off+j,none⟩=some (.string (zs.getD j ByteArray.empty))):
  Calls Tryz.prog 323 #[.slice (some ⟨b,off,none⟩) n c] w fun e w'=>∃v',e= .returned v'/\w'.ownsRow w.heap.size 9 1 v' n ((zs.take n).map (Value.string))/\v'≠ .slice none 0 0/\Below w.heap.size w w':=Any.slices_Clone_string Tryz.ZF b off n c zs w hz hbig hc
open Go.RowKit Go.Lib in
def Tryz.slices_Clone_string_nil (n c:Nat)(w:World):
  Calls Tryz.prog 323 #[.slice none n c] w fun e w'=>e= .returned (.slice none 0 0)/\w'=w:=Any.slices_Clone_string_nil Tryz.ZF n c w
open Go.RowKit Go.Lib in
def Tryz.slices_Clone_string_zero (a:Addr)(c:Nat)(w:World):
  Calls Tryz.prog 323 #[.slice (some a) 0 c] w fun e w'=>∃v',e= .returned v'/\w'.ownsRow w.heap.size 9 1 v' 0 []/\v'≠ .slice none 0 0/\Below w.heap.size w w':=Any.slices_Clone_string_zero Tryz.ZF a c w
def Tryz.am3:Go.Shelf.Ren:=⟨fun|194=>325|n=>n,fun|31=>106|9=>9|3=>3|4=>4|0=>0|n=>n,fun|n=>n⟩
def Tryz.ar7:Go.Proofs.Lays.n194 Tryz.prog Tryz.am3:={
 mixed:=by kernel_rfl
 f194:=func325.trans cSz
 t0:=underlying0
 a0:=isAgg0
 z0:=sizeOf0
 v0:=zeroValue0
 t3:=underlying3
 a3:=isAgg3
 z3:=sizeOf3
 v3:=zeroValue3
 t4:=underlying4
 a4:=isAgg4
 z4:=sizeOf4
 v4:=zeroValue4
 t9:=underlying9
 a9:=isAgg9
 z9:=sizeOf9
 v9:=zeroValue9
 t31:=underlying106
 a31:=isAgg106
 z31:=sizeOf106
 v31:=zeroValue106}
open Go.RowKit Go.Lib Go.Sort in
def Tryz.slices_Compact_string (blk off cap:Nat)(zs:List (List UInt8))(w:World)(hH:Holds encStr w blk off zs.toArray)(hsz:zs.length<=9223372036854775807)(hcap:zs.length<=cap):
  Calls Tryz.prog 325 #[.slice (some ⟨blk,off,none⟩) zs.length cap] w fun e w'=>e= .returned (.slice (some ⟨blk,off,none⟩) (Lib.compact zs).length cap)/\∃q,w'=putRow encStr (Sort.ahead w q) blk off (Lib.compact zs++List.replicate (zs.length-(Lib.compact zs).length) []).toArray:=Any.slices_Compact_string Tryz.ar7 blk off cap zs w hH hsz hcap
open Go.RowKit Go.Lib Go.Sort in
def Tryz.slices_Compact_string_empty (a:Option Addr)(cap:Nat)(w:World):
  Calls Tryz.prog 325 #[.slice a 0 cap] w fun e w'=>e= .returned (.slice a 0 cap)/\w'=w:=Any.slices_Compact_string_empty Tryz.ar7 a cap w
end Go.Proofs
end
section
namespace Go.Dv
open Go.RowKit
variable [lF]
variable {P:Program}{f:FuncId}{fn:Func}{c:Code}{n:Nat}{rs:List ResultVar}{ds:List D}{m:Nat}{dm:D}{Q:S->Prop}
def aHH {T:TypeId->TyE}(hG:∀t,Good P T t) (hf:P.funcs[f]?=some fn) (hb:fn.body=some c) (hn':fn.ntmps=n) (hn:n<=1000000) (hd:ds.length<=n)
  (hr:fn.results=rs.toArray) (h:∀w0 ow0,OkC P n w0 ow0 none c (mutSt ds m dm) (endR T rs Q)):awG P f ds m dm Q:=by
 subst hn';intro w ow vs t l ht hL hnew hvs hm hargs hV;have hm6:m<1000000:=by omega
 refine calls_of_wp hf hb ?_
 have hav:∀i,i<ds.length->aval {tmps:=vs++Array.replicate (fn.ntmps-vs.size) undef,defers:=[]} i=vs.getD i undef:=by
  intro i hi;unfold aval;rw[if_pos (by omega)];simp only[aF];rw[eU (by omega)]
 have hfit:Fits P fn.ntmps w (JZ l m ow) (JZ l m ow) (mutSt ds m dm) {tmps:=vs++Array.replicate (fn.ntmps-vs.size) undef,defers:=[]} w:=by
  refine⟨rfl,by simp;omega,hn,(hL.mono fun b o h1 h2=>⟨h1,mK h2⟩),⟨rfl,rfl,rfl,k_Nat_le_refl _,fun _ _ _=>rfl⟩,fun _ _ h=>h,fun b hb=>mK (hnew b hb),?_,fun _ _ _ h=>⟨rfl,h⟩,fun i=> ?_⟩
  ·unfold mutSt argSt;rw[qM (by unfold far0;omega),k_List_getElem__eq_none (by unfold far0;omega)]
  ·by_cases him:i=m
   ·subst him;simp only[mutSt,put_eq,SV];rw[hav i hm];exact V.tr (fun b _=>⟨fun ho=>⟨rfl,mK ho⟩,fun q hq=>⟨rfl,aeV hq⟩⟩) hV
   ·simp only[mutSt,qM him];unfold argSt;cases hdi:ds[i]? with
    |none=>trivial
    |some d=>
     have hi:i<ds.length:=(aD.1 hdi).1;simp only[SV];rw[hav i hi];exact V.trf (fun b _ ho=>⟨rfl,mK ho⟩) (hargs i d hdi him)
 refine h w _ _ w ⟨_,hfit⟩ (by intro m v e;cases e) _ fun e s' a' w' hK hR hp'=> ?_
 have key:(retL T rs s' fun ds s2=>Q (retS ds))->bodyPost P fn (fun e w'=>∃v ow' r,e= .returned v/\Q r/\w'.os=w.os/\w'.tape=w.tape/\w'.output=w.output/\w.heap.size<=w'.heap.size/\
   (∀b,b<w.heap.size->(∀q,ow b≠some (q++l))->w'.heap[b]?=w.heap[b]?/\ow' b=ow b)/\(∀b,w'.heap.size<=b->ow' b=none)/\S.plain r=true/\∀s a,SV P w' ow' s a t r v) .ret a' w':=by
  intro hK;obtain⟨ow1,hf1⟩:=hR;obtain⟨vals,ow2,s2,ds2,hQ,hf2,hl1,hl2,hrun,hvals,hkeep⟩:=hf1.retL hG (fun k=>if rs.length=1 then[]else[k]) rs 0 hK
  have hres:(results fn a'.tmps).run P w'= .ok (if h:vals.toArray.size=1 then vals.toArray[0]else .tuple vals.toArray) w':=by
   unfold results;rw[hr];have hb:∀{α β:Type}(x:Sem α) (g:α->Sem β),Sem.run P (Sem.bind x g) w'=(Sem.run P x w').andThen fun a w'=>Sem.run P (g a) w':=fun x g=>aH ..;simp only[sK,Functor.map,aH,aQ];rw[hb,hrun _ (X8 a'.tmps P w' _ (fun _=>rfl) fun _ _=>rfl)];rfl
  refine⟨hf1.nodef,_,hres,?_⟩
  have hmiss:∀b,b<w.heap.size->(∀q,ow b≠some (q++l))->w'.heap[b]?=w.heap[b]?/\(ow b=none->ow2 b=none)/\(∀lab,ow b=some lab->ow2 b=some (lab++[far0])):=by
   intro b hlt hno;cases ho:ow b with
   |none=>exact⟨hf2.bel.block b hlt (mK ho),fun _=>hf2.own b hlt (mK ho),fun lab e=>by cases e⟩
   |some lab=>
    have hlab:=aaJ (l:=l) (m:=m) ho (fun hu=>by obtain⟨q,hq⟩:=hu;exact hno q (by rw[ho,hq]));obtain⟨g1,g2⟩:=hf2.keep b hlt lab hlab;exact⟨g1,fun e=>(by cases e),fun lab' e=>by obtain rfl:=k_Option_some_inj e;exact g2⟩
  have hnone:∀b,ow2 b=none->jU w l m t ow ow2 b=none:=by
   intro b hb;unfold jU;split
   ·rename_i hc;cases ho:ow b with
    |none=>rfl
    |some lab=>have:=(hmiss b hc.1 hc.2).2.2 lab ho;rw[hb]at this;cases this
   ·rw[hb]
  have hlast:∀b q j,ow2 b=some (q++[j])->j≠far0->¬(b<w.heap.size/\∀q,ow b≠some (q++l)):=by
   rintro b q j hq hj ⟨h1,h2⟩;obtain⟨_,g1,g2⟩:=hmiss b h1 h2;cases ho:ow b with
   |none=>rw[g1 ho]at hq;cases hq
   |some lab=>
    rw[g2 lab ho]at hq;have:=congrArg List.getLast? (k_Option_some_inj hq);simp at this;exact hj this.symm
  have hmf:m≠far0:=by unfold far0;omega
  have hmr:m≠res0:=by unfold res0;omega
  have hkm:Keeps w' ow2 [m] w' (jU w l m t ow ow2) l:=fun b _=>⟨fun ho=>⟨rfl,hnone b ho⟩,fun q hq=>⟨rfl,by
   unfold jU;rw[if_neg (hlast b q m hq hmf),hq];simp⟩⟩
  have hk:∀l2,Keeps w' ow2 (l2++[res0]) w' (jU w l m t ow ow2) (l2++[t]):=fun l2 b _=>⟨fun ho=>⟨rfl,hnone b ho⟩,fun q hq=>⟨rfl,by
   have hq':ow2 b=some ((q++l2)++[res0]):=by rw[hq];simp
   unfold jU;rw[if_neg (hlast b _ res0 hq' (by unfold res0 far0;omega)),hq'];simp[k_Ne_symm hmr]⟩⟩
  have hq:Quiet w' ow2 w' (jU w l m t ow ow2):=fun b _ ho=>⟨rfl,hnone b ho⟩
  have part:∀(j:Nat) (p:D×Bool),ds2[j]?=some p->∃v,vals[j]?=some v/\(if(p.2||p.1.frz)=true then V P w' (jU w l m t ow ow2) p.1.fz [] v else V P w' (jU w l m t ow ow2) p.1 ((if rs.length=1 then[]else[j])++[t]) v):=by
   intro j p hj;obtain⟨v,h1,h2,h3⟩:=hvals j p hj;rw[bU]at h2;refine⟨v,h1,?_⟩;by_cases hp:(p.2||p.1.frz)=true
   ·rw[if_pos hp]
    have hfz:p.1.fz=p.1:=by
     rcases bH _ _▸hp with hp|hp
     ·exact h3 hp
     ·exact D.UH hp
    rw[←hfz]at h2;exact V.trf hq h2
   ·rw[if_neg hp];exact V.tr (hk _) h2
  refine⟨_,jU w l m t ow ow2,retS ds2,rfl,hQ,hf2.bel.os,hf2.bel.tape,hf2.bel.output,hf2.bel.size,fun b hb hno=>⟨(hmiss b hb hno).1,by unfold jU;rw[if_pos ⟨hb,hno⟩]⟩,fun b hb=>hnone b (hf2.new b hb),?_,fun s a=> ?_⟩
  ·unfold retS;split
   ·split<;>rfl
   ·rfl
  ·by_cases hone:rs.length=1
   ·have hd1:ds2.length=1:=by rw[hl1,hone]
    have hv1:vals.length=1:=by rw[hl2,hone]
    obtain⟨⟨d,b⟩,rfl⟩:=eD.1 hd1;obtain⟨v,rfl⟩:=eD.1 hv1;obtain⟨v',h1,h2⟩:=part 0 (d,b) rfl;obtain rfl:v=v':=by simpa using h1
    rw[if_pos hone]at h2;simp only[retS];by_cases hp:(b||d.frz)=true
    ·rw[if_pos hp]at h2|-
     exact h2
    ·rw[if_neg hp]at h2|-
     exact h2
   ·have hd1:∀p,ds2≠[p]:=fun p e=>by rw[e]at hl1;simp at hl1;exact hone hl1.symm
    have htup:retS ds2= .tup (ds2.map fun p=>if p.2||p.1.frz then .val p.1 else .own p.1):=by
     unfold retS;split
     ·rename_i d b;exact absurd rfl (hd1 _)
     ·rfl
    rw[htup];refine⟨vals.toArray,?_,by simp[hl1,hl2],fun j x hx=> ?_⟩
    ·rw[dif_neg];simp[hl2,hone]
    ·simp only[aO,aK]at hx;obtain⟨p,hp,rfl⟩:=hx;obtain⟨v,h1,h2⟩:=part j p hp;have hv:vals.toArray.getD j undef=v:=by simp[aF,h1]
     rw[hv];by_cases hpf:(p.2||p.1.frz)=true
     ·rw[if_pos hpf]at h2|-
      exact h2
     ·rw[if_neg hpf]at h2|-
      rw[if_neg hone]at h2;exact h2
 cases e with
 |normal=>exact key hK
 |ret=>exact key hK
 |_=>exact hK.elim
def fT {T:TypeId->TyE}[hG:wG P T] (sp:List Nat) (hn':fn.ntmps=n) (h:∀w0 ow0,@WC _ P T n w0 ow0 none sp ⟨c⟩ ((argSt ds).put m (.own dm)) ⟨endR T rs Q⟩) (hf:P.funcs[f]?=some fn:=by rfl)
  (hb:fn.body=some c:=by rfl) (hr:fn.results=rs.toArray:=by rfl) (hn:n<=1000000:=by decide) (hd:ds.length<=n:=by simp):awG P f ds m dm Q:=aHH hG.g hf hb hn' hn hd hr fun w0 ow0=>wcI hG.g sp (h w0 ow0) (zB c)
end Go.Dv
end
section
namespace Go.Proofs.YtafdbpehjfmnpaaGreatDoor
open Go.Dv Go.Pl
attribute [simp ↓] amT amO amU amP amS amR amQ amV asT asS asU akX akW akY axM axN akV akU akT agS aoH aiC axO axP
attribute [simp] ahW Dv.ones D.aeF D.N8 D.KX D.pU D.nJ S.closed ac4 OD TG R9 asA anH al9 ahE TN ZX axG tmpsOf am9 aBD ZM St.fresh S.fresh St.E8 St.TK wW anA as3 as4 as2 as1 aoX arZ ar0 aEM ayD ayE aEN ar1 al0 lW stepCall LQ OE adN agK alM alP anM amA BZ D.flat D.xX IP XJ oneK uR DR agZ D5 TP AY EW KE adM VL QX dcall YU adO Z4 St.EH S.aaT St.JE S.ET nA evS slotOf nQ asSl srcOf Src.st Src.from Src.data SLv.xs NE setParts FT rowOf places St.set St.jK St.free St.kill St.put St.LV St.PT S.drop S.root S.fC Value.oneCell' dbin binV arithK strK unV dconvI eqB bndK dsliceT D.ae5 isAny_one isAny_sl isAny_agg isAny_bx isAny_any isAgg_one isAgg_sl isAgg_agg isAgg_bx isAgg_any isHd_one isHd_sl isHd_agg isHd_bx isHd_any hkid_one hkid_sl hkid_agg hkid_bx hkid_any hsetKid_one hsetKid_sl hsetKid_agg hsetKid_bx hsetKid_any D.w D.ws D.frz D.wL D.fz D.fzs D.sub D.upd D.free TyE.ok Ty.isAgg dstOk lst argSt thenK blockK endK retK numb argB endR retL retS rvOp res0 far0 QL_nil QL_put QL_lst QL_arg stepD quietOp qmove endM mutSt gC_true gC_false gQ_eq ba_size ba_get ba_append ba_extract ba_lt take_drop_len ByteArray.mk.injEq fzs_app wrap_u8 u8_eq int_beq int_bne all_drop take_drop_map fzs_take fzs_drop all_take all_take_drop QM QF_nil QF_put QF_lst frK_put putAll rootIn rootOut rootOwn detOp List.lookup stepF fnOf fnC argsOf dcallF dcallMF vcW_nil vcW_put vcW_lst vcW_kill stepW wrapV St.aw7 fzs_tail fzs_set frzs_tail frzs_set1 frzs_append S.plain wc_skip wc_ret wc_exit wc_label wc_block wc_loop wc_rf wc_draw wc_cond wc_region wc_seq holdA_eq holdB_eq T3 T4 T5 T9 T22 T24 T25 T27 T29 T30 T31 T33 T34 T36 T39 T42 T44 T45 T47 T48 T49 T51 T52 T54 T59 T62 T72 T84 T93 T99 T101 T106 T108 T118 T127 T137 T140 T143 T152 T154 T182 T184 T189 T203 T206 T226 T244 T248 T250 T253 T260 T264 T272 T273 T278 T309 T313 T316 T337 T348 enF muF mu125 mu133 mu138 mu213 mu216 mu218 mu222 mu295 mu305 mu324 mu335 mu352 mu354 mu355 mu395 okF QT QO endW wSt putG putR putC getG gl_ne gl_en gl_lt gl_eq gl_eq2 argB_nil argB_cons Go.Value.oneCell' Go.IntKind.bits List.lookup
end Go.Proofs.YtafdbpehjfmnpaaGreatDoor
end
section
namespace Go.Proofs.YtafdbpehjfmnpaaGreatDoor
open Go.Dv
instance:wG Tryz.prog T:=⟨good⟩
end Go.Proofs.YtafdbpehjfmnpaaGreatDoor
end
section
namespace Go.Proofs.YtafdbpehjfmnpaaGreatDoor
open Go.Dv Go.Pl Go.Proofs.Tryz
abbrev nInts (l:L1):D:= .sl none (l.map dI)
abbrev cO (l:L1):D:= .sl (some 3) (l.map dI)
abbrev mM (l:List Str):D:= .sl none (l.map dS)
abbrev FD (l:List Str):D:= .sl (some 9) (l.map dS)
abbrev bV (m:L2):D:= .sl none (m.map nInts)
abbrev mY (m:L2):D:= .sl (some 25) (m.map cO)
abbrev mP (v:Ver):D:= .agg [dI v.a,dI v.b,dB v.same,dI v.time]
abbrev nVers (l:List Ver):D:= .sl none (l.map mP)
abbrev oVers (l:List Ver):D:= .sl (some 99) (l.map mP)
abbrev zN (t:Tst):D:= .agg [dI t.feature,dI t.threshold,dB t.below]
abbrev vZ (l:List Tst):D:= .agg [.sl none (l.map zN)]
abbrev mQ (r:List (List Tst)):D:= .agg [.sl none (r.map vZ)]
abbrev H7 (s:Sco):D:= .agg [nInts s.weights,dI s.bias]
abbrev agC (c:Cfg):D:= .agg [mQ c.rules,H7 c.sco,nInts c.surv]
abbrev zA (r:Rec):D:= .agg [dI r.source,dI r.key,dI r.version,mM r.fields]
abbrev H6 (l:List Rec):D:= .sl none (l.map zA)
abbrev NT (s:Sto):D:= .agg [dI s.version,H6 s.recs,nVers s.vers]
def bB (x a b:Int):Fk 61 [dI x,dI a,dI b] (vB (inR x a b)):=by
 refine fE [] ntmps61 fun _ _=> ?_;simp;apply gv<;>intro g1
 ·have g1':=g1;simp[g1]
 ·have g1':=g1;simp at g1';simp[g1]
def bC (x a b:Int):Fk 44 [dI x,dI a,dI b] (vB (inR x a b)):=by
 refine fE [] ntmps44 fun _ _=> ?_;simp;apply gv<;>intro g1
 ·have g1':=g1;simp[g1]
 ·have g1':=g1;simp at g1';simp[g1]
def CV (x:Int):Fk 200 [dI x] (vB (inR x 1 399)):=by
 refine fE [] ntmps200 fun _ _=> ?_;simp;refine ck (bB _ _ _) ?_;simp
def LZ (v:Ver):Fk 199 [mP v] (vB (fH v)):=by
 refine fE [] ntmps199 fun _ _=> ?_;simp;refine ck (CV _) ?_;simp;apply gv<;>intro g1
 ·have g1':=g1;simp at g1';simp[g1];refine ck (CV _) ?_;simp;apply gv<;>intro g2
  ·have g2':=g2;simp at g2';simp[g2];apply gv<;>intro g3
   ·have g3':=g3;simp[g3];refine ck (bB _ _ _) ?_;simp;grind[fH]
   ·have g3':=g3;simp at g3';simp[g3];grind[fH]
  ·have g2':=g2;simp at g2';simp[g2];grind[fH]
 ·have g1':=g1;simp at g1';simp[g1];grind[fH]
def BC (v:Ver):Fk 186 [mP v] (vB (fH v)):=by
 refine fE [] ntmps186 fun _ _=> ?_;simp;refine ck (bC _ _ _) ?_;simp;apply gv<;>intro g1
 ·have g1':=g1;simp at g1';simp[g1];refine ck (bC _ _ _) ?_;simp;apply gv<;>intro g2
  ·have g2':=g2;simp at g2';simp[g2];apply gv<;>intro g3
   ·have g3':=g3;simp[g3];refine ck (bC _ _ _) ?_;simp;grind[fH]
   ·have g3':=g3;simp at g3';simp[g3];grind[fH]
  ·have g2':=g2;simp at g2';simp[g2];grind[fH]
 ·have g1':=g1;simp at g1';simp[g1];grind[fH]
def ad7 (s:Str)(hs:Qle s:=by first|omega|grind):Fk 259 [dS s] (vB (isText s)):=by
 refine fE [] ntmps259 fun _ _=> ?_;simp;refine wlt Nat (fun i=>([(0,vS s),(3,vI i)],s.length-i,(i<=s.length)/\((s.take i).all AL=true))) (0) ⟨by omega,rfl⟩ ?_;rintro i ⟨h1,h2⟩;simp;apply gw<;>intro a
 ·obtain⟨c,hc⟩:=aN (l:=s) (i:=i);simp[hc];apply gv<;>intro g
  ·have g':=g;have hn:=fJ hc (P:=AL) (by first|assumption|(simp;omega)|(simp[*];done)|(simp[AL, *];done)|grind[AL]|(simp[AL];omega));simp[g];grind[isText]
  ·have g':=g;simp at g';simp[hc,g];apply gw<;>intro b
   ·have hn:=fJ hc (P:=AL) (by first|assumption|(simp;omega)|(simp[*];done)|(simp[AL, *];done)|grind[AL]|(simp[AL];omega));simp;grind[isText]
   ·simp at b;simp;refine nxa (i+1) ⟨by omega,(bW hc h2 (by first|assumption|(simp;omega)|(simp[*];done)|(simp[AL, *];done)|grind[AL]|(simp[AL];omega)))⟩
 ·simp at a;have hf:=iO h2 a;simp;grind[isText]
def abW (s:Str)(hs:Qle s):Fk 176 [dS s] (vB (lK s)):=by
 refine fE [] ntmps176 fun _ _=> ?_;simp;refine wlt Nat (fun i=>([(0,vS s),(3,vI i)],s.length-i,(i<=s.length)/\((s.take i).all vH=true))) (0) ⟨by omega,rfl⟩ ?_;rintro i ⟨h1,h2⟩;simp;apply gw<;>intro a
 ·obtain⟨c,hc⟩:=aN (l:=s) (i:=i);simp[hc];apply gv<;>intro g
  ·have g':=g;have hn:=fJ hc (P:=vH) (by first|assumption|(simp;omega)|(simp[*];done)|(simp[vH, *];done)|grind[vH]|(simp[vH];omega));simp[g];grind[lK]
  ·have g':=g;simp[hc,g];apply gw<;>intro b
   ·have hn:=fJ hc (P:=vH) (by first|assumption|(simp;omega)|(simp[*];done)|(simp[vH, *];done)|grind[vH]|(simp[vH];omega));simp;grind[lK]
   ·simp;refine nxa (i+1) ⟨by omega,(bW hc h2 (by first|assumption|(simp;omega)|(simp[*];done)|(simp[vH, *];done)|grind[vH]|(simp[vH];omega)))⟩
 ·simp at a;have hf:=iO h2 a;simp;refine ck (ad7 _) ?_;simp;grind[lK]
def nY (f:L1)(hs:Qle f:=by first|omega|grind):Fk 175 [nInts f] (vB (uU f)):=by
 refine fE [] ntmps175 fun _ _=> ?_;simp;refine wlt Nat (fun i=>([(0,.val (nInts f)),(3,vI i)],f.length-i,(i<=f.length)/\((f.take i).all IE=true))) (0) ⟨by omega,rfl⟩ ?_;rintro i ⟨h1,h2⟩;simp;apply gw<;>intro a
 ·obtain⟨c,hc⟩:=aN (l:=f) (i:=i);simp[hc];refine ck (bC _ _ _) ?_;simp;apply gw<;>intro b
  ·simp at b;have hn:=fJ hc (P:=IE) (by first|assumption|(simp;omega)|(simp[*];done)|(simp[IE, *];done)|grind[IE]|(simp[IE];omega));simp;grind[uU]
  ·simp at b;simp;refine nxa (i+1) ⟨by omega,(bW hc h2 (by first|assumption|(simp;omega)|(simp[*];done)|(simp[IE, *];done)|grind[IE]|(simp[IE];omega)))⟩
 ·simp at a;have hf:=iO h2 a;simp;grind[uU]
def JU (f:L1)(hs:Qle f:=by first|omega|grind):Fk 154 [nInts f] (vB (DN f)):=by
 refine fE [] ntmps154 fun _ _=> ?_;simp;refine wlt Nat (fun i=>([(0,.val (nInts f)),(3,vI i)],f.length-i,(i<=f.length)/\((f.take i).all QE=true))) (0) ⟨by omega,rfl⟩ ?_;rintro i ⟨h1,h2⟩;simp;apply gw<;>intro a
 ·obtain⟨c,hc⟩:=aN (l:=f) (i:=i);simp[hc];refine ck (bC _ _ _) ?_;simp;apply gw<;>intro b
  ·simp at b;have hn:=fJ hc (P:=QE) (by first|assumption|(simp;omega)|(simp[*];done)|(simp[QE, *];done)|grind[QE]|(simp[QE];omega));simp;grind[DN]
  ·simp at b;simp;refine nxa (i+1) ⟨by omega,(bW hc h2 (by first|assumption|(simp;omega)|(simp[*];done)|(simp[QE, *];done)|grind[QE]|(simp[QE];omega)))⟩
 ·simp at a;have hf:=iO h2 a;simp;grind[DN]
def rY (a b:Int):Fk 92 [dI a,dI b] (vI (cmpI a b)):=by
 refine fE [] ntmps92 fun _ _=> ?_;simp;apply gw<;>intro h1
 ·simp;grind[cmpI]
 ·simp at h1;simp;apply gw<;>intro h2
  ·simp;grind[cmpI]
  ·simp at h2;simp;grind[cmpI]
def kM (l:L1)(x:Int)(hs:Qle l:=by first|omega|grind):Fk 79 [nInts l,dI x] (vI (ix (fun y=>decide (y=x)) l)):=by
 refine fE [] ntmps79 fun _ _=> ?_;simp;refine wlt Nat (fun i=>([(0,.val (nInts l)),(1,vI x),(5,vI i)],l.length-i,(i<=l.length)/\((l.take i).any (fun y=>decide (y=x))=false))) (0) ⟨by omega,rfl⟩ ?_;rintro i ⟨h1,h2⟩;simp;apply gw<;>intro a
 ·obtain⟨c,hc⟩:=aN (l:=l) (i:=i);simp[hc];apply gw<;>intro b
  ·have hn:=BI hc h2 (by simp[b]);simp[hn]
  ·simp;refine nxa (i+1) ⟨by omega,(jB hc h2 (by simp[b]))⟩
 ·simp at a;have hf:=mR h2 a;have hx:=qQ hf;simp[hx]
def uT (l:List Ver)(hs:Qle l:=by first|omega|grind):Fk 105 [nVers l] (.own (oVers l)):=by
 refine fE [] ntmps105 fun _ _=> ?_;simp;omega
def qO (r:Rec)(hs:E5 r):Fk 96 [zA r] (vB (bE r)):=by
 refine fE [] ntmps96 fun _ _=> ?_;obtain⟨hs1,hs2⟩:=hs;simp;refine wlt Nat (fun i=>([(1,.own (.bx true (zA r))),(3,vI i)],(r.fields).length-i,(i<=(r.fields).length)/\(((r.fields).take i).all lK=true))) (0) ⟨by omega,rfl⟩ ?_;rintro i ⟨h1,h2⟩;simp;apply gw<;>intro a
 ·obtain⟨c,hc⟩:=aN (l:=r.fields) (i:=i);simp[hc];refine ck (abW _ (hs2 c (aA hc))) ?_;simp;apply gw<;>intro b
  ·simp at b;have hn:=fJ hc (P:=lK) (by first|assumption|(simp;omega)|(simp[*];done)|(simp[lK, *];done)|grind[lK]|(simp[lK];omega));simp;grind[bE]
  ·simp at b;simp;refine nxa (i+1) ⟨by omega,(bW hc h2 (by first|assumption|(simp;omega)|(simp[*];done)|(simp[lK, *];done)|grind[lK]|(simp[lK];omega)))⟩
 ·simp at a;have hf:=iO h2 a;simp;refine ck (bC _ _ _) ?_;simp;apply gv<;>intro g1
  ·have g1':=g1;simp at g1';simp[g1];refine ck (bC _ _ _) ?_;simp;apply gv<;>intro g2
   ·have g2':=g2;simp at g2';simp[g2];refine ck (bC _ _ _) ?_;simp;apply gv<;>intro g3
    ·have g3':=g3;simp at g3';simp[g3];grind[bE]
    ·have g3':=g3;simp at g3';simp[g3];grind[bE]
   ·have g2':=g2;simp at g2';simp[g2];grind[bE]
  ·have g1':=g1;simp at g1';simp[g1];grind[bE]
def tH (r:Rec)(hs:inR r.source 0 3)(hk:inR r.key 1 99):Fk 93 [zA r] (vI (jQ r)):=by
 refine fE [] ntmps93 fun _ _=> ?_;simp at hs hk;simp;iterate 2 refine ai ?_
 grind[jQ]
def abR (l:List Rec)(hs:Qle l)(hr:∀r∈l,E5 r):Fk 156 [H6 l] (vB (l.all bE&&decide (l.length<=12))):=by
 refine fE [] ntmps156 fun _ _=> ?_;simp;refine wlt Nat (fun i=>([(0,.val (H6 l)),(3,vI i)],l.length-i,(i<=l.length)/\((l.take i).all bE=true))) (0) ⟨by omega,rfl⟩ ?_;rintro i ⟨h1,h2⟩;simp;apply gw<;>intro a
 ·obtain⟨c,hc⟩:=aN (l:=l) (i:=i);simp[hc];refine ck (qO _ (hr c (aA hc))) ?_;simp;apply gw<;>intro b
  ·simp at b;have hn:=fJ hc (P:=bE) (by first|assumption|(simp;omega)|(simp[*];done)|(simp[bE, *];done)|grind[bE]|(simp[bE];omega));simp[hn]
  ·simp at b;simp;refine nxa (i+1) ⟨by omega,(bW hc h2 (by first|assumption|(simp;omega)|(simp[*];done)|(simp[bE, *];done)|grind[bE]|(simp[bE];omega)))⟩
 ·simp at a;have hf:=iO h2 a;simp[hf];omega
end Go.Proofs.YtafdbpehjfmnpaaGreatDoor
end
section
namespace Go.Proofs.YtafdbpehjfmnpaaGreatDoor
open Go.Dv Go.Pl
@[go_sem,simp] abbrev vN (x:L1):S:= .val (nInts x)
@[go_sem,simp] abbrev wN (x:L1):S:= .own (cO x)
@[go_sem,simp] abbrev vV (x:List Ver):S:= .val (nVers x)
@[go_sem,simp] abbrev wV (x:List Ver):S:= .own (oVers x)
@[go_sem,simp] abbrev vR (x:List Str):S:= .val (mM x)
@[go_sem,simp] abbrev vT (x:List Rec):S:= .val (H6 x)
end Go.Proofs.YtafdbpehjfmnpaaGreatDoor
end
section
namespace Go.Proofs.YtafdbpehjfmnpaaGreatDoor
open Go.Dv Go.Pl Go.Proofs.Tryz
abbrev alD (c:Con):D:= .agg [dI c.a,dI c.b,dB c.same]
abbrev aHY (l:List Con):D:= .sl (some 189) (l.map alD)
abbrev jJ (l:List Con):D:= .sl none (l.map alD)
def axS (a b c d:Int)(s t:Bool)(a' b':Int):Dv.EqAt prog 99 [.int .i64 a,.int .i64 b,.bool s,.int .i64 c] [.int .i64 a',.int .i64 b',.bool t,.int .i64 d] (decide (a=a'/\b=b'/\s=t/\c=d)):=by
 refine⟨by kernel_rfl,fun w=> ?_⟩;have u3:=underlying3;have a3:=Tryz.isAgg3;have z3:=Tryz.sizeOf3;have u4:=underlying4;have a4:=Tryz.isAgg4;have z4:=Tryz.sizeOf4;have hS:prog.underlying 99=some (.struct (prog.fieldsOf 99)):=by kernel_rfl
 have hp:prog.stoodInHeld 99=false:=by kernel_rfl
 rw[show(10000:Nat)=9999+1 from rfl,run_equalIn_agg w 9999 99 _ _ hS hp];simp only[Program.fieldsOf,underlying99]
 go_simp
 by_cases h1:a=a'<;>by_cases h2:b=b'<;>by_cases h3:s=t<;>by_cases h4:c=d<;>simp[h1,h2,h3,h4]
@[go_sem,simp] def aGR (a b c d:Int)(s t:Bool)(a' b':Int)(r:Bool):Dv.EqAt prog 99 [.int .i64 a,.int .i64 b,.bool s,.int .i64 c] [.int .i64 a',.int .i64 b',.bool t,.int .i64 d] r↔r=(decide (a=a'/\b=b'/\s=t/\c=d)):=(axS a b c d s t a' b').iff
def tF (a b:Ver):Fk 188 [mP a,mP b] (vI (gF a b)):=by
 refine fE [] ntmps188 fun _ _=> ?_;simp;refine ck (rY _ _) ?_;simp;apply gw<;>intro h1
 ·simp;refine ck (rY _ _) ?_;simp;apply gw<;>intro h2
  ·simp;refine ck (rY _ _) ?_;simp;apply gv<;>intro g3
   ·have g3':=g3;simp[g3];apply gw<;>intro h4
    ·simp at h4;simp;apply gw<;>intro h5
     ·simp;grind[gF]
     ·simp;grind[gF]
    ·simp at h4;simp;grind[gF]
   ·have g3':=g3;simp[g3];grind[gF]
  ·simp;apply gv<;>intro g6
   ·have g6':=g6;simp[g6];apply gw<;>intro h7
    ·simp at h7;simp;apply gw<;>intro h8
     ·simp;omega
     ·simp;omega
    ·simp at h7;simp;omega
   ·have g6':=g6;simp[g6];grind[gF]
 ·simp;apply gw<;>intro h9
  ·simp;refine ck (rY _ _) ?_;simp;apply gv<;>intro g10
   ·have g10':=g10;simp[g10];apply gw<;>intro h11
    ·simp at h11;simp;apply gw<;>intro h12
     ·simp;omega
     ·simp;omega
    ·simp at h11;simp;omega
   ·have g10':=g10;simp[g10];omega
  ·simp;apply gv<;>intro g13
   ·have g13':=g13;simp[g13];apply gw<;>intro h14
    ·simp at h14;simp;apply gw<;>intro h15
     ·simp;omega
     ·simp;omega
    ·simp at h14;simp;omega
   ·have g13':=g13;simp[g13];grind[gF]
def af4 (l:List Ver)(v:Ver)(hs:Qle l:=by first|omega|grind):Fk 187 [nVers l,mP v] (vI (ix (fun y=>decide (y=v)) l)):=by
 refine fE [] ntmps187 fun _ _=> ?_;simp;refine wlt Nat (fun i=>([(0,vV l),(3,.own (.bx true (mP v))),(5,vI i)],l.length-i,(i<=l.length)/\((l.take i).any (fun y=>decide (y=v))=false))) (0) ⟨by omega,rfl⟩ ?_;rintro i ⟨h1,h2⟩;simp;apply gw<;>intro a
 ·obtain⟨c,hc⟩:=aN (l:=l) (i:=i);simp;refine wdr ?_;simp[hc];apply gw<;>intro b
  ·simp at b;have hn:=BI hc h2 (by cases c;cases v;simp_all);simp[hn]
  ·simp at b;simp;refine nxa (i+1) ⟨by omega,(jB hc h2 (by cases c;cases v;simp_all))⟩
 ·simp at a;have hf:=mR h2 a;have hx:=qQ hf;simp[hx]
def iV (g:L2)(x:Int)(hs:Qle g:=by first|omega|grind)(hg:∀l∈g,Qle l:=by first|omega|grind):Fk 47 [bV g,dI x] (vI (dW g x)):=by
 refine fE [] ntmps47 fun _ _=> ?_;simp;refine wlt Nat (fun i=>([(0,.val (bV g)),(1,vI x),(5,vI i)],g.length-i,(i<=g.length)/\((g.take i).any (grp x)=false))) (0) ⟨by omega,rfl⟩ ?_;rintro i ⟨h1,h2⟩;simp;apply gw<;>intro a
 ·obtain⟨c,hc⟩:=aN (l:=g) (i:=i);simp[hc];refine ck (kM _ _ (hg c (aA hc))) ?_;simp;apply gw<;>intro b
  ·have hx:dW g x=i:=BI hc h2 (iW.1 b);simp[hx]
  ·simp at b;simp;refine nxa (i+1) ⟨by omega,(jB hc h2 (by rw[jW];intro h;have:=iW.2 h;unfold grp at*;omega))⟩
 ·simp at a;have hx:dW g x= -1:=qQ (mR h2 a);simp[hx]
def ZB (g:L2)(l:List Ver)(hs:Qle g)(hg:∀l∈g,Qle l)(hl:Qle l):Fk 106 [bV g,nVers l] (vB (l.all (CQ g))):=by
 refine fE [] ntmps106 fun _ _=> ?_;simp;refine wlt Nat (fun i=>([(0,.val (bV g)),(1,vV l),(5,vI i)],l.length-i,(i<=l.length)/\((l.take i).all (CQ g)=true))) (0) ⟨by omega,rfl⟩ ?_;rintro i ⟨h1,h2⟩;simp;apply gw<;>intro a
 ·obtain⟨c,hc⟩:=aN (l:=l) (i:=i);simp[hc];refine ck (iV _ _) ?_;simp;apply gv<;>intro e
  ·have e':=e;simp[hc,e];refine ck (iV _ _) ?_;simp;apply gw<;>intro b
   ·have hn:=fJ hc (P:=(CQ g)) (by simp[CQ,b];omega);simp[hn]
   ·simp;refine nxa (i+1) ⟨by omega,(bW hc h2 (by simp[CQ,b,e]))⟩
  ·have e':=e;simp at e';simp[e];refine nxa (i+1) ⟨by omega,(bW hc h2 (by simp[CQ,e]))⟩
 ·simp at a;have hf:=iO h2 a;simp[hf]
def oU (s:Sco)(hs:Qle s.weights:=by first|omega|grind):Fk 153 [H7 s] (vB (lX s)):=by
 refine fE [] ntmps153 fun _ _=> ?_;simp;refine wlt Nat (fun i=>([(1,.own (.bx true (H7 s))),(3,.val (dI (s.weights.take i).sum)),(4,vI i)],(s.weights).length-i,(i<=(s.weights).length)/\((s.weights.take i).all F3=true)/\(0<=(s.weights.take i).sum/\(s.weights.take i).sum<=9*i))) (0) ⟨by omega,rfl,by simp⟩ ?_;rintro i ⟨h1,h2,h3⟩;simp;apply gw<;>intro a
 ·obtain⟨c,hc⟩:=aN (l:=s.weights) (i:=i);simp[hc];refine ck (bC _ _ _) ?_;simp;apply gw<;>intro b
  ·simp at b;have hn:=fJ hc (P:=F3) (by simp[F3];omega);simp;grind[lX]
  ·simp at b;have hsum:(s.weights.take (i+1)).sum=(s.weights.take i).sum+c:=by rw[dV hc];simp
   simp[hc];refine nxb (i+1) ⟨by omega,(bW hc h2 (by simp[F3];omega)),by omega⟩ (h3:=by simp[hc,hsum])
 ·simp at a;have hf:=iO h2 a;rw[bS a];simp;apply gv<;>intro g1
  ·have g1':=g1;simp[g1];apply gv<;>intro g2
   ·have g2':=g2;simp[g2];refine ck (bC _ _ _) ?_;simp;grind[lX]
   ·have g2':=g2;simp at g2';simp[g2];grind[lX]
  ·have g1':=g1;simp[g1];grind[lX]
def yI (l:List Ver)(hs:Qle l:=by first|omega|grind):Fk 155 [nVers l] (vB (kZ l)):=by
 refine fE [] ntmps155 fun _ _=> ?_;simp;refine wlt Nat (fun i=>([(0,vV l),(3,vI i)],l.length-i,(i<=l.length)/\((l.take i).all fH=true)/\(adj (fun a b=>decide (gF a b<0)) (l.take i)=true))) (0) ⟨by omega,rfl,rfl⟩ ?_;rintro i ⟨h1,h2,h3⟩;simp;apply gw<;>intro a
 ·obtain⟨c,hc⟩:=aN (l:=l) (i:=i);simp;refine wdr ?_;simp[hc];refine cd (BC _) ?_;simp;apply gv<;>intro e
  ·have e':=e;simp at e';have hn:=fJ hc (P:=fH) (by simpa using e);simp[e];grind[kZ]
  ·have e':=e;simp at e';simp[e];apply gv<;>intro f
   ·have f':=f;obtain⟨p,hp⟩:=aN (l:=l) (i:=i-1);have hi1:i-1+1=i:=by omega
    simp[hc,f,hp];iterate 2 refine ai ?_
    refine cd (tF _ _) ?_;simp;apply gw<;>intro b
    ·have hn:=JO hp (by rw[hi1];exact hc) (R:=fun a b=>decide (gF a b<0)) (by simp;omega);simp;grind[kZ]
    ·simp at b;simp;refine nxa (i+1) ⟨by omega,(bW hc h2 (by simpa using e)),by have:=yU (i:=i-1) (by rw[hi1];exact h3) hp (by rw[hi1];exact hc) (by simp;omega);rwa [hi1]at this⟩
   ·have f':=f;simp at f';simp[f];refine nxa (i+1) ⟨by omega,(bW hc h2 (by simpa using e)),(by obtain rfl:i=0:=(by omega);exact vF)⟩
 ·simp at a;have hf:=iO h2 a;rw[bS a]at h3;simp;grind[kZ]
end Go.Proofs.YtafdbpehjfmnpaaGreatDoor
end
section
namespace Go.Proofs.YtafdbpehjfmnpaaGreatDoor
open Go.Dv Go.Pl
@[go_sem,simp] abbrev vC (x:List Con):S:= .val (jJ x)
@[go_sem,simp] abbrev vE (x:List Con):S:= .own (aHY x)
end Go.Proofs.YtafdbpehjfmnpaaGreatDoor
end
section
namespace Go.Proofs.YtafdbpehjfmnpaaGreatDoor
open Go.Dv Go.Pl Go.Proofs.Tryz
def awW (l:List Str):Prop:=l.length<=9223372036854775807/\∀x∈l,x.length<=9223372036854775807
def apU (l:List Str)(left:Int):Prop:=(l.length:Int)<=left/\∀x∈l,(x.length:Int)<=left
def atZ {l:List Str}{a b:Int}(h:apU l a)(hab:a<=b):apU l b:=⟨by have:=h.1;omega,fun x hx=>by have:=h.2 x hx;omega⟩
def awV (l:List Rec):Prop:=l.length<=9223372036854775807/\∀o∈l,awW o.fields
def aFG (l:List Rec)(left:Int):Prop:=(l.length:Int)<=left/\∀o∈l,apU o.fields left
def atF (l:List (List Tst)):Prop:=l.length<=9223372036854775807/\∀o∈l,o.length<=9223372036854775807
def aB7 (l:List (List Tst))(left:Int):Prop:=(l.length:Int)<=left/\∀o∈l,(o.length:Int)<=left
def abK (l:List Tst)(left:Int)(hl:l.length<=9223372036854775807)(h0:0<=left/\left<=1048576):fD prog 241 [.sl none (l.map zN),dI left] (fun r=>∃v:Int,r=vI v/\(-1<=v/\v<=left)/\(0<=v->(l.length:Int)<=left)):=by
 refine fE [] ntmps241 fun _ _=> ?_;simp;refine ai ?_;apply gw<;>intro e
 ·simp;omega
 ·simp at e;simp;refine ai ?_;omega
def ad4 (l:List Tst)(left:Int)(hl:l.length<=9223372036854775807)(h0:0<=left/\left<=1048576):fD prog 151 [vZ l,dI left] (fun r=>∃v:Int,r=vI v/\(-1<=v/\v<=left)/\(0<=v->(l.length:Int)<=left)):=by
 refine fE [] ntmps151 fun _ _=> ?_;simp;refine eT (abK l left hl h0) (by simp) ?_;rintro r ⟨v,rfl,hv,hf⟩;refine⟨by simp,?_⟩;simp;apply gw<;>intro b
 ·simp;omega
 ·simp at b;have hfit:=hf (by omega);simp[hfit];refine ai ?_;omega
def abI (l:List (List Tst))(left:Int)(hl:atF l)(h0:0<=left/\left<=1048576):fD prog 81 [.sl none (l.map vZ),dI left] (fun r=>∃v:Int,r=vI v/\(-1<=v/\v<=left)/\(0<=v->aB7 l left)):=by
 refine fE [] ntmps81 fun _ _=> ?_;have hl1:=hl.1;simp;refine ai ?_;apply gw<;>intro e
 ·simp;omega
 ·simp at e;simp;refine wlt (Nat×Int) (fun(i,L)=>([(0,.val (.sl none (l.map vZ))),(1,vI L),(5,vI i)],l.length-i,(i<=l.length)/\(0<=L/\L<=left-l.length)/\(∀o∈l.take i,(o.length:Int)<=left))) ((0,left-l.length)) ⟨by omega,by omega,by simp⟩ ?_;rintro⟨i,L⟩ ⟨h1,h2,h3⟩;simp;apply gw<;>intro a
  ·obtain⟨c,hc⟩:=aN (l:=l) (i:=i);have hcl:=hl.2 c (aA hc);simp[hc];refine eT (ad4 c L hcl (by omega)) (by simp) ?_;rintro r ⟨v,rfl,hv,hf⟩;refine⟨by simp,?_⟩;simp;apply gw<;>intro b
   ·simp;omega
   ·simp at b;have hfc:=hf (by omega);simp;refine nxa (i+1,v) ⟨by omega,by omega,(by rw[dV hc];intro x hx;rcases k_List_mem_append.1 hx with hx|hx;(exact h3 x hx);(obtain rfl:=k_List_mem_singleton.1 hx;omega))⟩
  ·simp at a;have hfit:aB7 l left:=⟨by omega,by rwa [bS]at h3⟩;simp[hfit];refine ai ?_;omega
def WG (l:List (List Tst))(left:Int)(hl:atF l)(h0:0<=left/\left<=1048576):fD prog 37 [mQ l,dI left] (fun r=>∃v:Int,r=vI v/\(-1<=v/\v<=left)/\(0<=v->aB7 l left)):=by
 refine fE [] ntmps37 fun _ _=> ?_;simp;refine eT (abI l left hl h0) (by simp) ?_;rintro r ⟨v,rfl,hv,hf⟩;refine⟨by simp,?_⟩;simp;apply gw<;>intro b
 ·simp;omega
 ·simp at b;have hfit:=hf (by omega);simp[hfit];refine ai ?_;omega
def GM (l:L1)(left:Int)(hl:l.length<=9223372036854775807)(h0:0<=left/\left<=1048576):fD prog 39 [nInts l,dI left] (fun r=>∃v:Int,r=vI v/\(-1<=v/\v<=left)/\(0<=v->v+(l.length:Int)<=left)):=by
 refine fE [] ntmps39 fun _ _=> ?_;simp;refine ai ?_;apply gw<;>intro e
 ·simp;omega
 ·simp at e;simp;refine ai ?_;omega
def WH (s:Sco)(left:Int)(hl:s.weights.length<=9223372036854775807)(h0:0<=left/\left<=1048576):fD prog 38 [H7 s,dI left] (fun r=>∃v:Int,r=vI v/\(-1<=v/\v<=left)/\(0<=v->(s.weights.length:Int)<=left)):=by
 refine fE [] ntmps38 fun _ _=> ?_;simp;refine eT (GM s.weights left hl h0) (by simp) ?_;rintro r ⟨v,rfl,hv,hf⟩;refine⟨by simp,?_⟩;simp;apply gw<;>intro b
 ·simp;omega
 ·simp at b;have hfit:=hf (by omega);simp;refine ai ?_;omega
def GN (l:List Ver)(left:Int)(hl:l.length<=9223372036854775807)(h0:0<=left/\left<=1048576):fD prog 19 [nVers l,dI left] (fun r=>∃v:Int,r=vI v/\(-1<=v/\v<=left)/\(0<=v->(l.length:Int)<=left)):=by
 refine fE [] ntmps19 fun _ _=> ?_;simp;refine ai ?_;apply gw<;>intro e
 ·simp;omega
 ·simp at e;simp;refine ai ?_;omega
def WI (l:List Str)(left:Int)(hl:awW l)(h0:0<=left/\left<=1048576):fD prog 152 [mM l,dI left] (fun r=>∃v:Int,r=vI v/\(-1<=v/\v<=left)/\(0<=v->apU l left)):=by
 refine fE [] ntmps152 fun _ _=> ?_;have hl1:=hl.1;simp;refine ai ?_;apply gw<;>intro e
 ·simp;omega
 ·simp at e;simp;refine wlt (Nat×Int) (fun(i,L)=>([(0,vR l),(1,vI L),(5,vI i)],l.length-i,(i<=l.length)/\(0<=L/\L<=left-l.length)/\(∀x∈l.take i,(x.length:Int)<=left))) ((0,left-l.length)) ⟨by omega,by omega,by simp⟩ ?_;rintro⟨i,L⟩ ⟨h1,h2,h3⟩;simp;apply gw<;>intro a
  ·obtain⟨c,hc⟩:=aN (l:=l) (i:=i);have hcl:=hl.2 c (aA hc);simp[hc];refine ai ?_;apply gw<;>intro b
   ·simp;omega
   ·simp at b;simp;refine nxa (i+1,L-c.length) ⟨by omega,by omega,(by rw[dV hc];intro x hx;rcases k_List_mem_append.1 hx with hx|hx;(exact h3 x hx);(obtain rfl:=k_List_mem_singleton.1 hx;omega))⟩
  ·simp at a;have hfit:apU l left:=⟨by omega,by rwa [bS]at h3⟩;simp[hfit];refine ai ?_;omega
def Y4 (r:Rec)(left:Int)(hl:awW r.fields)(h0:0<=left/\left<=1048576):fD prog 82 [zA r,dI left] (fun x=>∃v:Int,x=vI v/\(-1<=v/\v<=left)/\(0<=v->apU r.fields left)):=by
 refine fE [] ntmps82 fun _ _=> ?_;simp;refine eT (WI r.fields left hl h0) (by simp) ?_;rintro r ⟨v,rfl,hv,hf⟩;refine⟨by simp,?_⟩;simp;apply gw<;>intro b
 ·simp;omega
 ·simp at b;have hfit:=hf (by omega);simp[hfit];refine ai ?_;omega
def WF (l:List Rec)(left:Int)(hl:awV l)(h0:0<=left/\left<=1048576):fD prog 40 [H6 l,dI left] (fun r=>∃v:Int,r=vI v/\(-1<=v/\v<=left)/\(0<=v->aFG l left)):=by
 refine fE [] ntmps40 fun _ _=> ?_;have hl1:=hl.1;simp;refine ai ?_;apply gw<;>intro e
 ·simp;omega
 ·simp at e;simp;refine wlt (Nat×Int) (fun(i,L)=>([(0,vT l),(1,vI L),(5,vI i)],l.length-i,(i<=l.length)/\(0<=L/\L<=left-l.length)/\(∀o∈l.take i,apU o.fields left))) ((0,left-l.length)) ⟨by omega,by omega,by simp⟩ ?_;rintro⟨i,L⟩ ⟨h1,h2,h3⟩;simp;apply gw<;>intro a
  ·obtain⟨c,hc⟩:=aN (l:=l) (i:=i);have hcl:=hl.2 c (aA hc);simp[hc];refine eT (Y4 c L hcl (by omega)) (by simp) ?_;rintro r ⟨v,rfl,hv,hf⟩;refine⟨by simp,?_⟩;simp;apply gw<;>intro b
   ·simp;omega
   ·simp at b;have hfc:=atZ (hf (by omega)) (show L<=left by omega);simp;refine nxa (i+1,v) ⟨by omega,by omega,(by rw[dV hc];intro x hx;rcases k_List_mem_append.1 hx with hx|hx;(exact h3 x hx);(obtain rfl:=k_List_mem_singleton.1 hx;exact hfc))⟩
  ·simp at a;have hfit:aFG l left:=⟨by omega,by rwa [bS]at h3⟩;simp[hfit];refine ai ?_;omega
end Go.Proofs.YtafdbpehjfmnpaaGreatDoor
end
section
namespace Go.Er
open Go.ChangeShapes Go.WideShapes Go.ChangeAt Go.RowKit
variable {n:String}{g:Nat}
section
variable {H:Type}{enc:TypeId×Value->H}
def agJ {P:Program}(hl:laidOutB P) {W W':World}(hb:Below W.heap.size W W') {t:TypeId}(hg:P.globalNamed n=some g) (ht:(P.globals[g]?).map (·.type)=some t) (hr:P.readableRec t=true/\t<P.types.size) {gs:List (DataW H)}{ps:List MemPlace}
  (h:DataW.TrodVars enc P W (fun _=>true) [n] gs ps):∃q,DataW.TrodVars enc P W' (fun b=>decide (b<W.heap.size)) [n] gs q:=by
 obtain⟨g',t',cs,fuel,d,p,rfl,h1,h2,h3,h4,rfl⟩:=trodVars_one h;obtain rfl:=k_Option_some_inj (hg.symm.trans h1);obtain rfl:=k_Option_some_inj (ht.symm.trans h2);have h0:DataW.Trod enc P W 0 (fun _=>true) true t (.agg cs) d p:=⟨fuel,h4⟩;have lt0:∀x∈p,x.block<W.heap.size:=DataW.trod_lt fuel _ _ _ h4;obtain⟨m,hm⟩:=Below.trod hl hr.1 hr.2 h0 hb lt0
 have h5:W'.var? P n=some cs:=by
  unfold World.var? at h3|-
  rw[hg]at h3|-
  simp only[nE]at h3|-
  have hlt:g<W.heap.size:=by
   cases hx:W.heap[g]? with
   |none=>rw[hx]at h3;cases h3
   |some o=>exact(bJ.1 hx).1
  rw[hb.block g hlt];exact h3
 exact⟨_,trodVars_mk1 hg ht h5 hm⟩
def M9 {C:Checked}{f:FuncId}{fn:Func}{s:ChangeSpec}{os:Os}{L:List (String×DataW Unit)}{t:TypeId}(started:os.Started)
  (own:ownKnob C.prog.godebug=none) (laidOut:laidOutB C.prog=true) (noInit:C.prog.inits.idxOf? f=none) (hfn:C.prog.funcs[f]?=some fn)
  (hvars:s.vars=[n]) (hspec:∀(ds:List (DataW H)) (v:DataW H),ds.length=fn.params.size->s.fn H (ds++[v])={results:=[.lit (.bool true)],args:=ds,vars:=[v]})
  (hg:C.prog.globalNamed n=some g) (ht:(C.prog.globals[g]?).map (·.type)=some t) (hrt:C.prog.readableRec t=true/\t<C.prog.types.size)
  {tb:TypeId}(hres:fn.resultTypes= #[tb]) (hb:C.prog.underlying tb=some .bool)
  (hread:∀t∈fn.params.toList,C.prog.readableRec t=true/\t<C.prog.types.size)
  (witness:∃(w:World) (tape:Tape) (i:Input),w.os=os/\(w.forCall tape i).Shaped C.prog/\i.vars=[]/\Input.okWide C.prog (w.forCall tape i) .any w.heap.size f i/\
   ((s.pre enc C.prog fn [] false (w.forCall tape i).memory i.args/\laidMet C.prog L (w.forCall tape i).memory)/\sizedMet enc C.prog fn (OpenSpec.ofChange s) false (w.forCall tape i).memory i.args)/\({}:Assume).holds C.prog (lone (Frame.enter C.prog f i.args .normal) [] (w.forCall tape i)))
  (walk:∀(W:World) (base:Nat) (args:Array Value) (ds:List (DataW H)) (p:List MemPlace),W.ShapedOpen C.prog->
   (∀(j:Nat) t v,fn.params[j]?=some t->args[j]?=some v->Value.okWide C.prog W .any base t v)->
   DataW.TrodAll enc C.prog W 0 (fun _=>true) true fn.params.toList args.toList ds p->laidMet C.prog L W->
   Calls C.prog f args W fun e W'=>e= .returned (.bool true)/\Below W.heap.size W W'):
  ReturnsInHanded {} C os f .any (fun w args=>(s.pre enc C.prog fn [] false w args/\laidMet C.prog L w)/\sizedMet enc C.prog fn (OpenSpec.ofChange s) false w args) (s.post enc C.prog fn false true false false):=by
 refine returnsInHanded_of_calls own started noInit witness ?_;intro w tape i _ hsh _ hok hpre hholds;obtain⟨_,_,_,fn',hfn',_,_,_,_,hval⟩:=hok;obtain rfl:fn'=fn:=k_Option_some_inj (hfn'.symm.trans hfn);obtain⟨⟨⟨ds,gs,before,hw,hc⟩,hx⟩,hz⟩:=hpre;have hW:=DataW.Whole.of_heap (w':=w.forCall tape i) (by rfl) hw;have hL:laidMet C.prog L (w.forCall tape i):=hx.of_heap (by rfl);have hW':=hW;obtain⟨p,q,hA,hV,rfl,_,_⟩:=hW;rw[hvars]at hV;have hlen:=(trodAll_length hA).2;refine(walk (w.forCall tape i) w.heap.size i.args ds p hsh hval hA hL).mono fun e W' ⟨he,bel⟩=> ?_;subst he;obtain⟨q2,hV2⟩:=agJ laidOut bel hg ht hrt hV;obtain⟨_,_,_,_,v,_,rfl,_⟩:=trodVars_one hV;refine ChangeSpec.post_blind (v:= .bool true) ?_;have hsp:=hspec ds v (by simpa using hlen);refine⟨ds,[v],p++q,[],p,q2,hW',?_,?_,?_,bel.frame _,fun h=>by cases h⟩
 ·rw[hsp,hres];exact trodAll_mk1 (shut_bool hb _)
 ·rw[hsp];exact agI laidOut bel hread hA
 ·rw[hsp,hvars];exact hV2
end
end Go.Er
namespace Go.Proofs.YtafdbpehjfmnpaaGreatDoor
open Go.Dv Go.Pl
open Go.ChangeShapes Go.WideShapes Go.ChangeAt Go.RowKit Go.Er
abbrev tables:List (String×DataW Unit):=[("math/bits.deBruijn32tab",Rows.laid_math_bits_deBruijn32tab),("math/bits.deBruijn64tab",Rows.laid_math_bits_deBruijn64tab),("internal/strconv.uint64pow10",Rows.laid_internal_strconv_uint64pow10),("unicode/utf8.acceptRanges",Rows.laid_unicode_utf8_acceptRanges),("strconv.ErrRange",Rows.laid_strconv_ErrRange),("strconv.ErrSyntax",Rows.laid_strconv_ErrSyntax),("loop.example/g01923/impl.soundCodes",Rows.laid_loop_example_g01923_impl_soundCodes),("unicode/utf8.first",Rows.laid_unicode_utf8_first)]
def own:ownKnob Tryz.prog.godebug=none:=by kernel_rfl
def laidOut:laidOutB Tryz.prog=true:=by kernel_rfl
def aEX: "*" ++ "errors.errorString" = "*errors.errorString" :=by decide
def aAH (u:TypeId)(h:Tryz.prog.typeName? 3 u=some "*errors.errorString"):u=400:=
 typeName_ptr_named (nm:= "errors.errorString") (by rw[aEX];kernel_rfl) (by kernel_rfl) (by decide) u (by rw[aEX];exact h)
def aD2 {W:World}(hL:laidMet Tryz.prog tables W):Lib.TabIs Tryz.prog W "internal/strconv.uint64pow10" .u64 Lib.pow10Tab:=by
 have h:=hL.tail.tail;rw[show(Rows.laid_internal_strconv_uint64pow10:DataW Unit)=Lib.tabData .u64 Lib.pow10Tab by kernel_rfl]at h;exact Lib.tabIs_of_head (g:=6) (by kernel_rfl) (by kernel_rfl) Tryz.underlying409 Tryz.underlying287 (by kernel_rfl) (by kernel_rfl) h
def avT {W:World}(hL:laidMet Tryz.prog tables W):Lib.TabIs Tryz.prog W "loop.example/g01923/impl.soundCodes" .i64 QD:=by
 have h:=hL.tail.tail.tail.tail.tail.tail;rw[show(Rows.laid_loop_example_g01923_impl_soundCodes:DataW Unit)=Lib.tabData .i64 QD by kernel_rfl]at h;exact Lib.tabIs_of_head (g:=0) (by kernel_rfl) (by kernel_rfl) Tryz.underlying335 Tryz.underlying3 (by kernel_rfl) (by kernel_rfl) h
variable {P:Program}
def apD {W:World}{base:Nat}{t:TypeId}{cs:Array Value}(ht:P.cellTypes P.depth t=some [t])(hu:P.underlying t=some (.int .i64))(hs:cs.size=1)(h:Row.ok P W .any base t cs):∃m,cs= #[.int .i64 m]:=by
 obtain⟨ts,h1,_,h3⟩:=h;rw[ht]at h1;obtain rfl:=k_Option_some_inj h1;obtain⟨v,rfl⟩:=Array.size_eq_one_iff.1 hs;obtain⟨u,hu',hv⟩:=h3 0 v rfl;obtain rfl:t=u:=by simpa using hu'
 unfold Cell.ok at hv;rw[hu]at hv;cases v with
 |int k n=>obtain⟨rfl,_⟩:=hv;exact⟨n,rfl⟩
 |_=>exact hv.elim
def auJ {W:World}(hS:W.ShapedOpen Tryz.prog)(hL:laidMet Tryz.prog tables W):CP W:=by
 refine⟨aD2 hL,?_,?_,?_,avT hL⟩
 ·obtain⟨a,s,h,_⟩:=laid_sentinel hL.tail.tail.tail.tail.tail (g:=2) (by kernel_rfl) (by kernel_rfl) Tryz.underlying337 aAH Tryz.underlying400 Tryz.underlying402 rfl rfl Tryz.underlying9 (by kernel_rfl) (by kernel_rfl);exact⟨_,_,h⟩
 ·obtain⟨a,s,h,_⟩:=laid_sentinel hL.tail.tail.tail.tail (g:=3) (by kernel_rfl) (by kernel_rfl) Tryz.underlying337 aAH Tryz.underlying400 Tryz.underlying402 rfl rfl Tryz.underlying9 (by kernel_rfl) (by kernel_rfl);exact⟨_,_,h⟩
 ·obtain⟨cs,h1,h2,h3⟩:=hS.1 1 #[.int .i64 0] 3 (of_decide_eq_true (by kernel_rfl)) (by kernel_rfl);obtain⟨m,rfl⟩:=apD (by kernel_rfl) Tryz.underlying3 h2 (h3 (by kernel_rfl));exact⟨m,by simp[World.cell?,h1]⟩
def auK {W W':World}(h:∀b,b<9->W'.heap[b]?=W.heap[b]?)(hg:CP W):CP W':=by
 have hv:∀(n:String) (g:Nat),Tryz.prog.globalNamed n=some g->g<9->W'.var? Tryz.prog n=W.var? Tryz.prog n:=fun n g h1 h2=>by
  unfold World.var?;rw[h1];simp only[nE];rw[h g h2]
 obtain⟨h1,h2,h3,⟨m,h4⟩,h5⟩:=hg;refine⟨(hv _ 6 (by kernel_rfl) (by decide)).trans h1,?_,?_,⟨m,?_⟩,(hv _ 0 (by kernel_rfl) (by decide)).trans h5⟩
 ·rw[hv _ 2 (by kernel_rfl) (by decide)];exact h2
 ·rw[hv _ 3 (by kernel_rfl) (by decide)];exact h3
 ·exact(World.cell?_of_block (a:=⟨1,0,none⟩) (h 1 (by decide))).trans h4
def ar6 {W:World}(hS:W.ShapedOpen Tryz.prog)(hL:laidMet Tryz.prog tables W)(hsz:9<=W.heap.size):Laid W (fun _=>none):=by
 have hg:=auJ hS hL;refine⟨(List.range 9).filterMap fun b=>(W.heap[b]?).map fun o=>(b,o),fun W' h=>auK (fun b hb=> ?_) hg,fun p hp=> ?_⟩
 ·have hb2:b<W.heap.size:=by omega
  have h1:=h (b,W.heap[b]) (jN.2 ⟨b,by simpa using hb,by simp[iB hb2]⟩);rw[h1,iB hb2]
 ·obtain⟨b,_,hb⟩:=jN.1 hp;simp only[aK]at hb;obtain⟨o,ho,rfl⟩:=hb;exact⟨ho,rfl⟩
def ahJ {W:World}{f:FuncId}{ds:List D}{args:Array Value}(hf:fD Tryz.prog f ds (fun r=>r=vB true))(hlaid:Laid W (fun _=>none))(hn:args.size=ds.length)(ha:∀(i:Nat) (d:D),ds[i]?=some d->V Tryz.prog W (fun _=>none) d.fz [] (args.getD i undef)):
  Calls Tryz.prog f args W fun e W'=>e= .returned (.bool true)/\Below W.heap.size W W':=by
 refine(hf W (fun _=>none) args 0 (by decide) hlaid (fun _ _=>rfl) hn ha).mono ?_;rintro e W' ⟨v,ow',r,rfl,rfl,haf,_,hsv⟩;have hv:=hsv (fun _=> .un) {tmps:= #[],defers:=[]};simp only[SV,V,D.fz,R]at hv;obtain⟨hv,_⟩:=hv;obtain rfl:v= .bool true:=by simpa using hv
 exact⟨rfl,haf.os,haf.tape,haf.output,haf.size,fun b hb=>(haf.old b hb).1⟩
def setBlock (h:Array Obj)(i:Nat)(cs:Array Value):Array Obj:=h.modify i fun
 | .cells _ t frozen=> .cells cs t frozen
 |o=>o
def KC:DataW Unit->Array Value
 | .agg parts=>(parts.flatMap fun| .lit (.int k n)=>[Value.int k n]| .agg ps=>(ps.map fun| .lit (.int k n)=>Value.int k n|_=>undef)|_=>[]).toArray
 |_=> #[]
def arO:DataW Unit->ByteArray
 | .iface _ (.ptr (.agg [.lit (.string l)]))=>⟨l.toArray⟩
 |_=>⟨#[]⟩
noncomputable def low:Nat:=(World.holding Tryz.prog default ⟨#[],#[],[]⟩).heap.size
noncomputable def ZE (os:Os):World:=
 let w0:=World.holding Tryz.prog os ⟨#[.cells #[.string (arO Rows.laid_strconv_ErrSyntax)] 402,.cells #[.string (arO Rows.laid_strconv_ErrRange)] 402],#[],[]⟩
 {w0 with heap:=setBlock (setBlock (setBlock (setBlock (setBlock (setBlock (setBlock (setBlock w0.heap 6 (KC Rows.laid_internal_strconv_uint64pow10)) 4 (KC Rows.laid_unicode_utf8_first)) 5 (KC Rows.laid_unicode_utf8_acceptRanges)) 7 (KC Rows.laid_math_bits_deBruijn32tab)) 8 (KC Rows.laid_math_bits_deBruijn64tab)) 0 (KC Rows.laid_loop_example_g01923_impl_soundCodes)) 2 #[.iface 400 (.pointer (some ⟨low,0,none⟩))]) 3 #[.iface 400 (.pointer (some ⟨low+1,0,none⟩))]}
def amN (os:Os)(args:Array Value):laidMet Tryz.prog tables ((ZE os).forCall (fun _ _=>0) ⟨#[],args,[]⟩).memory:=
 laidMet_of_run' 9 (by kernel_rfl) (by kernel_rfl)
def aEV {W:World}(hS:W.ShapedOpen Tryz.prog):9<=W.heap.size:=by
 obtain⟨cs,h1,_⟩:=hS.1 8 (Array.replicate 64 (.int .u8 0)) 412 (of_decide_eq_true (by kernel_rfl)) (by kernel_rfl);exact(bJ.1 h1).1
def BO {t:TypeId}(h:(P.readableRec t&&decide (t<P.types.size))=true):P.readableRec t=true/\t<P.types.size:=by rw[k_Bool_and_eq_true,decide_eq_true_eq]at h;exact h
def ahF:(Tryz.prog.funcs.toList.all fun f=> !f.goes)=true:=by kernel_rfl
def aCK (h:(P.funcs.toList.all fun f=> !f.goes)=true)(f:FuncId):P.goes f=false:=by
 have h1:∀fn∈P.funcs.toList,fn.goes=false:=fun fn hf=>by simpa using aI.1 h fn hf
 unfold Program.goes;rw[Bool.or_eq_false_iff,kT];refine⟨?_,.inr ?_⟩
 ·rw[dX];intro g _;cases hg:P.funcs[g]? with
  |none=>simp
  |some fn=>simpa using h1 fn (by simpa using kS hg)
 ·rw[←Array.any_toList,dX];intro fn hf;simp[h1 fn hf]
def ar3 (h:(P.funcs.toList.all fun f=> !f.goes)=true){c:OpenClaim}(hs:c.start= .entering):false=c.goesBy P:=by
 unfold OpenClaim.goesBy Program.goesAt Program.goesFrom;rw[hs];cases P.funcNamed c.func with
 |none=>rfl
 |some f=>simp[aCK h f]
def an {a b:Bool}(h:a)(h':b):(a&&b)=true:=by rw[h,h'];rfl
section
variable {H:Type}{enc:TypeId×Value->H}{W:World}{cs:List Value}
def aGN (h:Tr enc Tryz.prog W 118 cs):∃v:Ver,Rd Tryz.prog W (mP v) cs:=by
 have hl:=xB Tryz.underlying118 (n:=4) (by kernel_rfl) h;have hf:=xA Tryz.underlying118 h;obtain⟨a,h0⟩:=open_int Tryz.underlying3 (hf 0 _ rfl 0 1 rfl (by kernel_rfl));obtain⟨b,h1⟩:=open_int Tryz.underlying3 (hf 1 _ rfl 1 1 rfl (by kernel_rfl));obtain⟨s,h2⟩:=open_bool Tryz.underlying4 (hf 2 _ rfl 2 1 rfl (by kernel_rfl));obtain⟨t,h3⟩:=open_int Tryz.underlying3 (hf 3 _ rfl 3 1 rfl (by kernel_rfl));exact⟨⟨a,b,s,t⟩,IC (iL h0 (iL h1 (iL h2 (iL h3 (IB hl)))))⟩
def aD9 (h:Tr enc Tryz.prog W 106 cs):∃l:List Str,awW l/\Rd Tryz.prog W (mM l) cs:=
 JH Tryz.underlying106 (k:=1) (by kernel_rfl) (by decide) (fun vs h=>az4 Tryz.underlying9 h) h
def aGI (h:Tr enc Tryz.prog W 137 cs):∃r:Rec,awW r.fields/\Rd Tryz.prog W (zA r) cs:=by
 have hl:=xB Tryz.underlying137 (n:=4) (by kernel_rfl) h;have hf:=xA Tryz.underlying137 h;obtain⟨a,h0⟩:=open_int Tryz.underlying3 (hf 0 _ rfl 0 1 rfl (by kernel_rfl));obtain⟨b,h1⟩:=open_int Tryz.underlying3 (hf 1 _ rfl 1 1 rfl (by kernel_rfl));obtain⟨c,h2⟩:=open_int Tryz.underlying3 (hf 2 _ rfl 2 1 rfl (by kernel_rfl));obtain⟨l,q,h3⟩:=aD9 (hf 3 _ rfl 3 1 rfl (by kernel_rfl));exact⟨⟨a,b,c,l⟩,q,IC (iL h0 (iL h1 (iL h2 (iL h3 (IB hl)))))⟩
def aD6 (h:Tr enc Tryz.prog W 30 cs):∃l:List Rec,awV l/\Rd Tryz.prog W (H6 l) cs:=
 JH Tryz.underlying30 (k:=4) (by kernel_rfl) (by decide) (fun vs h=>aGI h) h
def asV (h:Tr enc Tryz.prog W 31 cs):∃l:List Ver,l.length<=9223372036854775807/\Rd Tryz.prog W (nVers l) cs:=by
 obtain⟨l,q,h⟩:=JH (Q:=fun _:Ver=>True) Tryz.underlying31 (k:=4) (by kernel_rfl) (by decide) (fun vs h=>by obtain⟨v,h⟩:=aGN h;exact⟨v,trivial,h⟩) h;exact⟨l,q.1,h⟩
def akC (h:Tr enc Tryz.prog W 25 cs):∃l:L1,l.length<=9223372036854775807/\Rd Tryz.prog W (nInts l) cs:=by
 obtain⟨l,q,h⟩:=JH (Q:=fun _:Int=>True) Tryz.underlying25 (k:=1) (by kernel_rfl) (by decide) (fun vs h=>by obtain⟨v,h⟩:=open_int Tryz.underlying3 h;exact⟨v,trivial,h⟩) h;exact⟨l,q.1,h⟩
def aGM (h:Tr enc Tryz.prog W 309 cs):∃v:Tst,Rd Tryz.prog W (zN v) cs:=by
 have hl:=xB Tryz.underlying309 (n:=3) (by kernel_rfl) h;have hf:=xA Tryz.underlying309 h;obtain⟨a,h0⟩:=open_int Tryz.underlying3 (hf 0 _ rfl 0 1 rfl (by kernel_rfl));obtain⟨b,h1⟩:=open_int Tryz.underlying3 (hf 1 _ rfl 1 1 rfl (by kernel_rfl));obtain⟨s,h2⟩:=open_bool Tryz.underlying4 (hf 2 _ rfl 2 1 rfl (by kernel_rfl));exact⟨⟨a,b,s⟩,IC (iL h0 (iL h1 (iL h2 (IB hl))))⟩
def aD8 (h:Tr enc Tryz.prog W 184 cs):∃l:List Tst,l.length<=9223372036854775807/\Rd Tryz.prog W (vZ l) cs:=by
 have hl:=xB Tryz.underlying184 (n:=1) (by kernel_rfl) h;have hf:=xA Tryz.underlying184 h;obtain⟨l,q,h0⟩:=JH (Q:=fun _:Tst=>True) Tryz.underlying182 (k:=3) (by kernel_rfl) (by decide) (fun vs h=>by obtain⟨v,h⟩:=aGM h;exact⟨v,trivial,h⟩) (hf 0 _ rfl 0 1 rfl (by kernel_rfl));exact⟨l,q.1,IC (iL h0 (IB hl))⟩
def aA2 (h:Tr enc Tryz.prog W 24 cs):∃r:List (List Tst),atF r/\Rd Tryz.prog W (mQ r) cs:=by
 have hl:=xB Tryz.underlying24 (n:=1) (by kernel_rfl) h;have hf:=xA Tryz.underlying24 h;obtain⟨l,q,h0⟩:=JH Tryz.underlying22 (k:=1) (by kernel_rfl) (by decide) (fun vs h=>aD8 h) (hf 0 _ rfl 0 1 rfl (by kernel_rfl));exact⟨l,q,IC (iL h0 (IB hl))⟩
def aGK (h:Tr enc Tryz.prog W 27 cs):∃s:Sco,s.weights.length<=9223372036854775807/\Rd Tryz.prog W (H7 s) cs:=by
 have hl:=xB Tryz.underlying27 (n:=2) (by kernel_rfl) h;have hf:=xA Tryz.underlying27 h;obtain⟨l,q,h0⟩:=akC (hf 0 _ rfl 0 1 rfl (by kernel_rfl));obtain⟨b,h1⟩:=open_int Tryz.underlying3 (hf 1 _ rfl 1 1 rfl (by kernel_rfl));exact⟨⟨l,b⟩,q,IC (iL h0 (iL h1 (IB hl)))⟩
def aGG (h:Tr enc Tryz.prog W 29 cs):∃c:Cfg,(atF c.rules/\c.sco.weights.length<=9223372036854775807/\c.surv.length<=9223372036854775807)/\Rd Tryz.prog W (agC c) cs:=by
 have hl:=xB Tryz.underlying29 (n:=4) (by kernel_rfl) h;have hf:=xA Tryz.underlying29 h;obtain⟨r,q0,h0⟩:=aA2 (hf 0 _ rfl 0 1 rfl (by kernel_rfl));obtain⟨s,q1,h1⟩:=aGK (hf 1 _ rfl 1 2 rfl (by kernel_rfl));obtain⟨l,q2,h2⟩:=akC (hf 2 _ rfl 3 1 rfl (by kernel_rfl));exact⟨⟨r,s,l⟩,⟨q0,q1,q2⟩,IC (iL h0 (iL h1 (iL h2 (IB hl))))⟩
def aGL (h:Tr enc Tryz.prog W 33 cs):∃s:Sto,(awV s.recs/\s.vers.length<=9223372036854775807)/\Rd Tryz.prog W (NT s) cs:=by
 have hl:=xB Tryz.underlying33 (n:=3) (by kernel_rfl) h;have hf:=xA Tryz.underlying33 h;obtain⟨v,h0⟩:=open_int Tryz.underlying3 (hf 0 _ rfl 0 1 rfl (by kernel_rfl));obtain⟨r,q1,h1⟩:=aD6 (hf 1 _ rfl 1 1 rfl (by kernel_rfl));obtain⟨l,q2,h2⟩:=asV (hf 2 _ rfl 2 1 rfl (by kernel_rfl));exact⟨⟨v,r,l⟩,⟨q1,q2⟩,IC (iL h0 (iL h1 (iL h2 (IB hl))))⟩
end
end Go.Proofs.YtafdbpehjfmnpaaGreatDoor
end
section
namespace Go.Proofs.YtafdbpehjfmnpaaGreatDoor
open Go.Dv Go.Pl Go.Proofs.Tryz
abbrev ZI (m:List (List Bool)):D:= .sl none (m.map fun r=> .sl none (r.map dB))
abbrev UW (m:List (List Bool)):D:= .sl (some 250) (m.map fun r=> .sl (some 4) (r.map dB))
variable {i:Nat}
def drop_at {α:Type}{l:List α}{c:α}(h:l[i]?=some c):l.drop i=c::l.drop (i+1):=by
 have hi:=dL h;rw[bM hi];congr 1;simpa[aB hi]using h
def aEW {m:L2}(h:m.all (fun r=>decide (r.length=m.length))=true)(hi:i<m.length):∃r,m[i]?=some r/\r.length=m.length:=by
 obtain⟨r,hr⟩:=aN (l:=m) hi;exact⟨r,hr,by simpa using aI.1 h r (aA hr)⟩
def eH (m:L2)(hs:Qle m:=by first|omega|grind):Fk 159 [bV m] (vB (bQ m)):=by
 refine fE [] ntmps159 fun _ _=> ?_;simp;refine wlt Nat (fun i=>([(0,.val (bV m)),(3,vI i)],m.length-i,(i<=m.length)/\((m.take i).all (fun r=>decide (r.length=m.length))=true))) (0) ⟨by omega,rfl⟩ ?_;rintro i ⟨h1,h2⟩;simp;apply gw<;>intro a
 ·obtain⟨c,hc⟩:=aN (l:=m) (i:=i);simp[hc];apply gw<;>intro b
  ·have hn:=fJ hc (P:=(fun r=>decide (r.length=m.length))) (by first|assumption|(simp[*];done)|grind|(simp;omega));simp;grind[bQ]
  ·simp;refine nxa (i+1) ⟨by omega,(bW hc h2 (by first|assumption|(simp[*];done)|grind|(simp;omega)))⟩
 ·simp at a;have hf:=iO h2 a;simp;refine wlt Nat (fun i=>([(0,.val (bV m)),(4,vI i)],m.length-i,(i<=m.length)/\((List.range i).all (fun i=>(List.range m.length).all (HZ m i))=true))) (0) ⟨by omega,rfl⟩ ?_;rintro i ⟨h1j,h2j⟩;simp;apply gw<;>intro aj
  ·simp;refine wlt Nat (fun k=>([(0,.val (bV m)),(4,vI i),(5,vI k)],m.length-k,(k<=m.length)/\((List.range k).all (HZ m i)=true))) (0) ⟨by omega,rfl⟩ ?_;rintro k ⟨h1k,h2k⟩;simp;apply gw<;>intro ak
   ·obtain⟨r,hr,hrl⟩:=aEW hf aj;obtain⟨q,hq,hql⟩:=aEW hf ak;obtain⟨c,hc⟩:=aN (l:=r) (i:=k);obtain⟨d,hd⟩:=aN (l:=q) (i:=i);have e1:=N9 hr hc;have e2:=N9 hq hd;simp;refine wdr ?_;simp[hr,hc];refine cd (bC _ _ _) ?_;simp;apply gv<;>intro e
    ·have e':=e;simp at e';have e':HZ m i k=false:=by simp[HZ,e1,e2];grind
     have hnk:=mZ ak (P:=(HZ m i)) e';have hn2:=mZ aj (P:=fun i=>(List.range m.length).all (HZ m i)) hnk;simp[e];grind[bQ]
    ·have e':=e;simp at e';simp[hr,hq,hc,hd,e];apply gv<;>intro f
     ·have f':=f;have f':HZ m i k=false:=by simp[HZ,e1,e2];grind
      have hnk:=mZ ak (P:=(HZ m i)) f';have hn2:=mZ aj (P:=fun i=>(List.range m.length).all (HZ m i)) hnk;simp[f];grind[bQ]
     ·have f':=f;simp[f];apply gv<;>intro g
      ·have g':=g;have gk:i=k:=by omega
       subst gk;obtain rfl:r=q:=by simpa[hr]using hq
       obtain rfl:c=d:=by simpa[hc]using hd
       simp[hr,hc];apply gw<;>intro b
       ·have f':HZ m i i=false:=by simp[HZ,e1,b]
        have hnk:=mZ ak (P:=(HZ m i)) f';have hn2:=mZ aj (P:=fun i=>(List.range m.length).all (HZ m i)) hnk;simp;grind[bQ]
       ·simp;refine nxa (i+1) ⟨by omega,(oK h2k (by simp[HZ,e1,b]))⟩
      ·have g':=g;simp[g];refine nxa (k+1) ⟨by omega,(oK h2k (by simp[HZ,e1,e2];grind))⟩
   ·simp at ak;have hfk:=K8 (n:=m.length) h2k;simp;refine nxa (i+1) ⟨by omega,(oK h2j hfk)⟩
  ·simp at aj;have hfj:=K8 (n:=m.length) h2j;simp;refine ck (bC _ _ _) ?_;simp;grind[bQ]
def mD (l:L1)(hs:Qle l:=by first|omega|grind):Fk 173 [nInts l] (vB (fO l)):=by
 refine fE [] ntmps173 fun _ _=> ?_;simp;refine wlt (Nat×Int) (fun(i,t)=>([(0,vN l),(3,vI t),(4,vI i)],l.length-i,(i<=l.length)/\(BP (-1) l=BP t (l.drop i))/\(-1<=t/\t<=i))) ((0,(-1))) ⟨by omega,rfl,by omega⟩ ?_;rintro⟨i,t⟩ ⟨h1,h2,h3⟩;simp;apply gw<;>intro a
 ·obtain⟨c,hc⟩:=aN (l:=l) (i:=i);have hdr:=drop_at hc;rw[hdr,BP]at h2;simp[hc];refine ai ?_;refine ck (bC _ _ _) ?_;simp;apply gw<;>intro b
  ·simp at b;rw[show inR c 0 (t+1)=false by simp;omega]at h2;simp;grind[fO]
  ·simp at b;rw[show inR c 0 (t+1)=true by simp;omega,eX]at h2;simp[hc];refine nxa (i+1,max t c) ⟨by omega,h2,by omega⟩
 ·simp at a;rw[bO a]at h2;have hx:BP (-1) l:=h2;simp;refine ck (bC _ _ _) ?_;simp;grind[fO]
def uI (n:Int)(l:List Con)(hn: -1048576<=n/\n<=1048576:=by first|omega|grind)(hs:Qle l:=by first|omega|grind):Fk 244 [dI n,jJ l] (vB (bZ n l)):=by
 refine fE [] ntmps244 fun _ _=> ?_;simp;refine wlt Nat (fun i=>([(0,vI n),(1,vC l),(5,vI i)],l.length-i,(i<=l.length)/\((l.take i).all (NF n)=true))) (0) ⟨by omega,rfl⟩ ?_;rintro i ⟨h1,h2⟩;simp;apply gw<;>intro a
 ·obtain⟨c,hc⟩:=aN (l:=l) (i:=i);simp;refine wdr ?_;simp[hc];refine ai ?_;refine cd (bC _ _ _) ?_;simp;apply gv<;>intro e
  ·have e':=e;simp at e';have hn:=fJ hc (P:=(NF n)) (by simp[NF];omega);simp[e];grind[bZ]
  ·have e':=e;simp at e';simp[hc,e];refine ai ?_;refine cd (bC _ _ _) ?_;simp;apply gv<;>intro f
   ·have f':=f;simp at f';have hn:=fJ hc (P:=(NF n)) (by simp[NF];omega);simp[f];grind[bZ]
   ·have f':=f;simp at f';simp[hc,f];apply gw<;>intro b
    ·have hn:=fJ hc (P:=(NF n)) (by simp[NF];omega);simp;grind[bZ]
    ·simp at b;simp;refine nxa (i+1) ⟨by omega,(bW hc h2 (by simp[NF];omega))⟩
 ·simp at a;have hf:=iO h2 a;simp;refine ck (bC _ _ _) ?_;simp;apply gv<;>intro e
  ·have e':=e;simp at e';simp[e];grind[bZ]
  ·have e':=e;simp at e';simp[e];grind[bZ]
def rX (l:L1)(cs:List Con)(hs:Qle l)(hc:Qle cs):Fk 166 [nInts l,jJ cs] (vB (cs.all (xY l)&&fO l)):=by
 refine fE [] ntmps166 fun _ _=> ?_;simp;refine wlt Nat (fun i=>([(0,vN l),(1,vC cs),(5,vI i)],cs.length-i,(i<=cs.length)/\((cs.take i).all (xY l)=true))) (0) ⟨by omega,rfl⟩ ?_;rintro i ⟨h1,h2⟩;simp;apply gw<;>intro a
 ·obtain⟨c,hc⟩:=aN (l:=cs) (i:=i);simp;refine wdr ?_;simp[hc];refine ai ?_;refine cd (bC _ _ _) ?_;simp;apply gv<;>intro e
  ·have e':=e;simp at e';have hn:=fJ hc (P:=(xY l)) (by simp[xY];intros;omega);simp[e,hn]
  ·have e':=e;simp at e';simp[hc,e];refine ai ?_;refine cd (bC _ _ _) ?_;simp;apply gv<;>intro f
   ·have f':=f;simp at f';have hn:=fJ hc (P:=(xY l)) (by simp[xY];intros;omega);simp[f,hn]
   ·have f':=f;simp at f';obtain⟨x,hx⟩:=aN (l:=l) (i:=c.a.toNat);obtain⟨y,hy⟩:=aN (l:=l) (i:=c.b.toNat);have ex:=YN hx;have ey:=YN hy;simp[hc,f,hx,hy];iterate 2 refine ai ?_
    apply gw<;>intro b
    ·simp at b;have hn:=fJ hc (P:=(xY l)) (by simp[xY,ex,ey];grind);simp[hn]
    ·simp at b;simp;refine nxa (i+1) ⟨by omega,(bW hc h2 (by simp[xY,ex,ey];grind))⟩
 ·simp at a;have hf:=iO h2 a;simp;refine ck (mD _) ?_;simp[hf]
def M7 (m:L2)(l:L1)(hm:bQ m:=by first|omega|grind)(hl:l.length=m.length:=by first|omega|grind):Fk 250 [bV m,nInts l] (vI (dK m l)):=by
 refine fE [] ntmps250 fun _ _=> ?_;have hml:=dJ hm;simp;refine wlt (Nat×Int) (fun(i,s)=>([(0,.val (bV m)),(1,vN l),(5,vI s),(6,vI i)],l.length-i,(i<=l.length)/\(s=loopN i (0) (zD m l))/\(0<=s/\s<=8000*i))) ((0,0)) ⟨by omega,rfl,by omega⟩ ?_;rintro⟨i,s⟩ ⟨h1,h2,h3⟩;simp;apply gw<;>intro a
 ·have hs:=aL i (0) (zD m l);rw[←h2]at hs;simp;refine wlt (Nat×Int) (fun(k,t)=>([(0,.val (bV m)),(1,vN l),(5,vI t),(6,vI i),(7,vI k)],i-k,(k<=i)/\(t=loopN k (s) (fun k s=>s+sQ m l i k))/\(s<=t/\t<=s+1000*k))) ((0,s)) ⟨by omega,rfl,by omega⟩ ?_;rintro⟨k,t⟩ ⟨h1k,h2k,h3k⟩;simp;apply gw<;>intro ak
  ·have hsk:=aL k (s) (fun k s=>s+sQ m l i k);rw[←h2k]at hsk;obtain⟨r,hr,hrk⟩:=lC hm (i:=i) (k:=k);have hi:=aU (l:=l) (i:=i);have hk:=aU (l:=l) (i:=k);have hb:=iG hm i k;simp;refine wdr ?_;simp[hr,hrk];apply gv<;>intro e
   ·have e':=e;simp[hi,hk,e];apply gw<;>intro f
    ·have hc:sQ m l i k=at2 m i k:=if_pos ⟨e,f⟩;simp[hr,hrk];refine ai ?_;refine wdr ?_;simp[hr,hrk];apply gv<;>intro g
     ·have g':=g;exfalso;omega
     ·have g':=g;simp at g';simp[g];refine nxa (k+1,t+at2 m i k) ⟨by omega,by rw[hsk,hc],by omega⟩
    ·simp;refine wdr ?_;simp[hr,hrk];apply gv<;>intro g
     ·have g':=g;exfalso;omega
     ·have g':=g;simp at g';have hc:sQ m l i k=0:=by rw[sQ,if_neg (by simp[f]),if_neg (by omega)]
      simp[g];refine nxa (k+1,t) ⟨by omega,by rw[hsk,hc];simp,by omega⟩
   ·have e':=e;simp at e';simp[e];refine wdr ?_;simp[hr,hrk];apply gv<;>intro g
    ·have g':=g;simp[hi,hk,g];apply gw<;>intro f
     ·have hc:sQ m l i k= - at2 m i k:=by rw[sQ,if_neg (by omega),if_pos ⟨g,f⟩]
      simp[hr,hrk];refine nxb (k+1,t-at2 m i k) ⟨by omega,by rw[hsk,hc];omega,by omega⟩
     ·have hc:sQ m l i k=0:=by rw[sQ,if_neg (by omega),if_neg (by simp[f])]
      simp;refine nxa (k+1,t) ⟨by omega,by rw[hsk,hc];simp,by omega⟩
    ·have g':=g;simp at g';have hc:sQ m l i k=0:=by rw[sQ,if_neg (by omega),if_neg (by omega)]
     simp[g];refine nxa (k+1,t) ⟨by omega,by rw[hsk,hc];simp,by omega⟩
  ·simp at ak;have hik:i=k:=by omega
   subst hik;simp;refine nxa (i+1,t) ⟨by omega,by rw[hs,zD,h2k],by omega⟩
 ·simp at a;have hi:l.length=i:=by omega
  subst hi;simp;exact h2
def mV (m:L2)(l:L1)(hm:Qle m:=by omega)(hl:Qle l:=by omega):Fk 170 [bV m,nInts l] (vI (if bQ m=true/\fO l=true/\l.length=m.length then dK m l else -1)):=by
 refine fE [] ntmps170 fun _ _=> ?_;simp;refine ck (eH _) ?_;simp;apply gv<;>intro e
 ·have e':=e;simp at e';simp[e];all_goals grind
 ·have e':=e;simp at e';simp[e];refine ck (mD _) ?_;simp;apply gv<;>intro f
  ·have f':=f;simp at f';simp[f];all_goals grind
  ·have f':=f;simp at f';simp[f];apply gw<;>intro b
   ·simp;all_goals grind
   ·simp;refine ck (M7 _ _) ?_;simp;all_goals grind
def I7 (x:Int):Fk 191 [dI x] (vB (inR x 0 5)):=by
 refine fE [] ntmps191 fun _ _=> ?_;simp;refine ck (bB x 0 5) ?_;simp
def RZ (x:Int):Fk 192 [dI x] (vB (inR x 1 1000)):=by
 refine fE [] ntmps192 fun _ _=> ?_;simp;refine ck (bB x 1 1000) ?_;simp
def rG (r:List (List Tst))(hs:Qle r)(hr:∀l∈r,Qle l):Fk 111 [mQ r] (vB (jA r)):=by
 refine fE [] ntmps111 fun _ _=> ?_;simp;refine wlt Nat (fun i=>([(1,.own (.bx true (mQ r))),(8,.val (.sl none (r.map vZ))),(9,vI r.length),(10,vI i)],r.length-i,(i<=r.length)/\((r.take i).all iY=true))) (0) ⟨by omega,rfl⟩ ?_;rintro i ⟨h1,h2⟩;simp;apply gw<;>intro a
 ·obtain⟨c,hc⟩:=aN (l:=r) (i:=i);have hcl:=hr c (aA hc);simp[hc];refine ck (bB c.length 1 3) ?_;simp;apply gw<;>intro b
  ·simp at b;have hn:=fJ hc (P:=iY) (by simp[iY];omega);simp;grind[jA]
  ·simp at b;simp;refine wlt Nat (fun k=>([(1,.own (.bx true (mQ r))),(4,.own (.bx true (vZ c))),(8,.val (.sl none (r.map vZ))),(9,vI r.length),(10,vI i),(20,.val (.sl none (c.map zN))),(21,vI c.length),(22,vI k)],c.length-k,(k<=c.length)/\((c.take k).all IK=true)/\(adj (fun a b=>decide (a.feature<b.feature)) (c.take k)=true))) (0) ⟨by omega,rfl,rfl⟩ ?_;rintro k ⟨h1k,h2k,h3k⟩;simp;apply gw<;>intro ak
   ·obtain⟨ck,hck⟩:=aN (l:=c) (i:=k);simp[hck];refine wdr ?_;simp;refine cd (I7 ck.feature) ?_;simp;apply gv<;>intro e
    ·have e':=e;simp at e';have hn:=fJ hc (P:=iY) (by have:=fJ hck (P:=IK) (by simp[IK];omega);simp[iY,this]);simp[e];grind[jA]
    ·have e':=e;simp at e';simp[e];refine cd (RZ ck.threshold) ?_;simp;apply gv<;>intro f
     ·have f':=f;simp at f';have hn:=fJ hc (P:=iY) (by have:=fJ hck (P:=IK) (by simp[IK];omega);simp[iY,this]);simp[f];grind[jA]
     ·have f':=f;simp at f';simp[f];apply gv<;>intro g
      ·have g':=g;obtain⟨p,hp⟩:=aN (l:=c) (i:=k-1);have hi1:k-1+1=k:=by omega
       simp[g,hp];iterate 2 refine ai ?_
       apply gw<;>intro d
       ·have hn:=fJ hc (P:=iY) (by have:=JO hp (by rw[hi1];exact hck) (R:=fun a b=>decide (a.feature<b.feature)) (by simp;omega);simp[iY,this]);simp;grind[jA]
       ·simp at d;simp;refine nxa (k+1) ⟨by omega,(bW hck h2k (by simp[IK];omega)),by have:=yU (i:=k-1) (by rw[hi1];exact h3k) hp (by rw[hi1];exact hck) (by simp;omega);rwa [hi1]at this⟩
      ·have g':=g;simp at g';simp[g];refine nxa (k+1) ⟨by omega,(bW hck h2k (by simp[IK];omega)),(by obtain rfl:k=0:=(by omega);exact vF)⟩
   ·simp at ak;have hfk:=iO h2k ak;rw[bS ak]at h3k;simp;refine nxa (i+1) ⟨by omega,(bW hc h2 (by simp[iY,hfk,h3k];omega))⟩
 ·simp at a;have hf:=iO h2 a;simp;refine ck (bB r.length 1 3) ?_;simp;grind[jA]
def oQ (s:Sco)(hw:Qle s.weights):Fk 112 [H7 s] (vB (lX s)):=by
 refine fE [] ntmps112 fun _ _=> ?_;simp;refine wlt Nat (fun i=>([(1,.own (.bx true (H7 s))),(3,.val (dI (s.weights.take i).sum)),(7,vN s.weights),(8,vI s.weights.length),(9,vI i)],(s.weights).length-i,(i<=(s.weights).length)/\((s.weights.take i).all F3=true)/\(0<=(s.weights.take i).sum/\(s.weights.take i).sum<=9*i))) (0) ⟨by omega,rfl,by simp⟩ ?_;rintro i ⟨h1,h2,h3⟩;simp;apply gw<;>intro a
 ·obtain⟨c,hc⟩:=aN (l:=s.weights) (i:=i);simp[hc];refine ck (bB c 0 9) ?_;simp;apply gw<;>intro b
  ·simp at b;have hn:=fJ hc (P:=F3) (by simp[F3];omega);simp;grind[lX]
  ·simp at b;have hsum:(s.weights.take (i+1)).sum=(s.weights.take i).sum+c:=by rw[dV hc];simp
   simp;refine nxb (i+1) ⟨by omega,(bW hc h2 (by simp[F3];omega)),by omega⟩ (h3:=by simp[hc,hsum])
 ·simp at a;have hf:=iO h2 a;rw[bS a];simp;apply gv<;>intro d
  ·have d':=d;simp[d];apply gv<;>intro e
   ·have e':=e;simp[e];refine ck (bB s.bias 0 1000) ?_;simp;grind[lX]
   ·have e':=e;simp at e';simp[e];grind[lX]
  ·have d':=d;simp[d];grind[lX]
def MB (x:Int):Fk 195 [dI x] (vB (inR x 1 4)):=by
 refine fE [] ntmps195 fun _ _=> ?_;simp;refine ck (bB x 1 4) ?_;simp
def FI (x:Int):Bool:= !inR x 1 4
def GG (x:Int):Fk 194 [dI x] (vB (FI x)):=by
 refine fE [] ntmps194 fun _ _=> ?_;simp;refine ck (MB x) ?_;simp;grind[FI]
def alT (l:L1)(hl:Qle l):Fk 271 [nInts l,.one (.func (.func 194) #[] #[])] (vI (ix FI l)):=by
 refine fE [] ntmps271 fun _ _=> ?_;simp;refine wlt Nat (fun i=>([(0,vN l),(1,.val (.one (.func (.func 194) #[] #[]))),(7,vI l.length),(8,vI i)],l.length-i,(i<=l.length)/\((l.take i).any FI=false))) (0) ⟨by omega,rfl⟩ ?_;rintro i ⟨h1,h2⟩;simp;apply gw<;>intro a
 ·obtain⟨c,hc⟩:=aN (l:=l) (i:=i);simp[hc];refine ck (GG c) ?_;simp;apply gw<;>intro b
  ·have hn:=BI hc h2 (by simp[b]);simp[hn]
  ·simp;refine nxa (i+1) ⟨by omega,(jB hc h2 (by simp[b]))⟩
 ·simp at a;have hf:=mR h2 a;have hx:=qQ hf;simp[hx]
def apW (l:L1)(hl:Qle l):Fk 193 [nInts l,.one (.func (.func 194) #[] #[])] (vB (l.any FI)):=by
 refine fE [] ntmps193 fun _ _=> ?_;have hq:decide (0<=ix FI l)=l.any FI:=by rw[bG,decide_eq_true_eq];exact iW
 simp;refine ck (alT l hl) ?_;simp[hq]
def aAU (l:L1):l.any FI= !(l.all QE):=by
 induction l with
 |nil=>rfl
 |cons x l ih=>rw[List.any_cons,uV,ih,FI,QE];simp
def JR (l:L1)(hl:Qle l):Fk 113 [nInts l] (vB (DN l)):=by
 refine fE [] ntmps113 fun _ _=> ?_;simp;apply gv<;>intro e
 ·have e':=e;simp[e];refine ck (apW l hl) ?_;simp;rw[aAU,DN,decide_eq_true (show l.length=4 by omega)];simp
 ·have e':=e;simp[e];rw[DN,decide_eq_false (show¬l.length=4 by omega)];simp
def NH (c:Cfg)(hs:Qle c.rules)(hr:∀l∈c.rules,Qle l)(hw:Qle c.sco.weights)(hv:Qle c.surv):Fk 58 [agC c] (vB (kY c)):=by
 refine fE [] ntmps58 fun _ _=> ?_;simp;refine ck (rG c.rules hs hr) ?_;simp;apply gv<;>intro e
 ·have e':=e;simp[e];refine ck (oQ c.sco hw) ?_;simp;apply gv<;>intro f
  ·have f':=f;simp[f];refine ck (JR c.surv hv) ?_;simp;grind[kY]
  ·have f':=f;simp[f];grind[kY]
 ·have e':=e;simp[e];simp[kY,e']
end Go.Proofs.YtafdbpehjfmnpaaGreatDoor
end
section
namespace Go
def gY:= @List.find?_eq_none
end Go
end
section
namespace Go.Proofs.YtafdbpehjfmnpaaGreatDoor
open Go.Dv Go.Pl Go.Proofs.Tryz
def sV (r:Rec)(hr:inI .i64 (jQ r))(h2:inI .i64 (100*r.source)):Fk 115 [zA r] (vI (jQ r)):=by
 refine fE [] ntmps115 fun _ _=> ?_;simp;refine ai ?_;exact⟨hr,rfl⟩
def KG (x:Int):Fk 219 [dI x] (vB false):=by
 refine fE [] ntmps219 fun _ _=> ?_;simp
def pY (x y:Int):Fk 135 [dI x,dI y] (vI (cmpI x y)):=by
 refine fE [] ntmps135 fun _ _=> ?_;simp;refine ck (KG x) ?_;simp;refine ck (KG y) ?_;simp;apply gw<;>intro a
 ·simp;grind[cmpI]
 ·simp at a;simp;apply gw<;>intro b
  ·simp;grind[cmpI]
  ·simp at b;simp;grind[cmpI]
def orI (l:L1):Int:=(l.find? fun x=>decide (x≠0)).getD 0
variable {l:L1}{i:Nat}
def aF2 {c:Int}(h:(l.take i).all (fun x=>decide (x=0))=true)(hc:l[i]?=some c)(hn:c≠0):orI l=c:=by
 have hlt:=(aD.1 hc).1;rw[aB hlt]at hc;have e:l=l.take i++c::l.drop (i+1):=by rw[←Option.some.inj hc];simp
 have h2:(l.take i).find? (fun x=>decide (x≠0))=none:=by
  rw[gY];intro x hx;have:=aI.1 h x hx;simpa using this
 rw[orI,e,List.find?_append,h2];simp[hn]
def aF3 (h:l.all (fun x=>decide (x=0))=true):orI l=0:=by
 have h2:l.find? (fun x=>decide (x≠0))=none:=by
  rw[gY];intro x hx;have:=aI.1 h x hx;simpa using this
 rw[orI,h2];rfl
def af1 (l:L1)(hl:Qle l):Fk 223 [nInts l] (vI (orI l)):=by
 refine fE [] ntmps223 fun _ _=> ?_;simp;refine wlt Nat (fun i=>([(3,vI 0),(6,vN l),(7,vI l.length),(8,vI i)],l.length-i,(i<=l.length)/\((l.take i).all (fun x=>decide (x=0))=true))) (0) ⟨by omega,rfl⟩ ?_;rintro i ⟨h1,h2⟩;simp;apply gw<;>intro a
 ·obtain⟨c,hc⟩:=aN (l:=l) (i:=i);simp[hc];apply gw<;>intro b
  ·have hx:=aF2 h2 hc b;simp[hx]
  ·simp;refine nxa (i+1) ⟨by omega,(bW hc h2 (by simpa using b))⟩
 ·simp at a;have hx:orI l=0:=aF3 (by rwa [bS a]at h2);simp[hx]
def RY (x y:Bool):Fk 224 [dB x,dB y] (vI (if x=y then 0 else if y then -1 else 1)):=by
 refine fE [] ntmps224 fun _ _=> ?_;simp;apply gw<;>intro a
 ·simp at a;simp;grind
 ·simp at a;simp;apply gw<;>intro b
  ·simp;grind
  ·simp;grind
def atL (a b:Ver):orI [cmpI a.a b.a,cmpI a.b b.b,cmpI a.time b.time,if a.same=b.same then 0 else if b.same then -1 else 1]=gF a b:=by
 unfold gF orI;by_cases h1:cmpI a.a b.a=0<;>by_cases h2:cmpI a.b b.b=0<;>by_cases h3:cmpI a.time b.time=0<;>simp[h1,h2,h3];all_goals(cases a.same<;>cases b.same<;>simp)
def zX (a b:Ver):Fk 139 [mP a,mP b] (vI (gF a b)):=by
 refine fE [] ntmps139 fun _ _=> ?_;simp;refine wdt 20 ?_;simp;refine cd (pY a.a b.a) ?_;simp;refine cd (pY a.b b.b) ?_;simp;refine cd (pY a.time b.time) ?_;simp;refine cd (RY a.same b.same) ?_;have hx:=atL a b;simp;refine ck (af1 [cmpI a.a b.a,cmpI a.b b.b,cmpI a.time b.time,if a.same=b.same then 0 else if b.same then -1 else 1] (by simp)) ?_;simp[hx]
def E9 (l:List Ver)(hs:Qle l:=by first|omega|grind):Fk 116 [nVers l] (vB (kZ l)):=by
 refine fE [] ntmps116 fun _ _=> ?_;simp;refine wlt Nat (fun i=>([(0,vV l),(5,vV l),(6,vI l.length),(7,vI i)],l.length-i,(i<=l.length)/\((l.take i).all fH=true)/\(adj (fun a b=>decide (gF a b<0)) (l.take i)=true))) (0) ⟨by omega,rfl,rfl⟩ ?_;rintro i ⟨h1,h2,h3⟩;simp;apply gw<;>intro a
 ·obtain⟨c,hc⟩:=aN (l:=l) (i:=i);simp[hc];refine wdr ?_;simp;refine cd (LZ c) ?_;simp;apply gv<;>intro e
  ·have e':=e;simp at e';have hn:=fJ hc (P:=fH) (by simpa using e);simp[e];grind[kZ]
  ·have e':=e;simp at e';simp[e];apply gv<;>intro f
   ·have f':=f;obtain⟨p,hp⟩:=aN (l:=l) (i:=i-1);have hi1:i-1+1=i:=by omega
    simp[f,hp];iterate 2 refine ai ?_
    refine cd (zX p c) ?_;simp;apply gw<;>intro b
    ·have hn:=JO hp (by rw[hi1];exact hc) (R:=fun a b=>decide (gF a b<0)) (by simp;omega);simp;grind[kZ]
    ·simp at b;simp;refine nxa (i+1) ⟨by omega,(bW hc h2 (by simpa using e)),by have:=yU (i:=i-1) (by rw[hi1];exact h3) hp (by rw[hi1];exact hc) (by simp;omega);rwa [hi1]at this⟩
   ·have f':=f;simp at f';simp[f];refine nxa (i+1) ⟨by omega,(bW hc h2 (by simpa using e)),(by obtain rfl:i=0:=(by omega);exact vF)⟩
 ·simp at a;have hf:=iO h2 a;rw[bS a]at h3;simp;grind[kZ]
def nM (x n:Int)(hn: -1048576<=n/\n<=1048576:=by first|omega|grind):Fk 350 [dI x,dI n] (vB (inR x 0 (n-1))):=by
 refine fE [] ntmps350 fun _ _=> ?_;simp;refine ai ?_;refine ck (bB x 0 (n-1)) ?_;simp
def yF (l:L1)(hs:Qle l):Fk 361 [nInts l] (vB (fO l)):=by
 refine fE [] ntmps361 fun _ _=> ?_;simp;refine wlt (Nat×Int) (fun(i,t)=>([(0,vN l),(3,vI (t+1)),(6,vN l),(7,vI l.length),(8,vI i)],l.length-i,(i<=l.length)/\(BP (-1) l=BP t (l.drop i))/\(-1<=t/\t<=i))) ((0,(-1))) ⟨by omega,rfl,by omega⟩ ?_;rintro⟨i,t⟩ ⟨h1,h2,h3⟩;simp;apply gw<;>intro a
 ·obtain⟨c,hc⟩:=aN (l:=l) (i:=i);have hdr:=drop_at hc;rw[hdr,BP]at h2;simp[hc];refine ck (bB c 0 (t+1)) ?_;simp;apply gw<;>intro b
  ·simp at b;rw[show inR c 0 (t+1)=false by simp;omega]at h2;simp;grind[fO]
  ·simp at b;rw[show inR c 0 (t+1)=true by simp;omega,eX]at h2;have hmx:max (t+1) (c+1)=max t c+1:=by omega
   simp[hmx];refine nxb (i+1,max t c) ⟨by omega,h2,by omega⟩
 ·simp at a;rw[bO a]at h2;have hx:BP (-1) l:=h2;simp;refine ck (bB l.length 1 8) ?_;simp;grind[fO]
def UB (s:Sto)(hs:Qle s.recs)(hi:∀r∈s.recs,inI .i64 (jQ r)/\inI .i64 (100*r.source)):Fk 119 [NT s] (wN (s.recs.map jQ)):=by
 refine fE [] ntmps119 fun _ _=> ?_;simp;refine wlt (Nat×L1) (fun(i,o)=>([(3,wN o),(7,vT s.recs),(8,vI s.recs.length),(9,vI i)],s.recs.length-i,(i<=s.recs.length)/\(o=(s.recs.take i).map jQ))) ((0,[])) ⟨by omega,rfl⟩ ?_;rintro⟨i,o⟩ ⟨h1,h2⟩;simp;apply gw<;>intro a
 ·obtain⟨c,hc⟩:=aN a;have hm:=yZ jQ hc;rw[←h2]at hm;have hol:o.length=i:=by rw[h2];simp;omega
  have hci:=hi c (aA hc);simp[hc];refine ck (sV c hci.1 hci.2) ?_;simp;refine nxb (i+1,o++[jQ c]) ⟨by omega,hm.symm⟩
 ·simp at a;rw[bS a]at h2;subst h2;simp
variable {x c:Str}
def aGF {l:List Str}(hc:l[i]?=some c)(h:i<=CL l x)(hb:ltL c x):i+1<=CL l x:=by
 induction l generalizing i with
 |nil=>cases hc
 |cons y l ih=>
  unfold CL at*
  cases i with
  |zero=>
   obtain rfl:y=c:=by simpa using hc
   simp[hb]
  |succ i=>
   by_cases hy:ltL y x=true
   ·simp only[qR,hy,if_true,aR]at h|-
    have:=ih (i:=i) (by simpa using hc) (by omega);omega
   ·simp[hy]at h
def aGE {l:List Str}(hc:l[i]?=some c)(h:i<=CL l x)(hb:ltL c x=false):CL l x=i:=by
 induction l generalizing i with
 |nil=>cases hc
 |cons y l ih=>
  unfold CL at*
  cases i with
  |zero=>
   obtain rfl:y=c:=by simpa using hc
   simp[hb]
  |succ i=>
   by_cases hy:ltL y x=true
   ·simp only[qR,hy,if_true,aR]at h|-
    have:=ih (i:=i) (by simpa using hc) (by omega);omega
   ·simp[hy]at h
def yV (l:List Str)(x:Str)(again:Bool)(hl:Qle l:=by first|omega|grind):Fk 181 [mM l,dS x,dB again] (vR (jT l x again)):=by
 refine fE [13] ntmps181 fun _ _=> ?_;simp;refine wlt Nat (fun i=>([(0,vR l),(1,vS x),(2,vB again),(7,vI i)],l.length-i,(i<=l.length)/\(i<=CL l x))) (0) ⟨by omega,by omega⟩ ?_;rintro i ⟨h1,h2⟩;simp;apply gv<;>intro a
 ·have a':=a;obtain⟨c,hc⟩:=aN (l:=l) (i:=i);have hcc:l[i]=c:=by simpa[aB a]using hc
  simp[a,hcc];apply gw<;>intro b
  ·simp;refine nxa (i+1) ⟨by omega,(aGF hc h2 b)⟩
  ·have hi:CL l x=i:=aGE hc h2 b;have htp:jT l x again=if again=false/\c=x then l else l.take i++[x]++l.drop i:=by simp[jT,hi,hc]
   simp;apply gv<;>intro e
   ·have e':=e;simp at e';simp[a,hcc,e];apply gw<;>intro f
    ·simp;simp_all
    ·simp;refine wdf [(0,[39]),(4,[39,42,43]),(6,[44,45]),(7,[43,45,46]),(11,[46,49,50]),(12,[50,6])] [(0,vR l),(1,vS x),(7,vI i)] [] (by simp) ?_;simp;iterate 5 refine ai ?_
     refine kQ [] (dH 6) ?_;simp;simp_all
   ·have e':=e;simp at e';simp[e];refine wdf [(0,[39]),(4,[39,42,43]),(6,[44,45]),(7,[43,45,46]),(11,[46,49,50]),(12,[50,6])] [(0,vR l),(1,vS x),(7,vI i)] [] (by simp) ?_;simp;iterate 5 refine ai ?_
    refine kQ [] (dH 6) ?_;simp;simp_all
 ·have a':=a;simp at a';have hi:l.length=i:=by omega
  have hia:CL l x=i:=by have:=aA1 l x;omega
  have htp:jT l x again=l.take i++[x]++l.drop i:=by simp[jT,hia,k_List_getElem__eq_none (show l.length<=i by omega)]
  simp[a];apply gv<;>intro e
  ·have e':=e;simp at e';simp[a,e];refine wdf [(0,[39]),(4,[39,42,43]),(6,[44,45]),(7,[43,45,46]),(11,[46,49,50]),(12,[50,6])] [(0,vR l),(1,vS x),(7,vI i)] [] (by simp) ?_;simp;iterate 5 refine ai ?_
   refine kQ [] (dH 6) ?_;simp;simp_all
  ·have e':=e;simp at e';simp[e];refine wdf [(0,[39]),(4,[39,42,43]),(6,[44,45]),(7,[43,45,46]),(11,[46,49,50]),(12,[50,6])] [(0,vR l),(1,vS x),(7,vI i)] [] (by simp) ?_;simp;iterate 5 refine ai ?_
   refine kQ [] (dH 6) ?_;simp;simp_all
abbrev oBs (l:Str):D:= .sl (some 5) (l.map dU)
abbrev dC (c:UInt8):D:= .one (.int .u8 c.toNat)
def PI (c:UInt8):Fk 340 [dC c] (vB (xD c)):=by
 refine fE [] ntmps340 fun _ _=> ?_;simp;apply gv<;>intro e
 ·have e':=e;simp[e];apply gv<;>intro f
  ·have f':=f;simp[f];grind[xD]
  ·have f':=f;simp at f';simp[f];apply gv<;>intro g
   ·have g':=g;simp[g];apply gv<;>intro g1
    ·have g1':=g1;simp[g1];omega
    ·have g1':=g1;simp at g1';simp[g1];apply gv<;>intro g2
     ·have g2':=g2;simp[g2];grind[xD]
     ·have g2':=g2;simp at g2';simp[g2];omega
   ·have g':=g;simp at g';simp[g];apply gv<;>intro g3
    ·have g3':=g3;simp[g3];omega
    ·have g3':=g3;simp at g3';simp[g3];omega
 ·have e':=e;simp at e';simp[e];apply gv<;>intro g4
  ·have g4':=g4;simp[g4];apply gv<;>intro g5
   ·have g5':=g5;simp[g5];grind[xD]
   ·have g5':=g5;simp at g5';simp[g5];apply gv<;>intro g6
    ·have g6':=g6;simp[g6];grind[xD]
    ·have g6':=g6;simp at g6';simp[g6];omega
  ·have g4':=g4;simp at g4';simp[g4];apply gv<;>intro g7
   ·have g7':=g7;simp[g7];grind[xD]
   ·have g7':=g7;simp at g7';simp[g7];grind[xD]
def xK (s:Str)(hs:Qle s:=by first|omega|grind):Fk 262 [dS s] (vS (vY s)):=by
 refine fE [] ntmps262 fun _ _=> ?_;simp;refine wlt (Nat×Str) (fun(i,o)=>([(0,vS s),(3,.own (oBs o)),(4,vI i)],s.length-i,(i<=s.length)/\(o=(s.take i).map iJ)/\(o.length=i))) ((0,[])) ⟨by omega,rfl,rfl⟩ ?_;rintro⟨i,o⟩ ⟨h1,h2,h3⟩;simp;apply gw<;>intro a
 ·obtain⟨c,hc⟩:=aN (l:=s) (i:=i);have hm:=yZ iJ hc;rw[←h2]at hm;simp[hc];apply gv<;>intro e
  ·have e':=e;simp[e];apply gw<;>intro f
   ·have hu:=acG (c:=c) (by omega) (by omega);simp;refine nxd (i+1,o++[iJ c]) ⟨by omega,by rw[hm],by simp;omega⟩ (h3:=by simp[hc,e,hu])
   ·simp at f;have hu:=Q6 (c:=c);simp;refine nxb (i+1,o++[iJ c]) ⟨by omega,by rw[hm],by simp;omega⟩ (h3:=by simp[hc,e,hu])
  ·have e':=e;simp at e';have hu:=Q6 (c:=c);simp[e];refine nxb (i+1,o++[iJ c]) ⟨by omega,by rw[hm],by simp;omega⟩ (h3:=by simp[hc,e,hu])
 ·simp at a;rw[bS a]at h2;simp;grind[vY]
def GY (s:Str)(hs:Qle s):Fk 261 [dS s] (vS (yS s)):=by
 refine fE [] ntmps261 fun _ _=> ?_;simp;refine wlt (Nat×Str) (fun(i,o)=>([(0,vS s),(3,.own (oBs o)),(4,vI i)],s.length-i,(i<=s.length)/\(o=(s.take i).flatMap BS)/\(o.length<=i))) ((0,[])) ⟨by omega,rfl,by simp⟩ ?_;rintro⟨i,o⟩ ⟨h1,h2,h3⟩;simp;apply gw<;>intro a
 ·obtain⟨c,hc⟩:=aN (l:=s) (i:=i);have hm:=ai7 BS hc;rw[←h2]at hm;simp[hc];refine ck (PI _) ?_;simp;apply gv<;>intro e
  ·have e':=e;have hu:BS c=[c]:=if_pos (.inl e);simp[hc,e];refine nxb (i+1,o++[c]) ⟨by omega,by rw[hm,hu],by simp;omega⟩
  ·have e':=e;simp[hc,e];apply gw<;>intro f
   ·have hu:BS c=[c]:=if_pos (.inr (by omega));simp[hc];refine nxb (i+1,o++[c]) ⟨by omega,by rw[hm,hu],by simp;omega⟩
   ·simp[hc];apply gw<;>intro g
    ·have hu:BS c=[32]:=by rw[BS,if_neg (fun h=>by rcases h with h|h;(rw[e']at h;cases h);omega),if_pos (by omega)]
     simp;refine nxb (i+1,o++[32]) ⟨by omega,by rw[hm,hu],by simp;omega⟩
    ·have hu:BS c=[]:=by rw[BS,if_neg (fun h=>by rcases h with h|h;(rw[e']at h;cases h);omega),if_neg (by omega)]
     simp;refine nxa (i+1,o) ⟨by omega,by rw[hm,hu];simp,by omega⟩
 ·simp at a;rw[bS a]at h2;simp;grind[yS]
def BA (s:Str)(hs:Qle s):Fk 260 [dS s] (vS (DZ s)):=by
 refine fE [] ntmps260 fun _ _=> ?_;simp;refine wlt (Nat×Str) (fun(i,o)=>([(0,vS s),(3,.own (oBs o)),(4,vI i)],s.length-i,(i<=s.length)/\(o=loopN i ([]) (rD s))/\(o.length<=2*i)/\(i=0->o=[]))) ((0,[])) ⟨by omega,rfl,by simp,by simp⟩ ?_;rintro⟨i,o⟩ ⟨h1,h2,h3,h4⟩;simp;apply gw<;>intro a
 ·have hs:=aL i ([]) (rD s);rw[←h2]at hs;obtain⟨c,hc⟩:=aN (l:=s) (i:=i);have hg:=XD hc;simp[hc];apply gw<;>intro b
  ·have hu:rD s i o=(if 0<o.length/\(s.getD (i-1) 0).toNat=32 then o++[32]else o)++[c]:=by rw[rD,hg,if_neg (by omega)]
   simp;apply gv<;>intro e
   ·have e':=e;have hi:0<i:=by rcases kX i with h|h;(have:=h4 h;subst this;simp at e);exact h
    obtain⟨d,hd⟩:=aN (l:=s) (i:=i-1);have hdg:=XD hd;simp[e,hd];iterate 2 refine ai ?_
    apply gw<;>intro f
    ·have hv:rD s i o=o++[32]++[c]:=by rw[hu,if_pos ⟨by simpa using e,by rw[hdg];omega⟩]
     simp[hc];refine nxd (i+1,o++[32]++[c]) ⟨by omega,by rw[hs,hv],by simp;omega,by omega⟩
    ·have hv:rD s i o=o++[c]:=by rw[hu,if_neg (by (try unfold Qle);rw[hdg];omega)]
     simp[hc];refine nxb (i+1,o++[c]) ⟨by omega,by rw[hs,hv],by simp;omega,by omega⟩
   ·have e':=e;simp at e';have hv:rD s i o=o++[c]:=by rw[hu,if_neg (by simp_all)]
    simp[hc,e];refine nxb (i+1,o++[c]) ⟨by omega,by rw[hs,hv],by simp;omega,by omega⟩
  ·have hu:rD s i o=o:=by rw[rD,hg,if_pos (by omega)]
   simp;refine nxa (i+1,o) ⟨by omega,by rw[hs,hu],by omega,by omega⟩
 ·simp at a;have hi:s.length=i:=by omega
  subst hi;simp;grind[DZ]
def H9 (s:Str):(normal s).length<=2*s.length:=by
 have h1:=VI (yS (vY s));have h2:=II (vY s);have h3:=CY s;unfold normal;omega
def rM (s:Str)(hs:Qle s:=by first|omega|grind):Fk 177 [dS s] (vS (normal s)):=by
 refine fE [] ntmps177 fun _ _=> ?_;simp;refine ck (xK _) ?_;simp;first|refine ck (GY _ (by have:=CY s;omega)) ?_|refine ckz (GY _ (by have:=CY s;omega)) ?_
 simp;first|refine ck (BA _ (by have:=II (vY s);have h2:=CY s;omega)) ?_|refine ckz (BA _ (by have:=II (vY s);have h2:=CY s;omega)) ?_
 simp;grind[normal]
def axH {l:Str}{c:UInt8}(h:l[i]?=some c):l.drop i=c::l.drop (i+1):=drop_at h
def af5 (s:Str)(c:UInt8)(hs:Qle s):Fk 180 [dS s,dC c] (.own (FD (adL c s))):=by
 refine fE [] ntmps180 fun _ _=> ?_;simp;refine wlt (Nat×Nat×List Str) (fun(i,f,o)=>([(0,vS s),(1,.val (dC c)),(5,.own (FD o)),(6,vI f),(7,vI i)],s.length-i,(i<=s.length)/\f<=i/\o.length<=i/\(o++TL c ((s.drop f).take (i-f)) (s.drop i)=adL c s))) ((0,0,[])) ⟨by simp,by simp,by simp,by simp[adL]⟩ ?_;rintro⟨i,f,o⟩ ⟨h1,h2,h3,h4⟩;simp;apply gw<;>intro a
 ·obtain⟨d,hd⟩:=aN (l:=s) (i:=i);rw[axH hd]at h4;simp[hd];apply gw<;>intro b
  ·simp;iterate 4 refine ai ?_
   refine nx (i+1,i+1,o++[(s.drop f).take (i-f)]) ⟨by omega,by omega,by simp;omega,by simpa[TL,b]using h4⟩
  ·have he:(s.drop f).take (i+1-f)=(s.drop f).take (i-f)++[d]:=by rw[show i+1-f=(i-f)+1 by omega];exact dV (by rw[dQ,show f+(i-f)=i by omega];exact hd)
   simp;refine nxa (i+1,f,o) ⟨by omega,by omega,by omega,by rw[he];simpa[TL,b]using h4⟩
 ·simp at a;have:i=s.length:=by omega
  subst this;rw[List.drop_length,take_drop_len]at h4;simp;iterate 2 refine ai ?_
  rw[←h4];simp[TL]
def WX (c:UInt8):Fk 268 [dC c] (vI (aM c)):=by
 refine fE [] ntmps268 fun _ _=> ?_;have hf:vY [c]=[iJ c]:=rfl;simp;refine ck (xK [c]) ?_;simp[hf];apply gw<;>intro a1
 ·have b1:(iJ c).toNat=98:=by rw[a1];rfl
  simp[a1];all_goals simp[aM,codeOf,b1]
 ·have b1:¬(iJ c).toNat=98:=fun h=>a1 (k_UInt8_toNat_inj.1 h);simp[a1];apply gw<;>intro a2
  ·have b2:(iJ c).toNat=102:=by rw[a2];rfl
   simp[a2];all_goals simp[aM,codeOf,b2]
  ·have b2:¬(iJ c).toNat=102:=fun h=>a2 (k_UInt8_toNat_inj.1 h);simp[a2];apply gw<;>intro a3
   ·have b3:(iJ c).toNat=112:=by rw[a3];rfl
    simp[a3];all_goals simp[aM,codeOf,b3]
   ·have b3:¬(iJ c).toNat=112:=fun h=>a3 (k_UInt8_toNat_inj.1 h);simp[a3];apply gw<;>intro a4
    ·have b4:(iJ c).toNat=118:=by rw[a4];rfl
     simp;all_goals simp[aM,codeOf,b4]
    ·have b4:¬(iJ c).toNat=118:=fun h=>a4 (k_UInt8_toNat_inj.1 h);simp[a4];apply gw<;>intro a5
     ·have b5:(iJ c).toNat=99:=by rw[a5];rfl
      simp[a5];all_goals simp[aM,codeOf,b5]
     ·have b5:¬(iJ c).toNat=99:=fun h=>a5 (k_UInt8_toNat_inj.1 h);simp[a5];apply gw<;>intro a6
      ·have b6:(iJ c).toNat=103:=by rw[a6];rfl
       simp[a6];all_goals simp[aM,codeOf,b6]
      ·have b6:¬(iJ c).toNat=103:=fun h=>a6 (k_UInt8_toNat_inj.1 h);simp[a6];apply gw<;>intro a7
       ·have b7:(iJ c).toNat=106:=by rw[a7];rfl
        simp[a7];all_goals simp[aM,codeOf,b7]
       ·have b7:¬(iJ c).toNat=106:=fun h=>a7 (k_UInt8_toNat_inj.1 h);simp[a7];apply gw<;>intro a8
        ·have b8:(iJ c).toNat=107:=by rw[a8];rfl
         simp[a8];all_goals simp[aM,codeOf,b8]
        ·have b8:¬(iJ c).toNat=107:=fun h=>a8 (k_UInt8_toNat_inj.1 h);simp[a8];apply gw<;>intro a9
         ·have b9:(iJ c).toNat=113:=by rw[a9];rfl
          simp[a9];all_goals simp[aM,codeOf,b9]
         ·have b9:¬(iJ c).toNat=113:=fun h=>a9 (k_UInt8_toNat_inj.1 h);simp[a9];apply gw<;>intro a10
          ·have b10:(iJ c).toNat=115:=by rw[a10];rfl
           simp[a10];all_goals simp[aM,codeOf,b10]
          ·have b10:¬(iJ c).toNat=115:=fun h=>a10 (k_UInt8_toNat_inj.1 h);simp[a10];apply gw<;>intro a11
           ·have b11:(iJ c).toNat=120:=by rw[a11];rfl
            simp[a11];all_goals simp[aM,codeOf,b11]
           ·have b11:¬(iJ c).toNat=120:=fun h=>a11 (k_UInt8_toNat_inj.1 h);simp[a11];apply gw<;>intro a12
            ·have b12:(iJ c).toNat=122:=by rw[a12];rfl
             simp;all_goals simp[aM,codeOf,b12]
            ·have b12:¬(iJ c).toNat=122:=fun h=>a12 (k_UInt8_toNat_inj.1 h);simp[a12];apply gw<;>intro a13
             ·have b13:(iJ c).toNat=100:=by rw[a13];rfl
              simp[a13];all_goals simp[aM,codeOf,b13]
             ·have b13:¬(iJ c).toNat=100:=fun h=>a13 (k_UInt8_toNat_inj.1 h);simp[a13];apply gw<;>intro a14
              ·have b14:(iJ c).toNat=116:=by rw[a14];rfl
               simp;all_goals simp[aM,codeOf,b14]
              ·have b14:¬(iJ c).toNat=116:=fun h=>a14 (k_UInt8_toNat_inj.1 h);simp[a14];apply gw<;>intro a15
               ·have b15:(iJ c).toNat=108:=by rw[a15];rfl
                simp;all_goals simp[aM,codeOf,b15]
               ·have b15:¬(iJ c).toNat=108:=fun h=>a15 (k_UInt8_toNat_inj.1 h);simp[a15];apply gw<;>intro a16
                ·have b16:(iJ c).toNat=109:=by rw[a16];rfl
                 simp[a16];all_goals simp[aM,codeOf,b16]
                ·have b16:¬(iJ c).toNat=109:=fun h=>a16 (k_UInt8_toNat_inj.1 h);simp[a16];apply gw<;>intro a17
                 ·have b17:(iJ c).toNat=110:=by rw[a17];rfl
                  simp;all_goals simp[aM,codeOf,b17]
                 ·have b17:¬(iJ c).toNat=110:=fun h=>a17 (k_UInt8_toNat_inj.1 h);simp[a17];apply gw<;>intro a18
                  ·have b18:(iJ c).toNat=114:=by rw[a18];rfl
                   simp;all_goals simp[aM,codeOf,b18]
                  ·have b18:¬(iJ c).toNat=114:=fun h=>a18 (k_UInt8_toNat_inj.1 h);simp[a18];apply gw<;>intro a19
                   ·have b19:(iJ c).toNat=97:=by rw[a19];rfl
                    simp[a19];all_goals simp[aM,codeOf,b19]
                   ·have b19:¬(iJ c).toNat=97:=fun h=>a19 (k_UInt8_toNat_inj.1 h);simp[a19];apply gw<;>intro a20
                    ·have b20:(iJ c).toNat=101:=by rw[a20];rfl
                     simp[a20];all_goals simp[aM,codeOf,b20]
                    ·have b20:¬(iJ c).toNat=101:=fun h=>a20 (k_UInt8_toNat_inj.1 h);simp[a20];apply gw<;>intro a21
                     ·have b21:(iJ c).toNat=105:=by rw[a21];rfl
                      simp[a21];all_goals simp[aM,codeOf,b21]
                     ·have b21:¬(iJ c).toNat=105:=fun h=>a21 (k_UInt8_toNat_inj.1 h);simp[a21];apply gw<;>intro a22
                      ·have b22:(iJ c).toNat=111:=by rw[a22];rfl
                       simp[a22];all_goals simp[aM,codeOf,b22]
                      ·have b22:¬(iJ c).toNat=111:=fun h=>a22 (k_UInt8_toNat_inj.1 h);simp[a22];apply gw<;>intro a23
                       ·have b23:(iJ c).toNat=117:=by rw[a23];rfl
                        simp[a23];all_goals simp[aM,codeOf,b23]
                       ·have b23:¬(iJ c).toNat=117:=fun h=>a23 (k_UInt8_toNat_inj.1 h);simp[a23];apply gw<;>intro a24
                        ·have b24:(iJ c).toNat=121:=by rw[a24];rfl
                         simp;all_goals simp[aM,codeOf,b24]
                        ·have b24:¬(iJ c).toNat=121:=fun h=>a24 (k_UInt8_toNat_inj.1 h);simp[a24];apply gw<;>intro a25
                         ·have b25:(iJ c).toNat=104:=by rw[a25];rfl
                          simp[a25];all_goals simp[aM,codeOf,b25]
                         ·have b25:¬(iJ c).toNat=104:=fun h=>a25 (k_UInt8_toNat_inj.1 h);simp[a25];apply gw<;>intro a26
                          ·have b26:(iJ c).toNat=119:=by rw[a26];rfl
                           simp;all_goals simp[aM,codeOf,b26]
                          ·have b26:¬(iJ c).toNat=119:=fun h=>a26 (k_UInt8_toNat_inj.1 h);simp[a26];all_goals simp[aM,codeOf,b1,b2,b3,b4,b5,b6,b7,b8,b9,b10,b11,b12,b13,b14,b15,b16,b17,b18,b19,b20,b21,b22,b23,b24,b25,b26]
def J2 {α:Type}{l:List α}{c:α}(h:l[i]?=some c):c∈l:=aA h
def GZ (s:Str)(hs:s.length<=65536:=by first|omega|grind):Fk 99 [dS s] (vR (tokens s)):=by
 refine fE [] ntmps99 fun _ _=> ?_;simp;refine ck (rM _) ?_;simp;refine ck (af5 (normal s) 32 (by have:=H9 s;omega)) ?_;have hL:=(alC 32 (normal s)).1;have hn:=H9 s;generalize hcs:adL 32 (normal s)=L at hL|-
 simp;refine wld [3] (Nat×List Str) (fun(i,o)=>([(3,vR o),(4,.own (FD L)),(5,vI i)],L.length-i,(i<=L.length)/\(o=(L.take i).foldl xU [])/\(o.length<=i))) ((0,[])) ⟨by omega,rfl,by simp⟩ ?_;rintro⟨i,o⟩ ⟨h1,h2,h3⟩;simp;apply gw<;>intro a
 ·obtain⟨c,hc⟩:=aN (l:=L) (i:=i);have hm:=fA xU [] hc;rw[←h2]at hm;simp[hc];apply gw<;>intro b
  ·have hu:xU o c=jT o c false:=if_pos b;have hl:=sH o c false;simp[hc];refine ck (yV _ _ _) ?_;simp;refine ai ?_;refine nxc (i+1,jT o c false) [3] ⟨by omega,by rw[hm,hu],by omega⟩
  ·have hu:xU o c=o:=if_neg (by simp[b]);simp;refine ai ?_;refine nxc (i+1,o) [3] ⟨by omega,by rw[hm,hu],by omega⟩
 ·simp at a;rw[bS a]at h2;simp;simp[tokens,hcs,←h2]
def af6 (l:List Str)(x:Str)(hl:Qle l:=by first|omega|grind):Fk 344 [mM l,dS x] (vB (l.any fun y=>decide (y=x))):=by
 refine fE [] ntmps344 fun _ _=> ?_;simp;refine wlt Nat (fun i=>([(0,vR l),(1,vS x),(5,vI i)],l.length-i,(i<=l.length)/\((l.take i).any (fun y=>decide (y=x))=false))) (0) ⟨by omega,rfl⟩ ?_;rintro i ⟨h1,h2⟩;simp;apply gw<;>intro a
 ·obtain⟨c,hc⟩:=aN (l:=l) (i:=i);simp[hc];apply gw<;>intro b
  ·have hn:=arG hc (P:=(fun y=>decide (y=x))) (by simp[b]);simp[hn]
  ·simp;refine nxa (i+1) ⟨by omega,(jB hc h2 (by simp[b]))⟩
 ·simp at a;have hf:=mR h2 a;simp[hf]
def O9 (l m:List Str)(hl:l.length<=262144)(hm:m.length<=262144):Fk 266 [mM l,mM m] (vR (common l m)):=by
 refine fE [] ntmps266 fun _ _=> ?_;simp;refine wld [5] (Nat×List Str) (fun(i,o)=>([(0,vR l),(1,vR m),(5,vR o),(6,vI i)],l.length-i,(i<=l.length)/\(o=(l.take i).foldl (IW m) [])/\(o.length<=i))) ((0,[])) ⟨by omega,rfl,by simp⟩ ?_;rintro⟨i,o⟩ ⟨h1,h2,h3⟩;simp;apply gw<;>intro a
 ·obtain⟨c,hc⟩:=aN (l:=l) (i:=i);have hq:=fA (IW m) [] hc;rw[←h2]at hq;simp[hc];refine ck (af6 _ _) ?_;simp;apply gw<;>intro b
  ·simp at b;have hu:IW m o c=jT o c false:=if_pos (by simpa using b);have hp:=sH o c false;simp[hc];refine ck (yV _ _ _) ?_;simp;refine ai ?_;refine nxc (i+1,jT o c false) [5] ⟨by omega,by rw[hq,hu],by omega⟩
  ·simp at b;have hu:IW m o c=o:=if_neg (fun h=>by obtain⟨y,h1,h2⟩:=bP.1 h;exact b y h1 (by simpa using h2));simp;refine ai ?_;refine nxc (i+1,o) [5] ⟨by omega,by rw[hq,hu],by omega⟩
 ·simp at a;rw[bS a]at h2;simp;grind[common]
def R5 (l m:List Str)(hl:l.length<=262144)(hm:m.length<=262144):Fk 267 [mM l,mM m] (vR (YJ l m)):=by
 refine fE [] ntmps267 fun _ _=> ?_;simp;refine wld [5] (Nat×List Str) (fun(i,o)=>([(0,vR l),(1,vR m),(5,vR o),(6,vI i)],l.length-i,(i<=l.length)/\(o=(l.take i).foldl xV [])/\(o.length<=i))) ((0,[])) ⟨by omega,rfl,by simp⟩ ?_;rintro⟨i,o⟩ ⟨h1,h2,h3⟩;simp;apply gw<;>intro a
 ·obtain⟨c,hc⟩:=aN (l:=l) (i:=i);have hq:=fA xV [] hc;rw[←h2]at hq;have hp:=sH o c false;simp[hc];refine ck (yV _ _ _) ?_;simp;refine ai ?_;refine nxc (i+1,jT o c false) [5] ⟨by omega,by rw[hq];rfl,by omega⟩
 ·simp at a;rw[bS a]at h2;simp;refine wlt (Nat×List Str) (fun(i,q)=>([(1,vR m),(5,vR q),(7,vI i)],m.length-i,(i<=m.length)/\(q=(m.take i).foldl xV o)/\(q.length<=o.length+i))) ((0,o)) ⟨by omega,rfl,by omega⟩ ?_;rintro⟨i,q⟩ ⟨h1j,h2j,h3j⟩;simp;apply gw<;>intro aj
  ·obtain⟨cj,hcj⟩:=aN (l:=m) (i:=i);have hq:=fA xV o hcj;rw[←h2j]at hq;have hp:=sH q cj false;simp[hcj];refine ck (yV q cj false) ?_;simp;refine nxa (i+1,jT q cj false) ⟨by omega,by rw[hq];rfl,by omega⟩
  ·simp at aj;rw[bS aj]at h2j;simp;grind[YJ]
def KV (s:Str)(hs:Qle s):Fk 183 [dS s] (vS (digits s)):=by
 refine fE [] ntmps183 fun _ _=> ?_;simp;refine wlt (Nat×Str) (fun(i,o)=>([(0,vS s),(3,.own (oBs o)),(4,vI i)],s.length-i,(i<=s.length)/\(o=(s.take i).filter (fun c=>decide (48<=c.toNat/\c.toNat<=57)))/\(o.length<=i))) ((0,[])) ⟨by omega,rfl,by simp⟩ ?_;rintro⟨i,o⟩ ⟨h1,h2,h3⟩;simp;apply gw<;>intro a
 ·obtain⟨c,hc⟩:=aN (l:=s) (i:=i);have hm:=zW (fun c:UInt8=>decide (48<=c.toNat/\c.toNat<=57)) hc;rw[←h2]at hm;simp[hc];apply gv<;>intro e
  ·have e':=e;simp[hc,e];apply gw<;>intro f
   ·have hd:(decide (48<=c.toNat/\c.toNat<=57))=true:=by simp;omega
    simp[hc];refine nxb (i+1,o++[c]) ⟨by omega,by rw[hm,hd];rfl,by simp;omega⟩
   ·simp at f;have hd:(decide (48<=c.toNat/\c.toNat<=57))=false:=by simp;omega
    simp;refine nxa (i+1,o) ⟨by omega,by rw[hm,hd];simp,by omega⟩
  ·have e':=e;simp at e';have hd:(decide (48<=c.toNat/\c.toNat<=57))=false:=by simp;omega
   simp[e];refine nxa (i+1,o) ⟨by omega,by rw[hm,hd];simp,by omega⟩
 ·simp at a;rw[bS a]at h2;simp;grind[digits]
def SF (x:Int):Fk 185 [dI x] (vB (inR x 0 9999)):=by
 refine fE [] ntmps185 fun _ _=> ?_;simp;refine ck (bC _ _ _) ?_;simp
end Go.Proofs.YtafdbpehjfmnpaaGreatDoor
end
section
namespace Go
def fV:= @Bool.false_and
end Go
end
section
namespace Go.Proofs.YtafdbpehjfmnpaaGreatDoor
open Go.Dv Go.Pl Go.Proofs.Tryz
abbrev alF (t:Tri):D:= .agg [dI t.a,dI t.b,dI t.c,dI t.w]
abbrev H8 (l:List Tri):D:= .sl none (l.map alF)
abbrev ahT (l:List Tri):D:= .sl (some 260) (l.map alF)
def AQ (x:Int):Int:=if x<0 then -x else x
def agH (m:L2)(a b c:Nat):L1:=[at2 m a b,at2 m a c,at2 m b c]
def UV (l:L1):Nat:=(l.filter fun x=>decide (x<0)).length
def P8 (l:L1):Nat:=(l.filter fun x=>decide (x>0)).length
def YG (m:L2)(a b c:Int):Bool:=bQ m&&decide (0<=a)&&decide (a<b)&&decide (b<c)&&decide (c<m.length)
def wH (m:L2)(a b c:Int):Bool:=YG m a b c&&(decide (UV (agH m a.toNat b.toNat c.toNat)=1)&&decide (P8 (agH m a.toNat b.toNat c.toNat)=2))
def IR (x y:Int)(t:Tri):Bool:=(decide (t.a=x)&&decide (t.b=y))||(decide (t.a=x)&&decide (t.c=y))||(decide (t.b=x)&&decide (t.c=y))
def AO (l:List Tri)(x y:Int):Int:=l.foldl (fun s t=>if IR x y t=true then s+t.w else s) 0
variable {l:List Tri}
def afV {w:Int}(hw:0<=w)(h:∀t∈l, -w<=t.w/\t.w<=w)(x y:Int): -(w*l.length)<=AO l x y/\AO l x y<=w*l.length:=by
 have key:∀(l:List Tri) (s:Int),(∀t∈l, -w<=t.w/\t.w<=w)->s-w*l.length<=l.foldl (fun s t=>if IR x y t=true then s+t.w else s) s/\l.foldl (fun s t=>if IR x y t=true then s+t.w else s) s<=s+w*l.length:=by
  intro l
  induction l with
  |nil=>intro s _;simp
  |cons t l ih=>
   intro s h;have h1:=h t (by simp);have h2:=ih (if IR x y t=true then s+t.w else s) (fun t ht=>h t (bD _ ht));have e:w*((t::l).length:Int)=w*l.length+w:=by simp[Int.mul_add]
   rw[k_List_foldl_cons,e];by_cases hh:IR x y t=true
   ·simp only[hh,if_true]at h2|-;omega
   ·simp only[hh,if_false,dN]at h2|-;omega
 have:=key l 0 h;unfold AO;omega
def oF (x:Int)(hx: -1048576<=x/\x<=1048576:=by omega):Fk 257 [dI x] (vI (AQ x)):=by
 refine fE [] ntmps257 fun _ _=> ?_;simp;apply gw<;>intro h1
 ·simp;refine ai ?_;grind[AQ]
 ·simp at h1;simp;grind[AQ]
def CF (m:L2)(a b c:Int)(hm:Qle m:=by first|omega|grind):Fk 339 [bV m,dI a,dI b,dI c] (vB (wH m a b c)):=by
 refine fE [] ntmps339 fun _ _=> ?_;simp;refine ck (eH m hm) ?_;simp;apply gv<;>intro e1
 ·have e1':=e1;simp at e1';have h0:wH m a b c=false:=by simp only[wH,YG];rw[e1'];simp
  simp[e1,h0]
 ·have e1':=e1;simp at e1';simp[e1];apply gv<;>intro e2
  ·have e2':=e2;have h0:wH m a b c=false:=by simp only[wH,YG];rw[decide_eq_false (p:=0<=a) (by omega)];simp
   simp[e2,h0]
  ·have e2':=e2;simp at e2';simp[e2];apply gv<;>intro e3
   ·have e3':=e3;have h0:wH m a b c=false:=by simp only[wH,YG];rw[decide_eq_false (p:=a<b) (by omega)];simp
    simp[e3,h0]
   ·have e3':=e3;simp at e3';simp[e3];apply gv<;>intro e4
    ·have e4':=e4;have h0:wH m a b c=false:=by simp only[wH,YG];rw[decide_eq_false (p:=b<c) (by omega)];simp
     simp[e4,h0]
    ·have e4':=e4;simp at e4';simp[e4];apply gw<;>intro e5
     ·have h0:wH m a b c=false:=by simp only[wH,YG];rw[decide_eq_false (p:=c<m.length) (by omega)];simp
      simp[h0]
     ·simp at e5;have ht:YG m a b c:=by simp only[YG];rw[e1'];simp;omega
      have h0:wH m a b c=(decide (UV (agH m a.toNat b.toNat c.toNat)=1)&&decide (P8 (agH m a.toNat b.toNat c.toNat)=2)):=by simp[wH,ht]
      obtain⟨r,hr,hrb⟩:=lC e1' (i:=a.toNat) (k:=b.toNat);obtain⟨r',hr',hrc⟩:=lC e1' (i:=a.toNat) (k:=c.toNat);obtain rfl:r=r':=by rw[hr]at hr';exact k_Option_some_inj hr'
      obtain⟨q,hq,hqc⟩:=lC e1' (i:=b.toNat) (k:=c.toNat);have hb0:0<=b:=by omega
      have hc0:0<=c:=by omega
      have hT:agH m a.toNat b.toNat c.toNat=[at2 m a.toNat b.toNat,at2 m a.toNat c.toNat,at2 m b.toNat c.toNat]:=rfl;have hTl:(agH m a.toNat b.toNat c.toNat).length=3:=rfl;have hn0:UV []=0:=rfl;have hp0:P8 []=0:=rfl;simp;refine wdt 21 ?_;simp[hr,hrb,hrc,hq,hqc,hb0,hc0];refine ai ?_;refine wl (fun(i:Nat)=>[(9,vI (UV ((agH m a.toNat b.toNat c.toNat).take i))),(10,vI (P8 ((agH m a.toNat b.toNat c.toNat).take i))),(11,wN (agH m a.toNat b.toNat c.toNat)),(12,vI i)]) (fun(i:Nat)=>3-i) (fun(i:Nat)=>(i<=3)) (0) (by omega) ?_ (h0:=by simp[e2,hr,hrb,hrc,hq,hqc,hb0,hc0,hn0,hp0,hT]);rintro i h1;clear hT;generalize agH m a.toNat b.toNat c.toNat=T at*
      simp;apply gw<;>intro f
      ·have hg:=aU (l:=T) (i:=i);have hn1:=zW (fun x:Int=>decide (x<0)) hg;have hp1:=zW (fun x:Int=>decide (x>0)) hg;have hnl:(UV (T.take i))<=3:=k_Nat_le_trans (bK _ _) (by simp;omega);have hpl:(P8 (T.take i))<=3:=k_Nat_le_trans (bK _ _) (by simp;omega);simp[hg];apply gw<;>intro g
       ·have hn2:UV (T.take (i+1))=UV (T.take i)+1:=by rw[UV,hn1,decide_eq_true g];simp[UV]
        simp[hg];refine ai ?_;apply gw<;>intro k
        ·exfalso;omega
        ·simp at k;have hp2:P8 (T.take (i+1))=P8 (T.take i):=by rw[P8,hp1,decide_eq_false (by omega)];simp[P8]
         simp;refine nxa (i+1) (by first|omega|(simp;omega)|grind) (h3:=by simp[e2,hg,hn2,hp2])
       ·simp at g;have hn2:UV (T.take (i+1))=UV (T.take i):=by rw[UV,hn1,decide_eq_false (by omega)];simp[UV]
        simp[hg];apply gw<;>intro k
        ·have hp2:P8 (T.take (i+1))=P8 (T.take i)+1:=by rw[P8,hp1,decide_eq_true k];simp[P8]
         simp;refine nxb (i+1) (by first|omega|(simp;omega)|grind) (h3:=by simp[e2,hg,hn2,hp2])
        ·simp at k;have hp2:P8 (T.take (i+1))=P8 (T.take i):=by rw[P8,hp1,decide_eq_false (by omega)];simp[P8]
         simp;refine nxa (i+1) (by first|omega|(simp;omega)|grind) (h3:=by simp[e2,hg,hn2,hp2])
      ·simp at f;obtain rfl:i=3:=by omega
       rw[show T.take 3=T from k_List_take_of_length_le (by omega)];simp;apply gv<;>intro g
       ·have g':=g;simp[g];rw[h0,decide_eq_true (p:=UV T=1) (by omega),eX];exact decide_eq_decide.2 (by omega)
       ·have g':=g;simp[g];rw[h0,decide_eq_false (p:=UV T=1) (by omega),fV]
def YH (n:Nat)(t:Tri):Prop:=0<=t.a/\t.a<t.b/\t.b<t.c/\t.c<n/\0<=t.w/\t.w<=1000
def LH {x:Int}{w:Int}(h: -w<=x/\x<=w):0<=AQ x/\AQ x<=w:=by unfold AQ;split<;>omega
variable {m:L2}
def atD {a b c:Int}(h:wH m a b c):bQ m=true/\0<=a/\a<b/\b<c/\c<m.length:=by
 simp only[wH,YG,k_Bool_and_eq_true,decide_eq_true_eq]at h;exact⟨h.1.1.1.1.1,h.1.1.1.1.2,h.1.1.1.2,h.1.1.2,h.1.2⟩
def w3 (m:L2)(a b c:Nat):Int:=min (AQ (at2 m a b)) (min (AQ (at2 m a c)) (AQ (at2 m b c)))
def QK (m:L2)(a b c:Nat)(q:List Tri):List Tri:=if wH m a b c=true then q++[⟨a,b,c,w3 m a b c⟩]else q
def aA5 (m:L2)(a b:Nat)(p:List Tri):List Tri:=loopN (m.length-(b+1)) p fun j q=>QK m a b (b+1+j) q
def aA4 (m:L2)(a:Nat)(o:List Tri):List Tri:=loopN (m.length-(a+1)) o fun j p=>aA5 m a (a+1+j) p
def FJ (m:L2):List Tri:=loopN m.length [] (aA4 m)
def LG (m:L2)(k:Nat)(L:List Tri):Prop:=L.length<=k/\∀t∈L,YH m.length t
variable {a k:Nat}
def aiF (hm:bQ m){b c:Nat}{q:List Tri}(h:LG m k q):LG m (k+1) (QK m a b c q):=by
 unfold QK;split
 ·rename_i hb;have h1:=atD hb;have v1:=LH (iG hm a b);have v2:=LH (iG hm a c);have v3:=LH (iG hm b c);have hw:0<=w3 m a b c/\w3 m a b c<=1000:=by unfold w3;omega
  refine⟨by have:=h.1;simp;omega,fun t ht=> ?_⟩;rcases k_List_mem_append.1 ht with h2|h2
  ·exact h.2 t h2
  ·rw[k_List_mem_singleton.1 h2];unfold YH;simp only;omega
 ·exact⟨by have:=h.1;omega,h.2⟩
def asX (hm:bQ m){b:Nat}{p:List Tri}(h:LG m k p):LG m (k+8) (aA5 m a b p):=by
 have h8:=dJ hm;have:=loopN_inv (n:=m.length-(b+1)) (fun j (q:List Tri)=>LG m (k+j) q) (f:=fun j q=>QK m a b (b+1+j) q) h (fun j q _ hq=>aiF hm hq);exact⟨k_Nat_le_trans this.1 (by omega),this.2⟩
def asW (hm:bQ m){o:List Tri}(h:LG m k o):LG m (k+64) (aA4 m a o):=by
 have h8:=dJ hm;have:=loopN_inv (n:=m.length-(a+1)) (fun j (q:List Tri)=>LG m (k+8*j) q) (f:=fun j p=>aA5 m a (a+1+j) p) (by simpa using h) (fun j q _ hq=>asX hm hq);exact⟨k_Nat_le_trans this.1 (by omega),this.2⟩
def ac1 (hm:bQ m)(i:Nat):LG m (64*i) (loopN i [] (aA4 m)):=
 loopN_inv (fun i (q:List Tri)=>LG m (64*i) q) ⟨by simp,by simp⟩ fun i q _ hq=>asW hm hq
def O6 (m:L2)(hm:bQ m):Fk 256 [bV m] (.own (ahT (FJ m))):=by
 refine fE [] ntmps256 fun _ _=> ?_;have hml:=dJ hm;simp;refine wlt (Nat×List Tri) (fun(a,o)=>([(0,.val (bV m)),(3,.own (ahT o)),(4,vI a)],m.length-a,(a<=m.length)/\(o=loopN a ([]) (aA4 m))/\(LG m (64*a) o))) ((0,[])) ⟨by omega,rfl,(⟨by simp,by simp⟩)⟩ ?_;rintro⟨a,o⟩ ⟨h1z,h2z,h3⟩;simp;apply gw<;>intro az
 ·have hsz:=aL a ([]) (aA4 m);rw[←h2z]at hsz;simp;refine ai ?_;refine wlt (Nat×List Tri) (fun(b,p)=>([(0,.val (bV m)),(3,.own (ahT p)),(4,vI a),(5,vI b)],m.length-b,(a<b/\b<=m.length)/\(p=loopN (b-(a+1)) o (fun j p=>aA5 m a (a+1+j) p))/\(LG m (64*a+8*(b-(a+1))) p))) ((a+1,o)) ⟨by omega,by simp[loopN_zero],by simpa using h3⟩ ?_;rintro⟨b,p⟩ ⟨h4,h5,h6⟩;simp;apply gw<;>intro f
  ·have hsb:=aL (b-(a+1)) o (fun j p=>aA5 m a (a+1+j) p);rw[←h5,show b-(a+1)+1=b+1-(a+1) by omega,show a+1+(b-(a+1))=b by omega]at hsb;simp;refine ai ?_;refine wlt (Nat×List Tri) (fun(c,q)=>([(0,.val (bV m)),(3,.own (ahT q)),(4,vI a),(5,vI b),(6,vI c)],m.length-c,(b<c/\c<=m.length)/\(q=loopN (c-(b+1)) p (fun j q=>QK m a b (b+1+j) q))/\(LG m (64*a+8*(b-(a+1))+(c-(b+1))) q))) ((b+1,p)) ⟨by omega,by simp[loopN_zero],by simpa using h6⟩ ?_;rintro⟨c,q⟩ ⟨h7,h8,h9⟩;simp;apply gw<;>intro g
   ·have hsc:=aL (c-(b+1)) p (fun j q=>QK m a b (b+1+j) q);rw[←h8,show c-(b+1)+1=c+1-(b+1) by omega,show b+1+(c-(b+1))=c by omega]at hsc;have hok:=aiF hm (a:=a) (b:=b) (c:=c) h9;rw[show 64*a+8*(b-(a+1))+(c-(b+1))+1=64*a+8*(b-(a+1))+(c+1-(b+1)) by omega]at hok;have hq512:=h9.1;simp;refine ck (CF m a b c) ?_;simp;apply gw<;>intro k
    ·obtain⟨r,hr,hrb⟩:=lC hm (i:=a) (k:=b);obtain⟨r',hr',hrc⟩:=lC hm (i:=a) (k:=c);obtain rfl:r=r':=by rw[hr]at hr';exact k_Option_some_inj hr'
     obtain⟨s,hs',hsc'⟩:=lC hm (i:=b) (k:=c);have v1:=iG hm a b;have v2:=iG hm a c;have v3:=iG hm b c;have hta:QK m a b c q=q++[⟨a,b,c,w3 m a b c⟩]:=if_pos k;have hw:min (AQ (at2 m a b)) (min (AQ (at2 m a c)) (AQ (at2 m b c)))=w3 m a b c:=rfl;rw[hta]at hok;simp;refine wdf [(29,[36,37,38,63,64]),(30,[64,65]),(31,[35,65,66,3]),(32,[66,3])] [(0,.val (bV m)),(3,.own (ahT q)),(4,vI a),(5,vI b),(6,vI c)] [] (by simp) ?_;simp[hr,hrb];refine cd (oF (at2 m a b)) ?_;simp[hr,hrc];refine cd (oF (at2 m a c)) ?_;simp[hs',hsc'];refine cd (oF (at2 m b c)) ?_;simp[hw];refine nxb (c+1,q++[⟨a,b,c,w3 m a b c⟩]) ⟨by omega,by rw[hsc,hta],hok⟩
    ·have hta:QK m a b c q=q:=if_neg (by simp[k]);rw[hta]at hok;simp;refine nxa (c+1,q) ⟨by omega,by rw[hsc,hta],hok⟩
   ·simp at g;obtain rfl:c=m.length:=by omega
    have hok:=asX hm (a:=a) (b:=b) h6;simp;refine nxa (b+1,q) ⟨by omega,by rw[hsb,h8];rfl,by rw[h8];rw[show 64*a+8*(b+1-(a+1))=64*a+8*(b-(a+1))+8 by omega];exact hok⟩
  ·simp at f;obtain rfl:b=m.length:=by omega
   simp;refine nxa (a+1,p) ⟨by omega,by rw[hsz,h5];rfl,by rw[h5];exact asW hm h3⟩
 ·simp at az;have hiz:m.length=a:=by omega
  subst hiz;simp;simp[FJ,←h2z]
def av5 (l:List Tri)(t:Tri)(x y:Int):AO (l++[t]) x y=if IR x y t=true then AO l x y+t.w else AO l x y:=by simp[AO,k_List_foldl_append]
def av6 {i:Nat}{t:Tri}(h:l[i]?=some t)(x y:Int):AO (l.take (i+1)) x y=if IR x y t=true then AO (l.take i) x y+t.w else AO (l.take i) x y:=by rw[dV h,av5]
def zG (l:List Tri)(x y:Int)(hl:Qle l:=by first|omega|grind)(hw:∀t∈l, -1048576<=t.w/\t.w<=1048576:=by first|omega|grind):Fk 258 [H8 l,dI x,dI y] (vI (AO l x y)):=by
 refine fE [] ntmps258 fun _ _=> ?_;simp;refine wlt (Nat×Int) (fun(i,s)=>([(0,.val (H8 l)),(1,vI x),(2,vI y),(7,vI s),(8,vI i)],l.length-i,(i<=l.length)/\(s=AO (l.take i) x y)/\(-(1048576*i)<=s/\s<=1048576*i))) ((0,0)) ⟨by omega,rfl,by simp⟩ ?_;rintro⟨i,s⟩ ⟨h1,h2,h3⟩;simp;apply gw<;>intro a
 ·obtain⟨t,ht⟩:=aN a;have hwt:=hw t (J2 ht);have hu:=av6 ht x y;simp[ht];apply gv<;>intro e
  ·have e':=e;simp[e];apply gv<;>intro f
   ·have f':=f;have hb:IR x y t:=by simp[IR,e,f]
    simp[f];refine nxb (i+1,s+t.w) ⟨by omega,by rw[hu,hb,if_pos rfl,h2],by omega⟩
   ·have f':=f;simp[f];apply gv<;>intro g
    ·have g':=g;have hb:IR x y t:=by simp[IR,e,g]
     simp[g];refine nxb (i+1,s+t.w) ⟨by omega,by rw[hu,hb,if_pos rfl,h2],by omega⟩
    ·have g':=g;simp[g];apply gv<;>intro k
     ·have k':=k;have hb:IR x y t=false:=by simp[IR,f,g]
      simp[g,k];refine nxa (i+1,s) ⟨by omega,by rw[hu,hb,if_neg (by simp),h2],by omega⟩
     ·have k':=k;have hb:IR x y t=false:=by simp[IR,f,g]
      simp[k];refine nxa (i+1,s) ⟨by omega,by rw[hu,hb,if_neg (by simp),h2],by omega⟩
  ·have e':=e;simp[e];apply gv<;>intro k
   ·have k':=k;simp[k];apply gw<;>intro n
    ·have hb:IR x y t:=by simp[IR,k,n]
     simp;refine nxb (i+1,s+t.w) ⟨by omega,by rw[hu,hb,if_pos rfl,h2],by omega⟩
    ·have hb:IR x y t=false:=by simp[IR,e,n]
     simp;refine nxa (i+1,s) ⟨by omega,by rw[hu,hb,if_neg (by simp),h2],by omega⟩
   ·have k':=k;have hb:IR x y t=false:=by simp[IR,e,k]
    simp[k];refine nxa (i+1,s) ⟨by omega,by rw[hu,hb,if_neg (by simp),h2],by omega⟩
 ·simp at a;obtain rfl:i=l.length:=by omega
  rw[dA]at h2;simp;omega
end Go.Proofs.YtafdbpehjfmnpaaGreatDoor
end
section
namespace Go.Proofs.YtafdbpehjfmnpaaGreatDoor
open Go.Dv Go.Pl
@[go_sem,simp] abbrev wC (x:List Tri):S:= .own (ahT x)
end Go.Proofs.YtafdbpehjfmnpaaGreatDoor
end
section
namespace Go.Proofs.YtafdbpehjfmnpaaGreatDoor
open Go.Dv Go.Pl Go.Proofs.Tryz
def jI (l:L1)(x:Int)(hl:Qle l:=by first|omega|grind):Fk 80 [nInts l,dI x] (vI (ix (fun y=>decide (x=y)) l)):=by
 refine fE [] ntmps80 fun _ _=> ?_;simp;refine wlt Nat (fun i=>([(0,vN l),(1,vI x),(6,vN l),(7,vI l.length),(8,vI i)],l.length-i,(i<=l.length)/\((l.take i).any (fun y=>decide (x=y))=false))) (0) ⟨by omega,rfl⟩ ?_;rintro i ⟨h1,h2⟩;simp;apply gw<;>intro a
 ·obtain⟨c,hc⟩:=aN (l:=l) (i:=i);simp[hc];apply gw<;>intro b
  ·have hn:=BI hc h2 (by simp[b]);simp[hn]
  ·simp;refine nxa (i+1) ⟨by omega,(jB hc h2 (by simp[b]))⟩
 ·simp at a;have hf:=mR h2 a;have hx:=qQ hf;simp[hx]
def sW (x:Int)(hx: -9000000000000000000<=x/\x<=9000000000000000000:=by omega):Fk 289 [dI x] (vI (AQ x)):=by
 refine fE [] ntmps289 fun _ _=> ?_;have ha:max x (-x)=AQ x:=by unfold AQ;split<;>omega
 simp[ha];simp only[inI];omega
def nX (l:L1)(hl:1<=l.length/\Qle l):Fk 356 [nInts l] (wN l):=by
 refine fE [] ntmps356 fun _ _=> ?_;have hne:¬l=[]:=by rintro rfl;simp at hl
 have hle:l.length<=1073741824:=by omega
 simp[hne,hle]
def sU (l:L1)(hs:Qle l):Fk 206 [nInts l] (wN (canon l)):=by
 refine fE [] ntmps206 fun _ _=> ?_;simp;refine wlt (Nat×(L1×L1)) (fun(i,s)=>([(3,wN s.2),(4,wN s.1),(8,vN l),(9,vI l.length),(10,vI i)],l.length-i,(i<=l.length)/\(s=(l.take i).foldl jH ([],[]))/\(s.1.length<=i/\s.2.length<=i)/\(s.2.Nodup))) ((0,([],[]))) ⟨by omega,rfl,by simp,by simp⟩ ?_;rintro⟨i,s⟩ ⟨h1,h2,h3,h4⟩;simp;apply gw<;>intro a
 ·obtain⟨c,hc⟩:=aN (l:=l) (i:=i);have hm:=fA jH ([],[]) hc;rw[←h2]at hm;simp[hc];refine ck (jI s.2 c (by omega)) ?_;have hli:=ahI c h4 s.2.length (k_Nat_le_refl _);rw[dA]at hli;simp;apply gw<;>intro b
  ·have hx:jH s c=(s.1++[(s.2.length:Int)],s.2++[c]):=if_pos (by rw[hli];exact b);have hni:c∉s.2:=fun hmem=>by have h9:s.2.any (fun y=>decide (c=y))=true:=bP.2 ⟨c,hmem,by simp⟩;have:=iW.2 h9;omega
   simp;refine nxd (i+1,(s.1++[(s.2.length:Int)],s.2++[c])) ⟨by omega,by rw[hm,hx],by simp;omega,by simp[mE,h4];intro a ha e;exact hni (e▸ha)⟩
  ·simp at b;have hx:jH s c=(s.1++[ix (fun y=>decide (c=y)) s.2],s.2):=by rw[jH,if_neg (by (try unfold Qle);rw[hli];omega),hli]
   simp;refine nxb (i+1,(s.1++[ix (fun y=>decide (c=y)) s.2],s.2)) ⟨by omega,by rw[hm,hx],by simp;omega,h4⟩
 ·simp at a;rw[bS a]at h2;simp;grind[canon]
end Go.Proofs.YtafdbpehjfmnpaaGreatDoor
end
section
namespace Go
def lQ:= @List.replicate_succ'
end Go
end
section
namespace Go.Proofs.YtafdbpehjfmnpaaGreatDoor
open Go.Dv Go.Pl Go.Proofs.Tryz
def sqz (n i:Nat):L2:=List.replicate i (List.replicate n 0)++List.replicate (n-i) []
variable {n i:Nat}
def aGC (h:i<n):(sqz n i)[i]?=some []:=by
 obtain⟨k,rfl⟩:∃k,n=i+(k+1):=⟨n-i-1,by omega⟩;rw[sqz,aX (by simp),show i+(k+1)-i=k+1 by omega];simp
def aD1 (h:i<n):(sqz n i).set i (List.replicate n 0)=sqz n (i+1):=by
 obtain⟨k,rfl⟩:∃k,n=i+(k+1):=⟨n-i-1,by omega⟩;rw[sqz,sqz,show i+(k+1)-i=k+1 by omega,show i+(k+1)-(i+1)=k by omega,gG _ _ (by simp),lQ (n:=i),fI (n:=k)];simp
def sZ (n:Nat)(hn:n<=1048576:=by omega):Fk 211 [dI n] (.own (mY (List.replicate n (List.replicate n 0)))):=by
 refine fE [] ntmps211 fun _ _=> ?_;have hz:(sqz n 0).map cO=List.replicate n (D.sl (some 3) []):=by simp[sqz]
 simp;refine ai ?_;refine wl (fun(i:Nat)=>[(0,vI n),(3,.own (mY (sqz n i))),(8,vI n),(9,vI i)]) (fun(i:Nat)=>n-i) (fun(i:Nat)=>(i<=n)) (0) (by omega) ?_ (h0:=by simp[hz]);rintro i h1;simp;apply gw<;>intro a
 ·have hat:=aGC a;have hset:=aD1 a;have hset2:((sqz n i).map cO).set i (D.sl (some 3) (List.replicate n (dI 0)))=(sqz n (i+1)).map cO:=by rw[←hset,kI];simp[cO]
  simp[hat,hset2];refine nxb (i+1) (by omega)
 ·simp at a;obtain rfl:i=n:=by omega
  have hfin:sqz i i=List.replicate i (List.replicate i 0):=by simp[sqz]
  simp[hfin]
def gW (m:L2)(hm:Qle m)(hr:∀r∈m,Qle r):Fk 275 [bV m] (vB (bQ m)):=by
 refine fE [] ntmps275 fun _ _=> ?_;rw[ZC];simp;refine ck (bB m.length 1 8) ?_;simp;apply gw<;>intro b
 ·simp at b;simp;omega
 ·simp at b;simp;refine wlt Nat (fun i=>([(0,.val (bV m)),(11,.val (bV m)),(12,vI m.length),(13,vI i)],m.length-i,(i<=m.length)/\((List.range i).all (FC m)=true))) (0) ⟨by omega,rfl⟩ ?_;rintro i ⟨h1,h2⟩;simp;apply gw<;>intro a
  ·obtain⟨r,hri⟩:=aN (l:=m) (i:=i);have hrl:=hr r (aA hri);have hgr:=BF hri;simp[hri];apply gv<;>intro e
   ·have e':=e;have hn:=mZ a (P:=(FC m)) (by unfold FC;rw[hgr];simp;omega);simp[e,hn]
   ·have e':=e;obtain⟨d,hd⟩:=aN (l:=r) (i:=i);have hdd:=N9 hri hd;simp[e,hd];apply gw<;>intro d0
    ·have hn:=mZ a (P:=(FC m)) (by unfold FC;rw[hdd];simp[d0]);simp[hn]
    ·have hmin:min i r.length=i:=by omega
     simp[hmin,d0];refine ai ?_;refine wlt Nat (fun k=>([(0,.val (bV m)),(3,vI i),(11,.val (bV m)),(12,vI m.length),(13,vI i),(32,.val (.sl none ((r.map dI).take i))),(33,vI i),(34,vI k)],i-k,(k<=i)/\((List.range k).all (XO m i)=true))) (0) ⟨by omega,rfl⟩ ?_;rintro k ⟨h1k,h2k⟩;simp;apply gw<;>intro ak
     ·obtain⟨w,hw⟩:=aN (l:=r) (i:=k);have hww:=N9 hri hw;have hw2:(List.take i (List.map dI r))[k]?=some (dI w):=by rw[aZ,if_pos (by omega),aO,hw];rfl
      simp[hw2];refine ck (bB w (-1000) 1000) ?_;simp;apply gv<;>intro f
      ·have f':=f;simp at f';have hn:=mZ a (P:=FC m) (anC ak (by unfold XO;rw[hww];simp;omega));simp[f,hn]
      ·have f':=f;simp at f';obtain⟨q,hq⟩:=aN (l:=m) (i:=k);have hql:q.length=m.length:=by have:=aI.1 h2 k (aY.2 (by omega));simp only[FC,k_Bool_and_eq_true,decide_eq_true_eq]at this;rw[←BF hq];exact this.1.1
       obtain⟨z,hz⟩:=aN (l:=q) (i:=i);have hzz:=N9 hq hz;simp[f,hq,hz];apply gw<;>intro g
       ·have hn:=mZ a (P:=FC m) (anC ak (by unfold XO;rw[hww,hzz];simp[g]));simp[hn]
       ·simp;refine nxa (k+1) ⟨by omega,(oK h2k (by unfold XO;rw[hww,hzz];simp[g];omega))⟩
     ·simp at ak;have hf:=K8 (n:=i) h2k;simp;refine nxa (i+1) ⟨by omega,(oK h2 (auT (by (try unfold Qle);rw[hgr];omega) (by rw[hdd];exact d0) hf))⟩
  ·simp at a;have hf:=K8 (n:=m.length) h2;simp[hf];refine ai ?_;omega
def aiN {α:Type}(p:α->Bool)(l:List α):(l.any fun c=> !p c)= !(l.all p):=by rw[List.not_all_eq_any_not]
def ad1 (l:List Con)(p:Con->Bool)(g:FuncId)(b:Nat)(d:D)(F:d.fz=d)(E:Dv.Enters prog g)(U:T (1000000+g)=⟨.no,0,.any 0⟩)(G:∀c∈l,fD prog g [alD c,.bx false d] (fun r=>r=vB (p c)))(hl:Qle l):yT prog 393 [jJ l,.one (.func (.func g) #[] #[.pointer (some ⟨b,0,none⟩)])] [(b,d)] (fun res'=>res'=vI (ix p l)):=by
 refine fB [] ntmps393 fun _ _=> ?_;simp;refine wlt Nat (fun i=>([(0,vC l),(1,.val (.one (.func (.func g) #[] #[.pointer (some ⟨b,0,none⟩)]))),(7,vI l.length),(8,vI i),(1000000+2*b,.rp (d))],l.length-i,(i<=l.length)/\((l.take i).any p=false))) (0) ⟨by omega,rfl⟩ ?_;rintro i ⟨h1,h2⟩;simp;apply gw<;>intro a
 ·obtain⟨c,hc⟩:=aN (l:=l) (i:=i);simp[E,U,F,hc];refine ck ((G c (aA hc))) ?_;simp;apply gw<;>intro e
  ·have hn:=BI hc h2 (by simp[e]);simp[hn]
  ·simp;refine nxa (i+1) ⟨by omega,(jB hc h2 (by simp[e]))⟩
 ·simp at a;have hf:=mR h2 a;have hx:=qQ hf;simp[hx]
def ag9 (l:List Con)(p:Con->Bool)(g:FuncId)(b:Nat)(d:D)(F:d.fz=d)(E:Dv.Enters prog g)(U:T (1000000+g)=⟨.no,0,.any 0⟩)(G:∀c∈l,fD prog g [alD c,.bx false d] (fun r=>r=vB (p c)))(hl:Qle l):yT prog 348 [jJ l,.one (.func (.func g) #[] #[.pointer (some ⟨b,0,none⟩)])] [(b,d)] (fun res'=>res'=vB (l.any p)):=by
 refine fB [] ntmps348 fun _ _=> ?_;have hq:decide (0<=ix p l)=l.any p:=by rw[bG,decide_eq_true_eq];exact iW
 simp[F];refine ckB (ad1 l p g b d F E U G hl) ?_;simp[hq]
def JQ (c:Con)(n:Int)(hn: -1048576<=n/\n<=1048576):Fk 349 [alD c,.bx false (dI n)] (vB (!NF n c)):=by
 refine fE [] ntmps349 fun _ _=> ?_;simp;refine ck (nM c.a n) ?_;simp;apply gv<;>intro e
 ·have e':=e;simp at e';simp[e];grind[NF]
 ·have e':=e;simp at e';simp[e];refine ck (nM c.b n) ?_;simp;apply gv<;>intro f
  ·have f':=f;simp at f';simp[f];grind[NF]
  ·have f':=f;simp at f';simp[f];grind[NF]
def uG (n:Int)(l:List Con)(hn: -1048576<=n/\n<=1048576:=by first|omega|grind)(hl:Qle l:=by first|omega|grind):Fk 277 [dI n,jJ l] (vB (bZ n l)):=by
 refine fE [] ntmps277 fun _ _=> ?_;simp;refine ck (bB n 1 8) ?_;simp;apply gv<;>intro e
 ·have e':=e;simp at e';simp[e];grind[bZ]
 ·have e':=e;simp at e';simp[e];apply gw<;>intro f
  ·simp;grind[bZ]
  ·simp at f;simp;intro b;refine ckB (ag9 l (fun c=> !NF n c) 349 b (dI n) rfl aHB aHQ (fun c _=>JQ c n hn) hl) ?_;simp;grind[bZ]
end Go.Proofs.YtafdbpehjfmnpaaGreatDoor
end
section
namespace Go
def tK:= @List.length_replicate
end Go
end
section
namespace Go.Proofs.YtafdbpehjfmnpaaGreatDoor
open Go.Dv Go.Pl Go.Proofs.Tryz
def K4 (m:L2)(i k:Nat)(v:Int):(m.map cO).set i (D.sl (some 3) (((gat m i).map dI).set k (dI v)))=(set2 m i k v).map cO:=by rw[set2,kI];simp[cO,kI]
variable {m:L2}{i k:Nat}
def ayG {j:Nat}(v:Int)(h:¬i=j):gat (set2 m i k v) j=gat m j:=by simp[gat,set2,aC,h]
def asY {v w:Int}(h:¬i=k):((m.map cO).set i (D.sl (some 3) (((gat m i).map dI).set k (dI v)))).set k (D.sl (some 3) (((gat m k).map dI).set i (dI w)))=(set2 (set2 m i k v) k i w).map cO:=by
 rw[K4,←ayG v h,K4]
def TZ (n:Nat)(l:List Con)(hn:1<=n/\n<=8:=by first|omega|grind)(hl:Qle l:=by first|omega|grind)(hc:∀c∈l,0<=c.a/\c.a<c.b/\c.b<(n:Int):=by first|omega|grind):Fk 353 [dI n,jJ l] (.own (mY (PX n l))):=by
 refine fE [] ntmps353 fun _ _=> ?_;have hz:List.replicate n (cO (List.replicate n 0))=(zeros n).map cO:=by simp[zeros]
 simp;refine ck (sZ n) ?_;simp[hz];refine wlt (Nat×L2) (fun(i,m)=>([(5,.own (mY m)),(10,vC l),(11,vI l.length),(12,vI i)],l.length-i,(i<=l.length)/\(m=(l.take i).foldl rC (zeros n))/\(sq2 n m))) ((0,zeros n)) ⟨by omega,by simp,(pO n)⟩ ?_ (h0:=by simp[hz]);rintro⟨i,m⟩ ⟨h1,h2,h3⟩;simp;apply gw<;>intro a
 ·obtain⟨c,hcc⟩:=aN (l:=l) (i:=i);have hb:=hc c (aA hcc);have hm:=fA rC (zeros n) hcc;rw[←h2]at hm;have ha0:0<=c.a:=hb.1;have hb0:0<=c.b:=by omega
  obtain⟨hA,hA2⟩:=sO h3 (i:=c.a.toNat);obtain⟨hB,hB2⟩:=sO h3 (i:=c.b.toNat);have hgA:=MR h3 (i:=c.a.toNat) (k:=c.b.toNat);have hgB:=MR h3 (i:=c.b.toNat) (k:=c.a.toNat);have hml:c.a.toNat<m.length:=by rw[h3.1];omega
  have hml2:c.b.toNat<m.length:=by rw[h3.1];omega
  have hne:¬c.a.toNat=c.b.toNat:=by omega
  simp[hcc];apply gw<;>intro e
  ·have hset:=asY (m:=m) (v:=1) (w:=1) hne;have hmm:rC m c=set2 (set2 m c.a.toNat c.b.toNat 1) c.b.toNat c.a.toNat 1:=if_pos e;rw[←hmm]at hset;simp;refine wdf [(15,[32,5,18,21,22,25,28,29]),(17,[33,5,18,21,22,25,28,29,32])] [(5,.own (mY m)),(7,.own (.bx true (alD c))),(10,vC l),(11,vI l.length),(12,vI i)] [] (by simp) ?_;simp[ha0,hb0,hA,hB,hgA,hgB,hne,hset];refine nxa (i+1,rC m c) ⟨by omega,hm.symm,(XR h3 hb)⟩
  ·have hmm:rC m c=m:=if_neg (by simp[e]);simp;refine nxa (i+1,m) ⟨by omega,by rw[hm,hmm],h3⟩
 ·simp at a;rw[bS a]at h2;have hfin:PX n l=m:=h2.symm;simp[hfin]
abbrev ZL (b:Nat):Value:= .pointer (some ⟨b,0,none⟩)
abbrev aq9 (bc bo bm bv:Nat):D:= .one (.func (.func 352) #[] #[ZL bc,ZL bo,ZL bm,ZL bv])
structure ao0 (a b c d:Nat):Prop where
 ab:¬a=b
 ac:¬a=c
 ad:¬a=d
 bc:¬b=c
 bd:¬b=d
 cd:¬c=d
 ba:¬b=a
 ca:¬c=a
 da:¬d=a
 cb:¬c=b
 db:¬d=b
 dc:¬d=c
def as6 (n:Nat)(m:L2)(c:Int)(bc bo bm bv f:Nat):Prop:=∀(i:Nat) (o:L1),o.length=n->i<n->at1 o i<0->negs n o<=f->
 FnW prog 352 [dI i] [(bc,some (dI c)),(bo,none),(bm,some (bV m)),(bv,some (aq9 bc bo bm bv))] [(bc,dI c),(bm,bV m),(bv,aq9 bc bo bm bv)] [(bo,cO o)] (fun r ds'=>r= .tup []/\ds'=[cO (dfs n m c f i o)])
def dfs_keeps {n:Nat}{m:L2}{c:Int}(hc:0<=c):∀(f i:Nat) (o:L1),o.length=n->(dfs n m c f i o).length=n/\∀k,0<=at1 o k->0<=at1 (dfs n m c f i o) k
 |0,i,o,h=>⟨h,fun k hk=>hk⟩
 |f+1,i,o,h=>by
  rw[dfs];refine loopN_inv (fun _ (p:L1)=>p.length=n/\∀k,0<=at1 o k->0<=at1 p k) ⟨by simp[h],fun k hk=> ?_⟩ fun k p _ ⟨h1,h2⟩=> ?_
  ·by_cases hi:i<o.length
   ·rw[zC k hi];split<;>omega
   ·rw[qK (by omega)];exact hk
  ·split
   ·have:=dfs_keeps (m:=m) hc f k p h1;exact⟨this.1,fun k hk=>this.2 k (h2 k hk)⟩
   ·exact⟨h1,h2⟩
def vstep (n:Nat)(m:L2)(c:Int)(f i k:Nat)(o:L1):L1:=if 0<at2 m i k/\at1 o k<0 then dfs n m c f k o else o
variable {c:Int}
def aoY {n:Nat}(hc:0<=c){f:Nat}{p:L1}(h:p.length=n):(vstep n m c f i k p).length=n/\negs n (vstep n m c f i k p)<=negs n p:=by
 unfold vstep;split
 ·have:=dfs_keeps (m:=m) hc f k p h;exact⟨this.1,ahS fun k _ hk=>this.2 k hk⟩
 ·exact⟨h,k_Nat_le_refl _⟩
def atT (n:Nat)(m:L2)(c:Int)(f i:Nat)(o:L1):dfs n m c (f+1) i o=loopN n (o.set i c) (vstep n m c f i):=rfl
def ax4 (n:Nat)(m:L2)(c:Int)(bc bo bm bv f:Nat)(hA:ao0 bc bo bm bv)(hm:bQ m)(hn:m.length=n)(hc:0<=c/\c<=1048576)(IH:as6 n m c bc bo bm bv f)(i:Nat)(o:L1)(hl:o.length=n)(hi:i<n)(h0:at1 o i<0)(hf:negs n o<=f+1):FnW prog 352 [dI i] [(bc,some (dI c)),(bo,none),(bm,some (bV m)),(bv,some (aq9 bc bo bm bv))] [(bc,dI c),(bm,bV m),(bv,aq9 bc bo bm bv)] [(bo,cO o)] (fun r ds'=>r= .tup []/\ds'=[cO (dfs n m c (f+1) i o)]):=by
 refine fW [] ntmps352 fun _ _=> ?_;obtain⟨a1,a2,a3,a4,a5,a6,a7,a8,a9,a10,a11,a12⟩:=hA;have hn8:=dJ hm;obtain⟨r,hr⟩:=aN (l:=m) (i:=i);have hoi:=aU (l:=o) (i:=i);have hr2:=(C8 hm (show i<m.length by omega));have hrl:r.length=n:=by obtain⟨r',e1,e2⟩:=hr2;rw[hr]at e1;obtain rfl:=k_Option_some_inj e1;omega
 have hng:=XT hl hi h0 hc.1;simp[hr,hoi];refine wlt (Nat×L1) (fun(k,p)=>([(0,vI i),(1,.rp (dI c)),(2,.rf (1000000+2*bo) [0]),(3,.rp (bV m)),(4,.rp (aq9 bc bo bm bv)),(15,vN r),(16,vI r.length),(17,vI k),(1000000+2*bc,.rp (dI c)),(1000000+2*bo,.own (.bx true (cO p))),(1000000+2*bm,.rp (bV m)),(1000000+2*bv,.rp (aq9 bc bo bm bv))],n-k,(k<=n)/\(p=loopN k (o.set i c) (vstep n m c f i))/\p.length=n/\(negs n p<=f))) ((0,o.set i c)) ⟨by omega,rfl,by simp[hl],by omega⟩ ?_ (h0:=by simp[a1,a2,a3,a4,a5,a6,a7,a8,a9,a10,a11,a12,hr,hoi]);rintro⟨k,p⟩ ⟨h1,h2,h3,h4⟩;simp;apply gw<;>intro b
 ·obtain⟨w,hw⟩:=aN (l:=r) (i:=k);have hww:=N9 hr hw;have hpk:=aU (l:=p) (i:=k);have hs:=aL k (o.set i c) (vstep n m c f i);rw[←h2]at hs;have hv:=aoY (n:=n) (m:=m) (c:=c) hc.1 (f:=f) (i:=i) (k:=k) h3;simp[hw];apply gv<;>intro d
  ·have d':=d;simp[a7,hpk,d];apply gw<;>intro e
   ·have hst:vstep n m c f i k p=dfs n m c f k p:=if_pos ⟨by rw[hww];exact d,e⟩;simp;refine ac7 (IH k p h3 (by omega) e h4) rfl ?_;simp[a7,a8,a9,a10,a11,a12];refine nxa (k+1,dfs n m c f k p) ⟨by omega,by rw[hs,hst],by rw[←hst];exact hv.1,by rw[←hst];omega⟩ (h3:=by simp[a1,a2,a3,a4,a5,a6,a7,a8,a9,a10,a11,a12,hr,hoi,hw,hpk,d])
   ·simp at e;have hst:vstep n m c f i k p=p:=if_neg (by omega);simp;refine nxa (k+1,p) ⟨by omega,by rw[hs,hst],h3,h4⟩ (h3:=by simp[a1,a2,a3,a4,a5,a6,a7,a8,a9,a10,a11,a12,hr,hoi,hw,hpk,d])
  ·have d':=d;simp at d';have hst:vstep n m c f i k p=p:=if_neg (by omega);simp[d];refine nxa (k+1,p) ⟨by omega,by rw[hs,hst],h3,h4⟩ (h3:=by simp[a1,a2,a3,a4,a5,a6,a7,a8,a9,a10,a11,a12,hr,hoi,hw,hpk,d])
 ·simp at b;obtain rfl:k=n:=by omega
  rw[←atT]at h2;simp[a7,h2]
def ax3 {n:Nat}{bc bo bm bv:Nat}(hA:ao0 bc bo bm bv)(hm:bQ m)(hn:m.length=n)(hc:0<=c/\c<=1048576):∀f,as6 n m c bc bo bm bv f
 |0=>fun i o hl hi h0 hf=>by have:=XT hl hi h0 hc.1;omega
 |f+1=>fun i o hl hi h0 hf=>ax4 n m c bc bo bm bv f hA hm hn hc (ax3 hA hm hn hc f) i o hl hi h0 hf
def wP (h:bQ m):∀r∈m,Qle r:=fun r hr=>by
 have h8:=dJ h;simp only[bQ,k_Bool_and_eq_true,aI,decide_eq_true_eq]at h;have:=h.1.1 r hr;omega
def oZ (n i:Nat):L1:=List.replicate i (-1)++List.replicate (n-i) 0
def aFQ {n:Nat}(h:i<n):(oZ n i)[i]?=some 0:=by
 rw[oZ,aX (by simp),tK,eO,eZ,if_pos (by omega)]
def aDF {n:Nat}(h:i<n):(oZ n i).set i (-1)=oZ n (i+1):=by
 obtain⟨k,hk⟩:∃k,n-i=k+1:=⟨n-i-1,by omega⟩;rw[oZ,oZ,hk,show n-(i+1)=k by omega,gG _ _ (by simp),lQ (n:=i),fI (n:=k)];simp
def qA (m:L2)(hm:bQ m:=by first|omega|grind):Fk 279 [bV m] (wN (pE m)):=by
 refine fE [] ntmps279 fun _ _=> ?_;have hn8:=dJ hm;have hz:oZ m.length 0=List.replicate m.length 0:=by simp[oZ]
 have hz2:List.replicate m.length (dI 0)=(oZ m.length 0).map dI:=by rw[hz];simp
 have hnl:∀i≤m.length,(oZ m.length i).length=m.length:=fun i hi=>by simp[oZ];omega
 have hnl0:=hnl 0 (by omega);simp;refine ck (gW m (by omega) (wP hm)) ?_;simp[hm,hz2,hnl0];refine ai ?_;refine wl (fun(i:Nat)=>[(1,.own (.bx true (bV m))),(3,.own (.bx true (cO (oZ m.length i)))),(15,vI m.length),(16,vI i)]) (fun(i:Nat)=>m.length-i) (fun(i:Nat)=>(i<=m.length)) (0) (by omega) ?_;rintro i h1;simp;apply gw<;>intro a
 ·have hat:=aFQ a;have hset:((oZ m.length i).map dI).set i (dI (-1))=(oZ m.length (i+1)).map dI:=by rw[←aDF a,kI]
  simp[hat,hset];refine nxa (i+1) (by omega)
 ·simp at a;simp;refine aqE (pJ (dI 0) (by simp) fun bc nc=> ?_);refine pJ (cO (oZ m.length i)) (by simp) fun bo no=> ?_;have d1:=oN.ne no (b':=bc) (o:=true) (d:=dI 0) (by simp);have e1:=d1.symm;refine pJ (bV m) (by simp) fun bm nm=> ?_;have d2:=oN.ne nm (b':=bc) (o:=true) (d:=dI 0) (by simp[e1]);have d3:=oN.ne nm (b':=bo) (o:=true) (d:=cO (oZ m.length i)) (by simp);have e2:=d2.symm;have e3:=d3.symm;refine pJ (.one .nilFunc) (by simp) fun bv nv=> ?_;have d4:=oN.ne nv (b':=bc) (o:=true) (d:=dI 0) (by simp[e1,e2]);have d5:=oN.ne nv (b':=bo) (o:=true) (d:=cO (oZ m.length i)) (by simp[e3]);have d6:=oN.ne nv (b':=bm) (o:=true) (d:=bV m) (by simp);have e4:=d4.symm;have e5:=d5.symm;have e6:=d6.symm;refine YQ ?_;simp[e6];clear nc no nm nv;obtain rfl:i=m.length:=by omega
  have hA:ao0 bc bo bm bv:=⟨e1,e2,e4,e3,e5,e6,d1,d2,d4,d3,d5,d6⟩;have hng:oZ m.length m.length=List.replicate m.length (-1):=by simp[oZ]
  simp[hng];refine wlt (Nat×L1×Int) (fun(i,o,c)=>([(1,.rf (1000000+2*bm) [0]),(3,.rf (1000000+2*bo) [0]),(5,.rf (1000000+2*bc) [0]),(6,.rf (1000000+2*bv) [0]),(25,vI m.length),(26,vI i),(1000000+2*bc,.own (.bx true (dI c))),(1000000+2*bo,.own (.bx true (cO o))),(1000000+2*bm,.own (.bx true (bV m))),(1000000+2*bv,.own (.bx true (aq9 bc bo bm bv)))],m.length-i,(i<=m.length)/\((o,c)=loopN i (List.replicate m.length (-1),0) (LU m.length m))/\o.length=m.length/\(0<=c/\c<=i))) ((0,List.replicate m.length (-1),0)) ⟨by omega,rfl,by simp,by omega⟩ ?_ (h0:=by simp[hm,hz2,hnl0,d1,e1,d2,e2,d3,e3,d4,e4,d5,e5,d6,e6,hng]);rintro⟨i,o,c⟩ ⟨h2,h3,h4,h5⟩;simp;apply gw<;>intro b
  ·have hoi:=aU (l:=o) (i:=i);have hs:=aL i (List.replicate m.length (-1),(0:Int)) (LU m.length m);rw[←h3]at hs;simp[d1,hoi];apply gw<;>intro f
   ·have hst:LU m.length m i (o,c)=(dfs m.length m c m.length i o,c+1):=if_pos f;simp[d4,d5,d6];refine ac7 (ax3 (c:=c) hA hm rfl (by omega) m.length i o h4 b f (asD _ _)) rfl ?_;simp[d1,e1,d2,d3,d4,d5,d6];refine nxb (i+1,dfs m.length m c m.length i o,c+1) ⟨by show i+1<=m.length;omega,by rw[hs,hst],((dfs_keeps (c:=c) (by omega) _ _ _ h4).1),(by show 0<=c+1/\c+1<=((i+1:Nat):Int);omega)⟩ (h3:=by simp[hm,hz2,hnl0,d1,e1,d2,e2,d3,e3,d4,e4,d5,e5,d6,e6,hng,hoi])
   ·simp at f;have hst:LU m.length m i (o,c)=(o,c):=if_neg (show¬at1 o i<0 by omega);simp;refine nxa (i+1,o,c) ⟨by omega,by rw[hs,hst],h4,by omega⟩ (h3:=by simp[hm,hz2,hnl0,d1,e1,d2,e2,d3,e3,d4,e4,d5,e5,d6,e6,hng,hoi])
  ·simp at b;obtain rfl:i=m.length:=by omega
   have hfin:pE m=o:=by rw[←aBO hm];exact congrArg Prod.fst h3.symm
   simp[d1,hfin];omega
def yG (n:Nat)(l:List Con)(hn:n<=1048576:=by first|omega|grind)(hl:Qle l:=by first|omega|grind)(hc:bZ n l:=by first|omega|grind):Fk 280 [dI n,jJ l] (wN (eB n l)):=by
 refine fE [] ntmps280 fun _ _=> ?_;simp;refine ck (uG n l) ?_;have hc2:=lZ hc;have hm:=aaN hc;have hx:=aqF hc;simp[hc];refine ck (TZ n l) ?_;simp;refine ck (qA _) ?_;simp;grind
def NI (a b:L1)(ha:Qle a)(hb:Qle b):Fk 351 [nInts a,nInts b] (vB (mG a b)):=by
 refine fE [] ntmps351 fun _ _=> ?_;simp;refine ck (yF a ha) ?_;simp;apply gv<;>intro e
 ·have e':=e;simp[e];refine ck (yF b hb) ?_;simp;apply gv<;>intro f
  ·have f':=f;simp[f];grind[mG]
  ·have f':=f;simp[f];grind[mG]
 ·have e':=e;simp[e];grind[mG]
def anV {f:Nat->Nat->Bool}(h:f i k):set2 m i k 1=zI f i k m:=by unfold zI;rw[if_pos h]
def L6 (p q:L1)(hp:Qle p)(hq:Qle q)(h:mG p q):Fk 278 [nInts p,nInts q] (wN (EG p q)):=by
 refine fE [] ntmps278 fun _ _=> ?_;obtain⟨hpp,hqq,hlen⟩:=XY h;have hpl:=isPart_len hpp;have hz:List.replicate p.length (cO (List.replicate p.length 0))=(zeros p.length).map cO:=by simp[zeros]
 have hmat:=aaD (q:=q) hpl;have hlab:=aqA (q:=q) hpl;simp;refine ck (NI p q hp hq) ?_;simp[h];refine ck (sZ p.length) ?_;simp[hz];refine wlt (Nat×L2) (fun(i,m)=>([(0,vN p),(1,vN q),(5,.own (mY m)),(16,vI p.length),(17,vI i)],p.length-i,(i<=p.length)/\(m=loopN i (zeros p.length) (ZK p.length (CG p q)))/\(sq2 p.length m))) ((0,zeros p.length)) ⟨by omega,rfl,(pO _)⟩ ?_ (h0:=by simp[h,hz]);rintro⟨i,m⟩ ⟨h1,h2,h3⟩;simp;apply gw<;>intro a
 ·have hs:=aL i (zeros p.length) (ZK p.length (CG p q));rw[←h2]at hs;have gp:=aU (l:=p) (i:=i);have gq:=aU (l:=q) (i:=i);simp;refine wlt (Nat×L2) (fun(k,w)=>([(0,vN p),(1,vN q),(5,.own (mY w)),(6,vI i),(16,vI p.length),(17,vI i),(21,vI p.length),(22,vI k)],p.length-k,(k<=p.length)/\(w=loopN k m (zI (CG p q) i))/\(sq2 p.length w))) ((0,m)) ⟨by omega,rfl,h3⟩ ?_;rintro⟨k,w⟩ ⟨h4,h5,h6⟩;simp;apply gw<;>intro b
  ·have hs2:=aL k m (zI (CG p q) i);rw[←h5]at hs2;have kp:=aU (l:=p) (i:=k);have kq:=aU (l:=q) (i:=k);have hrw:=(sO h6 (i:=i)).1;have hgw:=MR h6 (i:=i) (k:=k);have hset:=K4 w i k 1;simp;refine wdr ?_;simp;apply gv<;>intro e
   ·have e':=e;simp[gp,kp,e];apply gv<;>intro f
    ·have f':=f;have ho:=anV (m:=w) (show CG p q i k=true by simp only[CG,k_Bool_and_eq_true,bH,decide_eq_true_eq];exact⟨by omega,.inl f⟩);simp[hrw,hgw,hset,f];refine nxa (k+1,set2 w i k 1) ⟨by omega,by rw[hs2,ho],(xS h6 (by omega) 1)⟩
    ·have f':=f;simp[gq,kq,f];apply gw<;>intro g
     ·have ho:=anV (m:=w) (show CG p q i k=true by simp only[CG,k_Bool_and_eq_true,bH,decide_eq_true_eq];exact⟨by omega,.inr g⟩);simp[hrw,hgw,hset];refine nxa (k+1,set2 w i k 1) ⟨by omega,by rw[hs2,ho],(xS h6 (by omega) 1)⟩
     ·have ho:zI (CG p q) i k w=w:=if_neg (by simp only[CG,k_Bool_and_eq_true,bH,decide_eq_true_eq];omega);simp;refine nxa (k+1,w) ⟨by omega,by rw[hs2,ho],h6⟩
   ·have e':=e;have ho:zI (CG p q) i k w=w:=if_neg (by simp only[CG,k_Bool_and_eq_true,bH,decide_eq_true_eq];omega);simp[e];refine nxa (k+1,w) ⟨by omega,by rw[hs2,ho],h6⟩ (h3:=by simp[h,hz,gp,gq,kp,kq,hrw,hgw,hset,e])
  ·simp at b;obtain rfl:k=p.length:=by omega
   simp;refine nxa (i+1,w) ⟨by omega,by rw[hs,h5];rfl,h6⟩
 ·simp at a;obtain rfl:i=p.length:=by omega
  have hfin:PS p q=m:=h2.symm;rw[hfin]at hmat hlab;simp;refine ck (qA m hmat) ?_;simp[hlab]
def RV (m:L2)(l:List Con)(hl:Qle l)(hm:bQ m)(hc:bZ m.length l):Fk 202 [bV m,jJ l] (wN (dF m l)):=by
 refine fE [] ntmps202 fun _ _=> ?_;have hn8:=dJ hm;have hpl:=MM hm;have hml:=nP hc;have hpp:=K3 hpl hn8.1 hn8.2;have hmp:=K3 hml hn8.1 hn8.2;have hpair:mG (pE m) (eB m.length l):=by simp only[mG,k_Bool_and_eq_true,decide_eq_true_eq];exact⟨⟨hpp,hmp⟩,by rw[hpl.1,hml.1]⟩
 have hx:=(JK hm hc).1;simp;refine ck (gW m (by omega) (wP hm)) ?_;simp[hm];refine ck (uG m.length l) ?_;simp[hc];refine ck (qA m hm) ?_;simp;refine ck (yG m.length l (by omega) hl hc) ?_;have q1:=hpl.1;have q2:=hml.1;simp;refine ck (L6 (pE m) (eB m.length l) (by omega) (by omega) hpair) ?_;simp[hx]
def aw8 (h:bQ m)(l:L1)(i k:Nat):0<=sQ m l i k/\sQ m l i k<=1000:=by
 have:=iG h i k;rw[agY];split<;>omega
def kF (m:L2)(l:L1)(hm:bQ m)(hl:l.length=m.length):Fk 207 [bV m,nInts l] (vI (dK m l)):=by
 refine fE [] ntmps207 fun _ _=> ?_;have hn8:=dJ hm;simp;refine wlt (Nat×Int) (fun(i,s)=>([(0,.val (bV m)),(1,vN l),(5,vI s),(9,vI l.length),(10,vI i)],l.length-i,(i<=l.length)/\(s=loopN i 0 (zD m l))/\(0<=s/\s<=8000*i))) ((0,0)) ⟨by omega,rfl,by omega⟩ ?_;rintro⟨i,s⟩ ⟨h1,h2,h3⟩;simp;apply gw<;>intro a
 ·have hs:=aL i 0 (zD m l);rw[←h2]at hs;simp;refine wlt (Nat×Int) (fun(k,t)=>([(0,.val (bV m)),(1,vN l),(5,vI t),(6,vI i),(9,vI l.length),(10,vI i),(13,vI i),(14,vI k)],i-k,(k<=i)/\(t=loopN k s (fun k s=>s+sQ m l i k))/\(s<=t/\t<=s+1000*k))) ((0,s)) ⟨by omega,rfl,by omega⟩ ?_;rintro⟨k,t⟩ ⟨h4,h5,h6⟩;simp;apply gw<;>intro b
  ·have hs2:=aL k s (fun k s=>s+sQ m l i k);rw[←h5]at hs2;have gi:=aU (l:=l) (i:=i);have gk:=aU (l:=l) (i:=k);obtain⟨r,hr,hw⟩:=lC hm (i:=i) (k:=k);have hc:=aw8 hm l i k;have hw2:=iG hm i k;have hcb:=agY m l i k;simp;refine wdr ?_;simp[gi,gk];apply gw<;>intro e
   ·rw[if_pos e]at hcb;have hcs:=hcb.symm;simp[hr,hw,hcs];refine nxd (k+1,t+sQ m l i k) ⟨by omega,hs2.symm,by omega⟩
   ·rw[if_neg e]at hcb;have hcs:=hcb.symm;simp[hr,hw,hcs];refine nxb (k+1,t+sQ m l i k) ⟨by omega,hs2.symm,by omega⟩
  ·simp at b;obtain rfl:k=i:=by omega
   simp;refine nxa (k+1,t) ⟨by omega,by rw[hs,h5];rfl,by omega⟩
 ·simp at a;obtain rfl:i=l.length:=by omega
  have hfin:dK m l=s:=h2.symm;simp[hfin]
def XB (l:L1):(nInts l).fz=nInts l:=by simp[D.fz,D.KX]
def LY (c:Con)(p:L1)(h0:0<=c.a/\c.a<c.b)(h1:c.b<(p.length:Int)):Fk 394 [alD c,.bx false (nInts p)] (vB (F8 p c)):=by
 refine fE [] ntmps394 fun _ _=> ?_;have ha:0<=c.a:=h0.1;have hb:0<=c.b:=by omega
 have q1:=aU (l:=p) (i:=c.a.toNat);have q2:=aU (l:=p) (i:=c.b.toNat);simp;refine wdt 16 ?_;simp;apply gv<;>intro g1
 ·have g1':=g1;simp at g1';simp[ha,hb,q1,q2,g1];grind[F8]
 ·have g1':=g1;simp at g1';simp[g1];grind[F8]
def OV (n:Nat)(l:List Con)(hn:n<=1048576:=by first|omega|grind)(hl:Qle l:=by first|omega|grind)(hc:bZ n l:=by first|omega|grind):Fk 347 [dI n,jJ l] (vI (wK n l)):=by
 refine fE [] ntmps347 fun _ _=> ?_;have hc2:=lZ hc;have hml:(eB n l).length=n:=(nP hc).1;have hne:¬eB n l=[]:=by intro e;rw[e]at hml;simp at hml;omega
 have hf:wK n l=ix (F8 (eB n l)) l:=if_pos hc;simp;refine ck (yG n l) ?_;simp[hne,hf];intro b;refine ckB (ad1 l (F8 (eB n l)) 394 b (nInts (eB n l)) (XB _) aHF aHU (fun c hm=>LY c (eB n l) (by have:=hc2.2.2.2 c hm;omega) (by have:=hc2.2.2.2 c hm;omega)) hl) ?_;simp[hf]
def OX (n:Nat)(l:List Con)(hn:n<=1048576:=by first|omega|grind)(hl:Qle l:=by first|omega|grind):Fk 276 [dI n,jJ l] (vB (eF n l)):=by
 refine fE [] ntmps276 fun _ _=> ?_;simp;refine ck (uG n l) ?_;simp;apply gv<;>intro e
 ·have e':=e;simp[e];refine ck (OV n l) ?_;simp;grind[eF]
 ·have e':=e;simp[e];grind[eF]
def TW (m:L2)(l:List Con)(hm:Qle m)(hr:∀r∈m,Qle r)(hl:Qle l):Fk 201 [bV m,jJ l] (vB (bQ m&&eF m.length l)):=by
 refine fE [] ntmps201 fun _ _=> ?_;simp;refine ck (gW m hm hr) ?_;simp;apply gv<;>intro e
 ·have e':=e;simp[e];refine ck (OX m.length l) ?_;simp[e]
 ·have e':=e;simp[e]
def CE (m:L2)(l:L1)(hm:bQ m)(hl:Qle l):Fk 285 [bV m,nInts l] (vI (wB m l)):=by
 refine fE [] ntmps285 fun _ _=> ?_;simp;refine ck (gW m (by have:=dJ hm;omega) (wP hm)) ?_;simp[hm];refine ck (yF l hl) ?_;simp;apply gv<;>intro e
 ·have e':=e;simp at e';have hp:wB m l= -1:=if_neg (by simp[e']);simp[e,hp]
 ·have e':=e;simp at e';simp[e];apply gw<;>intro f
  ·have hp:wB m l= -1:=if_neg (by omega);simp[hp]
  ·have hll:l.length=m.length:=by omega
   have hp:wB m l=dK m l:=if_pos ⟨hm,e',hll⟩;simp;refine ck (kF m l hm hll) ?_;simp[hp]
def abC (c:Con)(l:L1)(hl:Qle l):Fk 358 [alD c,.bx false (nInts l)] (vB (!xY l c)):=by
 refine fE [] ntmps358 fun _ _=> ?_;simp;refine wdt 30 ?_;simp;refine cd (nM c.a l.length) ?_;simp;apply gv<;>intro e
 ·have e':=e;simp at e';simp[e];grind[xY]
 ·have e':=e;simp at e';simp[e];refine cd (nM c.b l.length) ?_;simp;apply gv<;>intro f
  ·have f':=f;simp at f';simp[f];grind[xY]
  ·have f':=f;simp at f';have ha:0<=c.a:=by omega
   have hb:0<=c.b:=by omega
   have q1:=aU (l:=l) (i:=c.a.toNat);have q2:=aU (l:=l) (i:=c.b.toNat);simp[e',f',q1,q2];grind[xY]
def DV (l:L1)(cs:List Con)(hl:Qle l:=by first|omega|grind)(hc:Qle cs:=by first|omega|grind):Fk 283 [nInts l,jJ cs] (vB (nG cs l)):=by
 refine fE [] ntmps283 fun _ _=> ?_;have hx:(!(cs.any fun c=> !xY l c))=nG cs l:=by rw[aiN];simp[nG]
 simp;intro b;refine ckB (ag9 cs (fun c=> !xY l c) 358 b (nInts l) (XB _) aHC aHR (fun c _=>abC c l hl) hc) ?_;simp[hx]
def CX (n:Nat)(hn:n<=8:=by first|omega|grind):Fk 251 [dI n] (.own (UW (noLinks n))):=by
 refine fE [] ntmps251 fun _ _=> ?_;simp;refine wl (fun(i:Nat)=>[(0,vI n),(3,.own (UW (List.replicate i (List.replicate n false)))),(4,vI i)]) (fun(i:Nat)=>n-i) (fun(i:Nat)=>(i<=n)) (0) (by omega) ?_;rintro i h1;simp;apply gw<;>intro a
 ·have hx:=lQ (n:=i) (a:=List.replicate n false);simp;refine nxd (i+1) (by first|omega|(simp;omega)|grind) (h3:=by simp[hx])
 ·simp at a;obtain rfl:n=i:=by omega
  simp;all_goals(simp[noLinks];done)
def BD (n:Nat)(M:List (List Bool))(hn:n<=8:=by first|omega|grind)(hM:sqB n M:=by first|omega|grind):Fk 252 [dI n,ZI M] (.own (cO (amM n M).1)):=by
 refine fE [] ntmps252 fun _ _=> ?_;simp;refine wl (fun(i:Nat)=>[(0,vI n),(1,.val (ZI M)),(5,wN (List.replicate i (-1))),(6,vI i)]) (fun(i:Nat)=>n-i) (fun(i:Nat)=>(i<=n)) (0) (by omega) ?_;rintro i h1;simp;apply gw<;>intro a
 ·have hx:=lQ (n:=i) (a:=(-1:Int));simp;refine nxb (i+1) (by first|omega|(simp;omega)|grind) (h3:=by simp[hx])
 ·simp at a;obtain rfl:n=i:=by omega
  simp;refine wlt (Nat×(L1×Int)) (fun(i,s)=>([(0,vI n),(1,.val (ZI M)),(5,wN s.1),(7,vI s.2),(8,vI i)],n-i,(i<=n)/\(s=loopN i ((List.replicate n (-1),0)) (JF n M))/\(s.1.length=n/\0<=s.2/\s.2<=i))) ((0,(List.replicate n (-1),0))) ⟨by omega,rfl,by simp⟩ ?_;rintro⟨i,s⟩ ⟨h1,h2,h3⟩;simp;apply gw<;>intro a
  ·have hs:=aL i ((List.replicate n (-1),0)) (JF n M);rw[←h2]at hs;have hg:=aU (l:=s.1) (i:=i);simp[hg];apply gw<;>intro b
   ·have hx:JF n M i s=s:=if_pos b;simp;refine nxa (i+1,s) ⟨by omega,by rw[hs,hx],by omega⟩
   ·simp at b;have hx:JF n M i s=(spread n M s.2 (s.1.set i s.2),s.2+1):=if_neg (by omega);simp[hg];refine wlt (Nat×L1) (fun(a,o)=>([(0,vI n),(1,.val (ZI M)),(5,wN o),(7,vI s.2),(8,vI i),(9,vI a)],n-a,(a<=n)/\(o=loopN a (s.1.set i s.2) (spS n M s.2))/\(o.length=n))) ((0,s.1.set i s.2)) ⟨by omega,rfl,by simp;omega⟩ ?_;rintro⟨a,o⟩ ⟨h1a,h2a,h3a⟩;simp;apply gw<;>intro aa
    ·have hsa:=aL a (s.1.set i s.2) (spS n M s.2);rw[←h2a]at hsa;simp;refine wlt (Nat×L1) (fun(b,p)=>([(0,vI n),(1,.val (ZI M)),(5,wN p),(7,vI s.2),(8,vI i),(9,vI a),(10,vI b)],n-b,(b<=n)/\(p=loopN b (o) (spA n M s.2))/\(p.length=n))) ((0,o)) ⟨by omega,rfl,by omega⟩ ?_;rintro⟨b,p⟩ ⟨h1b,h2b,h3b⟩;simp;apply gw<;>intro ab
     ·have hsb:=aL b (o) (spA n M s.2);rw[←h2b]at hsb;simp;refine wlt (Nat×L1) (fun(c,q)=>([(0,vI n),(1,.val (ZI M)),(5,wN q),(7,vI s.2),(8,vI i),(9,vI a),(10,vI b),(11,vI c)],n-c,(c<=n)/\(q=loopN c (p) (spB M s.2 b))/\(q.length=n))) ((0,p)) ⟨by omega,rfl,by omega⟩ ?_;rintro⟨c,q⟩ ⟨h1c,h2c,h3c⟩;simp;apply gw<;>intro ac
      ·have hsc:=aL c (p) (spB M s.2 b);rw[←h2c]at hsc;have hq:=aU (l:=q) (i:=b);obtain⟨r,hr,hrl⟩:=asM hM ab;obtain⟨y,hy⟩:=aN (l:=r) (i:=c);have ey:=awT hr hy;have hqc:=aU (l:=q) (i:=c);simp[hq];apply gv<;>intro e
       ·have e':=e;simp[hr,hy,e];apply gw<;>intro f
        ·have hz:spB M s.2 b c q=q.set c s.2:=if_pos ⟨by simp_all,by simp_all⟩;simp[hqc];refine nxa (c+1,q.set c s.2) ⟨by omega,by rw[hsc,hz],by simp[h3c]⟩
        ·have hz:spB M s.2 b c q=q:=if_neg (by simp_all);simp;refine nxa (c+1,q) ⟨by omega,by rw[hsc,hz],h3c⟩
       ·have e':=e;have hz:spB M s.2 b c q=q:=if_neg (by simp_all);simp[e];refine nxa (c+1,q) ⟨by omega,by rw[hsc,hz],h3c⟩
      ·simp at ac;have hic:n=c:=by omega
       subst hic;simp;refine nxa (b+1,q) ⟨by omega,by rw[hsb,spA,h2c],h3c⟩
     ·simp at ab;have hib:n=b:=by omega
      subst hib;simp;refine nxa (a+1,p) ⟨by omega,by rw[hsa,spS,h2b],h3b⟩
    ·simp at aa;have hia:n=a:=by omega
     subst hia;simp;refine nxb (i+1,(o,s.2+1)) ⟨by omega,by rw[hs,hx,spread,h2a],by simp[h3a];omega⟩
  ·simp at a;have hi:n=i:=by omega
   subst hi;simp;subst h2;rfl
def yJ (n:Int)(l:List Con)(hn: -1048576<=n/\n<=1048576:=by first|omega|grind)(hs:Qle l:=by first|omega|grind):Fk 167 [dI n,jJ l] (wN (if bZ n l=true then eB n.toNat l else[])):=by
 refine fE [] ntmps167 fun _ _=> ?_;simp;refine ck (uI _ _) ?_;simp;apply gw<;>intro e
 ·simp at e;simp;simp[e]
 ·simp at e;obtain⟨h1,h2,h3,h4⟩:=lZ e;obtain⟨n,rfl⟩:∃k:Nat,n=k:=⟨n.toNat,by omega⟩;simp;refine ck (CX n) ?_;simp;refine wlt (Nat×List (List Bool)) (fun(i,M)=>([(0,vI n),(1,vC l),(5,.own (UW M)),(6,vI i)],l.length-i,(i<=l.length)/\(M=(l.take i).foldl mustStep (noLinks n))/\(sqB n M))) ((0,(noLinks n))) ⟨by simp,rfl,(afP n)⟩ ?_;rintro⟨i,M⟩ ⟨h1,h2,h3⟩;simp;apply gw<;>intro a
  ·obtain⟨c,hc⟩:=aN (l:=l) (i:=i);have hm:=fA mustStep (noLinks n) hc;rw[←h2]at hm;have hb:=h4 c (aA hc);simp[hc];apply gw<;>intro b
   ·obtain⟨r,hr,hrl,hrc⟩:=YD (a:=c.a.toNat) (b:=c.b.toNat) h3;obtain⟨q,hq,hql,hqc⟩:=YD (a:=c.b.toNat) (b:=c.a.toNat) h3;have hne:c.a.toNat≠c.b.toNat:=by omega
    have hne2:¬c.b.toNat=c.a.toNat:=by omega
    have hz1:=X9 (k:=c.b.toNat) (v:=true) hr;have hz2:=X9 (M:=M.set c.a.toNat (r.set c.b.toNat true)) (i:=c.b.toNat) (k:=c.a.toNat) (v:=true) (r:=q) (by simp[hne,hq]);simp;refine wdt 14 ?_;simp[hc,hr,hrc];iterate 2 refine ai ?_
    refine wdt 14 ?_;simp[hc,hq,hqc,hne];refine nxd (i+1,(M.set c.a.toNat (r.set c.b.toNat true)).set c.b.toNat (q.set c.a.toNat true)) ⟨by omega,by rw[hm,mustStep,if_pos b,hz1,hz2],by rw[←hz2,←hz1];exact sqB_set (sqB_set h3)⟩
   ·simp;refine nxa (i+1,M) ⟨by omega,by rw[hm,mustStep,if_neg (by simp[b])],h3⟩
  ·simp at a;rw[bS a]at h2;subst h2;simp;refine ck (BD n _) ?_;simp;simp[e,eB,nH]
def GX (m:L2)(hs:Qle m:=by first|omega|grind):Fk 247 [bV m] (wN (if bQ m=true then pE m else[])):=by
 refine fE [] ntmps247 fun _ _=> ?_;simp;refine ck (eH _) ?_;simp;apply gw<;>intro e
 ·simp at e;simp;simp[e]
 ·simp at e;have hml:=dJ e;simp;refine ck (CX m.length) ?_;simp;refine wlt (Nat×List (List Bool)) (fun(i,M)=>([(0,.val (bV m)),(3,.own (UW M)),(4,vI i)],m.length-i,(i<=m.length)/\(M=loopN i (noLinks m.length) ((fun i M=>loopN m.length M (posRow m i))))/\(sqB m.length M))) ((0,noLinks m.length)) ⟨by simp,rfl,(afP _)⟩ ?_;rintro⟨i,M⟩ ⟨h1,h2,h3⟩;simp;apply gw<;>intro a
  ·have hs:=aL i (noLinks m.length) ((fun i M=>loopN m.length M (posRow m i)));rw[←h2]at hs;simp;refine wlt (Nat×List (List Bool)) (fun(k,L)=>([(0,.val (bV m)),(3,.own (UW L)),(4,vI i),(5,vI k)],m.length-k,(k<=m.length)/\(L=loopN k (M) (posRow m i))/\(sqB m.length L))) ((0,M)) ⟨by simp,rfl,h3⟩ ?_;rintro⟨k,L⟩ ⟨h1k,h2k,h3k⟩;simp;apply gw<;>intro ak
   ·have hsk:=aL k (M) (posRow m i);rw[←h2k]at hsk;obtain⟨r,hr,hrl,hrc⟩:=YD (a:=i) (b:=k) h3k;obtain⟨q,hq,hqc⟩:=lC e (i:=i) (k:=k);have hz1:=X9 (k:=k) (v:=decide (at2 m i k>0)) hr;have hsq:=sqB_set (i:=i) (k:=k) (v:=decide (at2 m i k>0)) h3k;rw[hz1]at hsq;simp;refine wdt 14 ?_;simp[hr,hrc,hq,hqc];refine nxa (k+1,L.set i (r.set k (decide (at2 m i k>0)))) ⟨by omega,by rw[hsk,posRow,hz1],hsq⟩
   ·simp at ak;have hik:m.length=k:=by omega
    subst hik;simp;refine nxa (i+1,L) ⟨by omega,by rw[hs];exact h2k,h3k⟩
  ·simp at a;have hi:m.length=i:=by omega
   subst hi;simp;refine ck (BD m.length _) ?_;simp;simp[e,pE,XZ,←h2]
variable {n:Int}{l:List Con}{C:L1}
def ak6 (hC:(if bZ n l=true then eB n.toNat l else[])=C)(b:0<C.length):bZ n l=true:=by
 cases h:bZ n l with
 |true=>rfl
 |false=>subst hC;simp[h]at b
def ai0 (hC:(if bZ n l=true then eB n.toNat l else[])=C)(b:¬0<C.length):¬bZ n l=true:=by
 intro h;have:=lZ h;subst hC;rw[if_pos h,eB,PU]at b;omega
def akM (e:¬bZ n l=true):¬bZ n.toNat l=true:=by
 intro h;by_cases h0:0<=n
 ·rw[show(n.toNat:Int)=n by omega]at h;exact e h
 ·have:=lZ h;omega
def agB (hC:(if bZ n l=true then eB n.toNat l else[])=C)(e:bZ n.toNat l=true):eB n.toNat l=C:=by
 by_cases h0:0<=n
 ·rw[show(n.toNat:Int)=n by omega]at e;rw[if_pos e]at hC;exact hC
 ·have:=lZ e;omega
def PE (n:Int)(l:List Con)(hn: -1048576<=n/\n<=1048576:=by first|omega|grind)(hs:Qle l:=by first|omega|grind):Fk 245 [dI n,jJ l] (vI (wK n.toNat l)):=by
 refine fE [] ntmps245 fun _ _=> ?_;simp;refine ck (yJ n l) ?_;generalize hC:(if bZ n l=true then eB n.toNat l else[])=C;have hCl:C.length<=8:=by subst hC;split;(next e=>rw[eB,PU];have:=lZ e;omega);simp
 simp;refine wlt Nat (fun i=>([(0,vI n),(1,vC l),(5,wN C),(6,vI i)],l.length-i,(i<=l.length)/\((l.take i).any (F8 C)=false))) (0) ⟨by omega,rfl⟩ ?_;rintro i ⟨h1,h2⟩;simp;apply gv<;>intro a
 ·have a':=a;simp[a];apply gw<;>intro b
  ·have e:=ak6 hC b;obtain⟨h3,h4,h5,h6⟩:=lZ e;rw[if_pos e]at hC;have hCn:C.length=n.toNat:=by subst hC;exact PU _ _
   obtain⟨c,hc⟩:=aN (l:=l) (i:=i);have hb:=h6 c (aA hc);have ha1:=aU (l:=C) (i:=c.a.toNat);have hb1:=aU (l:=C) (i:=c.b.toNat);simp;refine wdr ?_;simp[hc];apply gv<;>intro f
   ·have f':=f;simp at f';simp[hc,ha1,hb1,f];iterate 2 refine ai ?_
    apply gw<;>intro g
    ·have hx:ix (F8 C) l=i:=BI hc h2 (by simp[F8,g];simpa using f);simp;simp[wK,show(n.toNat:Int)=n by omega,e,hC,hx]
    ·simp;refine nxa (i+1) ⟨by omega,(jB hc h2 (by simp[F8,g]))⟩
   ·have f':=f;simp at f';simp[f];refine nxa (i+1) ⟨by omega,(jB hc h2 (by simp[F8];simp_all))⟩
  ·simp at b;have e:=ai0 hC (by simp[b]);have e2:=akM e;simp;rw[wK,if_neg e2]
 ·have a':=a;simp at a';have hx:=qQ (mR h2);simp[a];have h:=fun e=>agB hC e;unfold wK;split<;>simp_all
def EC (n:Int)(l:List Con)(hn: -1048576<=n/\n<=1048576:=by first|omega|grind)(hs:Qle l:=by first|omega|grind):Fk 160 [dI n,jJ l] (vB (bZ n l&&decide (wK n.toNat l<0))):=by
 refine fE [] ntmps160 fun _ _=> ?_;simp;refine ck (uI _ _) ?_;simp;apply gv<;>intro e
 ·have e':=e;simp[e];refine ck (PE _ _) ?_;simp[e]
 ·have e':=e;simp[e]
def abS (a b:L1)(ha:Qle a:=by first|omega|grind)(hb:Qle b:=by first|omega|grind):Fk 334 [nInts a,nInts b] (vB (mG a b)):=by
 refine fE [] ntmps334 fun _ _=> ?_;simp;refine ck (mD _) ?_;simp;apply gv<;>intro e
 ·have e':=e;simp[e];refine ck (mD _) ?_;simp;apply gv<;>intro f
  ·have f':=f;simp[f];grind[mG]
  ·have f':=f;simp[f];grind[mG]
 ·have e':=e;simp[e];grind[mG]
def MC (p q:L1)(ha:Qle p)(hb:Qle q):Fk 246 [nInts p,nInts q] (wN (amF p q)):=by
 refine fE [] ntmps246 fun _ _=> ?_;simp;refine ck (abS _ _) ?_;simp;apply gw<;>intro e
 ·simp at e;simp;simp[amF,e]
 ·simp at e;obtain⟨h1,h2,h3⟩:=XY e;have h4:=isPart_len h1;simp;refine ck (CX p.length) ?_;simp;refine wlt (Nat×List (List Bool)) (fun(i,M)=>([(0,vN p),(1,vN q),(5,.own (UW M)),(6,vI i)],p.length-i,(i<=p.length)/\(M=loopN i (noLinks p.length) ((fun i M=>loopN p.length M (FQ p q i))))/\(sqB p.length M))) ((0,noLinks p.length)) ⟨by simp,rfl,(afP _)⟩ ?_;rintro⟨i,M⟩ ⟨h1,h2,h3⟩;simp;apply gw<;>intro a
  ·have hs:=aL i (noLinks p.length) ((fun i M=>loopN p.length M (FQ p q i)));rw[←h2]at hs;simp;refine wlt (Nat×List (List Bool)) (fun(k,L)=>([(0,vN p),(1,vN q),(5,.own (UW L)),(6,vI i),(7,vI k)],p.length-k,(k<=p.length)/\(L=loopN k (M) (FQ p q i))/\(sqB p.length L))) ((0,M)) ⟨by simp,rfl,h3⟩ ?_;rintro⟨k,L⟩ ⟨h1k,h2k,h3k⟩;simp;apply gw<;>intro ak
   ·have hsk:=aL k (M) (FQ p q i);rw[←h2k]at hsk;obtain⟨r,hr,hrl,hrc⟩:=YD (a:=i) (b:=k) h3k;have ha1:=aU (l:=p) (i:=i);have ha2:=aU (l:=p) (i:=k);have hb1:=aU (l:=q) (i:=i);have hb2:=aU (l:=q) (i:=k);have hz1:=fun v=>X9 (k:=k) (v:=v) hr;have hsq:=fun v=>sqB_set (i:=i) (k:=k) (v:=v) h3k;simp;refine wdt 26 ?_;simp[hr,ha1,ha2];apply gv<;>intro e
    ·have e':=e;have hj:FQ p q i k L=L.set i (r.set k true):=by rw[FQ,hz1];simp[e]
     simp[hr,hrc,e];refine nxa (k+1,L.set i (r.set k true)) ⟨by omega,by rw[hsk,hj],by rw[←hz1];exact hsq _⟩
    ·have e':=e;have hj:FQ p q i k L=L.set i (r.set k (decide (at1 q i=at1 q k))):=by rw[FQ,hz1];simp[e]
     simp[hr,hrc,hb1,hb2,e];refine nxa (k+1,L.set i (r.set k (decide (at1 q i=at1 q k)))) ⟨by omega,by rw[hsk,hj],by rw[←hz1];exact hsq _⟩
   ·simp at ak;have hik:p.length=k:=by omega
    subst hik;simp;refine nxa (i+1,L) ⟨by omega,by rw[hs];exact h2k,h3k⟩
  ·simp at a;have hi:p.length=i:=by omega
   subst hi;simp;refine ck (BD p.length _) ?_;simp;simp[amF,e,EG,Q3,←h2]
def an1 (m:L2):(pE m).length=m.length:=PU _ _
def ajQ (n:Nat)(l:List Con):(eB n l).length=n:=PU _ _
def R4 (m:L2)(cs:List Con)(hm:Qle m)(hc:Qle cs):Fk 161 [bV m,jJ cs] (wN (dF m cs)):=by
 refine fE [] ntmps161 fun _ _=> ?_;simp;refine ck (eH _) ?_;simp;apply gv<;>intro e
 ·have e':=e;simp at e';simp[e];grind[dF]
 ·have e':=e;simp at e';simp[e];refine ck (uI _ _) ?_;simp;apply gw<;>intro f
  ·simp at f;simp;grind[dF]
  ·simp at f;have hml:=dJ (m:=m) (by simpa using e);simp[e',f];refine ck (GX _) ?_;simp[e'];refine ck (yJ _ _) ?_;simp[f];refine ck (MC (pE m) (eB m.length cs) (by (try unfold Qle);rw[an1];omega) (by (try unfold Qle);rw[ajQ];omega)) ?_;simp;all_goals(simp only[dF,e',f];simp)
def FO (l:List Con)(items:L1)(hs:Qle l)(hi:Qle items):Fk 163 [jJ l,nInts items] (vE (iE l items)):=by
 refine fE [] ntmps163 fun _ _=> ?_;simp;refine wlt (Nat×List Con) (fun(i,out)=>([(0,vC l),(1,vN items),(5,vE out),(6,vI i)],l.length-i,(i<=l.length)/\(out=(l.take i).filterMap (zQ items))/\(out.length<=i))) ((0,[])) ⟨by omega,rfl,by simp⟩ ?_;rintro⟨i,out⟩ ⟨h1,h2,h3⟩;simp;apply gw<;>intro a
 ·obtain⟨c,hc⟩:=aN (l:=l) (i:=i);have hm:=A7 (zQ items) hc;rw[←h2]at hm;simp[hc];refine ck (kM _ _) ?_;simp[hc];refine ck (kM _ _) ?_;simp;apply gv<;>intro e
  ·have e':=e;simp[e];apply gw<;>intro b
   ·have hv:zQ items c=some ⟨place items c.a,place items c.b,c.same⟩:=if_pos ⟨by unfold place;omega,by unfold place;omega⟩;simp[hc];refine nxb (i+1,out++[⟨place items c.a,place items c.b,c.same⟩]) ⟨by omega,by rw[hm,hv];rfl,by simp;omega⟩
   ·simp at b;have hv:zQ items c=none:=if_neg (by rintro⟨h1,h2⟩;unfold place at h1 h2;omega);simp;refine nxa (i+1,out) ⟨by omega,by rw[hm,hv];simp,by omega⟩
  ·have e':=e;simp at e';have hv:zQ items c=none:=if_neg (by rintro⟨h1,h2⟩;unfold place at h1 h2;omega);simp[e];refine nxa (i+1,out) ⟨by omega,by rw[hm,hv];simp,by omega⟩
 ·simp at a;rw[bS a]at h2;simp;grind[iE]
def tC (l:L1)(hs:Qle l):Fk 169 [nInts l] (wN (canon l)):=by
 refine fE [] ntmps169 fun _ _=> ?_;simp;refine wlt (Nat×(L1×L1)) (fun(i,s)=>([(0,vN l),(3,wN s.1),(4,wN s.2),(5,vI i)],l.length-i,(i<=l.length)/\(s=(l.take i).foldl jH ([],[]))/\(s.1.length<=i/\s.2.length<=i))) ((0,([],[]))) ⟨by omega,rfl,by simp⟩ ?_;rintro⟨i,s⟩ ⟨h1,h2,h3⟩;simp;apply gw<;>intro a
 ·obtain⟨c,hc⟩:=aN (l:=l) (i:=i);have hm:=fA jH ([],[]) hc;rw[←h2]at hm;simp;refine wlt (Nat×Int) (fun(j,t)=>([(0,vN l),(3,wN s.1),(4,wN s.2),(5,vI i),(6,vI t),(7,vI j)],s.2.length-j,(j<=s.2.length)/\(t=loopN j (-1) ((fun j a=>if at1 s.2 j=c then(j:Int)else a)))/\(-1<=t/\t<=j))) ((0, -1)) ⟨by omega,rfl,by omega⟩ ?_;rintro⟨j,t⟩ ⟨h1j,h2j,h3j⟩;simp;apply gw<;>intro aj
  ·have hsj:=aL j (-1) ((fun j a=>if at1 s.2 j=c then(j:Int)else a));rw[←h2j]at hsj;have hj:=aU (l:=s.2) (i:=j);simp;refine wdr ?_;simp[hc,hj];apply gw<;>intro b
   ·simp;refine nxa (j+1,(j:Int)) ⟨by omega,by rw[hsj,if_pos b],by omega⟩
   ·simp;refine nxa (j+1,t) ⟨by omega,by rw[hsj,if_neg b],by omega⟩
  ·simp at aj;have hij:s.2.length=j:=by omega
   subst hij;simp;apply gw<;>intro b
   ·have hx:jH s c=(s.1++[(s.2.length:Int)],s.2++[c]):=if_pos (by rw[uM,←h2j];exact b);simp[hc];refine nxd (i+1,(s.1++[(s.2.length:Int)],s.2++[c])) ⟨by omega,by rw[hm,hx],by simp;omega⟩
   ·simp at b;have hx:jH s c=(s.1++[t],s.2):=by rw[jH,if_neg (by (try unfold Qle);rw[uM,←h2j];omega),uM,←h2j]
    simp;refine nxb (i+1,(s.1++[t],s.2)) ⟨by omega,by rw[hm,hx],by simp;omega⟩
 ·simp at a;rw[bS a]at h2;simp;grind[canon]
def CW (l:L1)(x y:Int)(hs:Qle l)(hx: -1048576<=x/\x<=1048576)(hy: -1048576<=y/\y<=1048576):Fk 254 [nInts l,dI x,dI y] (.tup [wN (rU l x y),vB (yQ l x y)]):=by
 refine fE [] ntmps254 fun _ _=> ?_;simp;refine ai ?_;refine wlt (Nat×Int) (fun(i,t)=>([(0,vN l),(1,vI x),(2,vI y),(8,wN l),(9,vI t),(10,vI i)],l.length-i,(i<=l.length)/\(t=loopN i ((-1)) ((fun i t=>max t (at1 l i)))))) ((0,(-1))) ⟨by omega,rfl⟩ ?_;rintro⟨i,t⟩ ⟨h1,h2⟩;simp;apply gw<;>intro a
 ·have hs:=aL i ((-1)) ((fun i t=>max t (at1 l i)));rw[←h2]at hs;have hg:=aU a;simp[hg];refine nxa (i+1,max t (at1 l i)) ⟨(by first|omega|(simp;omega)|grind),(by first|omega|(simp;omega)|grind)⟩
 ·simp at a;have hi:l.length=i:=by omega
  subst hi;have ht:CO l=t:=h2.symm;simp;refine ck (mD l hs) ?_;simp;apply gv<;>intro a
  ·have a':=a;simp at a';have ho:yQ l x y=false:=by simp only[yQ];rw[a'];simp
   simp[a];simp[rU,ho]
  ·have a':=a;simp at a';have htl:=aoU a';simp[a];refine ai ?_;refine ck (bC _ _ _) ?_;simp;apply gv<;>intro b
   ·have b':=b;simp at b';have ho:yQ l x y=false:=by simp only[yQ];rw[show inR x 0 ((l.length:Int)-1)=false by simp at b|-;omega];simp
    simp[b];simp[rU,ho]
   ·have b':=b;simp at b';simp[b];refine ai ?_;refine ck (bC _ _ _) ?_;simp;apply gw<;>intro d
    ·simp at d;have ho:yQ l x y=false:=by simp only[yQ,ht];rw[show inR y 0 (t+1)=false by simp at d|-;omega];simp
     simp;simp[rU,ho]
    ·simp at d;have hxb:0<=x/\x<=(l.length:Int)-1:=by simp at b;omega
     have hyb:0<=y/\y<=t+1:=by omega
     have ho:yQ l x y:=by simp only[yQ,ht];rw[a'];simp;omega
     have hg:=aU (l:=l) (i:=x.toNat);have hx0:=hxb.1;simp[hg,hx0];refine ckz (tC (l.set x.toNat y) (by simp;omega)) ?_;simp;simp[rU,ho]
def Y9 (m:L2)(l:L1)(x y:Int)(hm:Qle m)(hs:Qle l)(hx: -1048576<=x/\x<=1048576)(hy: -1048576<=y/\y<=1048576):Fk 337 [bV m,nInts l,dI x,dI y] (vI (KY m l x y)):=by
 refine fE [] ntmps337 fun _ _=> ?_;have hml:=Q8 l x y;have hp1:=BQ m l;have hp2:=BQ m (rU l x y);have e1:(if bQ m=true/\fO l=true/\l.length=m.length then dK m l else -1)=wB m l:=rfl;have e2:(if bQ m=true/\fO (rU l x y)=true/\(rU l x y).length=m.length then dK m (rU l x y)else -1)=wB m (rU l x y):=rfl;simp;refine ck (CW l x y hs hx hy) ?_;simp;refine ck ((e1▸mV m l hm hs)) ?_;simp;apply gv<;>intro a
 ·have a':=a;simp at a';have hg:KY m l x y=0:=if_neg (by simp[a']);simp[a,hg]
 ·have a':=a;simp at a';simp[a];apply gw<;>intro b
  ·have hg:KY m l x y=0:=if_neg (by omega);simp[hg]
  ·simp at b;simp;refine ck ((e2▸mV m (rU l x y) hm)) ?_;have hg:KY m l x y=wB m l-wB m (rU l x y):=if_pos ⟨a',by omega⟩;simp[hg];simp only[inI];omega
abbrev VK (b:Mov):D:= .agg [dI b.item,dI b.block,dI b.gain]
def akZ (m:L2)(cs:List Con)(l:L1)(i k:Nat)(b:Mov)(h:0<=b.gain/\b.gain<=2000000):0<=(yC m cs l i k b).gain/\(yC m cs l i k b).gain<=2000000:=by
 have:=al3 m l i k;unfold yC;split
 ·rename_i h2;simp only;omega
 ·exact h
def Y8 (m:L2)(cs:List Con)(l:L1)(hm:Qle m)(hcs:Qle cs)(hs:l.length<=1048575):Fk 253 [bV m,jJ cs,nInts l] (.tup [.val (VK (mO m cs l)),vB (decide (0<(mO m cs l).gain))]):=by
 refine fE [] ntmps253 fun _ _=> ?_;have hp:=BQ m l;have e1:(if bQ m=true/\fO l=true/\l.length=m.length then dK m l else -1)=wB m l:=rfl;have hkp:(cs.all (xY l)&&fO l)=keepP cs l:=rfl;have hcm:ak4 m cs l=(decide (0<=wB m l)&&keepP cs l):=rfl;simp;refine ck ((e1▸mV m l hm)) ?_;simp;apply gv<;>intro a
 ·have a':=a;have hb:mO m cs l=⟨0,0,0⟩:=if_neg (by rw[hcm,decide_eq_false (by omega)];simp);simp[a,hb]
 ·have a':=a;simp at a';simp[a];refine ck ((hkp▸rX l cs (by omega) hcs)) ?_;simp;apply gw<;>intro d
  ·simp at d;have hb:mO m cs l=⟨0,0,0⟩:=if_neg (by rw[hcm,d];simp);simp[hb]
  ·simp at d;have hb:mO m cs l=loopN l.length ⟨0,0,0⟩ (ac2 m cs l):=if_pos (by rw[hcm,decide_eq_true (by omega),d];rfl);simp;refine wlt (Nat×Mov) (fun(i,b)=>([(0,.val (bV m)),(1,vC cs),(2,vN l),(6,.own (.bx true (VK ⟨0,0,0⟩))),(8,.own (.bx true (VK b))),(9,vI i)],l.length-i,(i<=l.length)/\(b=loopN i (⟨0,0,0⟩) (ac2 m cs l))/\(0<=b.gain/\b.gain<=2000000))) ((0,⟨0,0,0⟩)) ⟨by omega,rfl,by simp⟩ ?_;rintro⟨i,b⟩ ⟨h1,h2,h3⟩;simp;apply gw<;>intro a
   ·have hs:=aL i (⟨0,0,0⟩) (ac2 m cs l);rw[←h2]at hs;simp;refine wlt (Nat×Mov) (fun(k,c)=>([(0,.val (bV m)),(1,vC cs),(2,vN l),(6,.own (.bx true (VK ⟨0,0,0⟩))),(8,.own (.bx true (VK c))),(9,vI i),(10,vI k)],(l.length+1)-k,(k<=(l.length+1))/\(c=loopN k (b) (yC m cs l i))/\(0<=c.gain/\c.gain<=2000000))) ((0,b)) ⟨by omega,rfl,h3⟩ ?_;rintro⟨k,c⟩ ⟨h1k,h2k,h3k⟩;simp;apply gw<;>intro ak
    ·have hsk:=aL k (b) (yC m cs l i);rw[←h2k]at hsk;have hml:=Q8 l i k;have hgl:=al3 m l i k;have hkp2:(cs.all (xY (rU l i k))&&fO (rU l i k))=keepP cs (rU l i k):=rfl;have hst:=akZ m cs l i k c h3k;simp;refine ck (CW l i k (by omega) (by omega) (by omega)) ?_;simp;refine ck (Y9 m l i k hm (by omega) (by omega) (by omega)) ?_;simp;apply gv<;>intro e
     ·have e':=e;simp[e];apply gv<;>intro f
      ·have f':=f;simp[f];refine ck ((hkp2▸rX (rU l i k) cs (by omega) hcs)) ?_;simp;apply gw<;>intro g
       ·have hu:yC m cs l i k c=⟨i,k,KY m l i k⟩:=if_pos ⟨by simpa using e,by omega,by simpa using g⟩;rw[hu]at hst;simp;refine nxa (k+1,⟨i,k,KY m l i k⟩) ⟨by omega,by rw[hsk,hu],hst⟩
       ·have hu:yC m cs l i k c=c:=if_neg (by simp[g]);simp;refine nxa (k+1,c) ⟨by omega,by rw[hsk,hu],h3k⟩
      ·have f':=f;simp at f';have hu:yC m cs l i k c=c:=if_neg (by omega);simp[f];refine nxa (k+1,c) ⟨by omega,by rw[hsk,hu],h3k⟩
     ·have e':=e;have hu:yC m cs l i k c=c:=if_neg (by simp[e]);simp[e];refine nxa (k+1,c) ⟨by omega,by rw[hsk,hu],h3k⟩
    ·simp at ak;have hik:(l.length+1)=k:=by omega
     subst hik;simp;refine nxa (i+1,c) ⟨by omega,by rw[hs,ac2,←h2k],h3k⟩
   ·simp at a;have hi:l.length=i:=by omega
    subst hi;have hbb:mO m cs l=b:=by rw[hb,h2]
    simp;refine kQ [] (dH 8) ?_;simp;refine wdf [(4,[6,66]),(5,[69,7])] [(6,.own (.bx true (VK ⟨0,0,0⟩))),(8,.val (.bx false (VK b)))] [] (by simp) ?_;simp[hbb]
def atE (m:L2)(cs:List Con)(l:L1):0<=(mO m cs l).item/\(mO m cs l).item<=l.length/\0<=(mO m cs l).block/\(mO m cs l).block<=l.length:=by
 unfold mO;split
 ·refine loopN_inv (n:=l.length) (fun _ (b:Mov)=>0<=b.item/\b.item<=l.length/\0<=b.block/\b.block<=l.length) (by simp) fun i b hi hb=> ?_;refine loopN_inv (n:=l.length+1) (fun _ (b:Mov)=>0<=b.item/\b.item<=l.length/\0<=b.block/\b.block<=l.length) hb fun k c hk hc=> ?_;unfold yC;split
  ·simp only;omega
  ·exact hc
 ·simp
def JV (m:L2)(cs:List Con)(l:L1)(hm:Qle m)(hcs:Qle cs)(hs:l.length<=1048575):fD prog 168 [bV m,jJ cs,nInts l] (fun r'=>∃k:Int,r'= .tup [wN (rO m cs 100 l),vI k]):=by
 refine fE [] ntmps168 fun _ _=> ?_;simp;refine ai ?_;refine wlt (Nat×L1) (fun(k,x)=>([(0,.val (bV m)),(1,vC cs),(8,wN x),(9,vI k)],100-k,(k<=100)/\x.length=l.length/\(rO m cs (100-k) x=rO m cs 100 l))) ((0,l)) ⟨by omega,rfl,rfl⟩ ?_;rintro⟨k,x⟩ ⟨h1,h2,h3⟩;simp;apply gw<;>intro a
 ·have hbl:=atE m cs x;have hml:=Q8 x (mO m cs x).item (mO m cs x).block;have hgo:rO m cs (100-k) x=if 0<(mO m cs x).gain then rO m cs (100-(k+1)) (rU x (mO m cs x).item (mO m cs x).block)else x:=by rw[show 100-k=(100-(k+1))+1 by omega,rO]
  simp;refine ck (Y8 m cs x hm hcs (by omega)) ?_;simp;apply gw<;>intro b
  ·simp at b;rw[if_neg (by simpa using b)]at hgo;simp;simp[←h3,hgo]
  ·rw[if_pos (by simpa using b)]at hgo;simp;refine ck (CW x (mO m cs x).item (mO m cs x).block (by omega) (by omega) (by omega)) ?_;simp;refine nxa (k+1,rU x (mO m cs x).item (mO m cs x).block) ⟨by omega,by omega,by rw[←hgo,h3]⟩
 ·simp at a;obtain rfl:k=100:=by omega
  have hgo:rO m cs (100-100) x=x:=rfl;simp;simp[←h3,hgo]
def SE (l:L1)(x y:Int)(hl:1<=l.length/\Qle l)(hx:0<=x/\x<(l.length:Int)):Fk 360 [nInts l,dI x,dI y] (wN (canon (l.set x.toNat y))):=by
 refine fE [] ntmps360 fun _ _=> ?_;have hg:=aU (l:=l) (i:=x.toNat);have hx0:=hx.1;simp;refine ck (nX l hl) ?_;simp[hg,hx0];refine ckz (sU (l.set x.toNat y) (by simp;omega)) ?_;simp
def av0 {l:L1}(h:1<=l.length)(h0: -1<=at1 l 0):at1 l 0=loopN 1 (-1) (fun i t=>max t (at1 l i)):=by
 rw[aL,loopN_zero];omega
def NK (l:L1)(hl:1<=l.length/\Qle l)(h0: -1<=at1 l 0):Fk 425 [nInts l] (vI (CO l)):=by
 refine fE [] ntmps425 fun _ _=> ?_;have hg:=aU (l:=l) (i:=0);have hn:¬(l.length:Int)<1:=by omega
 have hb:=av0 hl.1 h0;simp[hg,hn];refine wlt (Nat×Int) (fun(i,t)=>([(0,vN l),(3,vI t),(4,vI i)],l.length-i,(1<=i/\i<=l.length)/\(t=loopN i (-1) (fun i t=>max t (at1 l i))))) ((1,at1 l 0)) ⟨by omega,hb⟩ ?_;rintro⟨i,t⟩ ⟨h1,h2⟩;simp;apply gw<;>intro a
 ·have hgi:=aU (l:=l) (i:=i);have hs:=aL i (-1) (fun i t=>max t (at1 l i));rw[←h2]at hs;simp[hgi];refine nxa (i+1,max t (at1 l i)) ⟨by omega,hs.symm⟩
 ·simp at a;obtain rfl:i=l.length:=by omega
  have hfin:CO l=t:=h2.symm;simp[hfin]
def TV (l:L1)(hp:fO l):Fk 399 [nInts l] (vI (CO l+1)):=by
 refine fE [] ntmps399 fun _ _=> ?_;have hpl:=isPart_len hp;have ht:=aoU hp;have h0:=(isPart_iff.1 hp).1 0 (by omega);simp;refine ck (NK l ⟨by omega,by omega⟩ (by omega)) ?_;simp;simp only[inI];omega
def aa9 (m:L2)(cs:List Con)(l:L1)(hm:bQ m)(hp:fO l)(hl:l.length=m.length)(hc:Qle cs):Fk 398 [bV m,jJ cs,nInts l] (vB (nG cs l)):=by
 refine fE [] ntmps398 fun _ _=> ?_;have hpc:=K7 hm hp hl;have h0:=kN hm l;have hn8:=dJ hm;simp;refine ck (CE m l hm (by omega)) ?_;simp[hpc,h0];refine ck (DV l cs) ?_;simp
def aHX {l:L1}(hm:bQ m)(hp:fO l)(hl:l.length=m.length)(i k:Nat): -1000000<=mvGain m l i k/\mvGain m l i k<=1000000:=by
 have h1:=BQ m l;have h3:=kN hm l;have h4:=kN hm (canon (l.set i k));have hc:(canon (l.set i k)).length=l.length:=by rw[pI];simp
 have h2:=BQ m (canon (l.set i k));rw[K7 hm hp hl]at h1;rw[K7 hm (TH (by simp;exact isPart_len hp)) (by omega)]at h2;unfold mvGain;omega
def anJ {cs:List Con}{l:L1}{b:Mov}(hg:mvGain m l i k<=1000000)(h:0<=b.gain/\b.gain<=1000000):0<=(H5 m cs l i k b).gain/\(H5 m cs l i k b).gain<=1000000:=by
 unfold H5;split
 ·next hh=>exact⟨by show 0<=mvGain m l i k;omega,hg⟩
 ·exact h
def YW (m:L2)(cs:List Con)(l:L1)(hm:bQ m)(hp:fO l)(hl:l.length=m.length)(hk:nG cs l)(hc:Qle cs):Fk 359 [bV m,jJ cs,nInts l] (.tup [.val (VK (mvBest m cs l)),vB (decide (0<(mvBest m cs l).gain))]):=by
 refine fE [] ntmps359 fun _ _=> ?_;have hn8:=dJ hm;have ht:=aoV hp;simp;refine ck (aa9 m cs l hm hp hl hc) ?_;simp[hk];refine ck (kF m l hm hl) ?_;simp;refine wlt (Nat×Mov) (fun(i,b)=>([(0,.val (bV m)),(1,vC cs),(2,vN l),(6,.own (.bx true (VK ⟨0,0,0⟩))),(8,.own (.bx true (VK b))),(9,vI (dK m l)),(24,vI l.length),(25,vI i)],l.length-i,(i<=l.length)/\(b=loopN i (⟨0,0,0⟩) (asB m cs l))/\(0<=b.gain/\b.gain<=1000000))) ((0,⟨0,0,0⟩)) ⟨by omega,rfl,by simp⟩ ?_;rintro⟨i,b⟩ ⟨h1,h2,h3⟩;simp;apply gw<;>intro a
 ·have hs:=aL i (⟨0,0,0⟩) (asB m cs l);rw[←h2]at hs;simp;refine wlt (Nat×Mov) (fun(k,c)=>([(0,.val (bV m)),(1,vC cs),(2,vN l),(6,.own (.bx true (VK ⟨0,0,0⟩))),(8,.own (.bx true (VK c))),(9,vI (dK m l)),(10,vI i),(11,vI k),(24,vI l.length),(25,vI i)],(CO l+2).toNat-k,(k<=(CO l+2).toNat)/\(c=loopN k b (H5 m cs l i))/\(0<=c.gain/\c.gain<=1000000))) ((0,b)) ⟨by omega,rfl,h3⟩ ?_;rintro⟨k,c⟩ ⟨h4,h5,h6⟩;simp;refine ck (TV l hp) ?_;simp;apply gw<;>intro e
  ·have hs2:=aL k b (H5 m cs l i);rw[←h5]at hs2;have hcl:(canon (l.set i k)).length=l.length:=by rw[pI];simp
   have hgl:=aHX hm hp hl i k;have hst:=anJ (cs:=cs) (k:=k) (i:=i) hgl.2 h6;have hmg:dK m l-dK m (canon (l.set i k))=mvGain m l i k:=rfl;simp;refine ck (SE l i k (by omega) (by omega)) ?_;simp;refine ck (kF m (canon (l.set i k)) hm (by omega)) ?_;simp[hmg];refine ai ?_;apply gv<;>intro f
   ·have f':=f;simp[f];refine ck (DV (canon (l.set i k)) cs (by omega) hc) ?_;simp;apply gw<;>intro g
    ·have hu:H5 m cs l i k c=⟨i,k,mvGain m l i k⟩:=if_pos ⟨f,g⟩;rw[hu]at hst;simp;refine nxa (k+1,⟨i,k,mvGain m l i k⟩) ⟨by omega,by rw[hs2,hu],hst⟩
    ·have hu:H5 m cs l i k c=c:=if_neg (by simp[g]);simp;refine nxa (k+1,c) ⟨by omega,by rw[hs2,hu],h6⟩
   ·have f':=f;simp at f';have hu:H5 m cs l i k c=c:=if_neg (by omega);simp[f];refine nxa (k+1,c) ⟨by omega,by rw[hs2,hu],h6⟩
  ·simp at e;obtain rfl:k=(CO l+2).toNat:=by omega
   simp;refine nxa (i+1,c) ⟨by omega,by rw[hs,h5];rfl,h6⟩
 ·simp at a;have hi:l.length=i:=by omega
  subst hi;have hfin:mvBest m cs l=b:=h2.symm;simp;refine wdf [(4,[6,57]),(5,[60,7])] [(6,.own (.bx true (VK ⟨0,0,0⟩))),(8,.own (.bx true (VK b)))] [] (by simp) ?_;simp[hfin]
def JS (m:L2)(cs:List Con)(l:L1)(hm:bQ m)(hp:fO l)(hl:l.length=m.length)(hk:nG cs l)(hc:Qle cs):fD prog 284 [bV m,jJ cs,nInts l] (fun r=>∃k:Int,r= .tup [wN (rO m cs 100 l),vI k]):=by
 refine fE [] ntmps284 fun _ _=> ?_;have hn8:=dJ hm;simp;refine ck (nX l ⟨by omega,by omega⟩) ?_;simp;refine wlt (Nat×L1) (fun(i,o)=>([(0,.val (bV m)),(1,vC cs),(8,wN o),(14,vI i)],100-i,(i<=100)/\(rO m cs 100 l=rO m cs (100-i) o)/\(fO o=true)/\o.length=m.length/\(nG cs o=true))) ((0,l)) ⟨by omega,rfl,hp,hl,hk⟩ ?_;rintro⟨i,o⟩ ⟨h1,h2,h3,h4,h5⟩;simp;apply gw<;>intro a
 ·have hst:=ap7 hm h3 h4 h5 (99-i);rw[show 99-i+1=100-i by omega]at hst;have hbo:=(ahQ (m:=m) (cs:=cs) (l:=o)).2;simp;refine ck (YW m cs o hm h3 h4 h5 hc) ?_;simp;apply gw<;>intro b
  ·simp at b;have hfin:rO m cs 100 l=o:=by rw[h2,hst];exact if_neg (by simpa using b)
   simp[hfin]
  ·have hb2:0<(mvBest m cs o).gain:=by simpa using b
   have hbb:=hbo hb2;rw[if_pos hb2]at hst;simp;refine ck (SE o (mvBest m cs o).item (mvBest m cs o).block ⟨by omega,by omega⟩ ⟨hbb.1,hbb.2.1⟩) ?_;simp;refine nxa (i+1,canon (o.set (mvBest m cs o).item.toNat (mvBest m cs o).block)) ⟨by omega,by rw[h2,hst,show 100-(i+1)=99-i by omega],(TH (by simp;omega)),by rw[pI];simp;omega,hbb.2.2.2.2⟩
 ·simp at a;obtain rfl:i=100:=by omega
  have hfin:rO m cs 100 l=o:=by rw[h2];rfl
  simp[hfin]
def eG (l:L1)(x:Int)(hl:Qle l:=by omega):Fk 36 [nInts l,dI x] (vB (l.any fun y=>decide (x=y))):=by
 refine fE [] ntmps36 fun _ _=> ?_;have hq:decide (0<=ix (fun y=>decide (x=y)) l)=l.any (fun y=>decide (x=y)):=by rw[bG,decide_eq_true_eq];exact iW
 simp;refine ck (jI l x) ?_;simp[hq]
def aa6 (n:Int)(l:L1)(hn:1<=n/\n<=8)(ho:HV n l)(hl:Qle l):Fk 396 [dI n,nInts l] (vB true):=by
 refine fE [] ntmps396 fun _ _=> ?_;have hon:=ho;simp only[HV,k_Bool_and_eq_true,aI,decide_eq_true_eq]at hon;obtain⟨⟨⟨o1,o2⟩,o3⟩,o4⟩:=hon;subst o4;have o5:=o3.1;have o6:=o3.2;simp;refine ck (bB l.length 1 8) ?_;simp[o5,o6];refine wl (fun(i:Nat)=>[(0,vI l.length),(1,vN l),(16,vN l),(17,vI l.length),(18,vI i)]) (fun(i:Nat)=>l.length-i) (fun(i:Nat)=>(i<=l.length)) (0) (by omega) ?_;rintro i h1;simp;apply gw<;>intro a
 ·obtain⟨c,hc⟩:=aN (l:=l) (i:=i);have hcn:=o1 c (aA hc);have hno:((l.take i).any fun y=>decide (c=y))=false:=by rw[dX];intro y hy;simp only[decide_eq_true_eq];rintro rfl;obtain⟨j,hj⟩:=dD hy;have hji:=dL hj;simp at hji;rw[aZ,if_pos (by omega)]at hj;have e1:=YN hj;have e2:=YN hc;have:=aiQ o2 (i:=j) (k:=i) (by omega) (by omega) (by rw[e1,e2]);omega
  simp[hc];refine ck (nM c l.length) ?_;have htk:List.take i (List.map dI l)=(l.take i).map dI:=by rw[uX]
  have hmin:min i l.length=i:=by omega
  simp[hcn];refine ai ?_;refine ckz (eG (l.take i) c (by simp;omega)) ?_;simp[hno];refine nxa (i+1) (by omega)
 ·simp at a;simp
end Go.Proofs.YtafdbpehjfmnpaaGreatDoor
end
section
namespace Go.Proofs.YtafdbpehjfmnpaaGreatDoor
open Go.Dv Go.Pl Go.RowKit Go.Proofs.Tryz
def pX (n k:Nat)(v:Int):List Value:=List.replicate k (.int .i64 v)++List.replicate (n-k) (.int .i64 0)
variable {n k:Nat}
def atW {v:Int}(h:k<=n):(pX n k v).length=n:=by simp[pX];omega
def atV (n:Nat)(v:Int):pX n n v=List.replicate n (.int .i64 v):=by simp[pX]
def VQ {j:Nat}{v:Int}(h:k+j<=n):splice (pX n k v) k (List.replicate j (.int .i64 v))=pX n (k+j) v:=by
 have h1:(pX n k v).take k=List.replicate k (.int .i64 v):=by unfold pX;rw[List.take_left' (by simp)]
 have h2:(pX n k v).drop (k+j)=List.replicate (n-(k+j)) (.int .i64 0):=by
  unfold pX;rw[qH,bO (by simp),iK,List.drop_replicate,tK];congr 1;omega
 rw[splice,h1,tK,h2,←List.append_assoc,List.replicate_append_replicate];rfl
def ay9 {z:Value}(n:Nat)(v:Int)(hz:z.cells= #[.int .i64 0]):madeCells z.cells (n*1)=(pX n 0 v).toArray:=by
 rw[hz];apply bT.1;apply jX;intro i;by_cases hi:i<n<;>simp[madeCells,pX,hi,Nat.mod_one]
def aqQ (v:Int)(n b off cap:Nat)(w:World)(hn:1<=n/\n<=8)(hc:w.cell? ⟨b,off,none⟩=some (.int .i64 v))(hb:b<w.heap.size):
  Calls prog 397 #[.slice (some ⟨b,off,none⟩) 1 cap,.int .i64 n] w fun e w'=>∃g,e= .returned (.slice (some ⟨g,0,none⟩) n n)/\w.heap.size<=g/\w'.heap[g]?=some (.cells (List.replicate n (Value.int .i64 v)).toArray 3 (0,0))/\Below w.heap.size w w':=by
 go_enter func397,ntmps397;have e1:(1*n/18446744073709551616:Nat)=0:=by omega
 have e2:(1*n % 18446744073709551616:Nat)=n:=by omega
 have hm:∀w,Calls prog 424 #[.int .u64 1,.int .u64 n] w fun e w'=>e= .returned (.tuple #[.int .u64 0,.int .u64 n])/\w'=w:=fun w=>by have:=Tryz.bits_Mul 1 n (by omega) (by omega) w;rw[e1,e2]at this;exact this
 obtain⟨hu,i,zv,hi,hsz,hz,hflat,_⟩:=(good 3).of (fun x h e=>by rw[e]at h;cases h);have hby:i.bytes<=4096:=by rename_i h;exact h.2.2.1
 have hzc:zv.cells= #[.int .i64 0]:=by
  have h9:some zv.cells.toList=some [Value.int .i64 0]:=hflat.symm;exact bT.1 (k_Option_some_inj h9)
 have hsz1:i.size=1:=hsz
 have hmk:∀w,(Instr.makeSlice 25 (.int .i64 (n:Int)) (.int .i64 (n:Int))).run prog w= .ok (.slice (some ⟨w.heap.size,0,none⟩) n n) (w.alloc (.cells (pX n 0 v).toArray 3)):=fun w=>by
  have:=run_make (P:=prog) (w:=w) 25 3 i zv underlying25 hi hz .i64 .i64 n n (by omega) (by omega) (by have:(i.bytes:Int)<=4096:=(by omega);have h2:(i.bytes:Int)*n<=4096*n:=lL this (by omega);omega) (by omega);rw[this,hsz1];simp only[gM];rw[ay9 n v hzc]
 have g1:¬(9223372036854775807<(n:Int)):=by omega
 have g2:¬((n:Int)<0):=by omega
 have hinfo:(prog.info? 3).map (·.size)=some 1:=by rw[hi];simp[hsz1]
 have hinf:=hinfo;clear hinfo hi hz hflat hzc hsz hu hby
 have hn0:(w.alloc (.cells (pX n 0 v).toArray 3)).heap[w.heap.size]?=some (.cells (pX n 0 v).toArray 3 (0,0)):=heap_alloc_new w _
 have hc0:(w.alloc (.cells (pX n 0 v).toArray 3)).cell? ⟨b,off,none⟩=some (.int .i64 v):=by
  have e:(w.alloc (.cells (pX n 0 v).toArray 3)).heap[b]?=w.heap[b]?:=by show(w.heap.push _)[b]?=_;rw[Array.getElem?_push,if_neg (by omega)]
  simp only[World.cell?,e]at hc|-;exact hc
 have hsp0:(splice (pX n 0 v) 0 [Value.int .i64 v])=pX n 1 v:=by have:=VQ (n:=n) (k:=0) (j:=1) (v:=v) (by omega);simpa using this
 obtain⟨wa,hwa⟩:∃wa,wa=(w.alloc (.cells (pX n 0 v).toArray 3)):=⟨_,rfl⟩;have hBa:Below w.heap.size w wa:=hwa▸(Below.refl _ w).alloc (k_Nat_le_refl _) _;have hmk1:=hmk w;rw[←hwa]at hn0 hc0 hmk1
 have hcp:(Builtin.copy_ #[25,25] 3 #[.slice (some ⟨w.heap.size,0,none⟩) n n,.slice (some ⟨b,off,none⟩) 1 cap]).run prog wa= .ok (goInt 1) (wa.setRow w.heap.size (pX n 1 v).toArray):=by
  have h:=run_copy_row (P:=prog) wa 25 25 3 3 w.heap.size 0 n n ⟨b,off,none⟩ 1 cap (pX n 0 v).toArray 3 [.int .i64 v] underlying25 hinf hn0 (by simp[Nat.min_def];omega) (fun j u hj=> ?_) (by simp[pX];omega) (by simp[Value.oneCell'])
  ·rw[←hsp0];exact h
  ·match j,hj with
   |0,hj=>
    obtain rfl:Value.int .i64 v=u:=by simpa using hj
    exact hc0
   |j+1,hj=>simp at hj
 obtain⟨w2,hw2⟩:∃w2,w2=(wa.setRow w.heap.size (pX n 1 v).toArray):=⟨_,rfl⟩;have hB2:Below w.heap.size w w2:=hw2▸below_setRow hBa (k_Nat_le_refl _) _;have hg2:w2.heap[w.heap.size]?=some (.cells (pX n 1 v).toArray 3 (0,0)):=by rw[hw2];exact setRow_heap _ _ _ _ _ _ hn0
 rw[←hw2]at hcp;clear hmk hn0 hc0 hBa hwa hw2 hsp0
 go_wp2_with (first|(go_at_call 424;refine(hm _).mono ?_;rintro e w1 ⟨rfl,hw1⟩;obtain rfl:=hw1.symm))
 go_loopw [8] (fun x w'=>∃k:Nat,x= .int .i64 k/\1<=k/\k<=n/\w'.heap[w.heap.size]?=some (.cells (pX n k v).toArray 3 (0,0))/\Below w.heap.size w w') (fun x _=>match x with| .int _ i=>n-i.toNat|_=>0)
 case atStart=>exact⟨1,rfl,k_Nat_le_refl _,hn.1,hg2,hB2⟩
 case round=>
  obtain⟨k,rfl,hk1,hk2,hgk,hBk⟩:=hrel
  go_wp2
  ·obtain⟨cs,hcs⟩:∃cs,cs=List.replicate (min k (n-k)) (Value.int .i64 v):=⟨_,rfl⟩;have hl:cs.length=min k (n-k):=by simp[hcs]
   have hrow:∀j u,cs[j]?=some u->wr.cell? ((⟨w.heap.size,0,none⟩:Addr).add j)=some u:=by
    intro j u hj;have hlt:j<min k (n-k):=by rw[←hl];exact(aD.1 hj).1
    obtain rfl:Value.int .i64 v=u:=by rw[hcs]at hj;simpa[eZ,hlt]using hj
    rcases kX j with rfl|hj0
    ·simp[World.cell?,Addr.add,hgk,pX,lN,show 0<k by omega]
    ·simp[World.cell?,Addr.add,hgk,pX,lN,show j<k by omega,show¬j=0 by omega]
   have hsp:splice (pX n k v) k cs=pX n (k+min k (n-k)) v:=by rw[hcs];exact VQ (by omega)
   have h1c:∀x∈cs,x.oneCell':=by intro x hx;rw[hcs]at hx;obtain rfl:=(nN.1 hx).2;rfl
   clear hcs
   go_region_law (refine step_copy_splice rfl (.tmp 41) (.tmp 44) 25 25 rfl 3 underlying25 hinf (some ⟨w.heap.size,k,none⟩) (some ⟨w.heap.size,0,none⟩) (n-k) (n-k) k n (by simp[Act.eval,Act.put,show¬n=k by omega]) (by simp[Act.eval,Act.put]) w.heap.size k (pX n k v) 3 hgk cs hl (fun _=>⟨rfl,_,rfl,hrow⟩) (by (try unfold Qle);rw[hl,atW hk2];omega) h1c w.heap.size w hBk.drew (k_Nat_le_refl _) ?_;intro w4 hg4 hb4;replace hg4:=hg4.out;rw[hsp]at hg4)
   go_wp2
   have hw:IntKind.i64.wrap ((k:Int)+((min k (n-k):Nat):Int))=((k+min k (n-k):Nat):Int):=by simp[IntKind.wrap,IntKind.bits,IntKind.signed];omega
   rw[hw];refine⟨⟨k+min k (n-k),rfl,by omega,by omega,rfl⟩,?_⟩;simp only[gM];omega
  ·obtain rfl:k=n:=by omega
   rw[atV]at hgk;refine bodyPost_ret (v:= .slice (some ⟨w.heap.size,0,none⟩) k k) ?_ rfl ⟨w.heap.size,rfl,k_Nat_le_refl _,hgk,hBk⟩;simp[results,Tryz.f397,loadVar]
variable {ow:Own}{u v:Value}
def LK {w:World}(h:V prog w ow (D.fz (.one u)) [] v):v=u:=by
 simp only[D.fz,V,R]at h;simpa using h.1
variable {vs:Array Value}
def YM {w:World}(hs:vs.size=1)(h:∀(i:Nat) (d:D),[D.one u][i]?=some d->V prog w ow d.fz [] (vs.getD i undef)):vs= #[u]:=by
 have h0:=LK (h 0 _ rfl);apply Array.ext
 ·simpa using hs
 ·intro i h1 h2;obtain rfl:i=0:=by simpa using h2
  simpa[aF,h1]using h0
def aiO {w:World}{u':Value}(hs:vs.size=2)(h:∀(i:Nat) (d:D),[D.one u,D.one u'][i]?=some d->V prog w ow d.fz [] (vs.getD i undef)):vs= #[u,u']:=by
 have h0:=LK (h 0 _ rfl);have h1:=LK (h 1 _ rfl);apply Array.ext
 ·simpa using hs
 ·intro i hi h2;have:i=0\/i=1:=by simp at h2;omega
  rcases this with rfl|rfl
  ·simpa[aF,hi]using h0
  ·simpa[aF,hi]using h1
def ax2 {f:FuncId}{ds:List D}{us:List Value}(hu:∀u∈us,u.oneCell')(h:∀(w:World) (ow:Own) (vs:Array Value),Laid w ow->vs.size=ds.length->(∀(i:Nat) (d:D),ds[i]?=some d->V prog w ow d.fz [] (vs.getD i undef))->Calls prog f vs w fun e w'=>e= .returned (.tuple us.toArray)/\Below w.heap.size w w'):
  fD prog f ds (fun r=>r= .tup (us.map fun u=> .val (.one u))):=by
 intro w ow vs t ht hL hnew hvs hargs;refine(h w ow vs hL hvs hargs).mono ?_;rintro e w' ⟨rfl,hB⟩;refine⟨_,fun b=>if b<w.heap.size then ow b else none,_,rfl,rfl,⟨hB.os,hB.tape,hB.output,hB.size,fun b hb=>⟨hB.block b hb,if_pos hb⟩,fun b hb=>if_neg (by have:=hB.size;omega)⟩,rfl,fun s a=> ?_⟩;refine⟨_,rfl,by simp,fun k x hx=> ?_⟩;rw[aO,aK]at hx;obtain⟨u,hu1,rfl⟩:=hx;have hv:us.toArray.getD k undef=u:=by simp[aF,hu1]
 rw[hv];simp only[D.fz,V,R];simpa using hu u (aA hu1)
def below_grow {w:World}{os:Array Obj}:Below w.heap.size w (Go.Sort.grow (w.drewN k) os):=(show Below w.heap.size w (w.drewN k)from⟨rfl,rfl,rfl,k_Nat_le_refl _,fun _ _=>rfl⟩).trans ⟨rfl,rfl,rfl,by simp[Go.Sort.grow],fun b hb=>by simp[Go.Sort.grow,Array.getElem?_append,hb]⟩
def aCO {w:World}{l:L1}(h:V prog w ow (D.fz (nInts l)) [] v):∃a cap,v= .slice a l.length cap/\l.length<=cap/\(l=[]\/∃b off,a=some ⟨b,off,none⟩/\b<w.heap.size/\∀(j:Nat) x,l[j]?=some x->w.cell? ⟨b,off+j,none⟩=some (.int .i64 x)):=by
 have hfz:D.fz (nInts l)=nInts l:=by simp[D.fz,D.KX]
 rw[hfz]at h;simp only[V,R]at h;obtain⟨a,cap,h1,h2,h3,h4⟩:=h;have h1:v= .slice a (l.map dI).length cap:=by simpa using h1
 rw[aV]at h1 h2;refine⟨a,cap,h1,h2,?_⟩;rcases h4 with h4|h4|⟨b,off,s,C,e,fz,ha,hh,hn,hs,hr⟩
 ·exact .inl (by simpa using h4.2.1)
 ·exact .inl (by simpa using h4.2)
 ·refine .inr ⟨b,off,ha,lt_of_heap hh,fun j x hx=> ?_⟩;have:=(Rs.iff hh).1 hr j (dI x) (by rw[aO,hx];rfl);obtain⟨hw,C',e',fz',cs,g1,g2,g3⟩:=this;have hs1:s=1:=hw.symm;subst hs1;rw[hh]at g1;obtain⟨rfl,rfl,rfl⟩:C=C'/\e=e'/\fz=fz':=by simpa using g1
  simp only[R]at g3;obtain⟨rfl,_⟩:=g3;rw[cell_of_row w b (off+j) C e fz hh];have:=g2 0 (by simp[D.w]);simpa using this
def aFK (v:Int)(n:Nat)(hn:1<=n/\n<=8):fD prog 397 [nInts [v],dI n] (fun r=>r=wN (List.replicate n v)):=by
 intro w ow vs t ht hL hnew hsz ha;have h0:=ha 0 _ rfl;have h1:=LK (ha 1 _ rfl);obtain⟨a,cap,hv,hcap,hc⟩:=aCO h0
 obtain rfl:vs= #[.slice a 1 cap,.int .i64 n]:=by
  apply Array.ext
  ·simpa using hsz
  ·intro i hi h2;have:i=0\/i=1:=by simp at h2;omega
   rcases this with rfl|rfl
   ·simpa[aF,hi]using hv
   ·simpa[aF,hi]using h1
 rcases hc with hc|⟨b,off,rfl,hb,hcell⟩
 ·cases hc
 refine(aqQ v n b off cap w hn (hcell 0 v rfl) hb).mono ?_;rintro e w' ⟨g,rfl,hg,hrow,hB⟩;have hlt:g<w'.heap.size:=lt_of_heap hrow;refine⟨_,fun b=>if b=g then some [t]else if b<w.heap.size then ow b else none,_,rfl,rfl,⟨hB.os,hB.tape,hB.output,hB.size,fun b hb=>⟨?_,?_⟩,fun b hb=> ?_⟩,rfl,fun s' a=> ?_⟩
 ·exact hB.block b hb
 ·rw[if_neg (by omega),if_pos hb]
 ·have:=hB.size;rw[if_neg (by omega),if_neg (by omega)]
 ·simp only[SV,V,R];refine⟨some ⟨g,0,none⟩,n,by simp,by simp,by unfold maxLen;omega,.inr (.inr ⟨g,0,1,_,3,(0,0),rfl,hrow,(by intro h;cases h),fun t' ht'=> ?_,?_⟩)⟩
  ·obtain rfl:=k_Option_some_inj ht';obtain⟨_,i,zv,hi,hsz,_⟩:=(good 3).of (fun x h e=>by rw[e]at h;cases h);exact⟨by simp,rfl,unfz0 _,rfl,by simp,i,hi,hsz⟩
  ·rw[Rs.iff hrow];intro j x hx;rw[aO,aK]at hx;obtain⟨y,hy,rfl⟩:=hx
   obtain⟨hj,rfl⟩:j<n/\v=y:=by
    have h1:=(aD.1 hy).1;simp at h1;exact⟨h1,by simpa[eZ,h1]using hy⟩
   refine⟨rfl,_,_,_,[.int .i64 v],hrow,fun k hk=> ?_,?_⟩
   ·obtain rfl:k=0:=by simpa[D.w]using hk
    simp[hj]
   ·simp[R,Value.oneCell']
def MF (s:Str)(hs:Qle s)(ht:s.all AL):fD prog 274 [dS s,dS [124,59]] (fun r=>r=vB (!s.all vH)):=
 D9 (u:= .bool (!s.all vH)) rfl fun w ow vs hL hsz ha=>by
  obtain rfl:=aiO hsz ha;rw[←OI];refine(Tryz.strings_ContainsAny_laid ⟨s.toArray⟩ ⟨[124,59].toArray⟩ w (by simp[ByteArray.size];omega) (by decide) (fun j b hb=> ?_) (fun j b hb=> ?_))
  ·have hb':s[j]?=some b:=hb;have:=aI.1 ht b (aA hb');simp[AL]at this;omega
  ·have hb':[124,59][j]?=some b:=hb;have:=aA hb';simp at this;rcases this with rfl|rfl<;>decide
def adZ (s:Str)(hs:Qle s:=by first|omega|grind):Fk 273 [dS s] (vB (isText s)):=by
 refine fE [] ntmps273 fun _ _=> ?_;simp;refine wlt Nat (fun i=>([(0,vS s),(5,vI s.length),(6,vI i)],s.length-i,(i<=s.length)/\((s.take i).all AL=true))) (0) ⟨by omega,rfl⟩ ?_;rintro i ⟨h1,h2⟩;simp;apply gw<;>intro a
 ·obtain⟨c,hc⟩:=aN (l:=s) (i:=i);simp[hc];refine ck (bB c.toNat 32 126) ?_;simp;apply gw<;>intro b
  ·simp at b;have hn:=fJ hc (P:=AL) (by simp[AL];omega);simp;grind[isText]
  ·simp at b;simp;refine nxa (i+1) ⟨by omega,(bW hc h2 (by simp[AL];omega))⟩
 ·simp at a;have hf:=iO h2 a;simp;grind[isText]
def ap8 {s:Str}(h:isText s):s.all AL=true:=by simp only[isText,k_Bool_and_eq_true]at h;exact h.1
def abB (s:Str)(hs:Qle s:=by first|omega|grind):Fk 198 [dS s] (vB (lK s)):=by
 refine fE [] ntmps198 fun _ _=> ?_;simp;refine ck (adZ _) ?_;simp;apply gv<;>intro e
 ·have e':=e;simp[e];refine ck (MF s hs (ap8 e)) ?_;simp;simp[lK,e]
 ·have e':=e;simp[e];simp[lK,e]
def KL (s:Str)(hs:Qle s):Fk 197 [dS s] (vB (!lK s)):=by
 refine fE [] ntmps197 fun _ _=> ?_;simp;refine ck (abB _) ?_;simp
def ap0 (l:List Str)(hl:Qle l)(hs:∀f∈l,afJ f):Fk 272 [mM l,.one (.func (.func 197) #[] #[])] (vI (ix (fun f=> !lK f) l)):=by
 refine fE [] ntmps272 fun _ _=> ?_;simp;refine wlt Nat (fun i=>([(0,vR l),(1,.val (.one (.func (.func 197) #[] #[]))),(7,vI l.length),(8,vI i)],l.length-i,(i<=l.length)/\((l.take i).any (fun f=> !lK f)=false))) (0) ⟨by omega,rfl⟩ ?_;rintro i ⟨h1,h2⟩;simp;apply gw<;>intro a
 ·obtain⟨c,hc⟩:=aN (l:=l) (i:=i);simp[hc];refine ck (KL c (hs c (aA hc))) ?_;simp;apply gw<;>intro b
  ·simp at b;have hn:=BI hc h2 (by simp[b]);simp[hn]
  ·simp at b;simp;refine nxa (i+1) ⟨by omega,(jB hc h2 (by simp[b]))⟩
 ·simp at a;have hf:=mR h2 a;have hx:=qQ hf;simp[hx]
def at7 (l:List Str)(hl:Qle l)(hs:∀f∈l,afJ f):Fk 196 [mM l,.one (.func (.func 197) #[] #[])] (vB (l.any fun f=> !lK f)):=by
 refine fE [] ntmps196 fun _ _=> ?_;have hq:decide (0<=ix (fun f=> !lK f) l)=l.any fun f=> !lK f:=by rw[bG,decide_eq_true_eq];exact iW
 simp;refine ck (ap0 l hl hs) ?_;simp[hq]
def CB (r:Rec)(hs:E5 r:=by first|omega|grind):Fk 114 [zA r] (vB (bE r)):=by
 refine fE [] ntmps114 fun _ _=> ?_;simp;refine ck (bB _ _ _) ?_;simp;apply gv<;>intro e
 ·have e':=e;simp at e';simp[e];simp[bE];omega
 ·have e':=e;simp at e';simp[e];refine ck (bB _ _ _) ?_;simp;apply gv<;>intro f
  ·have f':=f;simp at f';simp[f];simp[bE];omega
  ·have f':=f;simp at f';simp[f];refine ck (bB _ _ _) ?_;simp;apply gw<;>intro g
   ·simp at g;simp;simp[bE];omega
   ·simp at g;simp;apply gv<;>intro k
    ·have k':=k;simp[k];refine ck (at7 r.fields hs.1 hs.2) ?_;simp;have h4:r.fields.length=4:=by omega
     all_goals(simp[bE,h4,e',f',g];rw[List.not_all_eq_any_not])
    ·have k':=k;simp[k];have h4:¬r.fields.length=4:=by omega
     all_goals simp[bE,h4]
def ajZ {r:Rec}(h:bE r):inI .i64 (jQ r)/\inI .i64 (100*r.source):=by
 simp only[bE,inR,k_Bool_and_eq_true,decide_eq_true_eq]at h;simp only[inI,jQ];omega
def O1 (r:Rec)(hs:E5 r):Fk 291 [zA r] (vB (!bE r)):=by
 refine fE [] ntmps291 fun _ _=> ?_;simp;refine ck (CB _) ?_;simp
def apY (l:List Rec)(hl:Qle l)(hs:∀r∈l,E5 r):Fk 130 [H6 l,.one (.func (.func 291) #[] #[])] (vI (ix (fun r=> !bE r) l)):=by
 refine fE [] ntmps130 fun _ _=> ?_;simp;refine wlt Nat (fun i=>([(0,vT l),(1,.val (.one (.func (.func 291) #[] #[]))),(7,vI l.length),(8,vI i)],l.length-i,(i<=l.length)/\((l.take i).any (fun r=> !bE r)=false))) (0) ⟨by omega,rfl⟩ ?_;rintro i ⟨h1,h2⟩;simp;apply gw<;>intro a
 ·obtain⟨c,hc⟩:=aN (l:=l) (i:=i);simp[hc];refine ck (O1 c (hs c (aA hc))) ?_;simp;apply gw<;>intro b
  ·simp at b;have hn:=BI hc h2 (by simp[b]);simp[hn]
  ·simp at b;simp;refine nxa (i+1) ⟨by omega,(jB hc h2 (by simp[b]))⟩
 ·simp at a;have hf:=mR h2 a;have hx:=qQ hf;simp[hx]
def at6 (l:List Rec)(hl:Qle l)(hs:∀r∈l,E5 r):Fk 290 [H6 l,.one (.func (.func 291) #[] #[])] (vB (l.any fun r=> !bE r)):=by
 refine fE [] ntmps290 fun _ _=> ?_;have hq:decide (0<=ix (fun r=> !bE r) l)=l.any fun r=> !bE r:=by rw[bG,decide_eq_true_eq];exact iW
 simp;refine ck (apY l hl hs) ?_;simp[hq]
def TU (l:List Rec)(hl:Qle l)(hs:∀r∈l,E5 r):Fk 210 [H6 l] (vB (l.all bE)):=by
 refine fE [] ntmps210 fun _ _=> ?_;simp;refine ck (at6 l hl hs) ?_;have hn:=aiN bE l;simp[hn]
def OY (s:Sto)(hs:Qle s.recs)(hr:∀r∈s.recs,E5 r)(hv:Qle s.vers):Fk 59 [NT s] (vB (iM s)):=by
 refine fE [] ntmps59 fun _ _=> ?_;simp;refine wlt Nat (fun i=>([(1,.own (.bx true (NT s))),(6,vT s.recs),(7,vI s.recs.length),(8,vI i)],(s.recs).length-i,(i<=(s.recs).length)/\((s.recs.take i).all bE=true)/\(adj (fun a b=>decide (jQ a<jQ b)) (s.recs.take i)=true))) (0) ⟨by omega,rfl,rfl⟩ ?_;rintro i ⟨h1,h2,h3⟩;simp;apply gw<;>intro a
 ·obtain⟨c,hc⟩:=aN (l:=s.recs) (i:=i);simp[hc];refine wdr ?_;simp;refine cd (CB c (hr c (aA hc))) ?_;simp;apply gv<;>intro e
  ·have e':=e;simp at e';have hn:=fJ hc (P:=bE) (by simpa using e);simp[e];grind[iM]
  ·have e':=e;simp at e';simp[e];apply gv<;>intro f
   ·have f':=f;obtain⟨p,hp⟩:=aN (l:=s.recs) (i:=i-1);have hi1:i-1+1=i:=by omega
    have hvp:bE p:=aI.1 h2 p (by apply aA (i:=i-1);rw[aZ,if_pos (by omega)];exact hp);have hk1:inR p.source 0 3=true/\inR p.key 1 99:=by simp only[bE,k_Bool_and_eq_true]at hvp;exact⟨hvp.1.1.1.2,hvp.1.1.2⟩
    have hk2:inR c.source 0 3=true/\inR c.key 1 99:=by simp only[bE,k_Bool_and_eq_true]at e';exact⟨e'.1.1.1.2,e'.1.1.2⟩
    simp[f,hp];iterate 2 refine ai ?_
    refine cd (sV p (ajZ hvp).1 (ajZ hvp).2) ?_;simp;refine cd (sV c (ajZ e').1 (ajZ e').2) ?_;simp;apply gw<;>intro b
    ·have hn:=JO hp (by rw[hi1];exact hc) (R:=fun a b=>decide (jQ a<jQ b)) (by simp;omega);simp;grind[iM]
    ·simp at b;simp;refine nxa (i+1) ⟨by omega,(bW hc h2 (by simpa using e)),by have:=yU (i:=i-1) (by rw[hi1];exact h3) hp (by rw[hi1];exact hc) (by simp;omega);rwa [hi1]at this⟩
   ·have f':=f;simp at f';simp[f];refine nxa (i+1) ⟨by omega,(bW hc h2 (by simpa using e)),(by obtain rfl:i=0:=(by omega);exact vF)⟩
 ·simp at a;have hf:=iO h2 a;rw[bS a]at h3;simp;refine ck (bB _ _ _) ?_;simp;apply gv<;>intro g1
  ·have g1':=g1;simp at g1';simp[g1];apply gv<;>intro g2
   ·have g2':=g2;simp[g2];refine ck (E9 _) ?_;simp;grind[iM]
   ·have g2':=g2;simp at g2';simp[g2];grind[iM]
  ·have g1':=g1;simp at g1';simp[g1];grind[iM]
end Go.Proofs.YtafdbpehjfmnpaaGreatDoor
end
section
namespace Go.Proofs.YtafdbpehjfmnpaaGreatDoor
open Go.Dv Go.Pl Go.Proofs.Tryz
variable {o:L2}{k:Nat}
def afH (h:k<o.length):o[k]?=some (gat o k):=by
 obtain⟨r,hr⟩:=aN h;rw[BF hr];exact hr
variable {l:L1}{i:Nat}
def arI (h:afY l i o)(k:Nat):(gat o k).length<=i:=by
 by_cases hk:k<o.length
 ·rw[h.row k hk,aV];exact k_Nat_le_trans (bK _ _) (by simp)
 ·simp[gat,hk]
def agR (h:afY l i o)(k:Nat):(gat (blkIn l i o) k).length<=i:=by
 unfold blkIn;split
 ·by_cases hk:k<o.length
  ·have:gat (o++[[]]) k=gat o k:=by simp[gat,lN,hk]
   rw[this];exact arI h k
  ·have:gat (o++[[]]) k=[]:=by
    by_cases h2:k=o.length
    ·subst h2;simp[gat]
    ·have:(o++[[]]).length<=k:=by simp;omega
     simp[gat,k_List_getElem__eq_none this]
   rw[this];simp
 ·exact arI h k
def zY (l:L1)(hs:Qle l)(hp:l.length=0\/fO l):Fk 89 [nInts l] (.own (mY (blocksP l))):=by
 refine fE [200001] ntmps89 fun _ _=> ?_;have hrg:RG l:=by rcases hp with h|h;(intro k hk;omega);exact(isPart_iff.1 h).1
 have hl8:l.length<=8:=by rcases hp with h|h;omega;exact(isPart_len h).2
 simp;refine wlt (Nat×L2) (fun(i,o)=>([(0,vN l),(3,.own (mY o)),(4,vI i)],l.length-i,(i<=l.length)/\(o=loopN i [] (oO l)))) ((0,[])) ⟨by omega,rfl⟩ ?_;rintro⟨i,o⟩ ⟨h1,h2⟩;simp;apply gv<;>intro a
 ·have a':=a;simp[a];refine ck (mD l) ?_;have hpp:fO l:=hp.resolve_left (by omega);have hI:=blocksI hrg h1;rw[←h2]at hI;have hst:=(hI.step hrg a).1;have hle:=hI.le hrg a;have hol:=hI.len;have hlen:=agR hI (at1 l i).toNat;have hs:=aL i [] (oO l);rw[←h2]at hs;have hg:=aU a;simp[hpp];refine NV (fun(_:Unit)=>[(0,vN l),(3,.own (mY (blkIn l i o))),(4,vI i)]) (fun(_:Unit)=>True) ?_ ?_
  ·simp[hg];apply gw<;>intro b
   ·have hb:blkIn l i o=o++[[]]:=if_pos b;simp;refine ai ?_;refine jn (()) trivial (h3:=by simp[hpp,hg,hb])
   ·have hb:blkIn l i o=o:=if_neg b;simp;refine jn (()) trivial (h3:=by simp[hpp,hg,hb])
  rintro⟨⟩ -
  have hbs:oO l i o=(blkIn l i o).set (at1 l i).toNat (gat (blkIn l i o) (at1 l i).toNat++[(i:Int)]):=rfl;have hr:=afH hst;have hr2:(blkIn l i o)[(at1 l i).toNat]=gat (blkIn l i o) (at1 l i).toNat:=by rw[aB hst]at hr;exact k_Option_some_inj hr
  generalize blkIn l i o=q at hst hbs hr hr2 hlen|-
  have hset:(q.map cO).set (at1 l i).toNat (D.sl (some 3) ((gat q (at1 l i).toNat).map dI++[D.one (.int .i64 (i:Int))]))=(oO l i o).map cO:=by rw[hbs,kI];simp[cO,dI]
  simp;refine wdh [0] [(13,[39,40]),(14,[38,40,41,3,27,32,37]),(16,[42,41,3,27,32,37,38])] [(0,vN l),(3,.own (mY q)),(4,vI i),(27,.al 3 [])] [] ?_;simp[hg,hst,hr2,hset];iterate 4 refine ai ?_
  refine nx (i+1,oO l i o) ⟨by omega,hs.symm⟩
 ·have a':=a;simp at a';obtain rfl:i=l.length:=by omega
  have hbl:blocksP l=o:=h2.symm;simp[a,hbl]
variable {n:Nat}{items:L1}
def amD (h:NZ n items)(hi:i<items.length):0<=at1 items i/\at1 items i<n:=h.1 _ (aA (aU hi))
def ayQ (h:NZ n items)(hi:i<k)(hk:k<items.length):at1 items i<at1 items k:=by
 have h1:=aU (l:=items) (i:=i);have h2:=aU hk;have:=dM.1 h.2 i k (by omega) hk hi;rw[aB (by omega)]at h1 h2;rw[k_Option_some_inj h1,k_Option_some_inj h2]at this;exact this
def afR (m:L2)(items:L1)(x:Int):L1:=items.map fun y=>at2 m x.toNat y.toNat
def FY (m:L2)(items:L1)(x:Int)(k:Nat):L1:=(items.take k).map fun y=>at2 m x.toNat y.toNat
def akA (m:L2)(items:L1)(x:Int):FY m items x 0=[]:=rfl
variable {m:L2}
def aj9 {x:Int}(h:k<items.length):FY m items x (k+1)=FY m items x k++[at2 m x.toNat (at1 items k).toNat]:=yZ _ (aU h)
def aoM (m:L2)(items:L1)(x:Int):FY m items x items.length=afR m items x:=by simp[FY,afR]
def BU (m:L2)(items:L1)(i:Nat):L2:=(items.take i).map (afR m items)
def aj8 (m:L2)(items:L1):BU m items 0=[]:=rfl
def aj7 (h:i<items.length):BU m items (i+1)=BU m items i++[afR m items (at1 items i)]:=yZ _ (aU h)
def aoK (m:L2)(items:L1):BU m items items.length=kK m items:=by simp[BU,kK,afR]
def aoL (m:L2)(items:L1)(i:Nat):(BU m items i).length<=items.length:=by simp[BU];omega
def aoN (m:L2)(items:L1)(x:Int)(i:Nat):(FY m items x i).length<=items.length:=by simp[FY];omega
def WY (m:L2)(items:L1)(hm:bQ m)(hi:NZ m.length items)(hl:items.length<=8):Fk 162 [bV m,nInts items] (.own (mY (kK m items))):=by
 refine fE [200001] ntmps162 fun _ _=> ?_;have hml:=dJ hm;have hz:=aj8 m items;have hz2:=akA m items;have hall:=aoK m items;have hall2:=aoM m items;simp;refine ck (eH m) ?_;simp[hm];refine wl (fun(i:Nat)=>[(0,.val (bV m)),(1,vN items),(5,.own (mY (BU m items i))),(6,vI i)]) (fun(i:Nat)=>items.length-i) (fun(i:Nat)=>(i<=items.length)) (0) (by omega) ?_ (h0:=by simp[hm,hz,hz2]);rintro i h1;simp;apply gw<;>intro a
 ·have hx:=amD hi a;have hg:=aU a;have hms:=aj7 (m:=m) a;have hml2:=aoL m items i;obtain⟨r,hr,hrl⟩:=C8 hm (a:=(at1 items i).toNat) (by omega);simp;refine NV (fun(_:Unit)=>[(0,.val (bV m)),(1,vN items),(5,.own (mY (BU m items i))),(6,vI i)]) (fun(_:Unit)=>True) ?_ ?_
  ·have hx1:=hx.1;have hx2:at1 items i<=(m.length:Int)-1:=by omega
   simp;refine wdr ?_;simp[hg];refine ai ?_;refine cd (bC (at1 items i) _ _) ?_;simp[hx1,hx2];apply gv<;>intro e
   ·have e':=e;have hlt:=ayQ hi (i:=i-1) (k:=i) (by omega) a;have hlt2:¬at1 items i<=at1 items (i-1):=by omega
    have hg1:=aU (l:=items) (i:=i-1);have hi1:((i:Int)-1).toNat=i-1:=by omega
    simp[hg,e,hg1,hlt2];iterate 2 refine ai ?_
    refine jn (()) trivial
   ·have e':=e;simp at e';simp[e];refine jn (()) trivial
  rintro⟨⟩ -
  simp;refine wl (fun(k:Nat)=>[(0,.val (bV m)),(1,vN items),(5,.own (mY (BU m items i))),(6,vI i),(7,wN (FY m items (at1 items i) k)),(8,vI k)]) (fun(k:Nat)=>items.length-k) (fun(k:Nat)=>(k<=items.length)) (0) (by omega) ?_ (h0:=by simp[hz,hz2]);rintro k h2;simp;apply gw<;>intro b
  ·have hy:=amD hi b;have hk:=aU b;have hks:=aj9 (m:=m) (x:=at1 items i) b;have hkl2:=aoN m items (at1 items i) k;have hy1:=hy.1;have hy2:at1 items k<=(m.length:Int)-1:=by omega
   obtain⟨q,hq,hqk⟩:=lC hm (i:=(at1 items i).toNat) (k:=(at1 items k).toNat);simp[hk];refine ai ?_;refine ck (bC (at1 items k) _ _) ?_;simp[hy1,hy2];refine wdf [(14,[76,77]),(15,[63,77,78,7]),(16,[78,7])] [(0,.val (bV m)),(1,vN items),(5,.own (mY (BU m items i))),(6,vI i),(7,wN (FY m items (at1 items i) k)),(8,vI k)] [] (by simp) ?_;simp[hg,hk,hy1,hq,hqk];refine nxd (k+1) (by first|omega|(simp;omega)|grind) (h3:=by simp[hz,hz2,hks,hks,hg,hk,hy1,hy2,hq,hqk])
  ·simp at b;obtain rfl:k=items.length:=by omega
   simp[hall2];refine nxb (i+1) (by first|omega|(simp;omega)|grind) (h3:=by simp[hz,hz2,hms,hall2])
 ·simp at a;obtain rfl:i=items.length:=by omega
  simp[hall]
variable {α:Type}
def last_at (l:List α)(a:α)(h:l.length=k):(l++[a])[k]?=some a:=by subst h;simp
def amX (l:List α)(a b:α)(h:l.length=k):(l++[a]).set k b=l++[b]:=by subst h;simp
def O4 (l:L1)(hs:Qle l)(hp:l.length=0\/fO l):Fk 123 [nInts l] (.own (mY (blocksP l))):=by
 refine fE [] ntmps123 fun _ _=> ?_;have hrg:RG l:=by rcases hp with h|h;(intro k hk;omega);exact(isPart_iff.1 h).1
 have hl8:l.length<=8:=by rcases hp with h|h;omega;exact(isPart_len h).2
 simp;refine wlt (Nat×L2) (fun(i,o)=>([(3,.own (mY o)),(6,vN l),(7,vI l.length),(8,vI i)],l.length-i,(i<=l.length)/\(o=loopN i [] (oO l)))) ((0,[])) ⟨by omega,rfl⟩ ?_;rintro⟨i,o⟩ ⟨h1,h2⟩;simp;apply gw<;>intro a
 ·have hI:=blocksI hrg h1;rw[←h2]at hI;have hst:=(hI.step hrg a).1;have hle:=hI.le hrg a;have hol:=hI.len;have hlen:=agR hI (at1 l i).toNat;have hs:=aL i [] (oO l);rw[←h2]at hs;have hg:=aU a;have hbs:oO l i o=(blkIn l i o).set (at1 l i).toNat (gat (blkIn l i o) (at1 l i).toNat++[(i:Int)]):=rfl;simp[hg];apply gw<;>intro b
  ·have hb:blkIn l i o=o++[[]]:=if_pos b;rw[hb]at hbs;have hbn:(at1 l i).toNat=o.length:=by omega
   have hq:=last_at (o.map cO) (D.sl none []) (k:=o.length) (by simp);have hq2:=amX (o.map cO) (D.sl none []) (D.any 1) (k:=o.length) (by simp);have hq3:=last_at (o.map cO) (D.any 1) (k:=o.length) (by simp);have hq4:=amX (o.map cO) (D.any 1) (D.sl (some 3) [D.one (.int .i64 (i:Int))]) (k:=o.length) (by simp);have hgl:gat (o++[[]]) o.length=[]:=by simp[gat]
   have hnew:oO l i o=o++[[(i:Int)]]:=by rw[hbs,hbn,hgl];simp
   simp[b];refine nxb (i+1,oO l i o) ⟨by omega,hs.symm⟩ (h3:=by simp[hg,b,hq,hq2,hq3,hq4,hnew])
  ·have hb:blkIn l i o=o:=if_neg b;rw[hb]at hbs hst hlen;have hr:=afH hst;have hr2:o[(at1 l i).toNat]=gat o (at1 l i).toNat:=by rw[aB hst]at hr;exact k_Option_some_inj hr
   have hset:(o.map cO).set (at1 l i).toNat (D.sl (some 3) ((gat o (at1 l i).toNat).map dI++[D.one (.int .i64 (i:Int))]))=(oO l i o).map cO:=by rw[hbs,kI];simp[cO,dI]
   have ha0:=hle.1;simp[hst,hr2,ha0,hset];refine nxb (i+1,oO l i o) ⟨by omega,hs.symm⟩
 ·simp at a;obtain rfl:i=l.length:=by omega
  have hbl:blocksP l=o:=h2.symm;simp[hbl]
def XL (l:L1)(x:Int):ix (fun y=>decide (x=y)) l=place l x:=by
 unfold place;congr 1;funext y;simp[eq_comm]
def FL (l:List Con)(items:L1)(hl:Qle l)(hi:Qle items):Fk 205 [jJ l,nInts items] (vE (iE l items)):=by
 refine fE [] ntmps205 fun _ _=> ?_;simp;refine wlt (Nat×List Con) (fun(i,o)=>([(1,vN items),(5,vE o),(10,vC l),(11,vI l.length),(12,vI i)],l.length-i,(i<=l.length)/\(o=(l.take i).filterMap (zQ items))/\(o.length<=i))) ((0,[])) ⟨by omega,by simp,by simp⟩ ?_;rintro⟨i,o⟩ ⟨h1,h2,h3⟩;simp;apply gw<;>intro a
 ·obtain⟨c,hc⟩:=aN (l:=l) (i:=i);have hm:=A7 (zQ items) hc;rw[←h2]at hm;have e1:=XL items c.a;have e2:=XL items c.b;have b1:=ayT (fun y=>decide (y=c.a)) items;have b2:=ayT (fun y=>decide (y=c.b)) items;simp[hc];refine wdt 8 ?_;simp;refine cd (jI items c.a) ?_;simp;refine cd (jI items c.b) ?_;simp[e1,e2];apply gv<;>intro e
  ·have e':=e;simp[e];apply gw<;>intro f
   ·have hr:zQ items c=some ⟨place items c.a,place items c.b,c.same⟩:=if_pos ⟨e,f⟩;rw[hr]at hm;simp;refine nxb (i+1,o++[⟨place items c.a,place items c.b,c.same⟩]) ⟨by omega,by rw[hm];rfl,by simp;omega⟩
   ·simp at f;have hr:zQ items c=none:=if_neg (by omega);rw[hr]at hm;simp;refine nxa (i+1,o) ⟨by omega,by rw[hm];simp,by omega⟩
  ·have e':=e;simp at e';have hr:zQ items c=none:=if_neg (by omega);rw[hr]at hm;simp[e];refine nxa (i+1,o) ⟨by omega,by rw[hm];simp,by omega⟩
 ·simp at a;rw[bS a]at h2;have hfin:iE l items=o:=h2.symm;simp[hfin]
def aj6 (m:L2)(items:L1)(i k:Nat):Int:=at2 m (at1 items i).toNat (at1 items k).toNat
def V3 (m:L2)(items:L1)(hm:bQ m)(hs:NZ m.length items)(hl:Qle items):Fk 204 [bV m,nInts items] (.own (mY (kK m items))):=by
 refine fE [] ntmps204 fun _ _=> ?_;have hz:List.replicate items.length (cO (List.replicate items.length 0))=(zeros items.length).map cO:=by simp[zeros]
 simp;refine ck (sZ items.length) ?_;simp[hz];refine wlt (Nat×L2) (fun(i,q)=>([(0,.val (bV m)),(1,vN items),(5,.own (mY q)),(13,vN items),(14,vI items.length),(15,vI i)],items.length-i,(i<=items.length)/\(q=loopN i (zeros items.length) (VR items.length (aj6 m items)))/\(sq2 items.length q))) ((0,zeros items.length)) ⟨by omega,rfl,(pO _)⟩ ?_ (h0:=by simp[hz]);rintro⟨i,q⟩ ⟨h1,h2,h3⟩;simp;apply gw<;>intro a
 ·have hs1:=aL i (zeros items.length) (VR items.length (aj6 m items));rw[←h2]at hs1;have gi:=aU (l:=items) (i:=i);have si:=hs.1 _ (aA gi);simp[gi];refine wlt (Nat×L2) (fun(k,w)=>([(0,.val (bV m)),(1,vN items),(5,.own (mY w)),(6,vI i),(7,vI (at1 items i)),(13,vN items),(14,vI items.length),(15,vI i),(20,vN items),(21,vI items.length),(22,vI k)],items.length-k,(k<=items.length)/\(w=loopN k q (LW (aj6 m items) i))/\(sq2 items.length w))) ((0,q)) ⟨by omega,rfl,h3⟩ ?_;rintro⟨k,w⟩ ⟨h4,h5,h6⟩;simp;apply gw<;>intro b
  ·have hs2:=aL k q (LW (aj6 m items) i);rw[←h5]at hs2;have gk:=aU (l:=items) (i:=k);have sk:=hs.1 _ (aA gk);have hrw:=(sO h6 (i:=i)).1;have hgw:=MR h6 (i:=i) (k:=k);obtain⟨r,hr,hv⟩:=lC hm (i:=(at1 items i).toNat) (k:=(at1 items k).toNat);have hv2:r[(at1 items k).toNat]?=some (aj6 m items i k):=hv;have hset:(w.map cO).set i (D.sl (some 3) (((gat w i).map dI).set k (dI (aj6 m items i k))))=(LW (aj6 m items) i k w).map cO:=K4 w i k (aj6 m items i k);have p1:=si.1;have p2:=sk.1;simp[gk];refine wdt 13 ?_;simp[hrw,hgw,hr,hv2,hset,p1,p2];refine nxa (k+1,LW (aj6 m items) i k w) ⟨by omega,hs2.symm,(xS h6 (by omega) _)⟩
  ·simp at b;obtain rfl:k=items.length:=by omega
   simp;refine nxa (i+1,w) ⟨by omega,by rw[hs1,h5];rfl,h6⟩
 ·simp at a;obtain rfl:i=items.length:=by omega
  have hfin:kK m items=q:=by rw[←aAT,h2];rfl
  simp[hfin]
end Go.Proofs.YtafdbpehjfmnpaaGreatDoor
end
section
namespace Go
def qX:= @Int.eq_ofNat_of_zero_le
end Go
end
section
namespace Go.Proofs.YtafdbpehjfmnpaaGreatDoor
open Go.Dv Go.Pl Go.RowKit Go.Proofs.Tryz
abbrev alE (t:Tri):D:= .agg [.agg [dI t.a,dI t.b],.agg [dI t.a,dI t.c],.agg [dI t.b,dI t.c]]
structure J6 (n:Nat) (t:Tri):Prop where
 a:0<=t.a
 b:t.a<t.b
 c:t.b<t.c
 n:t.c<(n:Int)
def acJ {t:Tri}{n i:Nat}(h:J6 n t)(hi:i<3):∃x y:Nat,x<n/\y<n/\[D.agg [dI t.a,dI t.b],D.agg [dI t.a,dI t.c],D.agg [dI t.b,dI t.c]][i]?=some (D.agg [dI x,dI y]):=by
 obtain⟨h1,h2,h3,h4⟩:=h;obtain⟨a,ha⟩:=qX h1;obtain⟨b,hb⟩:=qX (show 0<=t.b by omega);obtain⟨c,hc⟩:=qX (show 0<=t.c by omega);rw[ha,hb,hc];have:i=0\/i=1\/i=2:=by omega
 rcases this with rfl|rfl|rfl
 ·exact⟨a,b,by omega,by omega,rfl⟩
 ·exact⟨a,c,by omega,by omega,rfl⟩
 ·exact⟨b,c,by omega,by omega,rfl⟩
def aEA (a b c d:Int)(w:World):Calls prog 288 #[.agg #[.int .i64 a,.int .i64 b,.int .i64 c,.int .i64 d]] w fun e w'=>e= .returned (.agg #[.int .i64 a,.int .i64 b,.int .i64 a,.int .i64 c,.int .i64 b,.int .i64 c])/\Below w.heap.size w w':=by
 go_enter func288,ntmps288
 go_wp2
 refine bodyPost_ret (v:= .agg #[.int .i64 a,.int .i64 b,.int .i64 a,.int .i64 c,.int .i64 b,.int .i64 c]) ?_ rfl ⟨rfl,((Below.refl _ w).alloc (k_Nat_le_refl _) _).alloc (by simp) _⟩;have z:=Tryz.sizeOf229;have g:=Tryz.isAgg229;simp[results,Tryz.f288,loadVar,asAddr]
 go_simp
def FP (t:Tri):fD prog 288 [alF t] (fun r=>r= .val (alE t)):=by
 intro w ow vs tt ht hL hnew hvs hargs;have h0:=hargs 0 _ rfl
 have hv:vs= #[.agg #[.int .i64 t.a,.int .i64 t.b,.int .i64 t.c,.int .i64 t.w]]:=by
  simp only[D.fz,D.fzs,V]at h0;obtain⟨cs,h1,h2⟩:=h0;have h3:=R.IY (cs':=[.int .i64 t.a,.int .i64 t.b,.int .i64 t.c,.int .i64 t.w]) rfl h2;apply Array.ext
  ·simpa using hvs
  ·intro i h4 h5;obtain rfl:i=0:=by simpa using h5
   simp[aF,h4]at h1;simp[h1];apply bT.1;exact h3
 subst hv;refine(aEA t.a t.b t.c t.w w).mono ?_;rintro e w' ⟨rfl,hB⟩;refine⟨_,fun b=>if b<w.heap.size then ow b else none,_,rfl,rfl,⟨hB.os,hB.tape,hB.output,hB.size,fun b hb=>⟨hB.block b hb,if_pos hb⟩,fun b hb=>if_neg (by have:=hB.size;omega)⟩,rfl,fun s a=> ?_⟩;exact⟨_,rfl,R.flat rfl⟩
def aeD (t:Tri)(m:L2)(hm:bQ m)(ht:J6 m.length t):fD prog 363 [alF t,bV m] (fun r=>∃b:Bool,r=vB b):=by
 refine fE [] ntmps363 fun _ _=> ?_;simp;refine ck (FP t) ?_;simp;refine wlt (Nat×Int×Int) (fun(i,p,q)=>([(1,.val (bV m)),(5,vI p),(6,vI q),(11,.val (alE t)),(12,vI i)],3-i,(i<=3)/\(0<=p/\p<=i)/\(0<=q/\q<=i))) ((0,0,0)) ⟨by omega,by omega,by omega⟩ ?_;rintro⟨i,p,q⟩ ⟨h1,h2,h3⟩;simp;apply gw<;>intro a
 ·obtain⟨x,y,hx,hy,hp⟩:=acJ ht (show i<3 by omega);obtain⟨r,hr,hw⟩:=lC hm hx hy;simp[hp];refine ai ?_;refine wdt 9 ?_;simp[hr,hw];apply gw<;>intro b
  ·simp;refine nxb (i+1,p+1,q) ⟨(by first|omega|(simp;omega)|grind),(by first|omega|(simp;omega)|grind),(by first|omega|(simp;omega)|grind)⟩
  ·simp at b;simp;apply gw<;>intro c
   ·simp;refine nxb (i+1,p,q+1) ⟨(by first|omega|(simp;omega)|grind),(by first|omega|(simp;omega)|grind),(by first|omega|(simp;omega)|grind)⟩
   ·simp at c;simp;refine nxa (i+1,p,q) ⟨(by first|omega|(simp;omega)|grind),(by first|omega|(simp;omega)|grind),(by first|omega|(simp;omega)|grind)⟩
 ·simp at a;simp;apply gv<;>intro g1
  ·have g1':=g1;simp[g1]
  ·have g1':=g1;simp[g1]
def auH (t:Tri)(n:Nat)(hn:n<=1048576):fD prog 400 [alF t,dI n] (fun r=>∃b:Bool,r=vB b):=by
 refine fE [] ntmps400 fun _ _=> ?_;simp;refine ck (nM t.a n) ?_;simp;apply gv<;>intro e
 ·have e':=e;simp at e';simp[e];refine ck (nM t.b n) ?_;simp;apply gv<;>intro f
  ·have f':=f;simp at f';simp[f];refine ck (nM t.c n) ?_;simp;apply gv<;>intro g
   ·have g':=g;simp at g';simp[g];apply gv<;>intro h
    ·have h':=h;simp[h]
    ·have h':=h;simp at h';simp[h]
   ·have g':=g;simp at g';simp[g]
  ·have f':=f;simp at f';simp[f]
 ·have e':=e;simp at e';simp[e]
end Go.Proofs.YtafdbpehjfmnpaaGreatDoor
end
section
namespace Go.Proofs.YtafdbpehjfmnpaaGreatDoor
open Go.Dv Go.Pl Go.Proofs.Tryz
def ab5 {x:Int}(h: -1000<=x/\x<=1000):0<=AQ x/\AQ x<=1000:=by unfold AQ;split<;>omega
def OO (m:L2)(hm:bQ m):fD prog 287 [bV m] (fun r=>∃l:List Tri,r=wC l/\l.length<=512/\∀t∈l,J6 m.length t/\0<=t.w/\t.w<=1000):=by
 refine fE [] ntmps287 fun _ _=> ?_;have hn8:=dJ hm;simp;refine ck (gW m (by omega) (wP hm)) ?_;simp[hm];refine wlt (Nat×List Tri) (fun(i,o)=>([(0,.val (bV m)),(3,wC o),(12,vI m.length),(13,vI i)],m.length-i,(i<=m.length)/\(o.length<=64*i)/\(∀t∈o,J6 m.length t/\0<=t.w/\t.w<=1000))) ((0,[])) ⟨by omega,by simp,by simp⟩ ?_;rintro⟨i,o⟩ ⟨h1,h2,h3⟩;simp;apply gw<;>intro a
 ·simp;refine ai ?_;refine wlt (Nat×List Tri) (fun(j,p)=>([(0,.val (bV m)),(3,wC p),(4,vI i),(5,vI j),(12,vI m.length),(13,vI i)],m.length-j,(i+1<=j/\j<=m.length)/\(p.length<=64*i+8*j)/\(∀t∈p,J6 m.length t/\0<=t.w/\t.w<=1000))) ((i+1,o)) ⟨by omega,by omega,h3⟩ ?_;rintro⟨j,p⟩ ⟨h4,h5,h6⟩;simp;apply gw<;>intro b
  ·simp;refine ai ?_;refine wlt (Nat×List Tri) (fun(k,q)=>([(0,.val (bV m)),(3,wC q),(4,vI i),(5,vI j),(6,vI k),(12,vI m.length),(13,vI i)],m.length-k,(j+1<=k/\k<=m.length)/\(q.length<=64*i+8*j+k)/\(∀t∈q,J6 m.length t/\0<=t.w/\t.w<=1000))) ((j+1,p)) ⟨by omega,by omega,h6⟩ ?_;rintro⟨k,q⟩ ⟨h7,h8,h9⟩;simp;apply gw<;>intro c
   ·obtain⟨r1,e1,f1⟩:=lC hm (i:=i) (k:=j);obtain⟨r2,e2,f2⟩:=lC hm (i:=i) (k:=k);obtain⟨r3,e3,f3⟩:=lC hm (i:=j) (k:=k);have b1:=iG hm i j;have b2:=iG hm i k;have b3:=iG hm j k;rw[e1]at e2;obtain rfl:=k_Option_some_inj e2;simp;refine wdf [(28,[32,33,34,59,60]),(29,[7]),(30,[7,60])] [(0,.val (bV m)),(3,wC q),(4,vI i),(5,vI j),(6,vI k),(12,vI m.length),(13,vI i)] [] (by simp) ?_;simp[e1,f1];refine cd (sW (at2 m i j)) ?_;simp[e1,f2];refine cd (sW (at2 m i k)) ?_;simp[e3,f3];refine cd (sW (at2 m j k)) ?_;obtain⟨w,hw⟩:∃w,w=min (AQ (at2 m i j)) (min (AQ (at2 m i k)) (AQ (at2 m j k))):=⟨_,rfl⟩;have a1:=ab5 b1;have a2:=ab5 b2;have a3:=ab5 b3;have hw2:=hw.symm;have ht:J6 m.length ⟨i,j,k,w⟩:=⟨by show(0:Int)<=i;omega,by show(i:Int)<j;omega,by show(j:Int)<k;omega,by show(k:Int)<m.length;omega⟩;simp[hw2];refine eT (aeD ⟨i,j,k,w⟩ m hm ht) (by simp) ?_;rintro r ⟨bb,rfl⟩;refine⟨by simp,?_⟩;simp;apply gw<;>intro d
    ·simp;refine nxb (k+1,q++[⟨i,j,k,w⟩]) ⟨by omega,by simp;omega,(by intro t htm;rcases k_List_mem_append.1 htm with h|h;exact h9 t h;obtain rfl:=k_List_mem_singleton.1 h;exact⟨ht,by show 0<=w;omega,by show w<=1000;omega⟩)⟩
    ·simp;refine nxa (k+1,q) ⟨by omega,by omega,h9⟩
   ·simp at c;simp;refine nxa (j+1,q) ⟨by omega,by omega,h9⟩
  ·simp at b;simp;refine nxa (i+1,p) ⟨by omega,by omega,h6⟩
 ·simp at a;simp;exact⟨o,rfl,by omega,h3⟩
variable {m u:L2}{x y:Nat}
def YI (hu:sq2 m.length u)(hx:x<m.length)(hy:y<m.length):u[x]?=some (gat u x)/\(gat u x)[y]?=some (at2 u x y):=⟨(sO hu hx).1,MR hu hx hy⟩
def MX (m u:L2)(b:Int):Prop:=sq2 m.length u/\∀x y,x<m.length->y<m.length->0<=at2 u x y/\at2 u x y<=b
variable {b:Int}
def aoW {w:Int}(h:MX m u b)(hx:x<m.length)(hy:y<m.length)(hw:0<=w/\w<=1000):MX m (set2 u x y (at2 u x y+w)) (b+1000):=by
 refine⟨xS h.1 hx _,fun a c ha hc=> ?_⟩;rw[DY h.1 hx hy];have h1:=h.2 a c ha hc;have h2:=h.2 x y hx hy;split<;>omega
def DL {c:Int}(h:MX m u b)(hb:b<=c:=by omega):MX m u c:=⟨h.1,fun x y hx hy=>by have:=h.2 x y hx hy;omega⟩
def vJ (m:L2)(hm:bQ m):fD prog 209 [bV m] (fun r=>∃l:List Tri,r=wC l/\l.length<=512/\∀t∈l,J6 m.length t/\1<=t.w/\t.w<=1000):=by
 refine fE [] ntmps209 fun _ _=> ?_;have hn8:=dJ hm;have hz:List.replicate m.length (cO (List.replicate m.length 0))=(zeros m.length).map cO:=by simp[zeros]
 simp;refine ck (sZ m.length) ?_;simp[hz];refine eT (OO m hm) (by simp) ?_;rintro r ⟨L,rfl,hL,hT⟩;refine⟨by simp,?_⟩;simp;refine wlt (Nat×L2×List Tri) (fun(i,u,o)=>([(0,.val (bV m)),(3,wC o),(4,.own (mY u)),(15,wC L),(16,vI L.length),(17,vI i)],L.length-i,(i<=L.length)/\(MX m u (3000*i))/\o.length<=i/\(∀t∈o,J6 m.length t/\1<=t.w/\t.w<=1000))) ((0,zeros m.length,[])) ⟨by omega,(⟨pO _,fun x y _ _=>by rw[J9];omega⟩),by simp,by simp⟩ ?_ (h0:=by simp[hz]);rintro⟨i,u,o⟩ ⟨h1,h2,h3,h4⟩;simp;apply gw<;>intro a
 ·obtain⟨t,ht⟩:=aN (l:=L) (i:=i);have hto:=hT t (aA ht);simp[ht];refine ck (FP t) ?_;simp;refine wlt (Nat×Int) (fun(k,w)=>([(0,.val (bV m)),(3,wC o),(4,.own (mY u)),(6,.own (.bx true (alF ⟨t.a,t.b,t.c,w⟩))),(15,wC L),(16,vI L.length),(17,vI i),(22,.val (alE t)),(23,vI k)],3-k,(k<=3)/\(-2000000<=w/\w<=1000))) ((0,t.w)) ⟨by omega,by omega⟩ ?_;rintro⟨k,w⟩ ⟨h5,h6⟩;simp;apply gw<;>intro b
  ·obtain⟨x,y,hx,hy,hp⟩:=acJ hto.1 (show k<3 by omega);obtain⟨r,hr,hv⟩:=lC hm hx hy;obtain⟨q1,q2⟩:=YI h2.1 hx hy;have q3:=h2.2 x y hx hy;have b1:=iG hm x y;have a1:=ab5 b1;simp[hp];refine ai ?_;refine wdt 24 ?_;simp[hr,hv];refine cd (sW (at2 m x y)) ?_;simp[q1,q2];refine nxb (k+1,min w (AQ (at2 m x y)-at2 u x y)) ⟨by omega,by omega⟩
  ·simp at b;have hu1:MX m u (3000*((i+1:Nat):Int)):=DL h2;simp;apply gw<;>intro c
   ·simp;refine nxa (i+1,u,o) ⟨by omega,hu1,by omega,h4⟩
   ·simp at c;have htw:J6 m.length ⟨t.a,t.b,t.c,w⟩:=⟨hto.1.a,hto.1.b,hto.1.c,hto.1.n⟩;simp;refine ck (FP ⟨t.a,t.b,t.c,w⟩) ?_;simp;refine wlt (Nat×L2) (fun(j,v)=>([(0,.val (bV m)),(3,wC o),(4,.own (mY v)),(6,.own (.bx true (alF ⟨t.a,t.b,t.c,w⟩))),(15,wC L),(16,vI L.length),(17,vI i),(55,.val (alE t)),(56,vI j)],3-j,(j<=3)/\(MX m v (3000*i+1000*j)))) ((0,u)) ⟨by omega,(DL h2)⟩ ?_;rintro⟨j,v⟩ ⟨h7,h8⟩;simp;apply gw<;>intro b2
    ·obtain⟨x,y,hx,hy,hp⟩:=acJ hto.1 (show j<3 by omega);obtain⟨q1,q2⟩:=YI h8.1 hx hy;have q3:=h8.2 x y hx hy;have hset:=K4 v x y (at2 v x y+w);simp[hp];refine ai ?_;refine wdt 13 ?_;simp[q1,q2,hset];refine nxb (j+1,set2 v x y (at2 v x y+w)) ⟨by omega,(DL (aoW h8 hx hy (by omega)))⟩
    ·simp at b2;obtain rfl:j=3:=by omega
     simp;refine nxb (i+1,v,o++[⟨t.a,t.b,t.c,w⟩]) ⟨by omega,(DL h8),by simp;omega,(by intro z hz;rcases k_List_mem_append.1 hz with h|h;exact h4 z h;obtain rfl:=k_List_mem_singleton.1 h;exact⟨htw,by show 1<=w;omega,by show w<=1000;omega⟩)⟩
 ·simp at a;simp;exact⟨o,rfl,by omega,h4⟩
def VV (m:L2)(l:List Tri)(hm:bQ m)(hl:l.length<=512)(hT:∀t∈l,J6 m.length t/\1<=t.w/\t.w<=1000):fD prog 362 [bV m,H8 l] (fun r=>∃b:Bool,r=vB b):=by
 refine fE [] ntmps362 fun _ _=> ?_;have hn8:=dJ hm;have hz:List.replicate m.length (cO (List.replicate m.length 0))=(zeros m.length).map cO:=by simp[zeros]
 simp;refine ck (gW m (by omega) (wP hm)) ?_;simp[hm];apply gw<;>intro a0
 ·simp
 ·simp at a0;simp;refine ck (sZ m.length) ?_;simp[hz];refine wlt (Nat×L2) (fun(i,u)=>([(0,.val (bV m)),(5,.own (mY u)),(21,.val (H8 l)),(22,vI l.length),(23,vI i)],l.length-i,(i<=l.length)/\(MX m u (3000*i)))) ((0,zeros m.length)) ⟨by omega,(⟨pO _,fun x y _ _=>by rw[J9];omega⟩)⟩ ?_ (h0:=by simp[hm,hz]);rintro⟨i,u⟩ ⟨h1,h2⟩;simp;apply gw<;>intro a
  ·obtain⟨t,ht⟩:=aN (l:=l) (i:=i);have hto:=hT t (aA ht);simp[ht];refine eT (auH t m.length (by omega)) (by simp) ?_;rintro r ⟨b1,rfl⟩;refine⟨by simp,?_⟩;simp;apply gv<;>intro e
   ·have e':=e;simp at e';simp[e]
   ·have e':=e;simp at e';simp[e];refine eT (aeD t m hm hto.1) (by simp) ?_;rintro r ⟨b2,rfl⟩;refine⟨by simp,?_⟩;simp;apply gv<;>intro f
    ·have f':=f;simp at f';simp[f]
    ·have f':=f;simp at f';simp[f];refine ck (bB t.w 1 1000) ?_;simp;apply gw<;>intro g
     ·simp at g;simp
     ·simp at g;simp;refine ck (FP t) ?_;simp;refine wlt (Nat×L2) (fun(j,v)=>([(0,.val (bV m)),(5,.own (mY v)),(7,.own (.bx true (alF t))),(21,.val (H8 l)),(22,vI l.length),(23,vI i),(45,.val (alE t)),(46,vI j)],3-j,(j<=3)/\(MX m v (3000*i+1000*j)))) ((0,u)) ⟨by omega,(DL h2)⟩ ?_;rintro⟨j,v⟩ ⟨h7,h8⟩;simp;apply gw<;>intro c
      ·obtain⟨x,y,hx,hy,hp⟩:=acJ hto.1 (show j<3 by omega);obtain⟨q1,q2⟩:=YI h8.1 hx hy;obtain⟨r,hr,hv⟩:=lC hm hx hy;have q3:=h8.2 x y hx hy;have hset:=K4 v x y (at2 v x y+t.w);have h9:=aoW h8 hx hy (w:=t.w) (by omega);obtain⟨p1,p2⟩:=YI h9.1 hx hy;have b3:=iG hm x y;simp[hp];refine ai ?_;refine wdt 13 ?_;simp[q1,q2,hset];refine ai ?_;refine wdr ?_;simp[p1,p2,hr,hv];refine cd (sW (at2 m x y)) ?_;simp;apply gw<;>intro d
       ·simp
       ·simp at d;simp;refine nxa (j+1,set2 v x y (at2 v x y+t.w)) ⟨by omega,(DL h9)⟩
      ·simp at c;obtain rfl:j=3:=by omega
       simp;refine nxa (i+1,v) ⟨by omega,(DL h8)⟩
  ·simp at a;simp
def OZ (m:L2)(l:List Tri)(hm:bQ m)(hl:l.length<=512)(hT:∀t∈l,J6 m.length t/\1<=t.w/\t.w<=1000):fD prog 286 [bV m,H8 l] (fun r=>∃k:Int,r=vI k/\ -1<=k/\k<=512000):=by
 refine fE [] ntmps286 fun _ _=> ?_;simp;refine eT (VV m l hm hl hT) (by simp) ?_;rintro r ⟨b1,rfl⟩;refine⟨by simp,?_⟩;simp;apply gw<;>intro a0
 ·simp at a0;simp
 ·simp at a0;simp;refine wlt (Nat×Int) (fun(i,s)=>([(5,vI s),(12,.val (H8 l)),(13,vI l.length),(14,vI i)],l.length-i,(i<=l.length)/\(0<=s/\s<=1000*i))) ((0,0)) ⟨by omega,by omega⟩ ?_;rintro⟨i,s⟩ ⟨h1,h2⟩;simp;apply gw<;>intro a
  ·obtain⟨t,ht⟩:=aN (l:=l) (i:=i);have hto:=hT t (aA ht);simp[ht];refine nxb (i+1,s+t.w) ⟨by omega,by omega⟩
  ·simp at a;simp;refine ai ?_;omega
def vK (m:L2)(p:L1)(l:List Tri)(hm:bQ m)(hp:Qle p)(hl:l.length<=512)(hT:∀t∈l,J6 m.length t/\1<=t.w/\t.w<=1000):fD prog 208 [bV m,nInts p,H8 l] (fun r=>∃k:Int,r=vI k):=by
 refine fE [] ntmps208 fun _ _=> ?_;have hpc:=BQ m p;simp;refine ck (CE m p hm hp) ?_;simp;refine eT (OZ m l hm hl hT) (by simp) ?_;rintro r ⟨k,rfl,hk1,hk2⟩;refine⟨by simp,?_⟩;simp;apply gv<;>intro e
 ·have e':=e;simp[e]
 ·have e':=e;simp at e';simp[e];apply gw<;>intro f
  ·simp
  ·simp at f;simp;simp only[inI];omega
structure aE0 (a b c d e:Nat):Prop where
 ab:¬a=b
 ac:¬a=c
 ad:¬a=d
 ae:¬a=e
 bc:¬b=c
 bd:¬b=d
 be:¬b=e
 cd:¬c=d
 ce:¬c=e
 de:¬d=e
def ax5 (m:L2)(cs:List Con)(l:L1)(s:S20)(k:Int)(bc bm bl bf bn:Nat)(hA:aE0 bc bm bl bf bn)(hm:bQ m)(hl:l.length=m.length)(hc:Qle cs):FnW prog 355 [cO l] [(bc,some (jJ cs)),(bm,some (bV m)),(bl,none),(bf,none),(bn,none)] [(bc,jJ cs),(bm,bV m)] [(bl,dI s.cost),(bf,cO s.best),(bn,dI k)] (fun r ds'=>r= .tup []/\∃k',ds'=[dI (mI m cs l s).cost,cO (mI m cs l s).best,dI k']):=by
 refine fW [10] ntmps355 fun _ _=> ?_;obtain⟨a1,a2,a3,a4,a5,a6,a7,a8,a9,a10⟩:=hA;have c1:=k_Ne_symm a1;have c2:=k_Ne_symm a2;have c3:=k_Ne_symm a3;have c4:=k_Ne_symm a4;have c5:=k_Ne_symm a5;have c6:=k_Ne_symm a6;have c7:=k_Ne_symm a7;have c8:=k_Ne_symm a8;have c9:=k_Ne_symm a9;have c0:=k_Ne_symm a10;have hn8:=dJ hm;simp;refine ck (DV l cs) ?_;simp;apply gw<;>intro e
 ·simp at e;have hb:mI m cs l s=s:=if_neg (by simpa using e);simp[c8,c9,c0,hb]
 ·simp at e;have hk:nG cs l:=by simpa using e
  have hbs:mI m cs l s=if s.cost<0\/dK m l<s.cost then⟨l,dK m l,1⟩else if dK m l=s.cost then⟨s.best,s.cost,s.count+1⟩else s:=if_pos hk
  simp;refine ck (kF m l hm hl) ?_;simp;apply gv<;>intro f
  ·have f':=f;have hb:mI m cs l s=⟨l,dK m l,1⟩:=by rw[hbs,if_pos (.inl f)]
   simp[f];refine ck (nX l ⟨by omega,by omega⟩) ?_;simp[a8,a9,a10,c8,c9,c0,hb]
  ·have f':=f;simp at f';simp[f];apply gw<;>intro g
   ·have hb:mI m cs l s=⟨l,dK m l,1⟩:=by rw[hbs,if_pos (.inr g)]
    simp;refine ck (nX l ⟨by omega,by omega⟩) ?_;simp[a8,a9,a10,c8,c9,c0,hb]
   ·simp at g;simp;apply gw<;>intro h
    ·have hb:mI m cs l s=⟨s.best,s.cost,s.count+1⟩:=by rw[hbs,if_neg (by omega),if_pos h]
     simp;refine wrw [1] ?_;simp[a9,a10,c8,c9,c0,hb]
    ·have hb:mI m cs l s=s:=by rw[hbs,if_neg (by omega),if_neg h]
     simp[c8,c9,c0,hb]
end Go.Proofs.YtafdbpehjfmnpaaGreatDoor
end
