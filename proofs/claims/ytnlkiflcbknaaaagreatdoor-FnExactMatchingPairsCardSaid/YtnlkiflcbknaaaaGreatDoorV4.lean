/- Lemmas and walks that the law leans on, part V4. No condition. -/
import Derived.Shelf.Strings.Builder1
import Derived.Shelf.Strings.Builder2
import Derived.Shelf.Small.Utf8
import Derived.Shelf.Small.Bits
import Derived.Shelf.Small.Strs
import Derived.Shelf.Small.Wraps
import Derived.Shelf.Strings.BuilderF
import Derived.Shelf.Strings.BuilderK
import Derived.Shelf.Utf8.RuneCount
import Derived.Shelf.Strings.Builder2Cap
import Derived.Shelf.Strconv.Atoi
import Derived.Shelf.Strconv.Itoa0
import Derived.Shelf.Strconv.Itoa1
import Derived.Shelf.LaysM
import Derived.Shelf.Strconv.Itoa2
import Derived.Shelf.Strconv.AtoiErrFast
import Derived.Shelf.Strconv.ParseIntEmpty
import Derived.Shelf.Strconv.AtoiFail
import Derived.Shelf.Strconv.Clone
import Derived.Shelf.Strconv.SyntaxError
import Derived.Shelf.LaysC
import Derived.Shelf.Strconv.ToError
import Derived.Shelf.Strconv.Lower
import Derived.Shelf.Strconv.ParseUint10
import Derived.Shelf.Strconv.ParseUint10Empty
import Derived.Shelf.Strconv.ParseUint10Any
import Derived.Shelf.Strconv.ParseInt10
import Derived.Shelf.Strconv.AtoiLong
import Derived.Shelf.Strconv.AtoiInnerAll
import Derived.Shelf.Strconv.RangeError
import Derived.Shelf.Strconv.ToErrorRange
import Derived.Shelf.Strconv.AtoiAll
import Derived.Shelf.Strconv.ErrVarAll
import Derived.Shelf.Strings.Search1
import Derived.Shelf.Strings.Search2
import Derived.Shelf.Strings.Search3
import Derived.Shelf.Strings.Count
import Derived.Shelf.Strings.Shaped
import Derived.Shelf.Sort.Plain
import Derived.Shelf.Strings.Prefix
import Derived.Shelf.Strings.Split
import Derived.Shelf.Strings.Replace
import Derived.Shelf.Strings.SplitShaped
import Derived.Shelf.Unicode.Decode
import Derived.Shelf.Strings.Runes
import Derived.Shelf.Strings.RuneCount
import Derived.Shelf.Strings.IndexAny
import Derived.Shelf.Strings.AsciiSet
import Derived.Shelf.Strings.IndexAnyAll
import Derived.Shelf.Bits.Mul64
import Derived.Shelf.Unicode.DecodeSlow
import Derived.Shelf.Unicode.DecodeAny
import Derived.Shelf.Strings.FieldsFuncAny
import Derived.Shelf.Strings.FieldsFuncGrows
import Derived.Shelf.Strings.BuilderCap
import Derived.Shelf.Slices.Turned
import Derived.Shelf.Slices.Equal
import Derived.Shelf.Slices.Clone
import Derived.Shelf.Slices.CompactS
import Derived.Shelf.Slices.SearchI
import Derived.Shelf.Slices.Cells
import Derived.Shelf.Slices.In.SortNone
import Derived.Shelf.SlicesE.Clone
import Derived.ChangeVars
import Derived.Handed
import Derived.LaidLaws
import Derived.Stop.LaidErr
import Derived.Test.YtnlkiflcbknaaaaGreatDoorCards
import Derived.Test.YtnlkiflcbknaaaaGreatDoorTie
import Derived.Laws.CopyOwn
import Derived.LoopTactic
import Derived.Sort.Grow
import Derived.Still
import Derived.StillTactics
import Derived.Test.YtnlkiflcbknaaaaGreatDoorV3
set_option linter.unusedVariables false
set_option linter.defProp false
set_option linter.unusedSimpArgs false
set_option linter.unusedSectionVars false
set_option maxRecDepth 10000
set_option maxHeartbeats 1000000
def Go.cSz {α:Type}{a b:α}(h:a=b:=by kernel_rfl):some a=some b:=congrArg some h
section
namespace Go.Er
open Go.RowKit
def ai9 (w:World)(a:Option Addr)(L:L2):Prop:=
 ∀i,(h:i<L.length)->∃b o ai ci,a=some ⟨b,o,none⟩/\w.cell? ⟨b,o+i,none⟩=some (.slice ai L[i].length ci)/\Ints w ai L[i]
variable {w':World}{a:Option Addr}
def ai9.ext {w:World}{L:L2}(h:ai9 w a L)(e:Ext w w'):ai9 w' a L:=by
 intro i hi;obtain⟨b,o,ai,ci,h1,h2,h3⟩:=h i hi;exact⟨b,o,ai,ci,h1,e.at h2,h3.ext e⟩
variable {B:Nat}{e:TypeId}{v:Value}{cs:List Value}{b:Nat}
def Own1.setOther {w:World}(h:Own1 w B e v cs){j:Nat}(hne:v.ownBlock≠some b)(u:Value):Own1 (w.setCell ⟨b,j,none⟩ u) B e v cs:=by
 refine⟨h.1,?_⟩;rcases h.2 with h2|⟨g,cap,cur,rfl,hg,hh,r⟩
 ·exact Or.inl h2
 ·refine Or.inr ⟨g,cap,cur,rfl,hg,?_,r⟩;rw[heap_setCell_other w ⟨b,j,none⟩ g u (fun e=>hne (by simp only[Value.ownBlock];rw[e]))];exact hh
def Own1.shape {w:World}(h:Own1 w B e v cs)(hne:0<cs.length):∃g cap,v= .slice (some ⟨g,0,none⟩) cs.length cap:=by
 rcases h.2 with⟨_,hn⟩|⟨g,cap,cur,rfl,_⟩
 ·omega
 ·exact⟨g,cap,rfl⟩
def Apart.nil (v:Value):Apart (.slice none 0 0) v:=fun b h=>by simp[Value.ownBlock]at h
def Own2 (w:World)(B:Nat)(e2 e1:TypeId)(v:Value)(vs:List Value)(L:List (List Value)):Prop:=
 Own1 w B e2 v vs/\vs.length=L.length/\(∀i,(h:i<vs.length)->(h':i<L.length)->Own1 w B e1 vs[i] L[i]/\Apart vs[i] v)/\
  ∀i j,(h:i<vs.length)->(h':j<vs.length)->i≠j->Apart vs[i] vs[j]
variable {e2 e1:TypeId}{vs:List Value}{L:List (List Value)}
def Own2.ext {w:World}(h:Own2 w B e2 e1 v vs L)(hE:Ext w w'):Own2 w' B e2 e1 v vs L:=
 ⟨h.1.ext hE,h.2.1,fun i h1 h2=>⟨(h.2.2.1 i h1 h2).1.ext hE,(h.2.2.1 i h1 h2).2⟩,h.2.2.2⟩
variable {B':Nat}
def Own2.mono {w:World}(h:Own2 w B e2 e1 v vs L)(hB:B'<=B):Own2 w B' e2 e1 v vs L:=
 ⟨h.1.mono hB,h.2.1,fun i h1 h2=>⟨(h.2.2.1 i h1 h2).1.mono hB,(h.2.2.1 i h1 h2).2⟩,h.2.2.2⟩
def Own2.empty {w:World}(h:Own1 w B e2 v []):Own2 w B e2 e1 v [] []:=
 ⟨h,rfl,fun i h1 _=>by simp at h1,fun i j h1 _ _=>by simp at h1⟩
def Own2.push {w:World}{v':Value}{u:Value}(h:Own2 w B e2 e1 v vs L)
  (hu:Own1 w B e1 u cs) (huv:Apart u v) (hus:∀i,(hi:i<vs.length)->Apart u vs[i])
  (hv':Own1 w' B e2 v' (vs++[u])) (hg:w.grownBy w' v.ownBlock) (hb:(v'.ownBlock=v.ownBlock/\v.ownBlock≠none)\/v'.ownBlock=some w.heap.size):
  Own2 w' B e2 e1 v' (vs++[u]) (L++[cs]):=by
 obtain⟨h1,h2,h3,h4⟩:=h;have hbu:=hu.beside huv.symm hg hb;refine⟨hv',by simp[h2],?_,?_⟩
 ·intro i hi hi';simp only[aP,aS,jI]at hi hi';by_cases hlt:i<vs.length
  ·have:=h3 i hlt (by omega);have hbi:=this.1.beside this.2.symm hg hb;simp only[iT hlt,iT (show i<L.length by omega)];exact⟨hbi.1,hbi.2.symm⟩
  ·have e1:(vs++[u])[i]'(by simp;omega)=u:=by rw[lF (by omega)];simp
   have e2:(L++[cs])[i]'(by simp;omega)=cs:=by rw[lF (by omega)];simp
   rw[e1,e2];exact⟨hbu.1,hbu.2.symm⟩
 ·intro i j hi hj hne;simp only[aP,aS,jI]at hi hj;by_cases hli:i<vs.length
  ·by_cases hlj:j<vs.length
   ·simp only[iT hli,iT hlj];exact h4 i j hli hlj hne
   ·obtain rfl:j=vs.length:=by omega
    simp only[iT hli,lF (k_Nat_le_refl _),cO];exact(hus i hli).symm
  ·obtain rfl:i=vs.length:=by omega
   have hlj:j<vs.length:=by omega
   simp only[iT hlj,lF (k_Nat_le_refl _),cO];exact hus j hlj
variable {n k:Nat}
def Own2.put {w w0:World}{cap:Nat}{x:Value}(h:Own2 w w0.heap.size e2 e1 (.slice (some ⟨b,0,none⟩) n cap) vs L) (hE:Ext w0 w')
  (hk:k<vs.length) (hx:Own1 w' w0.heap.size e1 x cs) (hg:w.grownBy w' vs[k].ownBlock) (hb:(x.ownBlock=vs[k].ownBlock/\vs[k].ownBlock≠none)\/x.ownBlock=some w.heap.size):
  Own2 (w'.setCell ⟨b,k,none⟩ x) w0.heap.size e2 e1 (.slice (some ⟨b,0,none⟩) n cap) (vs.set k x) (L.set k cs)/\Ext w0 (w'.setCell ⟨b,k,none⟩ x):=by
 obtain⟨h1,h2,h3,h4⟩:=h;have hkv:=(h3 k hk (by omega)).2;have hv:=h1.beside hkv hg hb;have hset:=hv.1.set hE k x;have hne:∀y:Value,Apart y (.slice (some ⟨b,0,none⟩) n cap)->y.ownBlock≠some b:=fun y hy hyb=>hy b hyb rfl;refine⟨⟨hset.1,by simp[h2],?_,?_⟩,hset.2⟩
 ·intro i hi hi';have hi2:i<vs.length:=by simpa using hi
  have hi3:i<L.length:=by simpa using hi'
  rw[nC,nC];by_cases hik:k=i
  ·rw[if_pos hik,if_pos hik];exact⟨hx.setOther (hne _ hv.2) x,hv.2⟩
  ·rw[if_neg hik,if_neg hik];have:=h3 i hi2 hi3;have hbi:=this.1.beside (h4 k i hk hi2 hik) hg hb;exact⟨hbi.1.setOther (hne _ this.2) x,this.2⟩
 ·intro i j hi hj hne2;have hi2:i<vs.length:=by simpa using hi
  have hj2:j<vs.length:=by simpa using hj
  rw[nC,nC];by_cases hik:k=i
  ·rw[if_pos hik,if_neg (by omega)];subst hik;exact((h3 j hj2 (by omega)).1.beside (h4 k j hk hj2 hne2) hg hb).2
  ·rw[if_neg hik];by_cases hjk:k=j
   ·rw[if_pos hjk];subst hjk;exact((h3 i hi2 (by omega)).1.beside (h4 k i hk hi2 (k_Ne_symm hne2)) hg hb).2.symm
   ·rw[if_neg hjk];exact h4 i j hi2 hj2 hne2
def LP (B:Nat)(w w':World):Prop:=w.heap.size<=w'.heap.size/\∀k,B<=k->k<w.heap.size->w'.heap[k]?=w.heap[k]?
def LP.aBC {w:World}(h:Ext w w'):LP B w w':=⟨h.size,fun k _ hk=>h.block k hk⟩
def LP.trans {a b c:World}(h:LP B a b)(k:LP B b c):LP B a c:=
 ⟨k_Nat_le_trans h.1 k.1,fun i hi hk=>(k.2 i hi (dZ hk h.1)).trans (h.2 i hi hk)⟩
def LP.refl (B:Nat)(w:World):LP B w w:=⟨k_Nat_le_refl _,fun _ _ _=>rfl⟩
def LP.cell {w:World}(h:LP B w w'){o:Nat}(hb:B<=b)(hc:w.cell? ⟨b,o,none⟩=some v):w'.cell? ⟨b,o,none⟩=some v:=
 (World.cell?_of_block (a:=⟨b,o,none⟩) (h.2 b hb (lt_of_cell hc))).trans hc
def LP.setCell (w:World)(hb:b<B)(o:Nat)(u:Value):LP B w (w.setCell ⟨b,o,none⟩ u):=
 ⟨by simp,fun k hk _=>heap_setCell_other w ⟨b,o,none⟩ k u (by simp;omega)⟩
abbrev Rel (α:Type):=Nat->World->List Value->α->Prop
structure aaD {α:Type}(R:Rel α):Prop where
 keep:∀{B w w' vs x},LP B w w'->R B w vs x->R B w' vs x
 mono:∀{B B' w vs x},B'<=B->R B w vs x->R B' w vs x
variable {α:Type}
def aaD.ext {R:Rel α}(g:aaD R){w:World}{x:α}(h:R B w vs x)(hE:Ext w w'):R B w' vs x:=g.keep (LP.aBC hE) h
def agM (k:Nat)(R:Rel α)(B:Nat)(w:World)(a:Option Addr)(l:List α):Prop:=
 l.length<=maxLen/\∀i,(h:i<l.length)->∃b o vs,a=some ⟨b,o,none⟩/\B<=b/\vs.length=k/\(∀j,(hj:j<vs.length)->w.cell? ⟨b,o+i*k+j,none⟩=some vs[j])/\R B w vs l[i]
variable {l:List α}
def agM.keep {R:Rel α}(g:aaD R){w:World}(h:agM k R B w a l)(hk:LP B w w'):agM k R B w' a l:=by
 refine⟨h.1,fun i hi=> ?_⟩;obtain⟨b,o,vs,h1,h2,h3,h4,h5⟩:=h.2 i hi;exact⟨b,o,vs,h1,h2,h3,fun j hj=>hk.cell h2 (h4 j hj),g.keep hk h5⟩
def agM.mono {R:Rel α}(g:aaD R){w:World}(h:agM k R B w a l)(hB:B'<=B):agM k R B' w a l:=by
 refine⟨h.1,fun i hi=> ?_⟩;obtain⟨b,o,vs,h1,h2,h3,h4,h5⟩:=h.2 i hi;exact⟨b,o,vs,h1,k_Nat_le_trans hB h2,h3,h4,g.mono hB h5⟩
def agM.ext {R:Rel α}(g:aaD R){w:World}(h:agM k R B w a l)(hE:Ext w w'):agM k R B w' a l:=h.keep g (LP.aBC hE)
def setCells (w:World)(N:Nat):Nat->List Value->World
 |_,[]=>w
 |o,u::us=>setCells (w.setCell ⟨N,o,none⟩ u) N (o+1) us
def setMany (arr:Array Value):Nat->List Value->Array Value
 |_,[]=>arr
 |o,u::us=>setMany (arr.setIfInBounds o u) (o+1) us
def YR:∀(us:List Value) (arr:Array Value) (o:Nat),(setMany arr o us).size=arr.size
 |[],_,_=>rfl
 |u::us,arr,o=>by rw[setMany,YR us];simp
def QG:∀(us:List Value) (arr:Array Value) (o m:Nat),o+us.length<=arr.size->(setMany arr o us)[m]?=if o<=m/\m<o+us.length then us[m-o]? else arr[m]?
 |[],arr,o,m,_=>by
  have:¬(o<=m/\m<o+([]:List Value).length):=by simp
  rw[if_neg this];rfl
 |u::us,arr,o,m,h=>by
  simp only[aS]at h;rw[setMany,QG us _ (o+1) m (by simp;omega)];by_cases h1:m=o
  ·subst h1;have h2:¬(m+1<=m/\m<m+1+us.length):=by omega
   have h3:m<=m/\m<m+(u::us).length:=by simp
   rw[if_neg h2,if_pos h3];have h4:m<arr.size:=by omega
   simp[h4]
  ·by_cases h2:o+1<=m/\m<o+1+us.length
   ·have h3:o<=m/\m<o+(u::us).length:=by simp;omega
    rw[if_pos h2,if_pos h3];have h4:m-o=(m-(o+1))+1:=by omega
    rw[h4,rA]
   ·have h3:¬(o<=m/\m<o+(u::us).length):=by simp;omega
    rw[if_neg h2,if_neg h3];rw[Array.getElem?_setIfInBounds];have h4:¬o=m:=fun h=>h1 h.symm;rw[if_neg h4]
variable {N:Nat}
def Box.setCells :∀(us:List Value) {w:World}{arr:Array Value}(o:Nat),Box w N e arr->Box (setCells w N o us) N e (setMany arr o us)
 |[],_,_,_,h=>h
 |u::us,_,_,o,h=>Box.setCells us (o+1) (h.set o u)
def TC (hB:N<B):∀(us:List Value) (w:World) (o:Nat),LP B w (setCells w N o us)
 |[],_,_=>⟨k_Nat_le_refl _,fun _ _ _=>rfl⟩
 |u::us,w,o=>(LP.setCell w hB o u).trans (TC hB us _ (o+1))
def yD (k:Nat)(R:Rel α)(N:Nat)(e:TypeId)(n:Nat)(w:World)(l:List α)(i:Nat):Prop:=
 ∃arr:Array Value,Box w N e arr/\arr.size=n*k/\∀j,(hj:j<l.length)->j<i->∃vs:List Value,vs.length=k/\(∀t,(ht:t<vs.length)->arr[j*k+t]?=some vs[t])/\R (N+1) w vs l[j]
variable {i:Nat}
def yD.cell {R:Rel α}{w:World}(h:yD k R N e n w l i){m:Nat}(hm:m<n*k):∃y,w.cell? ⟨N,m,none⟩=some y:=by
 obtain⟨arr,h1,h2,_⟩:=h;have h3:m<arr.size:=by omega
 exact⟨arr[m],by rw[h1.cell m];simp[h3]⟩
def yD.free {R:Rel α}{w:World}(h:yD k R N e n w l i)(m:Nat):w.frozen? ⟨N,m,none⟩=false:=by
 obtain⟨arr,h1,_⟩:=h;exact h1.free m
def yD.lt {R:Rel α}{w:World}(h:yD k R N e n w l i):N<w.heap.size:=by
 obtain⟨arr,h1,_⟩:=h;exact h1.lt
def yD.ext {R:Rel α}(g:aaD R){w:World}(h:yD k R N e n w l i)(hE:Ext w w'):yD k R N e n w' l i:=by
 obtain⟨arr,h1,h2,h3⟩:=h;refine⟨arr,h1.ext hE,h2,fun j hj hji=> ?_⟩;obtain⟨vs,h4,h5,h6⟩:=h3 j hj hji;exact⟨vs,h4,h5,g.ext h6 hE⟩
def yD.start {R:Rel α}{w:World}{xs:List Value}(h:w.ownsRow B e k (.slice (some ⟨N,0,none⟩) n n) n xs)(hn:l.length<=n):yD k R N e n w l 0:=by
 rcases h.2 with⟨h1,_⟩|⟨g,cap,cur,h1,_,h2,_,_,h3,_⟩
 ·cases h1
 ·cases h1;exact⟨cur,h2,h3,fun j _ hj=>absurd hj (by omega)⟩
def yD.step {α:Type}{k:Nat}{R:Rel α}(g:aaD R) {N:Nat}{e:TypeId}{n:Nat}{w:World}{l:List α}{i:Nat}(h:yD k R N e n w l i) (hi:i<l.length) (hn:l.length<=n)
  {us:List Value}(hu:us.length=k) (hR:R (N+1) w us l[i]):yD k R N e n (setCells w N (i*k) us) l (i+1):=by
 obtain⟨arr,h1,h2,h3⟩:=h;have hb:(i+1)*k<=n*k:=aZ k (by omega);have hb2:i*k+us.length<=arr.size:=by rw[h2,hu];rw[k_Nat_add_mul]at hb;omega
 have hkp:=TC (N:=N) (B:=N+1) (by omega) us w (i*k);refine⟨_,h1.setCells us (i*k),by rw[YR];exact h2,fun j hj hji=> ?_⟩;by_cases hji2:j=i
 ·subst hji2;refine⟨us,hu,fun t ht=> ?_,g.keep hkp hR⟩;rw[QG us arr _ _ hb2,if_pos ⟨by omega,by omega⟩];have:j*k+t-j*k=t:=by omega
  rw[this];simp[ht]
 ·obtain⟨vs,h4,h5,h6⟩:=h3 j hj (by omega);refine⟨vs,h4,fun t ht=> ?_,g.keep hkp h6⟩;have hlt:(j+1)*k<=i*k:=aZ k (by omega);rw[k_Nat_add_mul]at hlt;rw[QG us arr _ _ hb2,if_neg (by omega)];exact h5 t ht
def yD.done {R:Rel α}(g:aaD R){w:World}(h:yD k R N e n w l l.length)(hl:l.length<=maxLen):agM k R N w (some ⟨N,0,none⟩) l:=by
 obtain⟨arr,h1,h2,h3⟩:=h;refine⟨hl,fun i hi=> ?_⟩;obtain⟨vs,h4,h5,h6⟩:=h3 i hi hi;refine⟨N,0,vs,rfl,k_Nat_le_refl _,h4,fun j hj=> ?_,g.mono (by omega) h6⟩;rw[h1.cell,bW];exact h5 j hj
def Box.keep {w:World}{t:TypeId}{vs:Array Value}(h:Box w b t vs)(hk:LP B w w')(hb:B<=b):Box w' b t vs:=by
 have hs:=h.lt;unfold Box at*
 rw[hk.2 b hb hs];exact h
end Go.Er
end
section
namespace Go.Dv
open Go.RowKit
variable [lG]
def putC:Nat->List (Nat×Option D)->St->St
 |k,(b,none)::cs,s=>(putC (k+1) cs s).put k (.rf (1000000+2*b) [0])
 |k,(_,some d)::cs,s=>(putC (k+1) cs s).put k (.rp d)
 |_,[],s=>s
def putR:List (Nat×D)->St->St
 |(b,d)::rd,s=>(putR rd s).put (1000000+2*b) (.rp d)
 |[],s=>s
def putG:List (Nat×D)->St->St
 |(b,d)::gs,s=>(putG gs s).put (1000000+2*b) (.own (.bx true d))
 |[],s=>s
def wSt (ds:List D)(cs:List (Nat×Option D))(rd gs:List (Nat×D)):St:=putG gs (putR rd (putC ds.length cs (argSt ds)))
def getG:List (Nat×D)->St->(List D->Prop)->Prop
 |[],_,K=>K []
 |(b,_)::gs,s,K=>match s (1000000+2*b)with
  | .own (.bx true d)=>getG gs s fun ds=>K (d::ds)
  |_=>False
def endW (T:TypeId->TyE)(rs:List ResultVar)(gs:List (Nat×D))(Q:S->List D->Prop):Exit->St->Prop
 | .normal,s=>retL T rs s fun ds s2=>getG gs s2 fun ds'=>Q (retS ds) ds'
 | .ret,s=>retL T rs s fun ds s2=>getG gs s2 fun ds'=>Q (retS ds) ds'
 |_,_=>False
def ah0 {s:St}:∀{gs:List (Nat×D)}{K:List D->Prop},getG gs s K->∃ds',K ds'/\ds'.length=gs.length/\∀(j:Nat) (g:Nat×D) (d':D),gs[j]?=some g->ds'[j]?=some d'->s (1000000+2*g.1)= .own (.bx true d')
 |[],K,h=>⟨[],h,rfl,fun j g d' hj=>by simp at hj⟩
 |(b,d0)::gs,K,h=>by
  unfold getG at h;split at h
  ·rename_i d hs;obtain⟨ds',h1,h2,h3⟩:=ah0 h;refine⟨d::ds',h1,by simp[h2],fun j g d' hj hj'=> ?_⟩;cases j with
   |zero=>simp at hj hj';subst hj;subst hj';exact hs
   |succ j=>exact h3 j g d' (by simpa using hj) (by simpa using hj')
  ·exact h.elim
def inG (gs:List (Nat×D))(lab:List Nat):Bool:=gs.any fun g=>lab.getLast?==some (1000000+2*g.1)
variable {gs:List (Nat×D)}
def az1 {g:Nat×D}{q:List Nat}(hg:g∈gs):inG gs (q++[1000000+2*g.1])=true:=dH.2 ⟨g,hg,by simp⟩
def az0 {lab:List Nat}(h:∀g∈gs,∀q,lab≠q++[1000000+2*g.1]):inG gs lab=false:=by
 rw[jZ];intro hi;obtain⟨g,hg,he⟩:=dH.1 hi
 obtain⟨q,hq⟩:∃q,lab=q++[1000000+2*g.1]:=by
  have:lab.getLast?=some (1000000+2*g.1):=by simpa using he
  exact⟨lab.dropLast,by rw[oU]at this;obtain⟨ys,rfl⟩:=this;simp⟩
 exact h g hg q hq
def TD (gs:List (Nat×D))(ow:Own):Own:=fun b=>match ow b with
 |none=>none
 |some lab=>if inG gs lab=true then some lab else some (lab++[far0])
def OI (w:World)(gs:List (Nat×D))(t:Nat)(ow ow1:Own):Own:=fun b=>
 if b<w.heap.size/\(match ow b with|none=>true|some lab=> !inG gs lab)=true then ow b else match ow1 b with
  |none=>none
  |some lab=>if inG gs lab=true then some lab else if lab.getLast?=some res0 then some (lab.dropLast++[t])else none
def M0 {P:Program}{w:World}{ow:Own}:∀{gs:List (Nat×D)}{s:St}{i:Nat},(∃g∈gs,i=1000000+2*g.1/\putG gs s i= .own (.bx true g.2))\/((∀g∈gs,i≠1000000+2*g.1)/\putG gs s i=s i)
 |[],s,i=> .inr ⟨fun g hg=>by simp at hg,rfl⟩
 |(b,d)::gs,s,i=>by
  by_cases hi:i=1000000+2*b
  ·exact .inl ⟨(b,d),by simp,hi,by simp[putG,St.put,hi]⟩
  ·simp only[putG,St.put,if_neg hi];rcases M0 (P:=P) (w:=w) (ow:=ow) (gs:=gs) (s:=s) (i:=i)with⟨g,h1,h2,h3⟩|⟨h1,h2⟩
   ·exact .inl ⟨g,by simp[h1],h2,h3⟩
   ·refine .inr ⟨fun g hg=> ?_,h2⟩;rcases aW.1 hg with rfl|hg
    ·exact hi
    ·exact h1 g hg
def VA:∀{rd:List (Nat×D)}{s:St}{i:Nat},(∃p∈rd,i=1000000+2*p.1/\putR rd s i= .rp p.2)\/putR rd s i=s i
 |[],s,i=> .inr rfl
 |(b,d)::rd,s,i=>by
  by_cases hi:i=1000000+2*b
  ·exact .inl ⟨(b,d),by simp,hi,by simp[putR,St.put,hi]⟩
  ·simp only[putR,St.put,if_neg hi];rcases VA (rd:=rd) (s:=s) (i:=i)with⟨g,h1,h2,h3⟩|h2
   ·exact .inl ⟨g,by simp[h1],h2,h3⟩
   ·exact .inr h2
def MZ:∀{cs:List (Nat×Option D)}{k:Nat}{s:St}{i:Nat},(∃j c,cs[j]?=some c/\i=k+j/\putC k cs s i=(match c.2 with|none=> .rf (1000000+2*c.1) [0]|some d=> .rp d))\/putC k cs s i=s i
 |[],k,s,i=> .inr rfl
 |(b,none)::cs,k,s,i=>by
  by_cases hi:i=k
  ·exact .inl ⟨0,(b,none),rfl,hi,by simp[putC,St.put,hi]⟩
  ·simp only[putC,St.put,if_neg hi];rcases MZ (cs:=cs) (k:=k+1) (s:=s) (i:=i)with⟨j,c,h1,h2,h3⟩|h2
   ·exact .inl ⟨j+1,c,by simpa using h1,by omega,h3⟩
   ·exact .inr h2
 |(b,some d)::cs,k,s,i=>by
  by_cases hi:i=k
  ·exact .inl ⟨0,(b,some d),rfl,hi,by simp[putC,St.put,hi]⟩
  ·simp only[putC,St.put,if_neg hi];rcases MZ (cs:=cs) (k:=k+1) (s:=s) (i:=i)with⟨j,c,h1,h2,h3⟩|h2
   ·exact .inl ⟨j+1,c,by simpa using h1,by omega,h3⟩
   ·exact .inr h2
def aJZ {P:Program}{T:TypeId->TyE}{f:FuncId}{fn:Func}{c:Code}{n:Nat}{rs:List ResultVar}{ds:List D}{cs:List (Nat×Option D)}{rd:List (Nat×D)}{Q:S->List D->Prop}(hG:∀t,Good P T t) (hf:P.funcs[f]?=some fn) (hb:fn.body=some c) (hn':fn.ntmps=n) (hn:n<=1000000) (hd:ds.length+cs.length<=n)
  (hr:fn.results=rs.toArray) (hcs:∀c∈cs,match c.2 with|none=>∃g∈gs,g.1=c.1|some d=>∃p∈rd,p=(c.1,d)) (h:∀w0 ow0,OkC P n w0 ow0 none c (wSt ds cs rd gs) (endW T rs gs Q)):FnW P f ds cs rd gs Q:=by
 subst hn';intro w ow vs t ht hL hnew hvs hargs hcap hrd hgs;refine calls_of_wp hf hb ?_
 have hav:∀i,i<ds.length+cs.length->aval {tmps:=vs++Array.replicate (fn.ntmps-vs.size) undef,defers:=[]} i=vs.getD i undef:=by
  intro i hi;unfold aval;rw[if_pos (by omega)];simp only[aF];rw[eY (by omega)]
 have havg:∀(a:Act) (b:Nat),aval a (1000000+2*b)= .pointer (some ⟨b,0,none⟩):=fun a b=>by
  unfold aval;rw[if_neg (by omega)];have:(1000000+2*b-1000000)/2=b:=by omega
  rw[this]
 have hlnone:∀b,ow b=none->TD gs ow b=none:=fun b hb=>by simp[TD,hb]
 have hlhit:∀g∈gs,∀b q,ow b=some (q++[1000000+2*g.1])->TD gs ow b=some (q++[1000000+2*g.1]):=fun g hg b q hb=>by simp only[TD,hb];rw[if_pos (az1 hg)]
 have hq0:Quiet w ow w (TD gs ow):=fun b _ ho=>⟨rfl,hlnone b ho⟩
 have hrp:∀(b:Nat) (d:D),V P w ow (D.bx false d).fz [] (.pointer (some ⟨b,0,none⟩))->∀s a i,SV P w (TD gs ow) s a i (.rp d) (.pointer (some ⟨b,0,none⟩)):=by
  intro b d h1 s a i;have h2:=V.trf (l2:=[]) hq0 h1;simp only[V,D.fz,R]at h2;obtain⟨b',off,C,e,fz,cs,g1,g2,g3,_,g5,g6,g7⟩:=h2;simp only[lN,qV,aJ,and_true]at g1;obtain⟨rfl,rfl,_⟩:=Addr.mk.inj g1;exact⟨b,0,rfl,g3 trivial,C,e,fz,cs,g2,fun j hj=>g6 j (by rw[g5];exact hj),R.trf (fun b _ hb=>⟨rfl,hb⟩) g7⟩
 have hfit:Fits P fn.ntmps w (TD gs ow) (TD gs ow) (wSt ds cs rd gs) {tmps:=vs++Array.replicate (fn.ntmps-vs.size) undef,defers:=[]} w:=by
  refine⟨rfl,by simp;omega,hn,(hL.mono fun b o h1 h2=>⟨h1,hlnone b h2⟩),⟨rfl,rfl,rfl,k_Nat_le_refl _,fun _ _ _=>rfl⟩,fun _ _ h=>h,fun b hb=>hlnone b (hnew b hb),?_,fun _ _ _ h=>⟨rfl,h⟩,fun i=> ?_⟩
  ·have e0:argSt ds far0= .un:=by unfold argSt;rw[k_List_getElem__eq_none (by unfold far0;omega)]
   rcases M0 (P:=P) (w:=w) (ow:=ow) (gs:=gs) (s:=putR rd (putC ds.length cs (argSt ds))) (i:=far0)with⟨g,_,h2,_⟩|⟨_,h2⟩
   ·unfold far0 at h2;omega
   ·unfold wSt;rw[h2];rcases VA (rd:=rd) (s:=putC ds.length cs (argSt ds)) (i:=far0)with⟨g,_,h2,_⟩|h2
    ·unfold far0 at h2;omega
    ·rw[h2];rcases MZ (cs:=cs) (k:=ds.length) (s:=argSt ds) (i:=far0)with⟨j,c,h1,h2,_⟩|h2
     ·have:=(aD.1 h1).1;unfold far0 at h2;omega
     ·rw[h2];exact e0
  ·rcases M0 (P:=P) (w:=w) (ow:=ow) (gs:=gs) (s:=putR rd (putC ds.length cs (argSt ds))) (i:=i)with⟨g,h1,rfl,h3⟩|⟨h1,h2⟩
   ·unfold wSt;rw[h3,havg];exact V.tr (fun b _=>⟨fun ho=>⟨rfl,hlnone b ho⟩,fun q hq=>⟨rfl,hlhit g h1 b q hq⟩⟩) (hgs g h1)
   ·have hw:wSt ds cs rd gs i=putR rd (putC ds.length cs (argSt ds)) i:=h2;rw[hw];rcases VA (rd:=rd) (s:=putC ds.length cs (argSt ds)) (i:=i)with⟨p,k1,rfl,k3⟩|k2
    ·rw[k3,havg];exact hrp _ _ (hrd p k1) _ _ _
    ·rw[k2];rcases MZ (cs:=cs) (k:=ds.length) (s:=argSt ds) (i:=i)with⟨j,c,e1,rfl,e3⟩|e2
     ·have hjl:=(aD.1 e1).1;rw[e3,hav _ (by omega),hcap j c e1];have hc:=hcs c (aA e1);cases hc2:c.2 with
      |some d=>
       rw[hc2]at hc;obtain⟨p,hp,rfl⟩:=hc;exact hrp _ _ (hrd _ hp) _ _ _
      |none=>
       rw[hc2]at hc;obtain⟨g,hg,hgc⟩:=hc;rcases M0 (P:=P) (w:=w) (ow:=ow) (gs:=gs) (s:=putR rd (putC ds.length cs (argSt ds))) (i:=1000000+2*c.1)with⟨g',h1',h2',h3'⟩|⟨h1',_⟩
       ·have:g'.1=c.1:=by omega
        refine⟨.bx true g'.2,g'.2,c.1,0,h3',by simp[D.sub,D.kid],?_,rfl⟩;rw[havg];simp[loc,into,eT]
       ·exact absurd (by rw[hgc]) (h1' g hg)
     ·rw[e2];unfold argSt;cases hdi:ds[i]? with
      |none=>trivial
      |some d=>
       have hi:i<ds.length:=(aD.1 hdi).1;simp only[SV];rw[hav i (by omega)];exact V.trf hq0 (hargs i d hdi)
 refine h w _ _ w ⟨_,hfit⟩ (fun m v e=>by cases e) _ fun e s' a' w' hK hR _=> ?_
 have key:(retL T rs s' fun ds s2=>getG gs s2 fun ds'=>Q (retS ds) ds')->bodyPost P fn (fun e w'=>∃v ow' r ds',e= .returned v/\Q r ds'/\w'.os=w.os/\w'.tape=w.tape/\w'.output=w.output/\w.heap.size<=w'.heap.size/\
   (∀b,b<w.heap.size->(∀g∈gs,∀q,ow b≠some (q++[1000000+2*g.1]))->w'.heap[b]?=w.heap[b]?/\ow' b=ow b)/\(∀b,w'.heap.size<=b->ow' b=none)/\
   ds'.length=gs.length/\(∀(j:Nat) (g:Nat×D) (d':D),gs[j]?=some g->ds'[j]?=some d'->V P w' ow' (.bx true d') [1000000+2*g.1] (.pointer (some ⟨g.1,0,none⟩)))/\S.plain r=true/\∀s a,SV P w' ow' s a t r v) .ret a' w':=by
  intro hK;obtain⟨ow1,hf1⟩:=hR;obtain⟨vals,ow2,s2,ds2,hQ,hf2,hl1,hl2,hrun,hvals,hkeep⟩:=hf1.retL hG (fun k=>if rs.length=1 then[]else[k]) rs 0 hK;obtain⟨ds',hQ,hdl,hds⟩:=ah0 hQ
  have hres:(results fn a'.tmps).run P w'= .ok (if h:vals.toArray.size=1 then vals.toArray[0]else .tuple vals.toArray) w':=by
   unfold results;rw[hr];have hb:∀{α β:Type}(x:Sem α) (g:α->Sem β),Sem.run P (Sem.bind x g) w'=(Sem.run P x w').andThen fun a w'=>Sem.run P (g a) w':=fun x g=>aH ..;simp only[sQ,Functor.map,aH,aU];rw[hb,hrun _ (YP a'.tmps P w' _ (fun _=>rfl) fun _ _=>rfl)];rfl
  refine⟨hf1.nodef,_,hres,?_⟩
  have hmiss:∀b,b<w.heap.size->(∀lab,ow b=some lab->inG gs lab=false)->w'.heap[b]?=w.heap[b]?/\(ow b=none->ow2 b=none)/\(∀lab,ow b=some lab->ow2 b=some (lab++[far0])):=by
   intro b hlt hno;cases ho:ow b with
   |none=>exact⟨hf2.bel.block b hlt (hlnone b ho),fun _=>hf2.own b hlt (hlnone b ho),fun lab e=>by cases e⟩
   |some lab=>
    have hlab:TD gs ow b=some (lab++[far0]):=by simp[TD,ho,hno lab ho]
    obtain⟨g1,g2⟩:=hf2.keep b hlt lab hlab;exact⟨g1,fun e=>(by cases e),fun lab' e=>by obtain rfl:=k_Option_some_inj e;exact g2⟩
  have hcond:∀b,(match ow b with|none=>true|some lab=> !inG gs lab)=true↔∀lab,ow b=some lab->inG gs lab=false:=by
   intro b;cases ho:ow b with
   |none=>simp
   |some lab=>simp
  have hnone:∀b,ow2 b=none->OI w gs t ow ow2 b=none:=by
   intro b hb;unfold OI;by_cases hc:b<w.heap.size/\(match ow b with|none=>true|some lab=> !inG gs lab)=true
   ·rw[if_pos hc];cases ho:ow b with
    |none=>rfl
    |some lab=>
     have:=(hmiss b hc.1 ((hcond b).1 hc.2)).2.2 lab ho;rw[hb]at this;cases this
   ·rw[if_neg hc,hb]
  have hlast:∀b q j,ow2 b=some (q++[j])->j≠far0->¬(b<w.heap.size/\(match ow b with|none=>true|some lab=> !inG gs lab)=true):=by
   rintro b q j hq hj ⟨h1,h2⟩;obtain⟨_,g1,g2⟩:=hmiss b h1 ((hcond b).1 h2);cases ho:ow b with
   |none=>rw[g1 ho]at hq;cases hq
   |some lab=>
    rw[g2 lab ho]at hq;have:=congrArg List.getLast? (k_Option_some_inj hq);simp at this;exact hj this.symm
  have hkg:∀g∈gs,Keeps w' ow2 [1000000+2*g.1] w' (OI w gs t ow ow2) [1000000+2*g.1]:=fun g hg b _=>⟨fun ho=>⟨rfl,hnone b ho⟩,fun q hq=>⟨rfl,by
   unfold OI;rw[if_neg (hlast b q _ hq (by unfold far0;omega)),hq];simp only;rw[if_pos (az1 hg)]⟩⟩
  have hnr:∀q,inG gs (q++[res0])=false:=fun q=>az0 fun g hg q' e=>by
   have:=congrArg List.getLast? e;simp[res0]at this;omega
  have hk:∀l2,Keeps w' ow2 (l2++[res0]) w' (OI w gs t ow ow2) (l2++[t]):=fun l2 b _=>⟨fun ho=>⟨rfl,hnone b ho⟩,fun q hq=>⟨rfl,by
   have hq':ow2 b=some ((q++l2)++[res0]):=by rw[hq];simp
   unfold OI;rw[if_neg (hlast b _ res0 hq' (by unfold res0 far0;omega)),hq'];simp only;rw[hnr];simp⟩⟩
  have hq:Quiet w' ow2 w' (OI w gs t ow ow2):=fun b _ ho=>⟨rfl,hnone b ho⟩
  have part:∀(j:Nat) (p:D×Bool),ds2[j]?=some p->∃v,vals[j]?=some v/\(if(p.2||p.1.frz)=true then V P w' (OI w gs t ow ow2) p.1.fz [] v else V P w' (OI w gs t ow ow2) p.1 ((if rs.length=1 then[]else[j])++[t]) v):=by
   intro j p hj;obtain⟨v,h1,h2,h3⟩:=hvals j p hj;rw[bW]at h2;refine⟨v,h1,?_⟩;by_cases hp:(p.2||p.1.frz)=true
   ·rw[if_pos hp]
    have hfz:p.1.fz=p.1:=by
     rcases bM _ _▸hp with hp|hp
     ·exact h3 hp
     ·exact D.UU hp
    rw[←hfz]at h2;exact V.trf hq h2
   ·rw[if_neg hp];exact V.tr (hk _) h2
  refine⟨_,OI w gs t ow ow2,retS ds2,ds',rfl,hQ,hf2.bel.os,hf2.bel.tape,hf2.bel.output,hf2.bel.size,fun b hb hno=> ?_,fun b hb=>hnone b (hf2.new b hb),hdl,fun j g d' hj hj'=> ?_,?_,fun s a=> ?_⟩
  ·have hn2:∀lab,ow b=some lab->inG gs lab=false:=fun lab hl=>az0 fun g hg q e=>hno g hg q (by rw[hl,e]);exact⟨(hmiss b hb hn2).1,by unfold OI;rw[if_pos ⟨hb,(hcond b).2 hn2⟩]⟩
  ·have h1:=hf2.slot (1000000+2*g.1);rw[hds j g d' hj hj',havg]at h1;exact V.tr (hkg g (aA hj)) h1
  ·unfold retS;split
   ·split<;>rfl
   ·rfl
  ·by_cases hone:rs.length=1
   ·have hd1:ds2.length=1:=by rw[hl1,hone]
    have hv1:vals.length=1:=by rw[hl2,hone]
    obtain⟨⟨d,b⟩,rfl⟩:=eO.1 hd1;obtain⟨v,rfl⟩:=eO.1 hv1;obtain⟨v',h1,h2⟩:=part 0 (d,b) rfl;obtain rfl:v=v':=by simpa using h1
    rw[if_pos hone]at h2;simp only[retS];by_cases hp:(b||d.frz)=true
    ·rw[if_pos hp]at h2|-
     exact h2
    ·rw[if_neg hp]at h2|-
     exact h2
   ·have hd1:∀p,ds2≠[p]:=fun p e=>by rw[e]at hl1;simp at hl1;exact hone hl1.symm
    have htup:retS ds2= .tup (ds2.map fun p=>if p.2||p.1.frz then .val p.1 else .own p.1):=by
     unfold retS;split
     ·rename_i d b;exact absurd rfl (hd1 _)
     ·rfl
    rw[htup];refine⟨vals.toArray,?_,by simp[hl1,hl2],fun j x hx=> ?_⟩
    ·rw[dif_neg];simp[hl2,hone]
    ·simp only[aQ,aL]at hx;obtain⟨p,hp,rfl⟩:=hx;obtain⟨v,h1,h2⟩:=part j p hp;have hv:vals.toArray.getD j undef=v:=by simp[aF,h1]
     rw[hv];by_cases hpf:(p.2||p.1.frz)=true
     ·rw[if_pos hpf]at h2|-
      exact h2
     ·rw[if_neg hpf]at h2|-
      rw[if_neg hone]at h2;exact h2
 cases e with
 |normal=>exact key hK
 |ret=>exact key hK
 |_=>exact hK.elim
attribute [go_sem] endW wSt putG putR putC getG
end Go.Dv
end
section
namespace Go.Dv
open Go.RowKit Go.Pl
variable [lG]
variable {ds:List D}
def argB_nil :argB [] ds=argSt ds:=rfl
variable {b:Nat}{gs:List (Nat×D)}
def argB_cons {d:D}:argB ((b,d)::gs) ds=(argB gs ds).put (1000000+2*b) (.rp d):=rfl
variable {P:Program}{f:FuncId}{fn:Func}{c:Code}{n:Nat}{rs:List ResultVar}
def fB {T:TypeId->TyE}{Q:S->Prop}[hG:wQ P T] (sp:List Nat) (hn':fn.ntmps=n) (h:∀w0 ow0,@WC _ P T n w0 ow0 none sp ⟨c⟩ (argB gs ds) ⟨endR T rs Q⟩) (hf:P.funcs[f]?=some fn:=by rfl)
  (hb:fn.body=some c:=by rfl) (hr:fn.results=rs.toArray:=by rfl) (hn:n<=1000000:=by decide) (hd:ds.length<=n:=by simp):yY P f ds gs Q:=azC hG.g hf hb hn' hn hd hr fun w0 ow0=>wcI hG.g sp (h w0 ow0) (zD c)
def ckB {rs:List Nat}{K:S->Prop}{r:S}(h:yY P f ds gs (fun r'=>r'=r))(hK:(rs=[]\/r.closed=true)/\K r):(ap9 (k:=⟨K⟩) P f ds gs rs):=au1 h hK.1 hK.2
variable {cs:List (Nat×Option D)}{rd:List (Nat×D)}{Q:S->List D->Prop}
def fW {T:TypeId->TyE}[hG:wQ P T] (sp:List Nat) (hn':fn.ntmps=n) (h:∀w0 ow0,@WC _ P T n w0 ow0 none sp ⟨c⟩ (wSt ds cs rd gs) ⟨endW T rs gs Q⟩) (hf:P.funcs[f]?=some fn:=by rfl)
  (hb:fn.body=some c:=by rfl) (hr:fn.results=rs.toArray:=by rfl) (hn:n<=1000000:=by decide) (hd:ds.length+cs.length<=n:=by simp) (hcs:∀c∈cs,match c.2 with|none=>∃g∈gs,g.1=c.1|some d=>∃p∈rd,p=(c.1,d):=by simp):FnW P f ds cs rd gs Q:=aJZ hG.g hf hb hn' hn hd hr hcs fun w0 ow0=>wcI hG.g sp (h w0 ow0) (zD c)
variable {s:St}
def ay1 {T:TypeId->TyE}:endW T rs gs Q .normal s=retL T rs s fun ds s2=>getG gs s2 fun ds'=>Q (retS ds) ds':=rfl
def ay2 {T:TypeId->TyE}:endW T rs gs Q .ret s=retL T rs s fun ds s2=>getG gs s2 fun ds'=>Q (retS ds) ds':=rfl
attribute [go_sem ↓] ay1 ay2
class aJU where
 P:Prop
def aGB [E:aJU]:Prop:=E.P
def X3 {A:Prop}(h:A): @aGB ⟨A⟩:=h
def VS {bs rs:List Nat}{L:List (Nat×D)->List (Nat×D)->(List Nat->Prop)->Prop}{K:S->List D->List (Nat×D)->Prop}(h:FnW P f ds cs rd gs Q) (hc:cs.map (fun c=>c.1)=bs)
  (hL:L rd gs fun rs2=>(∀r∈rs++rs2,∀g∈gs,r≠1000000+2*g.1)/\ @aGB ⟨∀r ds',Q r ds'->(rs++rs2=[]\/(r.closed=true/\D.nI ds'=true))/\K r ds' gs⟩): @ayH _ P f ds bs rs ⟨L,K⟩:=adR h hc hL
variable {u:Nat}{K:List Nat->St->Prop}
def pI {c:Nat}{cs:List Nat}(d:D)(hs:s c= .own (.bx true d))(h:∀b,oK s b->SS u ((((s.kill (1000000+2*b)).kill c).put (1000000+2*b) (.own (.bx true d))).put c (.rf (1000000+2*b) [0])) cs fun bs s'=>K (b::bs) s')(h1:u≠c:=by decide)(h2:c<1000000:=by decide):SS u s (c::cs) K:=by
 unfold SS;refine⟨h1,h2,?_⟩;rw[hs];exact h
def Y6 (h:K [] s):SS u s [] K:=h
def nJ:List Nat->Prop
 |[]=>True
 |a::l=>(∀b∈l,¬a=b/\¬b=a)/\nJ l
def gl_ne (h:n<1000000):(n=1000000+2*b)=False:=eq_false (by omega)
def gl_en (h:n<1000000):(1000000+2*b=n)=False:=eq_false (by omega)
def gl_lt :(1000000+2*b<1000000)=False:=eq_false (by omega)
def gl_eq {c:Nat}:(1000000+2*b=1000000+2*c)=(b=c):=propext ⟨fun h=>by omega,fun h=>by rw[h]⟩
def gl_eq2 {c:Nat}:(2*b=2*c)=(b=c):=propext ⟨fun h=>by omega,fun h=>by rw[h]⟩
attribute [go_sem] gl_ne gl_en gl_lt gl_eq gl_eq2
attribute [go_sem] argB_nil argB_cons
end Go.Dv
end
section
namespace Go.Dv
open Go.RowKit
variable [lG]
def apM {P:Program}{n:Nat}{s:St}(k G:Nat){d:D}(h1:s k= .rf G [0])(h2:s G= .own (.bx true d))(hk:k≠far0):uY P n s ((s.TW G).put k (.val (D.bx false d.fz))):=by
 intro w0 ow0 a w ⟨ow,hf⟩;have hkG:k≠G:=by rintro rfl;rw[h1]at h2;cases h2
 have hv:aval a k=aval a G:=by
  have hV:=hf.slot k;rw[h1]at hV;obtain⟨d',m,b,off,e1,e2,e3,e4⟩:=hV;rw[h2]at e1;obtain rfl:D.bx true d=d':=by injection e1
  have hG:=hf.slot G;rw[h2]at hG;simp only[SV,V,R]at hG;obtain⟨b2,off2,C,e,fz,cs',g1,_⟩:=hG;have g1:aval a G= .pointer (some ⟨b2,off2,none⟩):=by simpa using g1
  rw[g1]at e3;simp only[loc,into,if_true,eT,aJ,cK]at e3;obtain⟨rfl,rfl⟩:=e3;rw[e4,g1]
 obtain⟨ow',hf'⟩:=hf.TW G;have hsG:(s.TW G) G= .val (D.bx true d).fz:=by unfold St.TW;rw[h2];simp[St.put]
 have hsk:((s.TW G) k).fJ=false:=by
  unfold St.TW;rw[h2];simp only[St.put,if_neg hkG];unfold St.kill;simp[hkG,h1,S.drop,S.root,S.fJ]
 refine⟨_,hf'.tell hk hsk ?_⟩;have:=hf'.slot G;rw[hsG]at this;simp only[SV,D.fz,D.XP]at this|-
 rw[hv];exact this
end Go.Dv
end
section
namespace Go.Proofs
open Tryz
open Go.Shelf
def Tryz.anS:Go.Shelf.Ren:=⟨fun|125=>286|128=>355|129=>356|n=>n,fun|46=>264|3=>3|51=>314|53=>316|4=>4|5=>5|9=>9|n=>n,fun|n=>n⟩
def Tryz.aED:Go.Proofs.Lays.n125 Tryz.prog Tryz.anS:={
 mixed:=by kernel_rfl
 f125:=func286.trans cSz
 f128:=func355.trans cSz
 f129:=func356.trans cSz
 t3:=underlying3
 a3:=isAgg3
 z3:=sizeOf3
 v3:=zeroValue3
 t4:=underlying4
 a4:=isAgg4
 z4:=sizeOf4
 v4:=zeroValue4
 t5:=underlying5
 a5:=isAgg5
 z5:=sizeOf5
 v5:=zeroValue5
 t9:=underlying9
 a9:=isAgg9
 z9:=sizeOf9
 v9:=zeroValue9
 t46:=underlying264
 a46:=isAgg264
 z46:=sizeOf264
 v46:=zeroValue264
 t51:=underlying314
 a51:=isAgg314
 z51:=sizeOf314
 v51:=zeroValue314
 t53:=underlying316
 a53:=isAgg316
 z53:=sizeOf316
 v53:=zeroValue316}
def Tryz.bits_Len (x:Int)(w:World)(h0:0<=x)(h1:x<=18446744073709551615):
  Calls Tryz.prog 286 #[.int .u64 x] w fun e w'=>e= .returned (.int .i64 (Lib.bitLen x.toNat))/\w'=w:=Any.bits_Len Tryz.aED x w h0 h1
def Tryz.aj9:Go.Shelf.Ren:=⟨fun|171=>373|243=>424|246=>452|283=>467|284=>468|285=>469|286=>470|129=>356|317=>475|318=>476|319=>477|320=>478|337=>479|338=>480|n=>n,fun|3=>3|9=>9|2=>2|4=>4|171=>398|0=>0|53=>316|37=>218|5=>5|173=>400|212=>408|51=>314|20=>20|213=>409|46=>264|232=>410|233=>411|n=>n,fun|17=>6|18=>7|19=>8|n=>n⟩
def Tryz.aAC:Go.Proofs.LaysM.n171 Tryz.prog Tryz.aj9:={
 mixed:=by kernel_rfl
 f129:=func356.trans cSz
 f171:=func373.trans cSz
 f243:=func424.trans cSz
 f246:=func452.trans cSz
 f283:=func467.trans cSz
 f284:=func468.trans cSz
 f285:=func469.trans cSz
 f286:=func470.trans cSz
 f317:=func475.trans cSz
 f318:=func476.trans cSz
 f319:=func477.trans cSz
 f320:=func478.trans cSz
 f337:=func479.trans cSz
 f338:=func480.trans cSz
 t0:=underlying0
 a0:=isAgg0
 z0:=sizeOf0
 v0:=zeroValue0
 t2:=underlying2
 a2:=isAgg2
 z2:=sizeOf2
 v2:=zeroValue2
 t3:=underlying3
 a3:=isAgg3
 z3:=sizeOf3
 v3:=zeroValue3
 t4:=underlying4
 a4:=isAgg4
 z4:=sizeOf4
 v4:=zeroValue4
 t5:=underlying5
 a5:=isAgg5
 z5:=sizeOf5
 v5:=zeroValue5
 t9:=underlying9
 a9:=isAgg9
 z9:=sizeOf9
 v9:=zeroValue9
 t20:=underlying20
 a20:=isAgg20
 z20:=sizeOf20
 v20:=zeroValue20
 t37:=underlying218
 a37:=isAgg218
 z37:=sizeOf218
 v37:=zeroValue218
 t46:=underlying264
 a46:=isAgg264
 z46:=sizeOf264
 v46:=zeroValue264
 t51:=underlying314
 a51:=isAgg314
 z51:=sizeOf314
 v51:=zeroValue314
 t53:=underlying316
 a53:=isAgg316
 z53:=sizeOf316
 v53:=zeroValue316
 t171:=underlying398
 a171:=isAgg398
 z171:=sizeOf398
 v171:=zeroValue398
 t173:=underlying400
 a173:=isAgg400
 z173:=sizeOf400
 v173:=zeroValue400
 t212:=underlying408
 a212:=isAgg408
 z212:=sizeOf408
 v212:=zeroValue408
 t213:=underlying409
 a213:=isAgg409
 z213:=sizeOf409
 t232:=underlying410
 a232:=isAgg410
 z232:=sizeOf410
 v232:=zeroValue410
 t233:=underlying411
 a233:=isAgg411
 z233:=sizeOf411
 v233:=zeroValue411
 g17:=by kernel_rfl
 g18:=by kernel_rfl
 g19:=by kernel_rfl
 i0:=by kernel_rfl
 i2:=by kernel_rfl
 i3:=by kernel_rfl
 i4:=by kernel_rfl
 i5:=by kernel_rfl
 i9:=by kernel_rfl
 i20:=by kernel_rfl
 i37:=by kernel_rfl
 i46:=by kernel_rfl
 i51:=by kernel_rfl
 i53:=by kernel_rfl
 i171:=by kernel_rfl
 i173:=by kernel_rfl
 i212:=by kernel_rfl
 i232:=by kernel_rfl
 i233:=by kernel_rfl
 m17:=by kernel_rfl
 m18:=by kernel_rfl
 m19:=by kernel_rfl}
open Go.RowKit Go.Sort Go.Lib in
def Tryz.strconv_Itoa (n:Int)(h0: -9223372036854775808<=n)(h1:n<=9223372036854775807)(w:World)(htab:Lib.TabIs Tryz.prog w "internal/strconv.uint64pow10" .u64 Lib.pow10Tab):
  Calls Tryz.prog 373 #[.int .i64 n] w fun e w'=>e= .returned (.string ⟨(Lib.itoa n).toArray⟩)/\∃k os,w'=grow (w.drewN k) os:=Any.strconv_Itoa Tryz.aAC n h0 h1 w htab
def Tryz.aj8:Go.Shelf.Ren:=⟨fun|172=>306|244=>371|245=>372|247=>419|279=>420|280=>421|281=>422|282=>423|287=>449|316=>450|171=>373|205=>451|321=>465|322=>466|243=>424|246=>452|283=>467|284=>468|285=>469|286=>470|129=>356|317=>475|318=>476|319=>477|320=>478|337=>479|338=>480|n=>n,fun|9=>9|3=>3|75=>281|76=>282|4=>4|5=>5|167=>354|37=>218|0=>0|85=>355|2=>2|168=>357|53=>316|175=>378|46=>264|210=>381|127=>376|145=>397|143=>395|21=>21|171=>398|173=>400|212=>408|51=>314|20=>20|213=>409|232=>410|233=>411|80=>351|n=>n,fun|15=>1|16=>2|17=>6|18=>7|19=>8|n=>n⟩
def Tryz.afE:Go.Proofs.LaysC.n172 Tryz.prog Tryz.aj8:={
 mixed:=by kernel_rfl
 f129:=func356.trans cSz
 f171:=func373.trans cSz
 f172:=func306.trans cSz
 f205:=func451.trans cSz
 f243:=func424.trans cSz
 f244:=func371.trans cSz
 f245:=func372.trans cSz
 f246:=func452.trans cSz
 f247:=func419.trans cSz
 f279:=func420.trans cSz
 f280:=func421.trans cSz
 f281:=func422.trans cSz
 f282:=func423.trans cSz
 f283:=func467.trans cSz
 f284:=func468.trans cSz
 f285:=func469.trans cSz
 f286:=func470.trans cSz
 f287:=func449.trans cSz
 f316:=func450.trans cSz
 f317:=func475.trans cSz
 f318:=func476.trans cSz
 f319:=func477.trans cSz
 f320:=func478.trans cSz
 f321:=func465.trans cSz
 f322:=func466.trans cSz
 f337:=func479.trans cSz
 f338:=func480.trans cSz
 t0:=underlying0
 a0:=isAgg0
 z0:=sizeOf0
 v0:=zeroValue0
 t2:=underlying2
 a2:=isAgg2
 z2:=sizeOf2
 v2:=zeroValue2
 t3:=underlying3
 a3:=isAgg3
 z3:=sizeOf3
 v3:=zeroValue3
 t4:=underlying4
 a4:=isAgg4
 z4:=sizeOf4
 v4:=zeroValue4
 t5:=underlying5
 a5:=isAgg5
 z5:=sizeOf5
 v5:=zeroValue5
 t9:=underlying9
 a9:=isAgg9
 z9:=sizeOf9
 v9:=zeroValue9
 t20:=underlying20
 a20:=isAgg20
 z20:=sizeOf20
 v20:=zeroValue20
 t21:=underlying21
 a21:=isAgg21
 z21:=sizeOf21
 v21:=zeroValue21
 t37:=underlying218
 a37:=isAgg218
 z37:=sizeOf218
 v37:=zeroValue218
 t46:=underlying264
 a46:=isAgg264
 z46:=sizeOf264
 v46:=zeroValue264
 t51:=underlying314
 a51:=isAgg314
 z51:=sizeOf314
 v51:=zeroValue314
 t53:=underlying316
 a53:=isAgg316
 z53:=sizeOf316
 v53:=zeroValue316
 t75:=underlying281
 a75:=isAgg281
 z75:=sizeOf281
 v75:=zeroValue281
 t76:=underlying282
 a76:=isAgg282
 z76:=sizeOf282
 v76:=zeroValue282
 t85:=underlying355
 a85:=isAgg355
 z85:=sizeOf355
 v85:=zeroValue355
 t127:=underlying376
 a127:=isAgg376
 z127:=sizeOf376
 v127:=zeroValue376
 t143:=underlying395
 a143:=isAgg395
 z143:=sizeOf395
 v143:=zeroValue395
 t145:=underlying397
 a145:=isAgg397
 z145:=sizeOf397
 v145:=zeroValue397
 t167:=underlying354
 a167:=isAgg354
 z167:=sizeOf354
 v167:=zeroValue354
 t168:=underlying357
 a168:=isAgg357
 z168:=sizeOf357
 v168:=zeroValue357
 t171:=underlying398
 a171:=isAgg398
 z171:=sizeOf398
 v171:=zeroValue398
 t173:=underlying400
 a173:=isAgg400
 z173:=sizeOf400
 v173:=zeroValue400
 t175:=underlying378
 a175:=isAgg378
 z175:=sizeOf378
 v175:=zeroValue378
 t210:=underlying381
 a210:=isAgg381
 z210:=sizeOf381
 v210:=zeroValue381
 t212:=underlying408
 a212:=isAgg408
 z212:=sizeOf408
 v212:=zeroValue408
 t213:=underlying409
 a213:=isAgg409
 z213:=sizeOf409
 t232:=underlying410
 a232:=isAgg410
 z232:=sizeOf410
 v232:=zeroValue410
 t233:=underlying411
 a233:=isAgg411
 z233:=sizeOf411
 v233:=zeroValue411
 g15:=by kernel_rfl
 g16:=by kernel_rfl
 g17:=by kernel_rfl
 g18:=by kernel_rfl
 g19:=by kernel_rfl
 t80:=underlying351
 a80:=isAgg351
 z80:=sizeOf351
 v80:=zeroValue351
 i0:=by kernel_rfl
 i2:=by kernel_rfl
 i3:=by kernel_rfl
 i4:=by kernel_rfl
 i5:=by kernel_rfl
 i9:=by kernel_rfl
 i20:=by kernel_rfl
 i21:=by kernel_rfl
 i37:=by kernel_rfl
 i46:=by kernel_rfl
 i51:=by kernel_rfl
 i53:=by kernel_rfl
 i75:=by kernel_rfl
 i76:=by kernel_rfl
 i80:=by kernel_rfl
 i85:=by kernel_rfl
 i127:=by kernel_rfl
 i143:=by kernel_rfl
 i145:=by kernel_rfl
 i167:=by kernel_rfl
 i168:=by kernel_rfl
 i171:=by kernel_rfl
 i173:=by kernel_rfl
 i175:=by kernel_rfl
 i210:=by kernel_rfl
 i212:=by kernel_rfl
 i232:=by kernel_rfl
 i233:=by kernel_rfl
 m15:=by kernel_rfl
 m16:=by kernel_rfl
 m17:=by kernel_rfl
 m18:=by kernel_rfl
 m19:=by kernel_rfl
 c0:=by kernel_rfl
 c2:=by kernel_rfl
 c3:=by kernel_rfl
 c4:=by kernel_rfl
 c5:=by kernel_rfl
 c9:=by kernel_rfl
 c20:=by kernel_rfl
 c21:=by kernel_rfl
 c37:=by kernel_rfl
 c46:=by kernel_rfl
 c51:=by kernel_rfl
 c53:=by kernel_rfl
 c75:=by kernel_rfl
 c76:=by kernel_rfl
 c80:=by kernel_rfl
 c85:=by kernel_rfl
 c127:=by kernel_rfl
 c143:=by kernel_rfl
 c145:=by kernel_rfl
 c167:=by kernel_rfl
 c168:=by kernel_rfl
 c171:=by kernel_rfl
 c173:=by kernel_rfl
 c175:=by kernel_rfl
 c210:=by kernel_rfl
 c212:=by kernel_rfl
 c213:=by kernel_rfl
 c232:=by kernel_rfl
 c233:=by kernel_rfl}
open Go.RowKit in
def Tryz.strconv_Atoi_ok (s:ByteArray)(hmax:s.size<=9223372036854775806)(v:Int)(h:Lib.atoiAll s.data.toList= .ok v)(w:World):
  Calls Tryz.prog 306 #[.string s] w fun e w'=>e= .returned (.tuple #[.int .i64 v,.nilIface])/\(w'=w\/∃t,w'=Lib.bytesWorld w 5 t):=Any.strconv_Atoi_ok Tryz.afE s hmax v h w
open Go.RowKit in
def Tryz.strconv_Atoi_syntax_var (s:ByteArray)(hlim:s.size<=281474976710656)(h1:∀v,Lib.atoiAll s.data.toList≠ .ok v)(h2:Lib.atoiAll s.data.toList≠ .range)(tp:TypeId)(p:Value)(w:World)(hvar:w.var? Tryz.prog "strconv.ErrSyntax" =some #[.iface tp p]):
  Calls Tryz.prog 306 #[.string s] w fun e w'=>∃N,e= .returned (.tuple #[.int .i64 0,.iface 357 (.pointer (some ⟨N,0,none⟩))])/\w.heap.size<=N/\w'.heap[N]?=some (.cells #[.string ⟨#[65,116,111,105]⟩,.string s,.iface tp p] 381 (0,0))/\Below w.heap.size w w':=by
 cases hx:Lib.atoiAll s.data.toList with
 |ok v=>exact absurd hx (h1 v)
 |range=>exact absurd hx h2
 |_=>exact Any.strconv_Atoi_syntax_var Tryz.afE s hlim hx tp p w hvar
open Go.RowKit in
def Tryz.strconv_Atoi_range_var (s:ByteArray)(hlim:s.size<=281474976710656)(h:Lib.atoiAll s.data.toList= .range)(tp:TypeId)(p:Value)(w:World)(hvar:w.var? Tryz.prog "strconv.ErrRange" =some #[.iface tp p]):
  Calls Tryz.prog 306 #[.string s] w fun e w'=>∃N,e= .returned (.tuple #[.int .i64 (Lib.atoiSat s.data.toList),.iface 357 (.pointer (some ⟨N,0,none⟩))])/\w.heap.size<=N/\w'.heap[N]?=some (.cells #[.string ⟨#[65,116,111,105]⟩,.string s,.iface tp p] 381 (0,0))/\Below w.heap.size w w':=Any.strconv_Atoi_range_var Tryz.afE s hlim h tp p w hvar
def Tryz.anU:Go.Shelf.Ren:=⟨fun|190=>225|125=>286|258=>304|128=>355|129=>356|302=>362|303=>363|304=>364|305=>365|306=>366|307=>367|308=>368|309=>369|310=>370|333=>415|329=>405|330=>406|334=>416|335=>417|336=>418|344=>448|n=>n,fun|31=>72|9=>9|3=>3|46=>264|0=>0|51=>314|53=>316|4=>4|183=>308|182=>307|131=>165|5=>5|218=>340|222=>344|228=>372|229=>373|n=>n,fun|n=>n⟩
def Tryz.aEG:Go.Proofs.Lays.n190 Tryz.prog Tryz.anU:={
 mixed:=by kernel_rfl
 f125:=func286.trans cSz
 f128:=func355.trans cSz
 f129:=func356.trans cSz
 f190:=func225.trans cSz
 f258:=func304.trans cSz
 f302:=func362.trans cSz
 f303:=func363.trans cSz
 f304:=func364.trans cSz
 f305:=func365.trans cSz
 f306:=func366.trans cSz
 f307:=func367.trans cSz
 f308:=func368.trans cSz
 f309:=func369.trans cSz
 f310:=func370.trans cSz
 f329:=func405.trans cSz
 f330:=func406.trans cSz
 f333:=func415.trans cSz
 f334:=func416.trans cSz
 f335:=func417.trans cSz
 f336:=func418.trans cSz
 f344:=func448.trans cSz
 t0:=underlying0
 a0:=isAgg0
 z0:=sizeOf0
 v0:=zeroValue0
 t3:=underlying3
 a3:=isAgg3
 z3:=sizeOf3
 v3:=zeroValue3
 t4:=underlying4
 a4:=isAgg4
 z4:=sizeOf4
 v4:=zeroValue4
 t5:=underlying5
 a5:=isAgg5
 z5:=sizeOf5
 v5:=zeroValue5
 t9:=underlying9
 a9:=isAgg9
 z9:=sizeOf9
 v9:=zeroValue9
 t31:=underlying72
 a31:=isAgg72
 z31:=sizeOf72
 v31:=zeroValue72
 t46:=underlying264
 a46:=isAgg264
 z46:=sizeOf264
 v46:=zeroValue264
 t51:=underlying314
 a51:=isAgg314
 z51:=sizeOf314
 v51:=zeroValue314
 t53:=underlying316
 a53:=isAgg316
 z53:=sizeOf316
 v53:=zeroValue316
 t131:=underlying165
 a131:=isAgg165
 z131:=sizeOf165
 v131:=zeroValue165
 t182:=underlying307
 a182:=isAgg307
 z182:=sizeOf307
 v182:=zeroValue307
 t183:=underlying308
 a183:=isAgg308
 z183:=sizeOf308
 v183:=zeroValue308
 t218:=underlying340
 a218:=isAgg340
 z218:=sizeOf340
 v218:=zeroValue340
 t222:=underlying344
 a222:=isAgg344
 z222:=sizeOf344
 v222:=zeroValue344
 t228:=underlying372
 a228:=isAgg372
 z228:=sizeOf372
 v228:=zeroValue372
 t229:=underlying373
 a229:=isAgg373
 z229:=sizeOf373
 v229:=zeroValue373}
open Go.Sort Go.RowKit in
def Tryz.slices_Sort_string (blk off cap:Nat)(ss:List (List UInt8))(w:World)(hH:Holds encStr w blk off ss.toArray)(hblk:blk<w.heap.size)(hsz:ss.length<4611686018427387904):
  Calls Tryz.prog 225 #[.slice (some ⟨blk,off,none⟩) ss.length cap] w fun e w'=>
   e= .returned (.tuple #[])/\∃n os,w'=grow (putRow encStr (Sort.ahead w n) blk off (ss.mergeSort fun x y=>decide (x<=y)).toArray) os:=Any.slices_Sort_string Tryz.aEG blk off cap ss w hH hblk hsz
def Tryz.anQ:Go.Shelf.Ren:=⟨fun|100=>141|207=>232|n=>n,fun|9=>9|4=>4|3=>3|n=>n,fun|n=>n⟩
def Tryz.aEB:Go.Proofs.Lays.n100 Tryz.prog Tryz.anQ:={
 mixed:=by kernel_rfl
 f100:=func141.trans cSz
 f207:=func232.trans cSz
 t3:=underlying3
 a3:=isAgg3
 z3:=sizeOf3
 v3:=zeroValue3
 t4:=underlying4
 a4:=isAgg4
 z4:=sizeOf4
 v4:=zeroValue4
 t9:=underlying9
 a9:=isAgg9
 z9:=sizeOf9
 v9:=zeroValue9}
open Go.RowKit Go.Lib in
def Tryz.strings_HasSuffix (s p:ByteArray)(w:World)(hs:s.size<=9223372036854775807):
  Calls Tryz.prog 141 #[.string s,.string p] w fun e w'=>e= .returned (.bool (Lib.hasSuffix s.data.toList p.data.toList))/\w'=w:=Any.strings_HasSuffix Tryz.aEB s p w hs
def Tryz.anR:Go.Shelf.Ren:=⟨fun|102=>295|209=>358|207=>232|n=>n,fun|9=>9|4=>4|3=>3|n=>n,fun|n=>n⟩
def Tryz.aEC:Go.Proofs.Lays.n102 Tryz.prog Tryz.anR:={
 mixed:=by kernel_rfl
 f102:=func295.trans cSz
 f207:=func232.trans cSz
 f209:=func358.trans cSz
 t3:=underlying3
 a3:=isAgg3
 z3:=sizeOf3
 v3:=zeroValue3
 t4:=underlying4
 a4:=isAgg4
 z4:=sizeOf4
 v4:=zeroValue4
 t9:=underlying9
 a9:=isAgg9
 z9:=sizeOf9
 v9:=zeroValue9}
open Go.RowKit Go.Lib in
def Tryz.strings_TrimSuffix (s p:ByteArray)(w:World)(hs:s.size<=9223372036854775807):
  Calls Tryz.prog 295 #[.string s,.string p] w fun e w'=>e= .returned (.string ⟨(Lib.trimSuffix s.data.toList p.data.toList).toArray⟩)/\w'=w:=Any.strings_TrimSuffix Tryz.aEC s p w hs
def Tryz.aaY:Go.Shelf.Ren:=⟨fun|155=>297|154=>359|138=>409|165=>410|143=>411|166=>412|197=>413|169=>414|195=>442|218=>443|240=>444|241=>445|219=>446|260=>447|276=>461|277=>462|217=>463|225=>456|224=>455|267=>464|266=>473|314=>474|n=>n,fun|9=>9|3=>3|4=>4|72=>348|0=>0|76=>282|105=>349|21=>21|5=>5|70=>346|20=>20|37=>218|75=>281|127=>376|164=>388|46=>264|119=>391|139=>394|138=>393|146=>402|51=>314|80=>351|n=>n,fun|1=>3|3=>4|4=>5|n=>n⟩
def Tryz.aEF:Go.Proofs.Lays.n155 Tryz.prog Tryz.aaY:={
 mixed:=by kernel_rfl
 f138:=func409.trans cSz
 f143:=func411.trans cSz
 f154:=func359.trans cSz
 f155:=func297.trans cSz
 f165:=func410.trans cSz
 f166:=func412.trans cSz
 f169:=func414.trans cSz
 f195:=func442.trans cSz
 f197:=func413.trans cSz
 f217:=func463.trans cSz
 f218:=func443.trans cSz
 f219:=func446.trans cSz
 f224:=func455.trans cSz
 f225:=func456.trans cSz
 f240:=func444.trans cSz
 f241:=func445.trans cSz
 f260:=func447.trans cSz
 f266:=func473.trans cSz
 f267:=func464.trans cSz
 f276:=func461.trans cSz
 f277:=func462.trans cSz
 f314:=func474.trans cSz
 t0:=underlying0
 a0:=isAgg0
 z0:=sizeOf0
 v0:=zeroValue0
 t3:=underlying3
 a3:=isAgg3
 z3:=sizeOf3
 v3:=zeroValue3
 t4:=underlying4
 a4:=isAgg4
 z4:=sizeOf4
 v4:=zeroValue4
 t5:=underlying5
 a5:=isAgg5
 z5:=sizeOf5
 v5:=zeroValue5
 t9:=underlying9
 a9:=isAgg9
 z9:=sizeOf9
 v9:=zeroValue9
 t20:=underlying20
 a20:=isAgg20
 z20:=sizeOf20
 v20:=zeroValue20
 t21:=underlying21
 a21:=isAgg21
 z21:=sizeOf21
 v21:=zeroValue21
 t37:=underlying218
 a37:=isAgg218
 z37:=sizeOf218
 v37:=zeroValue218
 t46:=underlying264
 a46:=isAgg264
 z46:=sizeOf264
 v46:=zeroValue264
 t51:=underlying314
 a51:=isAgg314
 z51:=sizeOf314
 v51:=zeroValue314
 t70:=underlying346
 a70:=isAgg346
 z70:=sizeOf346
 v70:=zeroValue346
 t72:=underlying348
 a72:=isAgg348
 z72:=sizeOf348
 v72:=zeroValue348
 t75:=underlying281
 a75:=isAgg281
 z75:=sizeOf281
 v75:=zeroValue281
 t76:=underlying282
 a76:=isAgg282
 z76:=sizeOf282
 v76:=zeroValue282
 t105:=underlying349
 a105:=isAgg349
 z105:=sizeOf349
 v105:=zeroValue349
 t119:=underlying391
 a119:=isAgg391
 z119:=sizeOf391
 t127:=underlying376
 a127:=isAgg376
 z127:=sizeOf376
 v127:=zeroValue376
 t138:=underlying393
 a138:=isAgg393
 z138:=sizeOf393
 v138:=zeroValue393
 t139:=underlying394
 a139:=isAgg394
 z139:=sizeOf394
 v139:=zeroValue394
 t146:=underlying402
 a146:=isAgg402
 z146:=sizeOf402
 v146:=zeroValue402
 t164:=underlying388
 a164:=isAgg388
 z164:=sizeOf388
 v164:=zeroValue388
 g1:=by kernel_rfl
 g3:=by kernel_rfl
 g4:=by kernel_rfl}
def Tryz.VL:Builder.Extra Tryz.prog Tryz.aaY:={
 sizeBuilder:=by kernel_rfl
 liesBuilder:=by kernel_rfl
 t5:=underlying5
 a5:=isAgg5
 z5:=sizeOf5
 v5:=zeroValue5
 infoByte:=by kernel_rfl
 cellsByte:=by kernel_rfl
 sizeByte:=by kernel_rfl
 neB5:=by decide}
open Go.RowKit Go.Lib in
def Tryz.strings_ReplaceAll (s old new:ByteArray)(m:Int)(w:World)(hs:s.size<4294967281)(hm:w.cell? ⟨3,0,none⟩=some (.int .i64 m))(h1:1<=old.size)(hlen:s.size+Lib.countB s old*new.size<=140737488355328):
  Calls Tryz.prog 297 #[.string s,.string old,.string new] w fun e w'=>
   e= .returned (.string ⟨(Lib.replaceAll s.data.toList old.data.toList new.data.toList).toArray⟩)/\Below w.heap.size w w':=Any.strings_ReplaceAll Tryz.aEF Tryz.VL s old new m w hs hm h1 hlen
def Tryz.anT:Go.Shelf.Ren:=⟨fun|150=>319|153=>375|152=>425|226=>426|227=>427|228=>428|137=>453|119=>454|224=>455|225=>456|217=>463|266=>473|n=>n,fun|9=>9|4=>4|3=>3|5=>5|21=>21|117=>363|116=>362|0=>0|46=>264|124=>384|n=>n,fun|n=>n⟩
def Tryz.aEE:Go.Proofs.Lays.n150 Tryz.prog Tryz.anT:={
 mixed:=by kernel_rfl
 f119:=func454.trans cSz
 f137:=func453.trans cSz
 f150:=func319.trans cSz
 f152:=func425.trans cSz
 f153:=func375.trans cSz
 f217:=func463.trans cSz
 f224:=func455.trans cSz
 f225:=func456.trans cSz
 f226:=func426.trans cSz
 f227:=func427.trans cSz
 f228:=func428.trans cSz
 f266:=func473.trans cSz
 t0:=underlying0
 a0:=isAgg0
 z0:=sizeOf0
 v0:=zeroValue0
 t3:=underlying3
 a3:=isAgg3
 z3:=sizeOf3
 v3:=zeroValue3
 t4:=underlying4
 a4:=isAgg4
 z4:=sizeOf4
 v4:=zeroValue4
 t5:=underlying5
 a5:=isAgg5
 z5:=sizeOf5
 v5:=zeroValue5
 t9:=underlying9
 a9:=isAgg9
 z9:=sizeOf9
 v9:=zeroValue9
 t21:=underlying21
 a21:=isAgg21
 z21:=sizeOf21
 v21:=zeroValue21
 t46:=underlying264
 a46:=isAgg264
 z46:=sizeOf264
 v46:=zeroValue264
 t116:=underlying362
 a116:=isAgg362
 z116:=sizeOf362
 t117:=underlying363
 a117:=isAgg363
 z117:=sizeOf363
 v117:=zeroValue363
 t124:=underlying384
 a124:=isAgg384
 z124:=sizeOf384
 v124:=zeroValue384}
open Go.RowKit Go.Lib in
def Tryz.strings_ContainsAny_laid (s chars:ByteArray)(w:World)(hs:s.size<4294967281)(hcs:chars.size<4294967281)(has:∀(j:Nat) b,s.data.toList[j]?=some b->b.toNat<128)(hac:∀(j:Nat) b,chars.data.toList[j]?=some b->b.toNat<128):
  Calls Tryz.prog 319 #[.string s,.string chars] w fun e w'=>e= .returned (.bool (Lib.containsAny s.data.toList chars.data.toList))/\Below w.heap.size w w':=Any.strings_ContainsAny_laid Tryz.aEE (by kernel_rfl) s chars w hs hcs has hac
def Tryz.anW:Go.Shelf.Ren:=⟨fun|212=>459|263=>471|264=>472|n=>n,fun|46=>264|51=>314|146=>402|53=>316|148=>404|n=>n,fun|n=>n⟩
def Tryz.aEH:Go.Proofs.Lays.n212 Tryz.prog Tryz.anW:={
 mixed:=by kernel_rfl
 f212:=func459.trans cSz
 f263:=func471.trans cSz
 f264:=func472.trans cSz
 t46:=underlying264
 a46:=isAgg264
 z46:=sizeOf264
 v46:=zeroValue264
 t51:=underlying314
 a51:=isAgg314
 z51:=sizeOf314
 v51:=zeroValue314
 t53:=underlying316
 a53:=isAgg316
 z53:=sizeOf316
 v53:=zeroValue316
 t146:=underlying402
 a146:=isAgg402
 z146:=sizeOf402
 v146:=zeroValue402
 t148:=underlying404
 a148:=isAgg404
 z148:=sizeOf404
 v148:=zeroValue404}
open Go.RowKit Go.Lib in
def Tryz.bits_Mul (x y:Nat)(hx:x<18446744073709551616)(hy:y<18446744073709551616)(w:World):
  Calls Tryz.prog 459 #[.int .u64 x,.int .u64 y] w fun e w'=>e= .returned (.tuple #[.int .u64 ((x*y/18446744073709551616:Nat):Int),.int .u64 ((x*y % 18446744073709551616:Nat):Int)])/\w'=w:=Any.bits_Mul Tryz.aEH x y hx hy w
def Tryz.anX:Go.Shelf.Ren:=⟨fun|229=>227|n=>n,fun|9=>9|40=>224|31=>72|152=>276|3=>3|0=>0|4=>4|21=>21|154=>278|n=>n,fun|n=>n⟩
def Tryz.aEI:Go.Proofs.Lays.n229 Tryz.prog Tryz.anX:={
 mixed:=by kernel_rfl
 f229:=func227.trans cSz
 t0:=underlying0
 a0:=isAgg0
 z0:=sizeOf0
 v0:=zeroValue0
 t3:=underlying3
 a3:=isAgg3
 z3:=sizeOf3
 v3:=zeroValue3
 t4:=underlying4
 a4:=isAgg4
 z4:=sizeOf4
 v4:=zeroValue4
 t9:=underlying9
 a9:=isAgg9
 z9:=sizeOf9
 v9:=zeroValue9
 t21:=underlying21
 a21:=isAgg21
 z21:=sizeOf21
 v21:=zeroValue21
 t31:=underlying72
 a31:=isAgg72
 z31:=sizeOf72
 v31:=zeroValue72
 t40:=underlying224
 a40:=isAgg224
 z40:=sizeOf224
 v40:=zeroValue224
 t152:=underlying276
 a152:=isAgg276
 z152:=sizeOf276
 v152:=zeroValue276
 t154:=underlying278
 a154:=isAgg278
 z154:=sizeOf278
 v154:=zeroValue278}
open Go.RowKit Go.Lib in
def Tryz.strings_FieldsFunc_grows (g:Nat)(lb:Array Value)(eg:∀args w,(callFunc g args).run Tryz.prog w= .ok (.enter g args) w)(p:Nat->Bool)(s:ByteArray)(w:World)(hs:s.size<=4294967296)(hp:PredGrows Tryz.prog g lb p w):
  Calls Tryz.prog 227 #[.string s,.func (.func g) #[] lb] w fun e w'=>∃A,e= .returned (.slice (some ⟨A,0,none⟩) (Lib.goFieldsP p s).length (Lib.goFieldsP p s).length)/\w.heap.size<=A/\
   w'.ownsRow w.heap.size 9 1 (.slice (some ⟨A,0,none⟩) (Lib.goFieldsP p s).length (Lib.goFieldsP p s).length) (Lib.goFieldsP p s).length ((Lib.goFieldsP p s).map Value.string)/\Below w.heap.size w w':=Any.strings_FieldsFunc_grows Tryz.aEI g lb eg p s w hs hp (by kernel_rfl) (by kernel_rfl)
def Tryz.agV:Go.Shelf.Ren:=⟨fun|16=>224|n=>n,fun|24=>72|9=>9|4=>4|n=>n,fun|n=>n⟩
def Tryz.ZX:Go.Proofs.Lays2.n16 Tryz.prog Tryz.agV:={
 mixed:=by kernel_rfl
 f16:=func224.trans cSz
 t4:=underlying4
 a4:=isAgg4
 z4:=sizeOf4
 v4:=zeroValue4
 t9:=underlying9
 a9:=isAgg9
 z9:=sizeOf9
 v9:=zeroValue9
 t24:=underlying72
 a24:=isAgg72
 z24:=sizeOf72
 v24:=zeroValue72
 i9:=by kernel_rfl}
open Go.RowKit Go.Lib in
def Tryz.slices_Clone_string (b off n c:Nat)(zs:List ByteArray)(w:World)(hz:n<=zs.length)(hbig:n*16<=140737488355328)(hc:∀j,j<zs.length->w.cell? ⟨b,off+j,none⟩=some (.string (zs.getD j ByteArray.empty))):
  Calls Tryz.prog 224 #[.slice (some ⟨b,off,none⟩) n c] w fun e w'=>∃v',e= .returned v'/\w'.ownsRow w.heap.size 9 1 v' n ((zs.take n).map (Value.string))/\v'≠ .slice none 0 0/\Below w.heap.size w w':=Any.slices_Clone_string Tryz.ZX b off n c zs w hz hbig hc
open Go.RowKit Go.Lib in
def Tryz.slices_Clone_string_nil (n c:Nat)(w:World):
  Calls Tryz.prog 224 #[.slice none n c] w fun e w'=>e= .returned (.slice none 0 0)/\w'=w:=Any.slices_Clone_string_nil Tryz.ZX n c w
open Go.RowKit Go.Lib in
def Tryz.slices_Clone_string_zero (a:Addr)(c:Nat)(w:World):
  Calls Tryz.prog 224 #[.slice (some a) 0 c] w fun e w'=>∃v',e= .returned v'/\w'.ownsRow w.heap.size 9 1 v' 0 []/\v'≠ .slice none 0 0/\Below w.heap.size w w':=Any.slices_Clone_string_zero Tryz.ZX a c w
def Tryz.anV:Go.Shelf.Ren:=⟨fun|194=>226|n=>n,fun|31=>72|9=>9|3=>3|4=>4|0=>0|n=>n,fun|n=>n⟩
def Tryz.atJ:Go.Proofs.Lays.n194 Tryz.prog Tryz.anV:={
 mixed:=by kernel_rfl
 f194:=func226.trans cSz
 t0:=underlying0
 a0:=isAgg0
 z0:=sizeOf0
 v0:=zeroValue0
 t3:=underlying3
 a3:=isAgg3
 z3:=sizeOf3
 v3:=zeroValue3
 t4:=underlying4
 a4:=isAgg4
 z4:=sizeOf4
 v4:=zeroValue4
 t9:=underlying9
 a9:=isAgg9
 z9:=sizeOf9
 v9:=zeroValue9
 t31:=underlying72
 a31:=isAgg72
 z31:=sizeOf72
 v31:=zeroValue72}
open Go.RowKit Go.Lib Go.Sort in
def Tryz.slices_Compact_string (blk off cap:Nat)(zs:List (List UInt8))(w:World)(hH:Holds encStr w blk off zs.toArray)(hsz:zs.length<=9223372036854775807)(hcap:zs.length<=cap):
  Calls Tryz.prog 226 #[.slice (some ⟨blk,off,none⟩) zs.length cap] w fun e w'=>e= .returned (.slice (some ⟨blk,off,none⟩) (Lib.compact zs).length cap)/\∃q,w'=putRow encStr (Sort.ahead w q) blk off (Lib.compact zs++List.replicate (zs.length-(Lib.compact zs).length) []).toArray:=Any.slices_Compact_string Tryz.atJ blk off cap zs w hH hsz hcap
open Go.RowKit Go.Lib Go.Sort in
def Tryz.slices_Compact_string_empty (a:Option Addr)(cap:Nat)(w:World):
  Calls Tryz.prog 226 #[.slice a 0 cap] w fun e w'=>e= .returned (.slice a 0 cap)/\w'=w:=Any.slices_Compact_string_empty Tryz.atJ a cap w
end Go.Proofs
end
section
namespace Go.Dv
open Go.RowKit
variable [lG]
variable {P:Program}{f:FuncId}{fn:Func}{c:Code}{n:Nat}{rs:List ResultVar}{ds:List D}{m:Nat}{dm:D}{Q:S->Prop}
def aI2 {T:TypeId->TyE}(hG:∀t,Good P T t) (hf:P.funcs[f]?=some fn) (hb:fn.body=some c) (hn':fn.ntmps=n) (hn:n<=1000000) (hd:ds.length<=n)
  (hr:fn.results=rs.toArray) (h:∀w0 ow0,OkC P n w0 ow0 none c (mutSt ds m dm) (endR T rs Q)):ac8 P f ds m dm Q:=by
 subst hn';intro w ow vs t l ht hL hnew hvs hm hargs hV;have hm6:m<1000000:=by omega
 refine calls_of_wp hf hb ?_
 have hav:∀i,i<ds.length->aval {tmps:=vs++Array.replicate (fn.ntmps-vs.size) undef,defers:=[]} i=vs.getD i undef:=by
  intro i hi;unfold aval;rw[if_pos (by omega)];simp only[aF];rw[eY (by omega)]
 have hfit:Fits P fn.ntmps w (J7 l m ow) (J7 l m ow) (mutSt ds m dm) {tmps:=vs++Array.replicate (fn.ntmps-vs.size) undef,defers:=[]} w:=by
  refine⟨rfl,by simp;omega,hn,(hL.mono fun b o h1 h2=>⟨h1,mP h2⟩),⟨rfl,rfl,rfl,k_Nat_le_refl _,fun _ _ _=>rfl⟩,fun _ _ h=>h,fun b hb=>mP (hnew b hb),?_,fun _ _ _ h=>⟨rfl,h⟩,fun i=> ?_⟩
  ·unfold mutSt argSt;rw[qL (by unfold far0;omega),k_List_getElem__eq_none (by unfold far0;omega)]
  ·by_cases him:i=m
   ·subst him;simp only[mutSt,put_eq,SV];rw[hav i hm];exact V.tr (fun b _=>⟨fun ho=>⟨rfl,mP ho⟩,fun q hq=>⟨rfl,afF hq⟩⟩) hV
   ·simp only[mutSt,qL him];unfold argSt;cases hdi:ds[i]? with
    |none=>trivial
    |some d=>
     have hi:i<ds.length:=(aD.1 hdi).1;simp only[SV];rw[hav i hi];exact V.trf (fun b _ ho=>⟨rfl,mP ho⟩) (hargs i d hdi him)
 refine h w _ _ w ⟨_,hfit⟩ (by intro m v e;cases e) _ fun e s' a' w' hK hR hp'=> ?_
 have key:(retL T rs s' fun ds s2=>Q (retS ds))->bodyPost P fn (fun e w'=>∃v ow' r,e= .returned v/\Q r/\w'.os=w.os/\w'.tape=w.tape/\w'.output=w.output/\w.heap.size<=w'.heap.size/\
   (∀b,b<w.heap.size->(∀q,ow b≠some (q++l))->w'.heap[b]?=w.heap[b]?/\ow' b=ow b)/\(∀b,w'.heap.size<=b->ow' b=none)/\S.plain r=true/\∀s a,SV P w' ow' s a t r v) .ret a' w':=by
  intro hK;obtain⟨ow1,hf1⟩:=hR;obtain⟨vals,ow2,s2,ds2,hQ,hf2,hl1,hl2,hrun,hvals,hkeep⟩:=hf1.retL hG (fun k=>if rs.length=1 then[]else[k]) rs 0 hK
  have hres:(results fn a'.tmps).run P w'= .ok (if h:vals.toArray.size=1 then vals.toArray[0]else .tuple vals.toArray) w':=by
   unfold results;rw[hr];have hb:∀{α β:Type}(x:Sem α) (g:α->Sem β),Sem.run P (Sem.bind x g) w'=(Sem.run P x w').andThen fun a w'=>Sem.run P (g a) w':=fun x g=>aH ..;simp only[sQ,Functor.map,aH,aU];rw[hb,hrun _ (YP a'.tmps P w' _ (fun _=>rfl) fun _ _=>rfl)];rfl
  refine⟨hf1.nodef,_,hres,?_⟩
  have hmiss:∀b,b<w.heap.size->(∀q,ow b≠some (q++l))->w'.heap[b]?=w.heap[b]?/\(ow b=none->ow2 b=none)/\(∀lab,ow b=some lab->ow2 b=some (lab++[far0])):=by
   intro b hlt hno;cases ho:ow b with
   |none=>exact⟨hf2.bel.block b hlt (mP ho),fun _=>hf2.own b hlt (mP ho),fun lab e=>by cases e⟩
   |some lab=>
    have hlab:=aaZ (l:=l) (m:=m) ho (fun hu=>by obtain⟨q,hq⟩:=hu;exact hno q (by rw[ho,hq]));obtain⟨g1,g2⟩:=hf2.keep b hlt lab hlab;exact⟨g1,fun e=>(by cases e),fun lab' e=>by obtain rfl:=k_Option_some_inj e;exact g2⟩
  have hnone:∀b,ow2 b=none->jY w l m t ow ow2 b=none:=by
   intro b hb;unfold jY;split
   ·rename_i hc;cases ho:ow b with
    |none=>rfl
    |some lab=>have:=(hmiss b hc.1 hc.2).2.2 lab ho;rw[hb]at this;cases this
   ·rw[hb]
  have hlast:∀b q j,ow2 b=some (q++[j])->j≠far0->¬(b<w.heap.size/\∀q,ow b≠some (q++l)):=by
   rintro b q j hq hj ⟨h1,h2⟩;obtain⟨_,g1,g2⟩:=hmiss b h1 h2;cases ho:ow b with
   |none=>rw[g1 ho]at hq;cases hq
   |some lab=>
    rw[g2 lab ho]at hq;have:=congrArg List.getLast? (k_Option_some_inj hq);simp at this;exact hj this.symm
  have hmf:m≠far0:=by unfold far0;omega
  have hmr:m≠res0:=by unfold res0;omega
  have hkm:Keeps w' ow2 [m] w' (jY w l m t ow ow2) l:=fun b _=>⟨fun ho=>⟨rfl,hnone b ho⟩,fun q hq=>⟨rfl,by
   unfold jY;rw[if_neg (hlast b q m hq hmf),hq];simp⟩⟩
  have hk:∀l2,Keeps w' ow2 (l2++[res0]) w' (jY w l m t ow ow2) (l2++[t]):=fun l2 b _=>⟨fun ho=>⟨rfl,hnone b ho⟩,fun q hq=>⟨rfl,by
   have hq':ow2 b=some ((q++l2)++[res0]):=by rw[hq];simp
   unfold jY;rw[if_neg (hlast b _ res0 hq' (by unfold res0 far0;omega)),hq'];simp[k_Ne_symm hmr]⟩⟩
  have hq:Quiet w' ow2 w' (jY w l m t ow ow2):=fun b _ ho=>⟨rfl,hnone b ho⟩
  have part:∀(j:Nat) (p:D×Bool),ds2[j]?=some p->∃v,vals[j]?=some v/\(if(p.2||p.1.frz)=true then V P w' (jY w l m t ow ow2) p.1.fz [] v else V P w' (jY w l m t ow ow2) p.1 ((if rs.length=1 then[]else[j])++[t]) v):=by
   intro j p hj;obtain⟨v,h1,h2,h3⟩:=hvals j p hj;rw[bW]at h2;refine⟨v,h1,?_⟩;by_cases hp:(p.2||p.1.frz)=true
   ·rw[if_pos hp]
    have hfz:p.1.fz=p.1:=by
     rcases bM _ _▸hp with hp|hp
     ·exact h3 hp
     ·exact D.UU hp
    rw[←hfz]at h2;exact V.trf hq h2
   ·rw[if_neg hp];exact V.tr (hk _) h2
  refine⟨_,jY w l m t ow ow2,retS ds2,rfl,hQ,hf2.bel.os,hf2.bel.tape,hf2.bel.output,hf2.bel.size,fun b hb hno=>⟨(hmiss b hb hno).1,by unfold jY;rw[if_pos ⟨hb,hno⟩]⟩,fun b hb=>hnone b (hf2.new b hb),?_,fun s a=> ?_⟩
  ·unfold retS;split
   ·split<;>rfl
   ·rfl
  ·by_cases hone:rs.length=1
   ·have hd1:ds2.length=1:=by rw[hl1,hone]
    have hv1:vals.length=1:=by rw[hl2,hone]
    obtain⟨⟨d,b⟩,rfl⟩:=eO.1 hd1;obtain⟨v,rfl⟩:=eO.1 hv1;obtain⟨v',h1,h2⟩:=part 0 (d,b) rfl;obtain rfl:v=v':=by simpa using h1
    rw[if_pos hone]at h2;simp only[retS];by_cases hp:(b||d.frz)=true
    ·rw[if_pos hp]at h2|-
     exact h2
    ·rw[if_neg hp]at h2|-
     exact h2
   ·have hd1:∀p,ds2≠[p]:=fun p e=>by rw[e]at hl1;simp at hl1;exact hone hl1.symm
    have htup:retS ds2= .tup (ds2.map fun p=>if p.2||p.1.frz then .val p.1 else .own p.1):=by
     unfold retS;split
     ·rename_i d b;exact absurd rfl (hd1 _)
     ·rfl
    rw[htup];refine⟨vals.toArray,?_,by simp[hl1,hl2],fun j x hx=> ?_⟩
    ·rw[dif_neg];simp[hl2,hone]
    ·simp only[aQ,aL]at hx;obtain⟨p,hp,rfl⟩:=hx;obtain⟨v,h1,h2⟩:=part j p hp;have hv:vals.toArray.getD j undef=v:=by simp[aF,h1]
     rw[hv];by_cases hpf:(p.2||p.1.frz)=true
     ·rw[if_pos hpf]at h2|-
      exact h2
     ·rw[if_neg hpf]at h2|-
      rw[if_neg hone]at h2;exact h2
 cases e with
 |normal=>exact key hK
 |ret=>exact key hK
 |_=>exact hK.elim
def fT {T:TypeId->TyE}[hG:wQ P T] (sp:List Nat) (hn':fn.ntmps=n) (h:∀w0 ow0,@WC _ P T n w0 ow0 none sp ⟨c⟩ ((argSt ds).put m (.own dm)) ⟨endR T rs Q⟩) (hf:P.funcs[f]?=some fn:=by rfl)
  (hb:fn.body=some c:=by rfl) (hr:fn.results=rs.toArray:=by rfl) (hn:n<=1000000:=by decide) (hd:ds.length<=n:=by simp):ac8 P f ds m dm Q:=aI2 hG.g hf hb hn' hn hd hr fun w0 ow0=>wcI hG.g sp (h w0 ow0) (zD c)
end Go.Dv
end
section
namespace Go.Proofs.YtnlkiflcbknaaaaGreatDoor
open Go.Dv Go.Pl
attribute [simp ↓] anL anG anM anH anK anJ anI anN auF auE auG alO alN alP ayZ ay0 alM alL alK ahE apB ai2 ay1 ay2
attribute [simp] aiK Dv.ones D.aeZ D.OE D.K9 D.pR D.nI S.closed adO OM TS SQ atO aoC am1 ah1 UA aaI ayT tmpsOf an1 aC3 Z8 St.fresh S.fresh St.FH St.TW xD an2 auO auP auN auM apT atC atD aF8 azQ azR aF9 atE amS lY stepCall L6 OO ad8 ag7 amF amI aoH am2 BZ D.flat D.yA IY XX oneK uZ D6 ahL EE UB A8 E5 KO ad7 VX Q5 dcall ZA ad9 aaM St.EM S.aa9 St.JK S.EZ nA evS slotOf nQ asSl srcOf Src.st Src.from Src.data SLv.xs NL setParts FY rowOf places St.set St.jO St.free St.kill St.put St.L9 St.PZ S.drop S.root S.fJ Value.oneCell' dbin binV arithK strK unV dconvI eqB bndK dsliceT D.afP isAny_one isAny_sl isAny_agg isAny_bx isAny_any isAgg_one isAgg_sl isAgg_agg isAgg_bx isAgg_any isHd_one isHd_sl isHd_agg isHd_bx isHd_any hkid_one hkid_sl hkid_agg hkid_bx hkid_any hsetKid_one hsetKid_sl hsetKid_agg hsetKid_bx hsetKid_any D.w D.ws D.frz D.wU D.fz D.fzs D.sub D.upd D.free TyE.ok Ty.isAgg dstOk lst argSt thenK blockK endK retK numb argB endR retL retS rvOp res0 far0 QL_nil QL_put QL_lst QL_arg stepD quietOp qmove endM mutSt gC_true gC_false gQ_eq ba_size ba_get ba_append ba_extract ba_lt take_drop_len ByteArray.mk.injEq fzs_app wrap_u8 u8_eq int_beq int_bne all_drop take_drop_map fzs_take fzs_drop all_take all_take_drop QM QF_nil QF_put QF_lst frK_put putAll rootIn rootOut rootOwn detOp List.lookup stepF fnOf fnC argsOf dcallF dcallMF vcW_nil vcW_put vcW_lst vcW_kill stepW wrapV St.ayK fzs_tail fzs_set frzs_tail frzs_set1 frzs_append S.plain wc_skip wc_ret wc_exit wc_label wc_block wc_loop wc_rf wc_draw wc_cond wc_region wc_seq holdA_eq holdB_eq T3 T4 T5 T9 T22 T24 T25 T27 T29 T30 T31 T33 T34 T36 T38 T40 T42 T43 T45 T46 T47 T49 T50 T52 T66 T72 T74 T93 T96 T102 T104 T111 T130 T136 T139 T158 T160 T173 T175 T189 T203 T215 T218 T233 T237 T239 T242 T249 T260 T264 T281 T291 T301 T302 T307 T334 T337 T368 enF muF mu11 mu12 mu33 mu34 mu35 mu36 mu68 mu69 mu70 mu71 mu114 mu115 mu189 mu196 mu225 mu263 mu268 mu281 mu285 mu310 mu323 mu327 mu347 mu376 mu390 mu392 mu393 mu435 okF QT QO endW wSt putG putR putC getG gl_ne gl_en gl_lt gl_eq gl_eq2 argB_nil argB_cons Go.Value.oneCell' Go.IntKind.bits List.lookup
end Go.Proofs.YtnlkiflcbknaaaaGreatDoor
end
section
namespace Go.Proofs.YtnlkiflcbknaaaaGreatDoor
open Go.Dv
instance:wQ Tryz.prog T:=⟨good⟩
end Go.Proofs.YtnlkiflcbknaaaaGreatDoor
end
section
namespace Go.Proofs.YtnlkiflcbknaaaaGreatDoor
open Go.Dv Go.Pl Go.Proofs.Tryz
abbrev nInts (l:L1):D:= .sl none (l.map dI)
abbrev bT (l:L1):D:= .sl (some 3) (l.map dI)
abbrev mQ (l:List Str):D:= .sl none (l.map dS)
abbrev YB (l:List Str):D:= .sl (some 9) (l.map dS)
abbrev cZ (m:L2):D:= .sl none (m.map nInts)
abbrev mY (m:L2):D:= .sl (some 25) (m.map bT)
abbrev kH (v:Ver):D:= .agg [dI v.a,dI v.b,dB v.same,dI v.time]
abbrev nVers (l:List Ver):D:= .sl none (l.map kH)
abbrev oVers (l:List Ver):D:= .sl (some 102) (l.map kH)
abbrev uI (t:Tst):D:= .agg [dI t.feature,dI t.threshold,dB t.below]
abbrev wK (l:List Tst):D:= .agg [.sl none (l.map uI)]
abbrev mU (r:List (List Tst)):D:= .agg [.sl none (r.map wK)]
abbrev II (s:Sco):D:= .agg [nInts s.weights,dI s.bias]
abbrev agZ (c:Cfg):D:= .agg [mU c.rules,II c.sco,nInts c.surv]
abbrev nP (r:Rec):D:= .agg [dI r.source,dI r.key,dI r.version,mQ r.fields]
abbrev JN (l:List Rec):D:= .sl none (l.map nP)
abbrev MS (s:Sto):D:= .agg [dI s.version,JN s.recs,nVers s.vers]
def bI (x a b:Int):Fk 105 [dI x,dI a,dI b] (vB (inR x a b)):=by
 refine fE [] ntmps105 fun _ _=> ?_;simp;apply gv<;>intro g1
 ·have g1':=g1;simp[g1]
 ·have g1':=g1;simp at g1';simp[g1]
def bJ (x a b:Int):Fk 52 [dI x,dI a,dI b] (vB (inR x a b)):=by
 refine fE [] ntmps52 fun _ _=> ?_;simp;apply gv<;>intro g1
 ·have g1':=g1;simp[g1]
 ·have g1':=g1;simp at g1';simp[g1]
def C8 (x:Int):Fk 260 [dI x] (vB (inR x 1 399)):=by
 refine fE [] ntmps260 fun _ _=> ?_;simp;refine ck (bI _ _ _) ?_;simp
def MF (v:Ver):Fk 258 [kH v] (vB (fQ v)):=by
 refine fE [] ntmps258 fun _ _=> ?_;simp;refine ck (C8 _) ?_;simp;apply gv<;>intro g1
 ·have g1':=g1;simp at g1';simp[g1];refine ck (C8 _) ?_;simp;apply gv<;>intro g2
  ·have g2':=g2;simp at g2';simp[g2];apply gv<;>intro g3
   ·have g3':=g3;simp[g3];refine ck (bI _ _ _) ?_;simp;grind[fQ]
   ·have g3':=g3;simp at g3';simp[g3];grind[fQ]
  ·have g2':=g2;simp at g2';simp[g2];grind[fQ]
 ·have g1':=g1;simp at g1';simp[g1];grind[fQ]
def BC (v:Ver):Fk 144 [kH v] (vB (fQ v)):=by
 refine fE [] ntmps144 fun _ _=> ?_;simp;refine ck (bJ _ _ _) ?_;simp;apply gv<;>intro g1
 ·have g1':=g1;simp at g1';simp[g1];refine ck (bJ _ _ _) ?_;simp;apply gv<;>intro g2
  ·have g2':=g2;simp at g2';simp[g2];apply gv<;>intro g3
   ·have g3':=g3;simp[g3];refine ck (bJ _ _ _) ?_;simp;grind[fQ]
   ·have g3':=g3;simp at g3';simp[g3];grind[fQ]
  ·have g2':=g2;simp at g2';simp[g2];grind[fQ]
 ·have g1':=g1;simp at g1';simp[g1];grind[fQ]
def aeR (s:Str)(hs:Qle s:=by first|omega|grind):Fk 200 [dS s] (vB (isText s)):=by
 refine fE [] ntmps200 fun _ _=> ?_;simp;refine wlt Nat (fun i=>([(0,vS s),(3,vI i)],s.length-i,(i<=s.length)/\((s.take i).all AQ=true))) (0) ⟨by omega,rfl⟩ ?_;rintro i ⟨h1,h2⟩;simp;apply gw<;>intro a
 ·obtain⟨c,hc⟩:=aR (l:=s) (i:=i);simp[hc];apply gv<;>intro g
  ·have g':=g;have hn:=fV hc (P:=AQ) (by first|assumption|(simp;omega)|(simp[*];done)|(simp[AQ, *];done)|grind[AQ]|(simp[AQ];omega));simp[g];grind[isText]
  ·have g':=g;simp at g';simp[hc,g];apply gw<;>intro b
   ·have hn:=fV hc (P:=AQ) (by first|assumption|(simp;omega)|(simp[*];done)|(simp[AQ, *];done)|grind[AQ]|(simp[AQ];omega));simp;grind[isText]
   ·simp at b;simp;refine nxa (i+1) ⟨by omega,(bX hc h2 (by first|assumption|(simp;omega)|(simp[*];done)|(simp[AQ, *];done)|grind[AQ]|(simp[AQ];omega)))⟩
 ·simp at a;have hf:=iX h2 a;simp;grind[isText]
def acB (s:Str)(hs:Qle s):Fk 118 [dS s] (vB (lL s)):=by
 refine fE [] ntmps118 fun _ _=> ?_;simp;refine wlt Nat (fun i=>([(0,vS s),(3,vI i)],s.length-i,(i<=s.length)/\((s.take i).all vZ=true))) (0) ⟨by omega,rfl⟩ ?_;rintro i ⟨h1,h2⟩;simp;apply gw<;>intro a
 ·obtain⟨c,hc⟩:=aR (l:=s) (i:=i);simp[hc];apply gv<;>intro g
  ·have g':=g;have hn:=fV hc (P:=vZ) (by first|assumption|(simp;omega)|(simp[*];done)|(simp[vZ, *];done)|grind[vZ]|(simp[vZ];omega));simp[g];grind[lL]
  ·have g':=g;simp[hc,g];apply gw<;>intro b
   ·have hn:=fV hc (P:=vZ) (by first|assumption|(simp;omega)|(simp[*];done)|(simp[vZ, *];done)|grind[vZ]|(simp[vZ];omega));simp;grind[lL]
   ·simp;refine nxa (i+1) ⟨by omega,(bX hc h2 (by first|assumption|(simp;omega)|(simp[*];done)|(simp[vZ, *];done)|grind[vZ]|(simp[vZ];omega)))⟩
 ·simp at a;have hf:=iX h2 a;simp;refine ck (aeR _) ?_;simp;grind[lL]
def nW (f:L1)(hs:Qle f:=by first|omega|grind):Fk 199 [nInts f] (vB (vH f)):=by
 refine fE [] ntmps199 fun _ _=> ?_;simp;refine wlt Nat (fun i=>([(0,.val (nInts f)),(3,vI i)],f.length-i,(i<=f.length)/\((f.take i).all IP=true))) (0) ⟨by omega,rfl⟩ ?_;rintro i ⟨h1,h2⟩;simp;apply gw<;>intro a
 ·obtain⟨c,hc⟩:=aR (l:=f) (i:=i);simp[hc];refine ck (bJ _ _ _) ?_;simp;apply gw<;>intro b
  ·simp at b;have hn:=fV hc (P:=IP) (by first|assumption|(simp;omega)|(simp[*];done)|(simp[IP, *];done)|grind[IP]|(simp[IP];omega));simp;grind[vH]
  ·simp at b;simp;refine nxa (i+1) ⟨by omega,(bX hc h2 (by first|assumption|(simp;omega)|(simp[*];done)|(simp[IP, *];done)|grind[IP]|(simp[IP];omega)))⟩
 ·simp at a;have hf:=iX h2 a;simp;grind[vH]
def J2 (f:L1)(hs:Qle f:=by first|omega|grind):Fk 147 [nInts f] (vB (D5 f)):=by
 refine fE [] ntmps147 fun _ _=> ?_;simp;refine wlt Nat (fun i=>([(0,.val (nInts f)),(3,vI i)],f.length-i,(i<=f.length)/\((f.take i).all QK=true))) (0) ⟨by omega,rfl⟩ ?_;rintro i ⟨h1,h2⟩;simp;apply gw<;>intro a
 ·obtain⟨c,hc⟩:=aR (l:=f) (i:=i);simp[hc];refine ck (bJ _ _ _) ?_;simp;apply gw<;>intro b
  ·simp at b;have hn:=fV hc (P:=QK) (by first|assumption|(simp;omega)|(simp[*];done)|(simp[QK, *];done)|grind[QK]|(simp[QK];omega));simp;grind[D5]
  ·simp at b;simp;refine nxa (i+1) ⟨by omega,(bX hc h2 (by first|assumption|(simp;omega)|(simp[*];done)|(simp[QK, *];done)|grind[QK]|(simp[QK];omega)))⟩
 ·simp at a;have hf:=iX h2 a;simp;grind[D5]
def sF (a b:Int):Fk 99 [dI a,dI b] (vI (cmpI a b)):=by
 refine fE [] ntmps99 fun _ _=> ?_;simp;apply gw<;>intro h1
 ·simp;grind[cmpI]
 ·simp at h1;simp;apply gw<;>intro h2
  ·simp;grind[cmpI]
  ·simp at h2;simp;grind[cmpI]
def oD (l:L1)(x:Int)(hs:Qle l:=by first|omega|grind):Fk 173 [nInts l,dI x] (vI (ix (fun y=>decide (y=x)) l)):=by
 refine fE [] ntmps173 fun _ _=> ?_;simp;refine wlt Nat (fun i=>([(0,.val (nInts l)),(1,vI x),(5,vI i)],l.length-i,(i<=l.length)/\((l.take i).any (fun y=>decide (y=x))=false))) (0) ⟨by omega,rfl⟩ ?_;rintro i ⟨h1,h2⟩;simp;apply gw<;>intro a
 ·obtain⟨c,hc⟩:=aR (l:=l) (i:=i);simp[hc];apply gw<;>intro b
  ·have hn:=CK hc h2 (by simp[b]);simp[hn]
  ·simp;refine nxa (i+1) ⟨by omega,(kL hc h2 (by simp[b]))⟩
 ·simp at a;have hf:=oL h2 a;have hx:=rQ hf;simp[hx]
def vF (l:List Ver)(hs:Qle l:=by first|omega|grind):Fk 149 [nVers l] (.own (oVers l)):=by
 refine fE [] ntmps149 fun _ _=> ?_;simp;omega
def qQ (r:Rec)(hs:DW r):Fk 73 [nP r] (vB (bG r)):=by
 refine fE [] ntmps73 fun _ _=> ?_;obtain⟨hs1,hs2⟩:=hs;simp;refine wlt Nat (fun i=>([(1,.own (.bx true (nP r))),(3,vI i)],(r.fields).length-i,(i<=(r.fields).length)/\(((r.fields).take i).all lL=true))) (0) ⟨by omega,rfl⟩ ?_;rintro i ⟨h1,h2⟩;simp;apply gw<;>intro a
 ·obtain⟨c,hc⟩:=aR (l:=r.fields) (i:=i);simp[hc];refine ck (acB _ (hs2 c (aA hc))) ?_;simp;apply gw<;>intro b
  ·simp at b;have hn:=fV hc (P:=lL) (by first|assumption|(simp;omega)|(simp[*];done)|(simp[lL, *];done)|grind[lL]|(simp[lL];omega));simp;grind[bG]
  ·simp at b;simp;refine nxa (i+1) ⟨by omega,(bX hc h2 (by first|assumption|(simp;omega)|(simp[*];done)|(simp[lL, *];done)|grind[lL]|(simp[lL];omega)))⟩
 ·simp at a;have hf:=iX h2 a;simp;refine ck (bJ _ _ _) ?_;simp;apply gv<;>intro g1
  ·have g1':=g1;simp at g1';simp[g1];refine ck (bJ _ _ _) ?_;simp;apply gv<;>intro g2
   ·have g2':=g2;simp at g2';simp[g2];refine ck (bJ _ _ _) ?_;simp;apply gv<;>intro g3
    ·have g3':=g3;simp at g3';simp[g3];grind[bG]
    ·have g3':=g3;simp at g3';simp[g3];grind[bG]
   ·have g2':=g2;simp at g2';simp[g2];grind[bG]
  ·have g1':=g1;simp at g1';simp[g1];grind[bG]
def tO (r:Rec)(hs:inR r.source 0 3)(hk:inR r.key 1 99):Fk 49 [nP r] (vI (eG r)):=by
 refine fE [] ntmps49 fun _ _=> ?_;simp at hs hk;simp;iterate 2 refine ai ?_
 grind[eG]
def ab6 (l:List Rec)(hs:Qle l)(hr:∀r∈l,DW r):Fk 154 [JN l] (vB (l.all bG&&decide (l.length<=12))):=by
 refine fE [] ntmps154 fun _ _=> ?_;simp;refine wlt Nat (fun i=>([(0,.val (JN l)),(3,vI i)],l.length-i,(i<=l.length)/\((l.take i).all bG=true))) (0) ⟨by omega,rfl⟩ ?_;rintro i ⟨h1,h2⟩;simp;apply gw<;>intro a
 ·obtain⟨c,hc⟩:=aR (l:=l) (i:=i);simp[hc];refine ck (qQ _ (hr c (aA hc))) ?_;simp;apply gw<;>intro b
  ·simp at b;have hn:=fV hc (P:=bG) (by first|assumption|(simp;omega)|(simp[*];done)|(simp[bG, *];done)|grind[bG]|(simp[bG];omega));simp[hn]
  ·simp at b;simp;refine nxa (i+1) ⟨by omega,(bX hc h2 (by first|assumption|(simp;omega)|(simp[*];done)|(simp[bG, *];done)|grind[bG]|(simp[bG];omega)))⟩
 ·simp at a;have hf:=iX h2 a;simp[hf];omega
end Go.Proofs.YtnlkiflcbknaaaaGreatDoor
end
section
namespace Go.Proofs.YtnlkiflcbknaaaaGreatDoor
open Go.Dv Go.Pl
@[go_sem,simp] abbrev vN (x:L1):S:= .val (nInts x)
@[go_sem,simp] abbrev wN (x:L1):S:= .own (bT x)
@[go_sem,simp] abbrev vV (x:List Ver):S:= .val (nVers x)
@[go_sem,simp] abbrev wV (x:List Ver):S:= .own (oVers x)
@[go_sem,simp] abbrev vR (x:List Str):S:= .val (mQ x)
@[go_sem,simp] abbrev vT (x:List Rec):S:= .val (JN x)
@[go_sem,simp] abbrev wE (x:List Str):S:= .own (YB x)
end Go.Proofs.YtnlkiflcbknaaaaGreatDoor
end
section
namespace Go.Proofs.YtnlkiflcbknaaaaGreatDoor
open Go.Dv Go.Pl Go.Proofs.Tryz
abbrev al5 (c:Con):D:= .agg [dI c.a,dI c.b,dB c.same]
abbrev aJJ (l:List Con):D:= .sl (some 189) (l.map al5)
abbrev jN (l:List Con):D:= .sl none (l.map al5)
def ay4 (a b c d:Int)(s t:Bool)(a' b':Int):Dv.EqAt prog 102 [.int .i64 a,.int .i64 b,.bool s,.int .i64 c] [.int .i64 a',.int .i64 b',.bool t,.int .i64 d] (decide (a=a'/\b=b'/\s=t/\c=d)):=by
 refine⟨by kernel_rfl,fun w=> ?_⟩;have u3:=underlying3;have a3:=Tryz.isAgg3;have z3:=Tryz.sizeOf3;have u4:=underlying4;have a4:=Tryz.isAgg4;have z4:=Tryz.sizeOf4;have hS:prog.underlying 102=some (.struct (prog.fieldsOf 102)):=by kernel_rfl
 have hp:prog.stoodInHeld 102=false:=by kernel_rfl
 rw[show(10000:Nat)=9999+1 from rfl,run_equalIn_agg w 9999 102 _ _ hS hp];simp only[Program.fieldsOf,underlying102]
 go_simp
 by_cases h1:a=a'<;>by_cases h2:b=b'<;>by_cases h3:s=t<;>by_cases h4:c=d<;>simp[h1,h2,h3,h4]
@[go_sem,simp] def aIC (a b c d:Int)(s t:Bool)(a' b':Int)(r:Bool):Dv.EqAt prog 102 [.int .i64 a,.int .i64 b,.bool s,.int .i64 c] [.int .i64 a',.int .i64 b',.bool t,.int .i64 d] r↔r=(decide (a=a'/\b=b'/\s=t/\c=d)):=(ay4 a b c d s t a' b').iff
def tN (a b:Ver):Fk 145 [kH a,kH b] (vI (gX a b)):=by
 refine fE [] ntmps145 fun _ _=> ?_;simp;refine ck (sF _ _) ?_;simp;apply gw<;>intro h1
 ·simp;refine ck (sF _ _) ?_;simp;apply gw<;>intro h2
  ·simp;refine ck (sF _ _) ?_;simp;apply gv<;>intro g3
   ·have g3':=g3;simp[g3];apply gw<;>intro h4
    ·simp at h4;simp;apply gw<;>intro h5
     ·simp;grind[gX]
     ·simp;grind[gX]
    ·simp at h4;simp;grind[gX]
   ·have g3':=g3;simp[g3];grind[gX]
  ·simp;apply gv<;>intro g6
   ·have g6':=g6;simp[g6];apply gw<;>intro h7
    ·simp at h7;simp;apply gw<;>intro h8
     ·simp;omega
     ·simp;omega
    ·simp at h7;simp;omega
   ·have g6':=g6;simp[g6];grind[gX]
 ·simp;apply gw<;>intro h9
  ·simp;refine ck (sF _ _) ?_;simp;apply gv<;>intro g10
   ·have g10':=g10;simp[g10];apply gw<;>intro h11
    ·simp at h11;simp;apply gw<;>intro h12
     ·simp;omega
     ·simp;omega
    ·simp at h11;simp;omega
   ·have g10':=g10;simp[g10];omega
  ·simp;apply gv<;>intro g13
   ·have g13':=g13;simp[g13];apply gw<;>intro h14
    ·simp at h14;simp;apply gw<;>intro h15
     ·simp;omega
     ·simp;omega
    ·simp at h14;simp;omega
   ·have g13':=g13;simp[g13];grind[gX]
def agR (l:List Ver)(v:Ver)(hs:Qle l:=by first|omega|grind):Fk 234 [nVers l,kH v] (vI (ix (fun y=>decide (y=v)) l)):=by
 refine fE [] ntmps234 fun _ _=> ?_;simp;refine wlt Nat (fun i=>([(0,vV l),(3,.own (.bx true (kH v))),(5,vI i)],l.length-i,(i<=l.length)/\((l.take i).any (fun y=>decide (y=v))=false))) (0) ⟨by omega,rfl⟩ ?_;rintro i ⟨h1,h2⟩;simp;apply gw<;>intro a
 ·obtain⟨c,hc⟩:=aR (l:=l) (i:=i);simp;refine wdr ?_;simp[hc];apply gw<;>intro b
  ·simp at b;have hn:=CK hc h2 (by cases c;cases v;simp_all);simp[hn]
  ·simp at b;simp;refine nxa (i+1) ⟨by omega,(kL hc h2 (by cases c;cases v;simp_all))⟩
 ·simp at a;have hf:=oL h2 a;have hx:=rQ hf;simp[hx]
def pJ (g:L2)(x:Int)(hs:Qle g:=by first|omega|grind)(hg:∀l∈g,Qle l:=by first|omega|grind):Fk 156 [cZ g,dI x] (vI (eX g x)):=by
 refine fE [] ntmps156 fun _ _=> ?_;simp;refine wlt Nat (fun i=>([(0,.val (cZ g)),(1,vI x),(5,vI i)],g.length-i,(i<=g.length)/\((g.take i).any (grp x)=false))) (0) ⟨by omega,rfl⟩ ?_;rintro i ⟨h1,h2⟩;simp;apply gw<;>intro a
 ·obtain⟨c,hc⟩:=aR (l:=g) (i:=i);simp[hc];refine ck (oD _ _ (hg c (aA hc))) ?_;simp;apply gw<;>intro b
  ·have hx:eX g x=i:=CK hc h2 (jB.1 b);simp[hx]
  ·simp at b;simp;refine nxa (i+1) ⟨by omega,(kL hc h2 (by rw[jZ];intro h;have:=jB.2 h;unfold grp at*;omega))⟩
 ·simp at a;have hx:eX g x= -1:=rQ (oL h2 a);simp[hx]
def ZU (g:L2)(l:List Ver)(hs:Qle g)(hg:∀l∈g,Qle l)(hl:Qle l):Fk 151 [cZ g,nVers l] (vB (l.all (CR g))):=by
 refine fE [] ntmps151 fun _ _=> ?_;simp;refine wlt Nat (fun i=>([(0,.val (cZ g)),(1,vV l),(5,vI i)],l.length-i,(i<=l.length)/\((l.take i).all (CR g)=true))) (0) ⟨by omega,rfl⟩ ?_;rintro i ⟨h1,h2⟩;simp;apply gw<;>intro a
 ·obtain⟨c,hc⟩:=aR (l:=l) (i:=i);simp[hc];refine ck (pJ _ _) ?_;simp;apply gv<;>intro e
  ·have e':=e;simp[hc,e];refine ck (pJ _ _) ?_;simp;apply gw<;>intro b
   ·have hn:=fV hc (P:=(CR g)) (by simp[CR,b];omega);simp[hn]
   ·simp;refine nxa (i+1) ⟨by omega,(bX hc h2 (by simp[CR,b,e]))⟩
  ·have e':=e;simp at e';simp[e];refine nxa (i+1) ⟨by omega,(bX hc h2 (by simp[CR,e]))⟩
 ·simp at a;have hf:=iX h2 a;simp[hf]
def oP (s:Sco)(hs:Qle s.weights:=by first|omega|grind):Fk 146 [II s] (vB (lZ s)):=by
 refine fE [] ntmps146 fun _ _=> ?_;simp;refine wlt Nat (fun i=>([(1,.own (.bx true (II s))),(3,.val (dI (s.weights.take i).sum)),(4,vI i)],(s.weights).length-i,(i<=(s.weights).length)/\((s.weights.take i).all F8=true)/\(0<=(s.weights.take i).sum/\(s.weights.take i).sum<=9*i))) (0) ⟨by omega,rfl,by simp⟩ ?_;rintro i ⟨h1,h2,h3⟩;simp;apply gw<;>intro a
 ·obtain⟨c,hc⟩:=aR (l:=s.weights) (i:=i);simp[hc];refine ck (bJ _ _ _) ?_;simp;apply gw<;>intro b
  ·simp at b;have hn:=fV hc (P:=F8) (by simp[F8];omega);simp;grind[lZ]
  ·simp at b;have hsum:(s.weights.take (i+1)).sum=(s.weights.take i).sum+c:=by rw[dM hc];simp
   simp[hc];refine nxb (i+1) ⟨by omega,(bX hc h2 (by simp[F8];omega)),by omega⟩ (h3:=by simp[hc,hsum])
 ·simp at a;have hf:=iX h2 a;rw[bS a];simp;apply gv<;>intro g1
  ·have g1':=g1;simp[g1];apply gv<;>intro g2
   ·have g2':=g2;simp[g2];refine ck (bJ _ _ _) ?_;simp;grind[lZ]
   ·have g2':=g2;simp at g2';simp[g2];grind[lZ]
  ·have g1':=g1;simp[g1];grind[lZ]
def yK (l:List Ver)(hs:Qle l:=by first|omega|grind):Fk 90 [nVers l] (vB (lC l)):=by
 refine fE [] ntmps90 fun _ _=> ?_;simp;refine wlt Nat (fun i=>([(0,vV l),(3,vI i)],l.length-i,(i<=l.length)/\((l.take i).all fQ=true)/\(adj (fun a b=>decide (gX a b<0)) (l.take i)=true))) (0) ⟨by omega,rfl,rfl⟩ ?_;rintro i ⟨h1,h2,h3⟩;simp;apply gw<;>intro a
 ·obtain⟨c,hc⟩:=aR (l:=l) (i:=i);simp;refine wdr ?_;simp[hc];refine cd (BC _) ?_;simp;apply gv<;>intro e
  ·have e':=e;simp at e';have hn:=fV hc (P:=fQ) (by simpa using e);simp[e];grind[lC]
  ·have e':=e;simp at e';simp[e];apply gv<;>intro f
   ·have f':=f;obtain⟨p,hp⟩:=aR (l:=l) (i:=i-1);have hi1:i-1+1=i:=by omega
    simp[hc,f,hp];iterate 2 refine ai ?_
    refine cd (tN _ _) ?_;simp;apply gw<;>intro b
    ·have hn:=JV hp (by rw[hi1];exact hc) (R:=fun a b=>decide (gX a b<0)) (by simp;omega);simp;grind[lC]
    ·simp at b;simp;refine nxa (i+1) ⟨by omega,(bX hc h2 (by simpa using e)),by have:=yZ (i:=i-1) (by rw[hi1];exact h3) hp (by rw[hi1];exact hc) (by simp;omega);rwa [hi1]at this⟩
   ·have f':=f;simp at f';simp[f];refine nxa (i+1) ⟨by omega,(bX hc h2 (by simpa using e)),(by obtain rfl:i=0:=(by omega);exact vW)⟩
 ·simp at a;have hf:=iX h2 a;rw[bS a]at h3;simp;grind[lC]
end Go.Proofs.YtnlkiflcbknaaaaGreatDoor
end
section
namespace Go.Proofs.YtnlkiflcbknaaaaGreatDoor
open Go.Dv Go.Pl
@[go_sem,simp] abbrev vC (x:List Con):S:= .val (jN x)
@[go_sem,simp] abbrev vG (x:List Con):S:= .own (aJJ x)
end Go.Proofs.YtnlkiflcbknaaaaGreatDoor
end
section
namespace Go.Proofs.YtnlkiflcbknaaaaGreatDoor
open Go.Dv Go.Pl Go.Proofs.Tryz
def ax9 (l:List Str):Prop:=l.length<=9223372036854775807/\∀x∈l,x.length<=9223372036854775807
def aqR (l:List Str)(left:Int):Prop:=(l.length:Int)<=left/\∀x∈l,(x.length:Int)<=left
def avH {l:List Str}{a b:Int}(h:aqR l a)(hab:a<=b):aqR l b:=⟨by have:=h.1;omega,fun x hx=>by have:=h.2 x hx;omega⟩
def ax8 (l:List Rec):Prop:=l.length<=9223372036854775807/\∀o∈l,ax9 o.fields
def aG0 (l:List Rec)(left:Int):Prop:=(l.length:Int)<=left/\∀o∈l,aqR o.fields left
def auZ (l:List (List Tst)):Prop:=l.length<=9223372036854775807/\∀o∈l,o.length<=9223372036854775807
def aDV (l:List (List Tst))(left:Int):Prop:=(l.length:Int)<=left/\∀o∈l,(o.length:Int)<=left
def abZ (l:List Tst)(left:Int)(hl:l.length<=9223372036854775807)(h0:0<=left/\left<=1048576):fK prog 233 [.sl none (l.map uI),dI left] (fun r=>∃v:Int,r=vI v/\(-1<=v/\v<=left)/\(0<=v->(l.length:Int)<=left)):=by
 refine fE [] ntmps233 fun _ _=> ?_;simp;refine ai ?_;apply gw<;>intro e
 ·simp;omega
 ·simp at e;simp;refine ai ?_;omega
def aeO (l:List Tst)(left:Int)(hl:l.length<=9223372036854775807)(h0:0<=left/\left<=1048576):fK prog 142 [wK l,dI left] (fun r=>∃v:Int,r=vI v/\(-1<=v/\v<=left)/\(0<=v->(l.length:Int)<=left)):=by
 refine fE [] ntmps142 fun _ _=> ?_;simp;refine fG (abZ l left hl h0) (by simp) ?_;rintro r ⟨v,rfl,hv,hf⟩;refine⟨by simp,?_⟩;simp;apply gw<;>intro b
 ·simp;omega
 ·simp at b;have hfit:=hf (by omega);simp[hfit];refine ai ?_;omega
def abX (l:List (List Tst))(left:Int)(hl:auZ l)(h0:0<=left/\left<=1048576):fK prog 88 [.sl none (l.map wK),dI left] (fun r=>∃v:Int,r=vI v/\(-1<=v/\v<=left)/\(0<=v->aDV l left)):=by
 refine fE [] ntmps88 fun _ _=> ?_;have hl1:=hl.1;simp;refine ai ?_;apply gw<;>intro e
 ·simp;omega
 ·simp at e;simp;refine wlt (Nat×Int) (fun(i,L)=>([(0,.val (.sl none (l.map wK))),(1,vI L),(5,vI i)],l.length-i,(i<=l.length)/\(0<=L/\L<=left-l.length)/\(∀o∈l.take i,(o.length:Int)<=left))) ((0,left-l.length)) ⟨by omega,by omega,by simp⟩ ?_;rintro⟨i,L⟩ ⟨h1,h2,h3⟩;simp;apply gw<;>intro a
  ·obtain⟨c,hc⟩:=aR (l:=l) (i:=i);have hcl:=hl.2 c (aA hc);simp[hc];refine fG (aeO c L hcl (by omega)) (by simp) ?_;rintro r ⟨v,rfl,hv,hf⟩;refine⟨by simp,?_⟩;simp;apply gw<;>intro b
   ·simp;omega
   ·simp at b;have hfc:=hf (by omega);simp;refine nxa (i+1,v) ⟨by omega,by omega,(by rw[dM hc];intro x hx;rcases k_List_mem_append.1 hx with hx|hx;(exact h3 x hx);(obtain rfl:=k_List_mem_singleton.1 hx;omega))⟩
  ·simp at a;have hfit:aDV l left:=⟨by omega,by rwa [bS]at h3⟩;simp[hfit];refine ai ?_;omega
def WV (l:List (List Tst))(left:Int)(hl:auZ l)(h0:0<=left/\left<=1048576):fK prog 43 [mU l,dI left] (fun r=>∃v:Int,r=vI v/\(-1<=v/\v<=left)/\(0<=v->aDV l left)):=by
 refine fE [] ntmps43 fun _ _=> ?_;simp;refine fG (abX l left hl h0) (by simp) ?_;rintro r ⟨v,rfl,hv,hf⟩;refine⟨by simp,?_⟩;simp;apply gw<;>intro b
 ·simp;omega
 ·simp at b;have hfit:=hf (by omega);simp[hfit];refine ai ?_;omega
def GZ (l:L1)(left:Int)(hl:l.length<=9223372036854775807)(h0:0<=left/\left<=1048576):fK prog 45 [nInts l,dI left] (fun r=>∃v:Int,r=vI v/\(-1<=v/\v<=left)/\(0<=v->v+(l.length:Int)<=left)):=by
 refine fE [] ntmps45 fun _ _=> ?_;simp;refine ai ?_;apply gw<;>intro e
 ·simp;omega
 ·simp at e;simp;refine ai ?_;omega
def WW (s:Sco)(left:Int)(hl:s.weights.length<=9223372036854775807)(h0:0<=left/\left<=1048576):fK prog 44 [II s,dI left] (fun r=>∃v:Int,r=vI v/\(-1<=v/\v<=left)/\(0<=v->(s.weights.length:Int)<=left)):=by
 refine fE [] ntmps44 fun _ _=> ?_;simp;refine fG (GZ s.weights left hl h0) (by simp) ?_;rintro r ⟨v,rfl,hv,hf⟩;refine⟨by simp,?_⟩;simp;apply gw<;>intro b
 ·simp;omega
 ·simp at b;have hfit:=hf (by omega);simp;refine ai ?_;omega
def G5 (l:List Ver)(left:Int)(hl:l.length<=9223372036854775807)(h0:0<=left/\left<=1048576):fK prog 19 [nVers l,dI left] (fun r=>∃v:Int,r=vI v/\(-1<=v/\v<=left)/\(0<=v->(l.length:Int)<=left)):=by
 refine fE [] ntmps19 fun _ _=> ?_;simp;refine ai ?_;apply gw<;>intro e
 ·simp;omega
 ·simp at e;simp;refine ai ?_;omega
def WX (l:List Str)(left:Int)(hl:ax9 l)(h0:0<=left/\left<=1048576):fK prog 143 [mQ l,dI left] (fun r=>∃v:Int,r=vI v/\(-1<=v/\v<=left)/\(0<=v->aqR l left)):=by
 refine fE [] ntmps143 fun _ _=> ?_;have hl1:=hl.1;simp;refine ai ?_;apply gw<;>intro e
 ·simp;omega
 ·simp at e;simp;refine wlt (Nat×Int) (fun(i,L)=>([(0,vR l),(1,vI L),(5,vI i)],l.length-i,(i<=l.length)/\(0<=L/\L<=left-l.length)/\(∀x∈l.take i,(x.length:Int)<=left))) ((0,left-l.length)) ⟨by omega,by omega,by simp⟩ ?_;rintro⟨i,L⟩ ⟨h1,h2,h3⟩;simp;apply gw<;>intro a
  ·obtain⟨c,hc⟩:=aR (l:=l) (i:=i);have hcl:=hl.2 c (aA hc);simp[hc];refine ai ?_;apply gw<;>intro b
   ·simp;omega
   ·simp at b;simp;refine nxa (i+1,L-c.length) ⟨by omega,by omega,(by rw[dM hc];intro x hx;rcases k_List_mem_append.1 hx with hx|hx;(exact h3 x hx);(obtain rfl:=k_List_mem_singleton.1 hx;omega))⟩
  ·simp at a;have hfit:aqR l left:=⟨by omega,by rwa [bS]at h3⟩;simp[hfit];refine ai ?_;omega
def ZM (r:Rec)(left:Int)(hl:ax9 r.fields)(h0:0<=left/\left<=1048576):fK prog 89 [nP r,dI left] (fun x=>∃v:Int,x=vI v/\(-1<=v/\v<=left)/\(0<=v->aqR r.fields left)):=by
 refine fE [] ntmps89 fun _ _=> ?_;simp;refine fG (WX r.fields left hl h0) (by simp) ?_;rintro r ⟨v,rfl,hv,hf⟩;refine⟨by simp,?_⟩;simp;apply gw<;>intro b
 ·simp;omega
 ·simp at b;have hfit:=hf (by omega);simp[hfit];refine ai ?_;omega
def WU (l:List Rec)(left:Int)(hl:ax8 l)(h0:0<=left/\left<=1048576):fK prog 46 [JN l,dI left] (fun r=>∃v:Int,r=vI v/\(-1<=v/\v<=left)/\(0<=v->aG0 l left)):=by
 refine fE [] ntmps46 fun _ _=> ?_;have hl1:=hl.1;simp;refine ai ?_;apply gw<;>intro e
 ·simp;omega
 ·simp at e;simp;refine wlt (Nat×Int) (fun(i,L)=>([(0,vT l),(1,vI L),(5,vI i)],l.length-i,(i<=l.length)/\(0<=L/\L<=left-l.length)/\(∀o∈l.take i,aqR o.fields left))) ((0,left-l.length)) ⟨by omega,by omega,by simp⟩ ?_;rintro⟨i,L⟩ ⟨h1,h2,h3⟩;simp;apply gw<;>intro a
  ·obtain⟨c,hc⟩:=aR (l:=l) (i:=i);have hcl:=hl.2 c (aA hc);simp[hc];refine fG (ZM c L hcl (by omega)) (by simp) ?_;rintro r ⟨v,rfl,hv,hf⟩;refine⟨by simp,?_⟩;simp;apply gw<;>intro b
   ·simp;omega
   ·simp at b;have hfc:=avH (hf (by omega)) (show L<=left by omega);simp;refine nxa (i+1,v) ⟨by omega,by omega,(by rw[dM hc];intro x hx;rcases k_List_mem_append.1 hx with hx|hx;(exact h3 x hx);(obtain rfl:=k_List_mem_singleton.1 hx;exact hfc))⟩
  ·simp at a;have hfit:aG0 l left:=⟨by omega,by rwa [bS]at h3⟩;simp[hfit];refine ai ?_;omega
end Go.Proofs.YtnlkiflcbknaaaaGreatDoor
end
section
namespace Go.Er
open Go.ChangeShapes Go.WideShapes Go.ChangeAt Go.RowKit
variable {n:String}{g:Nat}
section
variable {H:Type}{enc:TypeId×Value->H}
def ag6 {P:Program}(hl:laidOutB P) {W W':World}(hb:Below W.heap.size W W') {t:TypeId}(hg:P.globalNamed n=some g) (ht:(P.globals[g]?).map (·.type)=some t) (hr:P.readableRec t=true/\t<P.types.size) {gs:List (DataW H)}{ps:List MemPlace}
  (h:DataW.TrodVars enc P W (fun _=>true) [n] gs ps):∃q,DataW.TrodVars enc P W' (fun b=>decide (b<W.heap.size)) [n] gs q:=by
 obtain⟨g',t',cs,fuel,d,p,rfl,h1,h2,h3,h4,rfl⟩:=trodVars_one h;obtain rfl:=k_Option_some_inj (hg.symm.trans h1);obtain rfl:=k_Option_some_inj (ht.symm.trans h2);have h0:DataW.Trod enc P W 0 (fun _=>true) true t (.agg cs) d p:=⟨fuel,h4⟩;have lt0:∀x∈p,x.block<W.heap.size:=DataW.trod_lt fuel _ _ _ h4;obtain⟨m,hm⟩:=Below.trod hl hr.1 hr.2 h0 hb lt0
 have h5:W'.var? P n=some cs:=by
  unfold World.var? at h3|-
  rw[hg]at h3|-
  simp only[nD]at h3|-
  have hlt:g<W.heap.size:=by
   cases hx:W.heap[g]? with
   |none=>rw[hx]at h3;cases h3
   |some o=>exact(bP.1 hx).1
  rw[hb.block g hlt];exact h3
 exact⟨_,trodVars_mk1 hg ht h5 hm⟩
def NH {C:Checked}{f:FuncId}{fn:Func}{s:ChangeSpec}{os:Os}{L:List (String×DataW Unit)}{t:TypeId}(started:os.Started)
  (own:ownKnob C.prog.godebug=none) (laidOut:laidOutB C.prog=true) (noInit:C.prog.inits.idxOf? f=none) (hfn:C.prog.funcs[f]?=some fn)
  (hvars:s.vars=[n]) (hspec:∀(ds:List (DataW H)) (v:DataW H),ds.length=fn.params.size->s.fn H (ds++[v])={results:=[.lit (.bool true)],args:=ds,vars:=[v]})
  (hg:C.prog.globalNamed n=some g) (ht:(C.prog.globals[g]?).map (·.type)=some t) (hrt:C.prog.readableRec t=true/\t<C.prog.types.size)
  {tb:TypeId}(hres:fn.resultTypes= #[tb]) (hb:C.prog.underlying tb=some .bool)
  (hread:∀t∈fn.params.toList,C.prog.readableRec t=true/\t<C.prog.types.size)
  (witness:∃(w:World) (tape:Tape) (i:Input),w.os=os/\(w.forCall tape i).Shaped C.prog/\i.vars=[]/\Input.okWide C.prog (w.forCall tape i) .any w.heap.size f i/\
   ((s.pre enc C.prog fn [] false (w.forCall tape i).memory i.args/\laidMet C.prog L (w.forCall tape i).memory)/\sizedMet enc C.prog fn (OpenSpec.ofChange s) false (w.forCall tape i).memory i.args)/\({}:Assume).holds C.prog (lone (Frame.enter C.prog f i.args .normal) [] (w.forCall tape i)))
  (walk:∀(W:World) (base:Nat) (args:Array Value) (ds:List (DataW H)) (p:List MemPlace),W.ShapedOpen C.prog->
   (∀(j:Nat) t v,fn.params[j]?=some t->args[j]?=some v->Value.okWide C.prog W .any base t v)->
   DataW.TrodAll enc C.prog W 0 (fun _=>true) true fn.params.toList args.toList ds p->laidMet C.prog L W->
   Calls C.prog f args W fun e W'=>e= .returned (.bool true)/\Below W.heap.size W W'):
  ReturnsInHanded {} C os f .any (fun w args=>(s.pre enc C.prog fn [] false w args/\laidMet C.prog L w)/\sizedMet enc C.prog fn (OpenSpec.ofChange s) false w args) (s.post enc C.prog fn false true false false):=by
 refine returnsInHanded_of_calls own started noInit witness ?_;intro w tape i _ hsh _ hok hpre hholds;obtain⟨_,_,_,fn',hfn',_,_,_,_,hval⟩:=hok;obtain rfl:fn'=fn:=k_Option_some_inj (hfn'.symm.trans hfn);obtain⟨⟨⟨ds,gs,before,hw,hc⟩,hx⟩,hz⟩:=hpre;have hW:=DataW.Whole.of_heap (w':=w.forCall tape i) (by rfl) hw;have hL:laidMet C.prog L (w.forCall tape i):=hx.of_heap (by rfl);have hW':=hW;obtain⟨p,q,hA,hV,rfl,_,_⟩:=hW;rw[hvars]at hV;have hlen:=(trodAll_length hA).2;refine(walk (w.forCall tape i) w.heap.size i.args ds p hsh hval hA hL).mono fun e W' ⟨he,bel⟩=> ?_;subst he;obtain⟨q2,hV2⟩:=ag6 laidOut bel hg ht hrt hV;obtain⟨_,_,_,_,v,_,rfl,_⟩:=trodVars_one hV;refine ChangeSpec.post_blind (v:= .bool true) ?_;have hsp:=hspec ds v (by simpa using hlen);refine⟨ds,[v],p++q,[],p,q2,hW',?_,?_,?_,bel.frame _,fun h=>by cases h⟩
 ·rw[hsp,hres];exact trodAll_mk1 (shut_bool hb _)
 ·rw[hsp];exact ag5 laidOut bel hread hA
 ·rw[hsp,hvars];exact hV2
end
end Go.Er
namespace Go.Proofs.YtnlkiflcbknaaaaGreatDoor
open Go.Dv Go.Pl
open Go.ChangeShapes Go.WideShapes Go.ChangeAt Go.RowKit Go.Er
abbrev tables:List (String×DataW Unit):=[("math/bits.deBruijn32tab",Rows.laid_math_bits_deBruijn32tab),("math/bits.deBruijn64tab",Rows.laid_math_bits_deBruijn64tab),("internal/strconv.uint64pow10",Rows.laid_internal_strconv_uint64pow10),("unicode/utf8.acceptRanges",Rows.laid_unicode_utf8_acceptRanges),("strconv.ErrRange",Rows.laid_strconv_ErrRange),("strconv.ErrSyntax",Rows.laid_strconv_ErrSyntax),("loop.example/g01923/impl.soundCodes",Rows.laid_loop_example_g01923_impl_soundCodes),("unicode/utf8.first",Rows.laid_unicode_utf8_first)]
def own:ownKnob Tryz.prog.godebug=none:=by kernel_rfl
def laidOut:laidOutB Tryz.prog=true:=by kernel_rfl
def aGJ: "*" ++ "errors.errorString" = "*errors.errorString" :=by decide
def aB8 (u:TypeId)(h:Tryz.prog.typeName? 3 u=some "*errors.errorString"):u=395:=
 typeName_ptr_named (nm:= "errors.errorString") (by rw[aGJ];kernel_rfl) (by kernel_rfl) (by decide) u (by rw[aGJ];exact h)
def aFP {W:World}(hL:laidMet Tryz.prog tables W):Lib.TabIs Tryz.prog W "internal/strconv.uint64pow10" .u64 Lib.pow10Tab:=by
 have h:=hL.tail.tail;rw[show(Rows.laid_internal_strconv_uint64pow10:DataW Unit)=Lib.tabData .u64 Lib.pow10Tab by kernel_rfl]at h;exact Lib.tabIs_of_head (g:=6) (by kernel_rfl) (by kernel_rfl) Tryz.underlying408 Tryz.underlying316 (by kernel_rfl) (by kernel_rfl) h
def aw9 {W:World}(hL:laidMet Tryz.prog tables W):Lib.TabIs Tryz.prog W "loop.example/g01923/impl.soundCodes" .i64 QJ:=by
 have h:=hL.tail.tail.tail.tail.tail.tail;rw[show(Rows.laid_loop_example_g01923_impl_soundCodes:DataW Unit)=Lib.tabData .i64 QJ by kernel_rfl]at h;exact Lib.tabIs_of_head (g:=0) (by kernel_rfl) (by kernel_rfl) Tryz.underlying279 Tryz.underlying3 (by kernel_rfl) (by kernel_rfl) h
variable {P:Program}
def aqA {W:World}{base:Nat}{t:TypeId}{cs:Array Value}(ht:P.cellTypes P.depth t=some [t])(hu:P.underlying t=some (.int .i64))(hs:cs.size=1)(h:Row.ok P W .any base t cs):∃m,cs= #[.int .i64 m]:=by
 obtain⟨ts,h1,_,h3⟩:=h;rw[ht]at h1;obtain rfl:=k_Option_some_inj h1;obtain⟨v,rfl⟩:=Array.size_eq_one_iff.1 hs;obtain⟨u,hu',hv⟩:=h3 0 v rfl;obtain rfl:t=u:=by simpa using hu'
 unfold Cell.ok at hv;rw[hu]at hv;cases v with
 |int k n=>obtain⟨rfl,_⟩:=hv;exact⟨n,rfl⟩
 |_=>exact hv.elim
def avU {W:World}(hS:W.ShapedOpen Tryz.prog)(hL:laidMet Tryz.prog tables W):CQ W:=by
 refine⟨aFP hL,?_,?_,?_,aw9 hL⟩
 ·obtain⟨a,s,h,_⟩:=laid_sentinel hL.tail.tail.tail.tail.tail (g:=1) (by kernel_rfl) (by kernel_rfl) Tryz.underlying281 aB8 Tryz.underlying395 Tryz.underlying397 rfl rfl Tryz.underlying9 (by kernel_rfl) (by kernel_rfl);exact⟨_,_,h⟩
 ·obtain⟨a,s,h,_⟩:=laid_sentinel hL.tail.tail.tail.tail (g:=2) (by kernel_rfl) (by kernel_rfl) Tryz.underlying281 aB8 Tryz.underlying395 Tryz.underlying397 rfl rfl Tryz.underlying9 (by kernel_rfl) (by kernel_rfl);exact⟨_,_,h⟩
 ·obtain⟨cs,h1,h2,h3⟩:=hS.1 3 #[.int .i64 0] 3 (of_decide_eq_true (by kernel_rfl)) (by kernel_rfl);obtain⟨m,rfl⟩:=aqA (by kernel_rfl) Tryz.underlying3 h2 (h3 (by kernel_rfl));exact⟨m,by simp[World.cell?,h1]⟩
def avV {W W':World}(h:∀b,b<9->W'.heap[b]?=W.heap[b]?)(hg:CQ W):CQ W':=by
 have hv:∀(n:String) (g:Nat),Tryz.prog.globalNamed n=some g->g<9->W'.var? Tryz.prog n=W.var? Tryz.prog n:=fun n g h1 h2=>by
  unfold World.var?;rw[h1];simp only[nD];rw[h g h2]
 obtain⟨h1,h2,h3,⟨m,h4⟩,h5⟩:=hg;refine⟨(hv _ 6 (by kernel_rfl) (by decide)).trans h1,?_,?_,⟨m,?_⟩,(hv _ 0 (by kernel_rfl) (by decide)).trans h5⟩
 ·rw[hv _ 1 (by kernel_rfl) (by decide)];exact h2
 ·rw[hv _ 2 (by kernel_rfl) (by decide)];exact h3
 ·exact(World.cell?_of_block (a:=⟨3,0,none⟩) (h 3 (by decide))).trans h4
def atI {W:World}(hS:W.ShapedOpen Tryz.prog)(hL:laidMet Tryz.prog tables W)(hsz:9<=W.heap.size):Laid W (fun _=>none):=by
 have hg:=avU hS hL;refine⟨(List.range 9).filterMap fun b=>(W.heap[b]?).map fun o=>(b,o),fun W' h=>avV (fun b hb=> ?_) hg,fun p hp=> ?_⟩
 ·have hb2:b<W.heap.size:=by omega
  have h1:=h (b,W.heap[b]) (jS.2 ⟨b,by simpa using hb,by simp[iJ hb2]⟩);rw[h1,iJ hb2]
 ·obtain⟨b,_,hb⟩:=jS.1 hp;simp only[aL]at hb;obtain⟨o,ho,rfl⟩:=hb;exact⟨ho,rfl⟩
def ah6 {W:World}{f:FuncId}{ds:List D}{args:Array Value}(hf:fK Tryz.prog f ds (fun r=>r=vB true))(hlaid:Laid W (fun _=>none))(hn:args.size=ds.length)(ha:∀(i:Nat) (d:D),ds[i]?=some d->V Tryz.prog W (fun _=>none) d.fz [] (args.getD i undef)):
  Calls Tryz.prog f args W fun e W'=>e= .returned (.bool true)/\Below W.heap.size W W':=by
 refine(hf W (fun _=>none) args 0 (by decide) hlaid (fun _ _=>rfl) hn ha).mono ?_;rintro e W' ⟨v,ow',r,rfl,rfl,haf,_,hsv⟩;have hv:=hsv (fun _=> .un) {tmps:= #[],defers:=[]};simp only[SV,V,D.fz,R]at hv;obtain⟨hv,_⟩:=hv;obtain rfl:v= .bool true:=by simpa using hv
 exact⟨rfl,haf.os,haf.tape,haf.output,haf.size,fun b hb=>(haf.old b hb).1⟩
def setBlock (h:Array Obj)(i:Nat)(cs:Array Value):Array Obj:=h.modify i fun
 | .cells _ t frozen=> .cells cs t frozen
 |o=>o
def KM:DataW Unit->Array Value
 | .agg parts=>(parts.flatMap fun| .lit (.int k n)=>[Value.int k n]| .agg ps=>(ps.map fun| .lit (.int k n)=>Value.int k n|_=>undef)|_=>[]).toArray
 |_=> #[]
def as2:DataW Unit->ByteArray
 | .iface _ (.ptr (.agg [.lit (.string l)]))=>⟨l.toArray⟩
 |_=>⟨#[]⟩
noncomputable def low:Nat:=(World.holding Tryz.prog default ⟨#[],#[],[]⟩).heap.size
noncomputable def ZW (os:Os):World:=
 let w0:=World.holding Tryz.prog os ⟨#[.cells #[.string (as2 Rows.laid_strconv_ErrSyntax)] 397,.cells #[.string (as2 Rows.laid_strconv_ErrRange)] 397],#[],[]⟩
 {w0 with heap:=setBlock (setBlock (setBlock (setBlock (setBlock (setBlock (setBlock (setBlock w0.heap 6 (KM Rows.laid_internal_strconv_uint64pow10)) 4 (KM Rows.laid_unicode_utf8_first)) 5 (KM Rows.laid_unicode_utf8_acceptRanges)) 7 (KM Rows.laid_math_bits_deBruijn32tab)) 8 (KM Rows.laid_math_bits_deBruijn64tab)) 0 (KM Rows.laid_loop_example_g01923_impl_soundCodes)) 1 #[.iface 395 (.pointer (some ⟨low,0,none⟩))]) 2 #[.iface 395 (.pointer (some ⟨low+1,0,none⟩))]}
def anF (os:Os)(args:Array Value):laidMet Tryz.prog tables ((ZW os).forCall (fun _ _=>0) ⟨#[],args,[]⟩).memory:=
 laidMet_of_run' 9 (by kernel_rfl) (by kernel_rfl)
def aGH {W:World}(hS:W.ShapedOpen Tryz.prog):9<=W.heap.size:=by
 obtain⟨cs,h1,_⟩:=hS.1 8 (Array.replicate 64 (.int .u8 0)) 411 (of_decide_eq_true (by kernel_rfl)) (by kernel_rfl);exact(bP.1 h1).1
def YC {t:TypeId}(h:(P.readableRec t&&decide (t<P.types.size))=true):P.readableRec t=true/\t<P.types.size:=by rw[k_Bool_and_eq_true,decide_eq_true_eq]at h;exact h
def ah2:(Tryz.prog.funcs.toList.all fun f=> !f.goes)=true:=by kernel_rfl
def aD6 (h:(P.funcs.toList.all fun f=> !f.goes)=true)(f:FuncId):P.goes f=false:=by
 have h1:∀fn∈P.funcs.toList,fn.goes=false:=fun fn hf=>by simpa using aI.1 h fn hf
 unfold Program.goes;rw[Bool.or_eq_false_iff,kV];refine⟨?_,.inr ?_⟩
 ·rw[iC];intro g _;cases hg:P.funcs[g]? with
  |none=>simp
  |some fn=>simpa using h1 fn (by simpa using kU hg)
 ·rw[←Array.any_toList,iC];intro fn hf;simp[h1 fn hf]
def atG (h:(P.funcs.toList.all fun f=> !f.goes)=true){c:OpenClaim}(hs:c.start= .entering):false=c.goesBy P:=by
 unfold OpenClaim.goesBy Program.goesAt Program.goesFrom;rw[hs];cases P.funcNamed c.func with
 |none=>rfl
 |some f=>simp[aD6 h f]
def an {a b:Bool}(h:a)(h':b):(a&&b)=true:=by rw[h,h'];rfl
section
variable {H:Type}{enc:TypeId×Value->H}{W:World}{cs:List Value}
def aH9 (h:Tr enc Tryz.prog W 111 cs):∃v:Ver,Rd Tryz.prog W (kH v) cs:=by
 have hl:=zH Tryz.underlying111 (n:=4) (by kernel_rfl) h;have hf:=zG Tryz.underlying111 h;obtain⟨a,h0⟩:=open_int Tryz.underlying3 (hf 0 _ rfl 0 1 rfl (by kernel_rfl));obtain⟨b,h1⟩:=open_int Tryz.underlying3 (hf 1 _ rfl 1 1 rfl (by kernel_rfl));obtain⟨s,h2⟩:=open_bool Tryz.underlying4 (hf 2 _ rfl 2 1 rfl (by kernel_rfl));obtain⟨t,h3⟩:=open_int Tryz.underlying3 (hf 3 _ rfl 3 1 rfl (by kernel_rfl));exact⟨⟨a,b,s,t⟩,KC (jQ h0 (jQ h1 (jQ h2 (jQ h3 (KA hl)))))⟩
def aFV (h:Tr enc Tryz.prog W 72 cs):∃l:List Str,ax9 l/\Rd Tryz.prog W (mQ l) cs:=
 MV Tryz.underlying72 (k:=1) (by kernel_rfl) (by decide) (fun vs h=>aBV Tryz.underlying9 h) h
def aH5 (h:Tr enc Tryz.prog W 130 cs):∃r:Rec,ax9 r.fields/\Rd Tryz.prog W (nP r) cs:=by
 have hl:=zH Tryz.underlying130 (n:=4) (by kernel_rfl) h;have hf:=zG Tryz.underlying130 h;obtain⟨a,h0⟩:=open_int Tryz.underlying3 (hf 0 _ rfl 0 1 rfl (by kernel_rfl));obtain⟨b,h1⟩:=open_int Tryz.underlying3 (hf 1 _ rfl 1 1 rfl (by kernel_rfl));obtain⟨c,h2⟩:=open_int Tryz.underlying3 (hf 2 _ rfl 2 1 rfl (by kernel_rfl));obtain⟨l,q,h3⟩:=aFV (hf 3 _ rfl 3 1 rfl (by kernel_rfl));exact⟨⟨a,b,c,l⟩,q,KC (jQ h0 (jQ h1 (jQ h2 (jQ h3 (KA hl)))))⟩
def aFT (h:Tr enc Tryz.prog W 30 cs):∃l:List Rec,ax8 l/\Rd Tryz.prog W (JN l) cs:=
 MV Tryz.underlying30 (k:=4) (by kernel_rfl) (by decide) (fun vs h=>aH5 h) h
def auH (h:Tr enc Tryz.prog W 31 cs):∃l:List Ver,l.length<=9223372036854775807/\Rd Tryz.prog W (nVers l) cs:=by
 obtain⟨l,q,h⟩:=MV (Q:=fun _:Ver=>True) Tryz.underlying31 (k:=4) (by kernel_rfl) (by decide) (fun vs h=>by obtain⟨v,h⟩:=aH9 h;exact⟨v,trivial,h⟩) h;exact⟨l,q.1,h⟩
def ak1 (h:Tr enc Tryz.prog W 25 cs):∃l:L1,l.length<=9223372036854775807/\Rd Tryz.prog W (nInts l) cs:=by
 obtain⟨l,q,h⟩:=MV (Q:=fun _:Int=>True) Tryz.underlying25 (k:=1) (by kernel_rfl) (by decide) (fun vs h=>by obtain⟨v,h⟩:=open_int Tryz.underlying3 h;exact⟨v,trivial,h⟩) h;exact⟨l,q.1,h⟩
def aH8 (h:Tr enc Tryz.prog W 291 cs):∃v:Tst,Rd Tryz.prog W (uI v) cs:=by
 have hl:=zH Tryz.underlying291 (n:=3) (by kernel_rfl) h;have hf:=zG Tryz.underlying291 h;obtain⟨a,h0⟩:=open_int Tryz.underlying3 (hf 0 _ rfl 0 1 rfl (by kernel_rfl));obtain⟨b,h1⟩:=open_int Tryz.underlying3 (hf 1 _ rfl 1 1 rfl (by kernel_rfl));obtain⟨s,h2⟩:=open_bool Tryz.underlying4 (hf 2 _ rfl 2 1 rfl (by kernel_rfl));exact⟨⟨a,b,s⟩,KC (jQ h0 (jQ h1 (jQ h2 (KA hl))))⟩
def aFU (h:Tr enc Tryz.prog W 175 cs):∃l:List Tst,l.length<=9223372036854775807/\Rd Tryz.prog W (wK l) cs:=by
 have hl:=zH Tryz.underlying175 (n:=1) (by kernel_rfl) h;have hf:=zG Tryz.underlying175 h;obtain⟨l,q,h0⟩:=MV (Q:=fun _:Tst=>True) Tryz.underlying173 (k:=3) (by kernel_rfl) (by decide) (fun vs h=>by obtain⟨v,h⟩:=aH8 h;exact⟨v,trivial,h⟩) (hf 0 _ rfl 0 1 rfl (by kernel_rfl));exact⟨l,q.1,KC (jQ h0 (KA hl))⟩
def aCS (h:Tr enc Tryz.prog W 24 cs):∃r:List (List Tst),auZ r/\Rd Tryz.prog W (mU r) cs:=by
 have hl:=zH Tryz.underlying24 (n:=1) (by kernel_rfl) h;have hf:=zG Tryz.underlying24 h;obtain⟨l,q,h0⟩:=MV Tryz.underlying22 (k:=1) (by kernel_rfl) (by decide) (fun vs h=>aFU h) (hf 0 _ rfl 0 1 rfl (by kernel_rfl));exact⟨l,q,KC (jQ h0 (KA hl))⟩
def aH6 (h:Tr enc Tryz.prog W 27 cs):∃s:Sco,s.weights.length<=9223372036854775807/\Rd Tryz.prog W (II s) cs:=by
 have hl:=zH Tryz.underlying27 (n:=2) (by kernel_rfl) h;have hf:=zG Tryz.underlying27 h;obtain⟨l,q,h0⟩:=ak1 (hf 0 _ rfl 0 1 rfl (by kernel_rfl));obtain⟨b,h1⟩:=open_int Tryz.underlying3 (hf 1 _ rfl 1 1 rfl (by kernel_rfl));exact⟨⟨l,b⟩,q,KC (jQ h0 (jQ h1 (KA hl)))⟩
def aH3 (h:Tr enc Tryz.prog W 29 cs):∃c:Cfg,(auZ c.rules/\c.sco.weights.length<=9223372036854775807/\c.surv.length<=9223372036854775807)/\Rd Tryz.prog W (agZ c) cs:=by
 have hl:=zH Tryz.underlying29 (n:=4) (by kernel_rfl) h;have hf:=zG Tryz.underlying29 h;obtain⟨r,q0,h0⟩:=aCS (hf 0 _ rfl 0 1 rfl (by kernel_rfl));obtain⟨s,q1,h1⟩:=aH6 (hf 1 _ rfl 1 2 rfl (by kernel_rfl));obtain⟨l,q2,h2⟩:=ak1 (hf 2 _ rfl 3 1 rfl (by kernel_rfl));exact⟨⟨r,s,l⟩,⟨q0,q1,q2⟩,KC (jQ h0 (jQ h1 (jQ h2 (KA hl))))⟩
def aH7 (h:Tr enc Tryz.prog W 33 cs):∃s:Sto,(ax8 s.recs/\s.vers.length<=9223372036854775807)/\Rd Tryz.prog W (MS s) cs:=by
 have hl:=zH Tryz.underlying33 (n:=3) (by kernel_rfl) h;have hf:=zG Tryz.underlying33 h;obtain⟨v,h0⟩:=open_int Tryz.underlying3 (hf 0 _ rfl 0 1 rfl (by kernel_rfl));obtain⟨r,q1,h1⟩:=aFT (hf 1 _ rfl 1 1 rfl (by kernel_rfl));obtain⟨l,q2,h2⟩:=auH (hf 2 _ rfl 2 1 rfl (by kernel_rfl));exact⟨⟨v,r,l⟩,⟨q1,q2⟩,KC (jQ h0 (jQ h1 (jQ h2 (KA hl))))⟩
end
end Go.Proofs.YtnlkiflcbknaaaaGreatDoor
end
section
namespace Go.Proofs.YtnlkiflcbknaaaaGreatDoor
open Go.Dv Go.Pl Go.Proofs.Tryz
abbrev Z0 (m:List (List Bool)):D:= .sl none (m.map fun r=> .sl none (r.map dB))
abbrev U7 (m:List (List Bool)):D:= .sl (some 239) (m.map fun r=> .sl (some 4) (r.map dB))
variable {i:Nat}
def drop_at {α:Type}{l:List α}{c:α}(h:l[i]?=some c):l.drop i=c::l.drop (i+1):=by
 have hi:=dF h;rw[aX hi];congr 1;simpa[aB hi]using h
def aGI {m:L2}(h:m.all (fun r=>decide (r.length=m.length))=true)(hi:i<m.length):∃r,m[i]?=some r/\r.length=m.length:=by
 obtain⟨r,hr⟩:=aR (l:=m) hi;exact⟨r,hr,by simpa using aI.1 h r (aA hr)⟩
def eQ (m:L2)(hs:Qle m:=by first|omega|grind):Fk 158 [cZ m] (vB (bR m)):=by
 refine fE [] ntmps158 fun _ _=> ?_;simp;refine wlt Nat (fun i=>([(0,.val (cZ m)),(3,vI i)],m.length-i,(i<=m.length)/\((m.take i).all (fun r=>decide (r.length=m.length))=true))) (0) ⟨by omega,rfl⟩ ?_;rintro i ⟨h1,h2⟩;simp;apply gw<;>intro a
 ·obtain⟨c,hc⟩:=aR (l:=m) (i:=i);simp[hc];apply gw<;>intro b
  ·have hn:=fV hc (P:=(fun r=>decide (r.length=m.length))) (by first|assumption|(simp[*];done)|grind|(simp;omega));simp;grind[bR]
  ·simp;refine nxa (i+1) ⟨by omega,(bX hc h2 (by first|assumption|(simp[*];done)|grind|(simp;omega)))⟩
 ·simp at a;have hf:=iX h2 a;simp;refine wlt Nat (fun i=>([(0,.val (cZ m)),(4,vI i)],m.length-i,(i<=m.length)/\((List.range i).all (fun i=>(List.range m.length).all (IE m i))=true))) (0) ⟨by omega,rfl⟩ ?_;rintro i ⟨h1j,h2j⟩;simp;apply gw<;>intro aj
  ·simp;refine wlt Nat (fun k=>([(0,.val (cZ m)),(4,vI i),(5,vI k)],m.length-k,(k<=m.length)/\((List.range k).all (IE m i)=true))) (0) ⟨by omega,rfl⟩ ?_;rintro k ⟨h1k,h2k⟩;simp;apply gw<;>intro ak
   ·obtain⟨r,hr,hrl⟩:=aGI hf aj;obtain⟨q,hq,hql⟩:=aGI hf ak;obtain⟨c,hc⟩:=aR (l:=r) (i:=k);obtain⟨d,hd⟩:=aR (l:=q) (i:=i);have e1:=OH hr hc;have e2:=OH hq hd;simp;refine wdr ?_;simp[hr,hc];refine cd (bJ _ _ _) ?_;simp;apply gv<;>intro e
    ·have e':=e;simp at e';have e':IE m i k=false:=by simp[IE,e1,e2];grind
     have hnk:=mZ ak (P:=(IE m i)) e';have hn2:=mZ aj (P:=fun i=>(List.range m.length).all (IE m i)) hnk;simp[e];grind[bR]
    ·have e':=e;simp at e';simp[hr,hq,hc,hd,e];apply gv<;>intro f
     ·have f':=f;have f':IE m i k=false:=by simp[IE,e1,e2];grind
      have hnk:=mZ ak (P:=(IE m i)) f';have hn2:=mZ aj (P:=fun i=>(List.range m.length).all (IE m i)) hnk;simp[f];grind[bR]
     ·have f':=f;simp[f];apply gv<;>intro g
      ·have g':=g;have gk:i=k:=by omega
       subst gk;obtain rfl:r=q:=by simpa[hr]using hq
       obtain rfl:c=d:=by simpa[hc]using hd
       simp[hr,hc];apply gw<;>intro b
       ·have f':IE m i i=false:=by simp[IE,e1,b]
        have hnk:=mZ ak (P:=(IE m i)) f';have hn2:=mZ aj (P:=fun i=>(List.range m.length).all (IE m i)) hnk;simp;grind[bR]
       ·simp;refine nxa (i+1) ⟨by omega,(oH h2k (by simp[IE,e1,b]))⟩
      ·have g':=g;simp[g];refine nxa (k+1) ⟨by omega,(oH h2k (by simp[IE,e1,e2];grind))⟩
   ·simp at ak;have hfk:=LJ (n:=m.length) h2k;simp;refine nxa (i+1) ⟨by omega,(oH h2j hfk)⟩
  ·simp at aj;have hfj:=LJ (n:=m.length) h2j;simp;refine ck (bJ _ _ _) ?_;simp;grind[bR]
def mF (l:L1)(hs:Qle l:=by first|omega|grind):Fk 172 [nInts l] (vB (gD l)):=by
 refine fE [] ntmps172 fun _ _=> ?_;simp;refine wlt (Nat×Int) (fun(i,t)=>([(0,vN l),(3,vI t),(4,vI i)],l.length-i,(i<=l.length)/\(BO (-1) l=BO t (l.drop i))/\(-1<=t/\t<=i))) ((0,(-1))) ⟨by omega,rfl,by omega⟩ ?_;rintro⟨i,t⟩ ⟨h1,h2,h3⟩;simp;apply gw<;>intro a
 ·obtain⟨c,hc⟩:=aR (l:=l) (i:=i);have hdr:=drop_at hc;rw[hdr,BO]at h2;simp[hc];refine ai ?_;refine ck (bJ _ _ _) ?_;simp;apply gw<;>intro b
  ·simp at b;rw[show inR c 0 (t+1)=false by simp;omega]at h2;simp;grind[gD]
  ·simp at b;rw[show inR c 0 (t+1)=true by simp;omega,eZ]at h2;simp[hc];refine nxa (i+1,max t c) ⟨by omega,h2,by omega⟩
 ·simp at a;rw[bO a]at h2;have hx:BO (-1) l:=h2;simp;refine ck (bJ _ _ _) ?_;simp;grind[gD]
def uP (n:Int)(l:List Con)(hn: -1048576<=n/\n<=1048576:=by first|omega|grind)(hs:Qle l:=by first|omega|grind):Fk 236 [dI n,jN l] (vB (dA n l)):=by
 refine fE [] ntmps236 fun _ _=> ?_;simp;refine wlt Nat (fun i=>([(0,vI n),(1,vC l),(5,vI i)],l.length-i,(i<=l.length)/\((l.take i).all (NM n)=true))) (0) ⟨by omega,rfl⟩ ?_;rintro i ⟨h1,h2⟩;simp;apply gw<;>intro a
 ·obtain⟨c,hc⟩:=aR (l:=l) (i:=i);simp;refine wdr ?_;simp[hc];refine ai ?_;refine cd (bJ _ _ _) ?_;simp;apply gv<;>intro e
  ·have e':=e;simp at e';have hn:=fV hc (P:=(NM n)) (by simp[NM];omega);simp[e];grind[dA]
  ·have e':=e;simp at e';simp[hc,e];refine ai ?_;refine cd (bJ _ _ _) ?_;simp;apply gv<;>intro f
   ·have f':=f;simp at f';have hn:=fV hc (P:=(NM n)) (by simp[NM];omega);simp[f];grind[dA]
   ·have f':=f;simp at f';simp[hc,f];apply gw<;>intro b
    ·have hn:=fV hc (P:=(NM n)) (by simp[NM];omega);simp;grind[dA]
    ·simp at b;simp;refine nxa (i+1) ⟨by omega,(bX hc h2 (by simp[NM];omega))⟩
 ·simp at a;have hf:=iX h2 a;simp;refine ck (bJ _ _ _) ?_;simp;apply gv<;>intro e
  ·have e':=e;simp at e';simp[e];grind[dA]
  ·have e':=e;simp at e';simp[e];grind[dA]
def sD (l:L1)(cs:List Con)(hs:Qle l)(hc:Qle cs):Fk 165 [nInts l,jN cs] (vB (cs.all (yB l)&&gD l)):=by
 refine fE [] ntmps165 fun _ _=> ?_;simp;refine wlt Nat (fun i=>([(0,vN l),(1,vC cs),(5,vI i)],cs.length-i,(i<=cs.length)/\((cs.take i).all (yB l)=true))) (0) ⟨by omega,rfl⟩ ?_;rintro i ⟨h1,h2⟩;simp;apply gw<;>intro a
 ·obtain⟨c,hc⟩:=aR (l:=cs) (i:=i);simp;refine wdr ?_;simp[hc];refine ai ?_;refine cd (bJ _ _ _) ?_;simp;apply gv<;>intro e
  ·have e':=e;simp at e';have hn:=fV hc (P:=(yB l)) (by simp[yB];intros;omega);simp[e,hn]
  ·have e':=e;simp at e';simp[hc,e];refine ai ?_;refine cd (bJ _ _ _) ?_;simp;apply gv<;>intro f
   ·have f':=f;simp at f';have hn:=fV hc (P:=(yB l)) (by simp[yB];intros;omega);simp[f,hn]
   ·have f':=f;simp at f';obtain⟨x,hx⟩:=aR (l:=l) (i:=c.a.toNat);obtain⟨y,hy⟩:=aR (l:=l) (i:=c.b.toNat);have ex:=OG hx;have ey:=OG hy;simp[hc,f,hx,hy];iterate 2 refine ai ?_
    apply gw<;>intro b
    ·simp at b;have hn:=fV hc (P:=(yB l)) (by simp[yB,ex,ey];grind);simp[hn]
    ·simp at b;simp;refine nxa (i+1) ⟨by omega,(bX hc h2 (by simp[yB,ex,ey];grind))⟩
 ·simp at a;have hf:=iX h2 a;simp;refine ck (mF _) ?_;simp[hf]
def NE (m:L2)(l:L1)(hm:bR m:=by first|omega|grind)(hl:l.length=m.length:=by first|omega|grind):Fk 242 [cZ m,nInts l] (vI (dP m l)):=by
 refine fE [] ntmps242 fun _ _=> ?_;have hml:=dN hm;simp;refine wlt (Nat×Int) (fun(i,s)=>([(0,.val (cZ m)),(1,vN l),(5,vI s),(6,vI i)],l.length-i,(i<=l.length)/\(s=loopN i (0) (zK m l))/\(0<=s/\s<=8000*i))) ((0,0)) ⟨by omega,rfl,by omega⟩ ?_;rintro⟨i,s⟩ ⟨h1,h2,h3⟩;simp;apply gw<;>intro a
 ·have hs:=aM i (0) (zK m l);rw[←h2]at hs;simp;refine wlt (Nat×Int) (fun(k,t)=>([(0,.val (cZ m)),(1,vN l),(5,vI t),(6,vI i),(7,vI k)],i-k,(k<=i)/\(t=loopN k (s) (fun k s=>s+tC m l i k))/\(s<=t/\t<=s+1000*k))) ((0,s)) ⟨by omega,rfl,by omega⟩ ?_;rintro⟨k,t⟩ ⟨h1k,h2k,h3k⟩;simp;apply gw<;>intro ak
  ·have hsk:=aM k (s) (fun k s=>s+tC m l i k);rw[←h2k]at hsk;obtain⟨r,hr,hrk⟩:=lD hm (i:=i) (k:=k);have hi:=aY (l:=l) (i:=i);have hk:=aY (l:=l) (i:=k);have hb:=iP hm i k;simp;refine wdr ?_;simp[hr,hrk];apply gv<;>intro e
   ·have e':=e;simp[hi,hk,e];apply gw<;>intro f
    ·have hc:tC m l i k=at2 m i k:=if_pos ⟨e,f⟩;simp[hr,hrk];refine ai ?_;refine wdr ?_;simp[hr,hrk];apply gv<;>intro g
     ·have g':=g;exfalso;omega
     ·have g':=g;simp at g';simp[g];refine nxa (k+1,t+at2 m i k) ⟨by omega,by rw[hsk,hc],by omega⟩
    ·simp;refine wdr ?_;simp[hr,hrk];apply gv<;>intro g
     ·have g':=g;exfalso;omega
     ·have g':=g;simp at g';have hc:tC m l i k=0:=by rw[tC,if_neg (by simp[f]),if_neg (by omega)]
      simp[g];refine nxa (k+1,t) ⟨by omega,by rw[hsk,hc];simp,by omega⟩
   ·have e':=e;simp at e';simp[e];refine wdr ?_;simp[hr,hrk];apply gv<;>intro g
    ·have g':=g;simp[hi,hk,g];apply gw<;>intro f
     ·have hc:tC m l i k= - at2 m i k:=by rw[tC,if_neg (by omega),if_pos ⟨g,f⟩]
      simp[hr,hrk];refine nxb (k+1,t-at2 m i k) ⟨by omega,by rw[hsk,hc];omega,by omega⟩
     ·have hc:tC m l i k=0:=by rw[tC,if_neg (by omega),if_neg (by simp[f])]
      simp;refine nxa (k+1,t) ⟨by omega,by rw[hsk,hc];simp,by omega⟩
    ·have g':=g;simp at g';have hc:tC m l i k=0:=by rw[tC,if_neg (by omega),if_neg (by omega)]
     simp[g];refine nxa (k+1,t) ⟨by omega,by rw[hsk,hc];simp,by omega⟩
  ·simp at ak;have hik:i=k:=by omega
   subst hik;simp;refine nxa (i+1,t) ⟨by omega,by rw[hs,zK,h2k],by omega⟩
 ·simp at a;have hi:l.length=i:=by omega
  subst hi;simp;exact h2
def mW (m:L2)(l:L1)(hm:Qle m:=by omega)(hl:Qle l:=by omega):Fk 169 [cZ m,nInts l] (vI (if bR m=true/\gD l=true/\l.length=m.length then dP m l else -1)):=by
 refine fE [] ntmps169 fun _ _=> ?_;simp;refine ck (eQ _) ?_;simp;apply gv<;>intro e
 ·have e':=e;simp at e';simp[e];all_goals grind
 ·have e':=e;simp at e';simp[e];refine ck (mF _) ?_;simp;apply gv<;>intro f
  ·have f':=f;simp at f';simp[f];all_goals grind
  ·have f':=f;simp at f';simp[f];apply gw<;>intro b
   ·simp;all_goals grind
   ·simp;refine ck (NE _ _) ?_;simp;all_goals grind
def JE (x:Int):Fk 211 [dI x] (vB (inR x 0 5)):=by
 refine fE [] ntmps211 fun _ _=> ?_;simp;refine ck (bI x 0 5) ?_;simp
def R7 (x:Int):Fk 212 [dI x] (vB (inR x 1 1000)):=by
 refine fE [] ntmps212 fun _ _=> ?_;simp;refine ck (bI x 1 1000) ?_;simp
def rH (r:List (List Tst))(hs:Qle r)(hr:∀l∈r,Qle l):Fk 128 [mU r] (vB (jH r)):=by
 refine fE [] ntmps128 fun _ _=> ?_;simp;refine wlt Nat (fun i=>([(1,.own (.bx true (mU r))),(8,.val (.sl none (r.map wK))),(9,vI r.length),(10,vI i)],r.length-i,(i<=r.length)/\((r.take i).all jD=true))) (0) ⟨by omega,rfl⟩ ?_;rintro i ⟨h1,h2⟩;simp;apply gw<;>intro a
 ·obtain⟨c,hc⟩:=aR (l:=r) (i:=i);have hcl:=hr c (aA hc);simp[hc];refine ck (bI c.length 1 3) ?_;simp;apply gw<;>intro b
  ·simp at b;have hn:=fV hc (P:=jD) (by simp[jD];omega);simp;grind[jH]
  ·simp at b;simp;refine wlt Nat (fun k=>([(1,.own (.bx true (mU r))),(4,.own (.bx true (wK c))),(8,.val (.sl none (r.map wK))),(9,vI r.length),(10,vI i),(20,.val (.sl none (c.map uI))),(21,vI c.length),(22,vI k)],c.length-k,(k<=c.length)/\((c.take k).all IW=true)/\(adj (fun a b=>decide (a.feature<b.feature)) (c.take k)=true))) (0) ⟨by omega,rfl,rfl⟩ ?_;rintro k ⟨h1k,h2k,h3k⟩;simp;apply gw<;>intro ak
   ·obtain⟨ck,hck⟩:=aR (l:=c) (i:=k);simp[hck];refine wdr ?_;simp;refine cd (JE ck.feature) ?_;simp;apply gv<;>intro e
    ·have e':=e;simp at e';have hn:=fV hc (P:=jD) (by have:=fV hck (P:=IW) (by simp[IW];omega);simp[jD,this]);simp[e];grind[jH]
    ·have e':=e;simp at e';simp[e];refine cd (R7 ck.threshold) ?_;simp;apply gv<;>intro f
     ·have f':=f;simp at f';have hn:=fV hc (P:=jD) (by have:=fV hck (P:=IW) (by simp[IW];omega);simp[jD,this]);simp[f];grind[jH]
     ·have f':=f;simp at f';simp[f];apply gv<;>intro g
      ·have g':=g;obtain⟨p,hp⟩:=aR (l:=c) (i:=k-1);have hi1:k-1+1=k:=by omega
       simp[g,hp];iterate 2 refine ai ?_
       apply gw<;>intro d
       ·have hn:=fV hc (P:=jD) (by have:=JV hp (by rw[hi1];exact hck) (R:=fun a b=>decide (a.feature<b.feature)) (by simp;omega);simp[jD,this]);simp;grind[jH]
       ·simp at d;simp;refine nxa (k+1) ⟨by omega,(bX hck h2k (by simp[IW];omega)),by have:=yZ (i:=k-1) (by rw[hi1];exact h3k) hp (by rw[hi1];exact hck) (by simp;omega);rwa [hi1]at this⟩
      ·have g':=g;simp at g';simp[g];refine nxa (k+1) ⟨by omega,(bX hck h2k (by simp[IW];omega)),(by obtain rfl:k=0:=(by omega);exact vW)⟩
   ·simp at ak;have hfk:=iX h2k ak;rw[bS ak]at h3k;simp;refine nxa (i+1) ⟨by omega,(bX hc h2 (by simp[jD,hfk,h3k];omega))⟩
 ·simp at a;have hf:=iX h2 a;simp;refine ck (bI r.length 1 3) ?_;simp;grind[jH]
def oO (s:Sco)(hw:Qle s.weights):Fk 176 [II s] (vB (lZ s)):=by
 refine fE [] ntmps176 fun _ _=> ?_;simp;refine wlt Nat (fun i=>([(1,.own (.bx true (II s))),(3,.val (dI (s.weights.take i).sum)),(7,vN s.weights),(8,vI s.weights.length),(9,vI i)],(s.weights).length-i,(i<=(s.weights).length)/\((s.weights.take i).all F8=true)/\(0<=(s.weights.take i).sum/\(s.weights.take i).sum<=9*i))) (0) ⟨by omega,rfl,by simp⟩ ?_;rintro i ⟨h1,h2,h3⟩;simp;apply gw<;>intro a
 ·obtain⟨c,hc⟩:=aR (l:=s.weights) (i:=i);simp[hc];refine ck (bI c 0 9) ?_;simp;apply gw<;>intro b
  ·simp at b;have hn:=fV hc (P:=F8) (by simp[F8];omega);simp;grind[lZ]
  ·simp at b;have hsum:(s.weights.take (i+1)).sum=(s.weights.take i).sum+c:=by rw[dM hc];simp
   simp;refine nxb (i+1) ⟨by omega,(bX hc h2 (by simp[F8];omega)),by omega⟩ (h3:=by simp[hc,hsum])
 ·simp at a;have hf:=iX h2 a;rw[bS a];simp;apply gv<;>intro d
  ·have d':=d;simp[d];apply gv<;>intro e
   ·have e':=e;simp[e];refine ck (bI s.bias 0 1000) ?_;simp;grind[lZ]
   ·have e':=e;simp at e';simp[e];grind[lZ]
  ·have d':=d;simp[d];grind[lZ]
def MJ (x:Int):Fk 254 [dI x] (vB (inR x 1 4)):=by
 refine fE [] ntmps254 fun _ _=> ?_;simp;refine ck (bI x 1 4) ?_;simp
def FP (x:Int):Bool:= !inR x 1 4
def GN (x:Int):Fk 253 [dI x] (vB (FP x)):=by
 refine fE [] ntmps253 fun _ _=> ?_;simp;refine ck (MJ x) ?_;simp;grind[FP]
def amL (l:L1)(hl:Qle l):Fk 316 [nInts l,.one (.func (.func 253) #[] #[])] (vI (ix FP l)):=by
 refine fE [] ntmps316 fun _ _=> ?_;simp;refine wlt Nat (fun i=>([(0,vN l),(1,.val (.one (.func (.func 253) #[] #[]))),(7,vI l.length),(8,vI i)],l.length-i,(i<=l.length)/\((l.take i).any FP=false))) (0) ⟨by omega,rfl⟩ ?_;rintro i ⟨h1,h2⟩;simp;apply gw<;>intro a
 ·obtain⟨c,hc⟩:=aR (l:=l) (i:=i);simp[hc];refine ck (GN c) ?_;simp;apply gw<;>intro b
  ·have hn:=CK hc h2 (by simp[b]);simp[hn]
  ·simp;refine nxa (i+1) ⟨by omega,(kL hc h2 (by simp[b]))⟩
 ·simp at a;have hf:=oL h2 a;have hx:=rQ hf;simp[hx]
def aqT (l:L1)(hl:Qle l):Fk 252 [nInts l,.one (.func (.func 253) #[] #[])] (vB (l.any FP)):=by
 refine fE [] ntmps252 fun _ _=> ?_;have hq:decide (0<=ix FP l)=l.any FP:=by rw[bQ,decide_eq_true_eq];exact jB
 simp;refine ck (amL l hl) ?_;simp[hq]
def aCK (l:L1):l.any FP= !(l.all QK):=by
 induction l with
 |nil=>rfl
 |cons x l ih=>rw[List.any_cons,vJ,ih,FP,QK];simp
def JY (l:L1)(hl:Qle l):Fk 177 [nInts l] (vB (D5 l)):=by
 refine fE [] ntmps177 fun _ _=> ?_;simp;apply gv<;>intro e
 ·have e':=e;simp[e];refine ck (aqT l hl) ?_;simp;rw[aCK,D5,decide_eq_true (show l.length=4 by omega)];simp
 ·have e':=e;simp[e];rw[D5,decide_eq_false (show¬l.length=4 by omega)];simp
def NP (c:Cfg)(hs:Qle c.rules)(hr:∀l∈c.rules,Qle l)(hw:Qle c.sco.weights)(hv:Qle c.surv):Fk 102 [agZ c] (vB (kZ c)):=by
 refine fE [] ntmps102 fun _ _=> ?_;simp;refine ck (rH c.rules hs hr) ?_;simp;apply gv<;>intro e
 ·have e':=e;simp[e];refine ck (oO c.sco hw) ?_;simp;apply gv<;>intro f
  ·have f':=f;simp[f];refine ck (JY c.surv hv) ?_;simp;grind[kZ]
  ·have f':=f;simp[f];grind[kZ]
 ·have e':=e;simp[e];simp[kZ,e']
end Go.Proofs.YtnlkiflcbknaaaaGreatDoor
end
section
namespace Go
def xB:= @List.find?_eq_none
end Go
end
section
namespace Go.Proofs.YtnlkiflcbknaaaaGreatDoor
open Go.Dv Go.Pl Go.Proofs.Tryz
def iO (r:Rec)(hr:inI .i64 (eG r))(h2:inI .i64 (100*r.source)):Fk 61 [nP r] (vI (eG r)):=by
 refine fE [] ntmps61 fun _ _=> ?_;simp;refine ai ?_;exact⟨hr,rfl⟩
def KP (x:Int):Fk 324 [dI x] (vB false):=by
 refine fE [] ntmps324 fun _ _=> ?_;simp
def pW (x y:Int):Fk 265 [dI x,dI y] (vI (cmpI x y)):=by
 refine fE [] ntmps265 fun _ _=> ?_;simp;refine ck (KP x) ?_;simp;refine ck (KP y) ?_;simp;apply gw<;>intro a
 ·simp;grind[cmpI]
 ·simp at a;simp;apply gw<;>intro b
  ·simp;grind[cmpI]
  ·simp at b;simp;grind[cmpI]
def orI (l:L1):Int:=(l.find? fun x=>decide (x≠0)).getD 0
variable {l:L1}{i:Nat}
def aHQ {c:Int}(h:(l.take i).all (fun x=>decide (x=0))=true)(hc:l[i]?=some c)(hn:c≠0):orI l=c:=by
 have hlt:=(aD.1 hc).1;rw[aB hlt]at hc;have e:l=l.take i++c::l.drop (i+1):=by rw[←Option.some.inj hc];simp
 have h2:(l.take i).find? (fun x=>decide (x≠0))=none:=by
  rw[xB];intro x hx;have:=aI.1 h x hx;simpa using this
 rw[orI,e,List.find?_append,h2];simp[hn]
def aHR (h:l.all (fun x=>decide (x=0))=true):orI l=0:=by
 have h2:l.find? (fun x=>decide (x≠0))=none:=by
  rw[xB];intro x hx;have:=aI.1 h x hx;simpa using this
 rw[orI,h2];rfl
def agO (l:L1)(hl:Qle l):Fk 320 [nInts l] (vI (orI l)):=by
 refine fE [] ntmps320 fun _ _=> ?_;simp;refine wlt Nat (fun i=>([(3,vI 0),(6,vN l),(7,vI l.length),(8,vI i)],l.length-i,(i<=l.length)/\((l.take i).all (fun x=>decide (x=0))=true))) (0) ⟨by omega,rfl⟩ ?_;rintro i ⟨h1,h2⟩;simp;apply gw<;>intro a
 ·obtain⟨c,hc⟩:=aR (l:=l) (i:=i);simp[hc];apply gw<;>intro b
  ·have hx:=aHQ h2 hc b;simp[hx]
  ·simp;refine nxa (i+1) ⟨by omega,(bX hc h2 (by simpa using b))⟩
 ·simp at a;have hx:orI l=0:=aHR (by rwa [bS a]at h2);simp[hx]
def R6 (x y:Bool):Fk 321 [dB x,dB y] (vI (if x=y then 0 else if y then -1 else 1)):=by
 refine fE [] ntmps321 fun _ _=> ?_;simp;apply gw<;>intro a
 ·simp at a;simp;grind
 ·simp at a;simp;apply gw<;>intro b
  ·simp;grind
  ·simp;grind
def au4 (a b:Ver):orI [cmpI a.a b.a,cmpI a.b b.b,cmpI a.time b.time,if a.same=b.same then 0 else if b.same then -1 else 1]=gX a b:=by
 unfold gX orI;by_cases h1:cmpI a.a b.a=0<;>by_cases h2:cmpI a.b b.b=0<;>by_cases h3:cmpI a.time b.time=0<;>simp[h1,h2,h3];all_goals(cases a.same<;>cases b.same<;>simp)
def AA (a b:Ver):Fk 259 [kH a,kH b] (vI (gX a b)):=by
 refine fE [] ntmps259 fun _ _=> ?_;simp;refine wdt 20 ?_;simp;refine cd (pW a.a b.a) ?_;simp;refine cd (pW a.b b.b) ?_;simp;refine cd (pW a.time b.time) ?_;simp;refine cd (R6 a.same b.same) ?_;have hx:=au4 a b;simp;refine ck (agO [cmpI a.a b.a,cmpI a.b b.b,cmpI a.time b.time,if a.same=b.same then 0 else if b.same then -1 else 1] (by simp)) ?_;simp[hx]
def FJ (l:List Ver)(hs:Qle l:=by first|omega|grind):Fk 179 [nVers l] (vB (lC l)):=by
 refine fE [] ntmps179 fun _ _=> ?_;simp;refine wlt Nat (fun i=>([(0,vV l),(5,vV l),(6,vI l.length),(7,vI i)],l.length-i,(i<=l.length)/\((l.take i).all fQ=true)/\(adj (fun a b=>decide (gX a b<0)) (l.take i)=true))) (0) ⟨by omega,rfl,rfl⟩ ?_;rintro i ⟨h1,h2,h3⟩;simp;apply gw<;>intro a
 ·obtain⟨c,hc⟩:=aR (l:=l) (i:=i);simp[hc];refine wdr ?_;simp;refine cd (MF c) ?_;simp;apply gv<;>intro e
  ·have e':=e;simp at e';have hn:=fV hc (P:=fQ) (by simpa using e);simp[e];grind[lC]
  ·have e':=e;simp at e';simp[e];apply gv<;>intro f
   ·have f':=f;obtain⟨p,hp⟩:=aR (l:=l) (i:=i-1);have hi1:i-1+1=i:=by omega
    simp[f,hp];iterate 2 refine ai ?_
    refine cd (AA p c) ?_;simp;apply gw<;>intro b
    ·have hn:=JV hp (by rw[hi1];exact hc) (R:=fun a b=>decide (gX a b<0)) (by simp;omega);simp;grind[lC]
    ·simp at b;simp;refine nxa (i+1) ⟨by omega,(bX hc h2 (by simpa using e)),by have:=yZ (i:=i-1) (by rw[hi1];exact h3) hp (by rw[hi1];exact hc) (by simp;omega);rwa [hi1]at this⟩
   ·have f':=f;simp at f';simp[f];refine nxa (i+1) ⟨by omega,(bX hc h2 (by simpa using e)),(by obtain rfl:i=0:=(by omega);exact vW)⟩
 ·simp at a;have hf:=iX h2 a;rw[bS a]at h3;simp;grind[lC]
def nL (x n:Int)(hn: -1048576<=n/\n<=1048576:=by first|omega|grind):Fk 388 [dI x,dI n] (vB (inR x 0 (n-1))):=by
 refine fE [] ntmps388 fun _ _=> ?_;simp;refine ai ?_;refine ck (bI x 0 (n-1)) ?_;simp
def yI (l:L1)(hs:Qle l):Fk 399 [nInts l] (vB (gD l)):=by
 refine fE [] ntmps399 fun _ _=> ?_;simp;refine wlt (Nat×Int) (fun(i,t)=>([(0,vN l),(3,vI (t+1)),(6,vN l),(7,vI l.length),(8,vI i)],l.length-i,(i<=l.length)/\(BO (-1) l=BO t (l.drop i))/\(-1<=t/\t<=i))) ((0,(-1))) ⟨by omega,rfl,by omega⟩ ?_;rintro⟨i,t⟩ ⟨h1,h2,h3⟩;simp;apply gw<;>intro a
 ·obtain⟨c,hc⟩:=aR (l:=l) (i:=i);have hdr:=drop_at hc;rw[hdr,BO]at h2;simp[hc];refine ck (bI c 0 (t+1)) ?_;simp;apply gw<;>intro b
  ·simp at b;rw[show inR c 0 (t+1)=false by simp;omega]at h2;simp;grind[gD]
  ·simp at b;rw[show inR c 0 (t+1)=true by simp;omega,eZ]at h2;have hmx:max (t+1) (c+1)=max t c+1:=by omega
   simp[hmx];refine nxb (i+1,max t c) ⟨by omega,h2,by omega⟩
 ·simp at a;rw[bO a]at h2;have hx:BO (-1) l:=h2;simp;refine ck (bI l.length 1 8) ?_;simp;grind[gD]
def UM (s:Sto)(hs:Qle s.recs)(hi:∀r∈s.recs,inI .i64 (eG r)/\inI .i64 (100*r.source)):Fk 183 [MS s] (wN (s.recs.map eG)):=by
 refine fE [] ntmps183 fun _ _=> ?_;simp;refine wlt (Nat×L1) (fun(i,o)=>([(3,wN o),(7,vT s.recs),(8,vI s.recs.length),(9,vI i)],s.recs.length-i,(i<=s.recs.length)/\(o=(s.recs.take i).map eG))) ((0,[])) ⟨by omega,rfl⟩ ?_;rintro⟨i,o⟩ ⟨h1,h2⟩;simp;apply gw<;>intro a
 ·obtain⟨c,hc⟩:=aR a;have hm:=uA eG hc;rw[←h2]at hm;have hol:o.length=i:=by rw[h2];simp;omega
  have hci:=hi c (aA hc);simp[hc];refine ck (iO c hci.1 hci.2) ?_;simp;refine nxb (i+1,o++[eG c]) ⟨by omega,hm.symm⟩
 ·simp at a;rw[bS a]at h2;subst h2;simp
variable {x c:Str}
def aH2 {l:List Str}(hc:l[i]?=some c)(h:i<=CO l x)(hb:ltL c x):i+1<=CO l x:=by
 induction l generalizing i with
 |nil=>cases hc
 |cons y l ih=>
  unfold CO at*
  cases i with
  |zero=>
   obtain rfl:y=c:=by simpa using hc
   simp[hb]
  |succ i=>
   by_cases hy:ltL y x=true
   ·simp only[qU,hy,if_true,aS]at h|-
    have:=ih (i:=i) (by simpa using hc) (by omega);omega
   ·simp[hy]at h
def aH1 {l:List Str}(hc:l[i]?=some c)(h:i<=CO l x)(hb:ltL c x=false):CO l x=i:=by
 induction l generalizing i with
 |nil=>cases hc
 |cons y l ih=>
  unfold CO at*
  cases i with
  |zero=>
   obtain rfl:y=c:=by simpa using hc
   simp[hb]
  |succ i=>
   by_cases hy:ltL y x=true
   ·simp only[qU,hy,if_true,aS]at h|-
    have:=ih (i:=i) (by simpa using hc) (by omega);omega
   ·simp[hy]at h
def zA (l:List Str)(x:Str)(again:Bool)(hl:Qle l:=by first|omega|grind):Fk 123 [mQ l,dS x,dB again] (vR (jW l x again)):=by
 refine fE [13] ntmps123 fun _ _=> ?_;simp;refine wlt Nat (fun i=>([(0,vR l),(1,vS x),(2,vB again),(7,vI i)],l.length-i,(i<=l.length)/\(i<=CO l x))) (0) ⟨by omega,by omega⟩ ?_;rintro i ⟨h1,h2⟩;simp;apply gv<;>intro a
 ·have a':=a;obtain⟨c,hc⟩:=aR (l:=l) (i:=i);have hcc:l[i]=c:=by simpa[aB a]using hc
  simp[a,hcc];apply gw<;>intro b
  ·simp;refine nxa (i+1) ⟨by omega,(aH2 hc h2 b)⟩
  ·have hi:CO l x=i:=aH1 hc h2 b;have htp:jW l x again=if again=false/\c=x then l else l.take i++[x]++l.drop i:=by simp[jW,hi,hc]
   simp;apply gv<;>intro e
   ·have e':=e;simp at e';simp[a,hcc,e];apply gw<;>intro f
    ·simp;simp_all
    ·simp;refine wdf [(0,[39]),(4,[39,42,43]),(6,[44,45]),(7,[43,45,46]),(11,[46,49,50]),(12,[50,6])] [(0,vR l),(1,vS x),(7,vI i)] [] (by simp) ?_;simp;iterate 5 refine ai ?_
     refine jX [] (dK 6) ?_;simp;simp_all
   ·have e':=e;simp at e';simp[e];refine wdf [(0,[39]),(4,[39,42,43]),(6,[44,45]),(7,[43,45,46]),(11,[46,49,50]),(12,[50,6])] [(0,vR l),(1,vS x),(7,vI i)] [] (by simp) ?_;simp;iterate 5 refine ai ?_
    refine jX [] (dK 6) ?_;simp;simp_all
 ·have a':=a;simp at a';have hi:l.length=i:=by omega
  have hia:CO l x=i:=by have:=aCR l x;omega
  have htp:jW l x again=l.take i++[x]++l.drop i:=by simp[jW,hia,k_List_getElem__eq_none (show l.length<=i by omega)]
  simp[a];apply gv<;>intro e
  ·have e':=e;simp at e';simp[a,e];refine wdf [(0,[39]),(4,[39,42,43]),(6,[44,45]),(7,[43,45,46]),(11,[46,49,50]),(12,[50,6])] [(0,vR l),(1,vS x),(7,vI i)] [] (by simp) ?_;simp;iterate 5 refine ai ?_
   refine jX [] (dK 6) ?_;simp;simp_all
  ·have e':=e;simp at e';simp[e];refine wdf [(0,[39]),(4,[39,42,43]),(6,[44,45]),(7,[43,45,46]),(11,[46,49,50]),(12,[50,6])] [(0,vR l),(1,vS x),(7,vI i)] [] (by simp) ?_;simp;iterate 5 refine ai ?_
   refine jX [] (dK 6) ?_;simp;simp_all
abbrev oBs (l:Str):D:= .sl (some 5) (l.map dU)
abbrev dC (c:UInt8):D:= .one (.int .u8 c.toNat)
def PP (c:UInt8):Fk 288 [dC c] (vB (xJ c)):=by
 refine fE [] ntmps288 fun _ _=> ?_;simp;apply gv<;>intro e
 ·have e':=e;simp[e];apply gv<;>intro f
  ·have f':=f;simp[f];grind[xJ]
  ·have f':=f;simp at f';simp[f];apply gv<;>intro g
   ·have g':=g;simp[g];apply gv<;>intro g1
    ·have g1':=g1;simp[g1];omega
    ·have g1':=g1;simp at g1';simp[g1];apply gv<;>intro g2
     ·have g2':=g2;simp[g2];grind[xJ]
     ·have g2':=g2;simp at g2';simp[g2];omega
   ·have g':=g;simp at g';simp[g];apply gv<;>intro g3
    ·have g3':=g3;simp[g3];omega
    ·have g3':=g3;simp at g3';simp[g3];omega
 ·have e':=e;simp at e';simp[e];apply gv<;>intro g4
  ·have g4':=g4;simp[g4];apply gv<;>intro g5
   ·have g5':=g5;simp[g5];grind[xJ]
   ·have g5':=g5;simp at g5';simp[g5];apply gv<;>intro g6
    ·have g6':=g6;simp[g6];grind[xJ]
    ·have g6':=g6;simp at g6';simp[g6];omega
  ·have g4':=g4;simp at g4';simp[g4];apply gv<;>intro g7
   ·have g7':=g7;simp[g7];grind[xJ]
   ·have g7':=g7;simp at g7';simp[g7];grind[xJ]
def xO (s:Str)(hs:Qle s:=by first|omega|grind):Fk 203 [dS s] (vS (wJ s)):=by
 refine fE [] ntmps203 fun _ _=> ?_;simp;refine wlt (Nat×Str) (fun(i,o)=>([(0,vS s),(3,.own (oBs o)),(4,vI i)],s.length-i,(i<=s.length)/\(o=(s.take i).map iU)/\(o.length=i))) ((0,[])) ⟨by omega,rfl,rfl⟩ ?_;rintro⟨i,o⟩ ⟨h1,h2,h3⟩;simp;apply gw<;>intro a
 ·obtain⟨c,hc⟩:=aR (l:=s) (i:=i);have hm:=uA iU hc;rw[←h2]at hm;simp[hc];apply gv<;>intro e
  ·have e':=e;simp[e];apply gw<;>intro f
   ·have hu:=acW (c:=c) (by omega) (by omega);simp;refine nxd (i+1,o++[iU c]) ⟨by omega,by rw[hm],by simp;omega⟩ (h3:=by simp[hc,e,hu])
   ·simp at f;have hu:=RD (c:=c);simp;refine nxb (i+1,o++[iU c]) ⟨by omega,by rw[hm],by simp;omega⟩ (h3:=by simp[hc,e,hu])
  ·have e':=e;simp at e';have hu:=RD (c:=c);simp[e];refine nxb (i+1,o++[iU c]) ⟨by omega,by rw[hm],by simp;omega⟩ (h3:=by simp[hc,e,hu])
 ·simp at a;rw[bS a]at h2;simp;grind[wJ]
def HY (s:Str)(hs:Qle s):Fk 202 [dS s] (vS (yX s)):=by
 refine fE [] ntmps202 fun _ _=> ?_;simp;refine wlt (Nat×Str) (fun(i,o)=>([(0,vS s),(3,.own (oBs o)),(4,vI i)],s.length-i,(i<=s.length)/\(o=(s.take i).flatMap BR)/\(o.length<=i))) ((0,[])) ⟨by omega,rfl,by simp⟩ ?_;rintro⟨i,o⟩ ⟨h1,h2,h3⟩;simp;apply gw<;>intro a
 ·obtain⟨c,hc⟩:=aR (l:=s) (i:=i);have hm:=ajU BR hc;rw[←h2]at hm;simp[hc];refine ck (PP _) ?_;simp;apply gv<;>intro e
  ·have e':=e;have hu:BR c=[c]:=if_pos (.inl e);simp[hc,e];refine nxb (i+1,o++[c]) ⟨by omega,by rw[hm,hu],by simp;omega⟩
  ·have e':=e;simp[hc,e];apply gw<;>intro f
   ·have hu:BR c=[c]:=if_pos (.inr (by omega));simp[hc];refine nxb (i+1,o++[c]) ⟨by omega,by rw[hm,hu],by simp;omega⟩
   ·simp[hc];apply gw<;>intro g
    ·have hu:BR c=[32]:=by rw[BR,if_neg (fun h=>by rcases h with h|h;(rw[e']at h;cases h);omega),if_pos (by omega)]
     simp;refine nxb (i+1,o++[32]) ⟨by omega,by rw[hm,hu],by simp;omega⟩
    ·have hu:BR c=[]:=by rw[BR,if_neg (fun h=>by rcases h with h|h;(rw[e']at h;cases h);omega),if_neg (by omega)]
     simp;refine nxa (i+1,o) ⟨by omega,by rw[hm,hu];simp,by omega⟩
 ·simp at a;rw[bS a]at h2;simp;grind[yX]
def BB (s:Str)(hs:Qle s):Fk 201 [dS s] (vS (ED s)):=by
 refine fE [] ntmps201 fun _ _=> ?_;simp;refine wlt (Nat×Str) (fun(i,o)=>([(0,vS s),(3,.own (oBs o)),(4,vI i)],s.length-i,(i<=s.length)/\(o=loopN i ([]) (rE s))/\(o.length<=2*i)/\(i=0->o=[]))) ((0,[])) ⟨by omega,rfl,by simp,by simp⟩ ?_;rintro⟨i,o⟩ ⟨h1,h2,h3,h4⟩;simp;apply gw<;>intro a
 ·have hs:=aM i ([]) (rE s);rw[←h2]at hs;obtain⟨c,hc⟩:=aR (l:=s) (i:=i);have hg:=XT hc;simp[hc];apply gw<;>intro b
  ·have hu:rE s i o=(if 0<o.length/\(s.getD (i-1) 0).toNat=32 then o++[32]else o)++[c]:=by rw[rE,hg,if_neg (by omega)]
   simp;apply gv<;>intro e
   ·have e':=e;have hi:0<i:=by rcases kY i with h|h;(have:=h4 h;subst this;simp at e);exact h
    obtain⟨d,hd⟩:=aR (l:=s) (i:=i-1);have hdg:=XT hd;simp[e,hd];iterate 2 refine ai ?_
    apply gw<;>intro f
    ·have hv:rE s i o=o++[32]++[c]:=by rw[hu,if_pos ⟨by simpa using e,by rw[hdg];omega⟩]
     simp[hc];refine nxd (i+1,o++[32]++[c]) ⟨by omega,by rw[hs,hv],by simp;omega,by omega⟩
    ·have hv:rE s i o=o++[c]:=by rw[hu,if_neg (by (try unfold Qle);rw[hdg];omega)]
     simp[hc];refine nxb (i+1,o++[c]) ⟨by omega,by rw[hs,hv],by simp;omega,by omega⟩
   ·have e':=e;simp at e';have hv:rE s i o=o++[c]:=by rw[hu,if_neg (by simp_all)]
    simp[hc,e];refine nxb (i+1,o++[c]) ⟨by omega,by rw[hs,hv],by simp;omega,by omega⟩
  ·have hu:rE s i o=o:=by rw[rE,hg,if_pos (by omega)]
   simp;refine nxa (i+1,o) ⟨by omega,by rw[hs,hu],by omega,by omega⟩
 ·simp at a;have hi:s.length=i:=by omega
  subst hi;simp;grind[ED]
def IK (s:Str):(normal s).length<=2*s.length:=by
 have h1:=VU (yX (wJ s));have h2:=IU (wJ s);have h3:=DF s;unfold normal;omega
def rO (s:Str)(hs:Qle s:=by first|omega|grind):Fk 119 [dS s] (vS (normal s)):=by
 refine fE [] ntmps119 fun _ _=> ?_;simp;refine ck (xO _) ?_;simp;first|refine ck (HY _ (by have:=DF s;omega)) ?_|refine ckz (HY _ (by have:=DF s;omega)) ?_
 simp;first|refine ck (BB _ (by have:=IU (wJ s);have h2:=DF s;omega)) ?_|refine ckz (BB _ (by have:=IU (wJ s);have h2:=DF s;omega)) ?_
 simp;grind[normal]
def ayU {l:Str}{c:UInt8}(h:l[i]?=some c):l.drop i=c::l.drop (i+1):=drop_at h
def agS (s:Str)(c:UInt8)(hs:Qle s):Fk 122 [dS s,dC c] (wE (ad6 c s)):=by
 refine fE [] ntmps122 fun _ _=> ?_;simp;refine wlt (Nat×Nat×List Str) (fun(i,f,o)=>([(0,vS s),(1,.val (dC c)),(5,wE o),(6,vI f),(7,vI i)],s.length-i,(i<=s.length)/\f<=i/\o.length<=i/\(o++TY c ((s.drop f).take (i-f)) (s.drop i)=ad6 c s))) ((0,0,[])) ⟨by simp,by simp,by simp,by simp[ad6]⟩ ?_;rintro⟨i,f,o⟩ ⟨h1,h2,h3,h4⟩;simp;apply gw<;>intro a
 ·obtain⟨d,hd⟩:=aR (l:=s) (i:=i);rw[ayU hd]at h4;simp[hd];apply gw<;>intro b
  ·simp;iterate 4 refine ai ?_
   refine nx (i+1,i+1,o++[(s.drop f).take (i-f)]) ⟨by omega,by omega,by simp;omega,by simpa[TY,b]using h4⟩
  ·have he:(s.drop f).take (i+1-f)=(s.drop f).take (i-f)++[d]:=by rw[show i+1-f=(i-f)+1 by omega];exact dM (by rw[dV,show f+(i-f)=i by omega];exact hd)
   simp;refine nxa (i+1,f,o) ⟨by omega,by omega,by omega,by rw[he];simpa[TY,b]using h4⟩
 ·simp at a;have:i=s.length:=by omega
  subst this;rw[List.drop_length,take_drop_len]at h4;simp;iterate 2 refine ai ?_
  rw[←h4];simp[TY]
def XL (c:UInt8):Fk 209 [dC c] (vI (aO c)):=by
 refine fE [] ntmps209 fun _ _=> ?_;have hf:wJ [c]=[iU c]:=rfl;simp;refine ck (xO [c]) ?_;simp[hf];apply gw<;>intro a1
 ·have b1:(iU c).toNat=98:=by rw[a1];rfl
  simp[a1];all_goals simp[aO,codeOf,b1]
 ·have b1:¬(iU c).toNat=98:=fun h=>a1 (k_UInt8_toNat_inj.1 h);simp[a1];apply gw<;>intro a2
  ·have b2:(iU c).toNat=102:=by rw[a2];rfl
   simp[a2];all_goals simp[aO,codeOf,b2]
  ·have b2:¬(iU c).toNat=102:=fun h=>a2 (k_UInt8_toNat_inj.1 h);simp[a2];apply gw<;>intro a3
   ·have b3:(iU c).toNat=112:=by rw[a3];rfl
    simp[a3];all_goals simp[aO,codeOf,b3]
   ·have b3:¬(iU c).toNat=112:=fun h=>a3 (k_UInt8_toNat_inj.1 h);simp[a3];apply gw<;>intro a4
    ·have b4:(iU c).toNat=118:=by rw[a4];rfl
     simp;all_goals simp[aO,codeOf,b4]
    ·have b4:¬(iU c).toNat=118:=fun h=>a4 (k_UInt8_toNat_inj.1 h);simp[a4];apply gw<;>intro a5
     ·have b5:(iU c).toNat=99:=by rw[a5];rfl
      simp[a5];all_goals simp[aO,codeOf,b5]
     ·have b5:¬(iU c).toNat=99:=fun h=>a5 (k_UInt8_toNat_inj.1 h);simp[a5];apply gw<;>intro a6
      ·have b6:(iU c).toNat=103:=by rw[a6];rfl
       simp[a6];all_goals simp[aO,codeOf,b6]
      ·have b6:¬(iU c).toNat=103:=fun h=>a6 (k_UInt8_toNat_inj.1 h);simp[a6];apply gw<;>intro a7
       ·have b7:(iU c).toNat=106:=by rw[a7];rfl
        simp[a7];all_goals simp[aO,codeOf,b7]
       ·have b7:¬(iU c).toNat=106:=fun h=>a7 (k_UInt8_toNat_inj.1 h);simp[a7];apply gw<;>intro a8
        ·have b8:(iU c).toNat=107:=by rw[a8];rfl
         simp[a8];all_goals simp[aO,codeOf,b8]
        ·have b8:¬(iU c).toNat=107:=fun h=>a8 (k_UInt8_toNat_inj.1 h);simp[a8];apply gw<;>intro a9
         ·have b9:(iU c).toNat=113:=by rw[a9];rfl
          simp[a9];all_goals simp[aO,codeOf,b9]
         ·have b9:¬(iU c).toNat=113:=fun h=>a9 (k_UInt8_toNat_inj.1 h);simp[a9];apply gw<;>intro a10
          ·have b10:(iU c).toNat=115:=by rw[a10];rfl
           simp[a10];all_goals simp[aO,codeOf,b10]
          ·have b10:¬(iU c).toNat=115:=fun h=>a10 (k_UInt8_toNat_inj.1 h);simp[a10];apply gw<;>intro a11
           ·have b11:(iU c).toNat=120:=by rw[a11];rfl
            simp[a11];all_goals simp[aO,codeOf,b11]
           ·have b11:¬(iU c).toNat=120:=fun h=>a11 (k_UInt8_toNat_inj.1 h);simp[a11];apply gw<;>intro a12
            ·have b12:(iU c).toNat=122:=by rw[a12];rfl
             simp;all_goals simp[aO,codeOf,b12]
            ·have b12:¬(iU c).toNat=122:=fun h=>a12 (k_UInt8_toNat_inj.1 h);simp[a12];apply gw<;>intro a13
             ·have b13:(iU c).toNat=100:=by rw[a13];rfl
              simp[a13];all_goals simp[aO,codeOf,b13]
             ·have b13:¬(iU c).toNat=100:=fun h=>a13 (k_UInt8_toNat_inj.1 h);simp[a13];apply gw<;>intro a14
              ·have b14:(iU c).toNat=116:=by rw[a14];rfl
               simp;all_goals simp[aO,codeOf,b14]
              ·have b14:¬(iU c).toNat=116:=fun h=>a14 (k_UInt8_toNat_inj.1 h);simp[a14];apply gw<;>intro a15
               ·have b15:(iU c).toNat=108:=by rw[a15];rfl
                simp;all_goals simp[aO,codeOf,b15]
               ·have b15:¬(iU c).toNat=108:=fun h=>a15 (k_UInt8_toNat_inj.1 h);simp[a15];apply gw<;>intro a16
                ·have b16:(iU c).toNat=109:=by rw[a16];rfl
                 simp[a16];all_goals simp[aO,codeOf,b16]
                ·have b16:¬(iU c).toNat=109:=fun h=>a16 (k_UInt8_toNat_inj.1 h);simp[a16];apply gw<;>intro a17
                 ·have b17:(iU c).toNat=110:=by rw[a17];rfl
                  simp;all_goals simp[aO,codeOf,b17]
                 ·have b17:¬(iU c).toNat=110:=fun h=>a17 (k_UInt8_toNat_inj.1 h);simp[a17];apply gw<;>intro a18
                  ·have b18:(iU c).toNat=114:=by rw[a18];rfl
                   simp;all_goals simp[aO,codeOf,b18]
                  ·have b18:¬(iU c).toNat=114:=fun h=>a18 (k_UInt8_toNat_inj.1 h);simp[a18];apply gw<;>intro a19
                   ·have b19:(iU c).toNat=97:=by rw[a19];rfl
                    simp[a19];all_goals simp[aO,codeOf,b19]
                   ·have b19:¬(iU c).toNat=97:=fun h=>a19 (k_UInt8_toNat_inj.1 h);simp[a19];apply gw<;>intro a20
                    ·have b20:(iU c).toNat=101:=by rw[a20];rfl
                     simp[a20];all_goals simp[aO,codeOf,b20]
                    ·have b20:¬(iU c).toNat=101:=fun h=>a20 (k_UInt8_toNat_inj.1 h);simp[a20];apply gw<;>intro a21
                     ·have b21:(iU c).toNat=105:=by rw[a21];rfl
                      simp[a21];all_goals simp[aO,codeOf,b21]
                     ·have b21:¬(iU c).toNat=105:=fun h=>a21 (k_UInt8_toNat_inj.1 h);simp[a21];apply gw<;>intro a22
                      ·have b22:(iU c).toNat=111:=by rw[a22];rfl
                       simp[a22];all_goals simp[aO,codeOf,b22]
                      ·have b22:¬(iU c).toNat=111:=fun h=>a22 (k_UInt8_toNat_inj.1 h);simp[a22];apply gw<;>intro a23
                       ·have b23:(iU c).toNat=117:=by rw[a23];rfl
                        simp[a23];all_goals simp[aO,codeOf,b23]
                       ·have b23:¬(iU c).toNat=117:=fun h=>a23 (k_UInt8_toNat_inj.1 h);simp[a23];apply gw<;>intro a24
                        ·have b24:(iU c).toNat=121:=by rw[a24];rfl
                         simp;all_goals simp[aO,codeOf,b24]
                        ·have b24:¬(iU c).toNat=121:=fun h=>a24 (k_UInt8_toNat_inj.1 h);simp[a24];apply gw<;>intro a25
                         ·have b25:(iU c).toNat=104:=by rw[a25];rfl
                          simp[a25];all_goals simp[aO,codeOf,b25]
                         ·have b25:¬(iU c).toNat=104:=fun h=>a25 (k_UInt8_toNat_inj.1 h);simp[a25];apply gw<;>intro a26
                          ·have b26:(iU c).toNat=119:=by rw[a26];rfl
                           simp;all_goals simp[aO,codeOf,b26]
                          ·have b26:¬(iU c).toNat=119:=fun h=>a26 (k_UInt8_toNat_inj.1 h);simp[a26];all_goals simp[aO,codeOf,b1,b2,b3,b4,b5,b6,b7,b8,b9,b10,b11,b12,b13,b14,b15,b16,b17,b18,b19,b20,b21,b22,b23,b24,b25,b26]
def J8 {α:Type}{l:List α}{c:α}(h:l[i]?=some c):c∈l:=aA h
def HZ (s:Str)(hs:s.length<=65536:=by first|omega|grind):Fk 76 [dS s] (vR (tokens s)):=by
 refine fE [] ntmps76 fun _ _=> ?_;simp;refine ck (rO _) ?_;simp;refine ck (agS (normal s) 32 (by have:=IK s;omega)) ?_;have hL:=(al4 32 (normal s)).1;have hn:=IK s;generalize hcs:ad6 32 (normal s)=L at hL|-
 simp;refine wld [3] (Nat×List Str) (fun(i,o)=>([(3,vR o),(4,wE L),(5,vI i)],L.length-i,(i<=L.length)/\(o=(L.take i).foldl xX [])/\(o.length<=i))) ((0,[])) ⟨by omega,rfl,by simp⟩ ?_;rintro⟨i,o⟩ ⟨h1,h2,h3⟩;simp;apply gw<;>intro a
 ·obtain⟨c,hc⟩:=aR (l:=L) (i:=i);have hm:=fH xX [] hc;rw[←h2]at hm;simp[hc];apply gw<;>intro b
  ·have hu:xX o c=jW o c false:=if_pos b;have hl:=sM o c false;simp[hc];refine ck (zA _ _ _) ?_;simp;refine ai ?_;refine nxc (i+1,jW o c false) [3] ⟨by omega,by rw[hm,hu],by omega⟩
  ·have hu:xX o c=o:=if_neg (by simp[b]);simp;refine ai ?_;refine nxc (i+1,o) [3] ⟨by omega,by rw[hm,hu],by omega⟩
 ·simp at a;rw[bS a]at h2;simp;simp[tokens,hcs,←h2]
def agT (l:List Str)(x:Str)(hl:Qle l:=by first|omega|grind):Fk 292 [mQ l,dS x] (vB (l.any fun y=>decide (y=x))):=by
 refine fE [] ntmps292 fun _ _=> ?_;simp;refine wlt Nat (fun i=>([(0,vR l),(1,vS x),(5,vI i)],l.length-i,(i<=l.length)/\((l.take i).any (fun y=>decide (y=x))=false))) (0) ⟨by omega,rfl⟩ ?_;rintro i ⟨h1,h2⟩;simp;apply gw<;>intro a
 ·obtain⟨c,hc⟩:=aR (l:=l) (i:=i);simp[hc];apply gw<;>intro b
  ·have hn:=asT hc (P:=(fun y=>decide (y=x))) (by simp[b]);simp[hn]
  ·simp;refine nxa (i+1) ⟨by omega,(kL hc h2 (by simp[b]))⟩
 ·simp at a;have hf:=oL h2 a;simp[hf]
def PK (l m:List Str)(hl:l.length<=262144)(hm:m.length<=262144):Fk 207 [mQ l,mQ m] (vR (common l m)):=by
 refine fE [] ntmps207 fun _ _=> ?_;simp;refine wld [5] (Nat×List Str) (fun(i,o)=>([(0,vR l),(1,vR m),(5,vR o),(6,vI i)],l.length-i,(i<=l.length)/\(o=(l.take i).foldl (I6 m) [])/\(o.length<=i))) ((0,[])) ⟨by omega,rfl,by simp⟩ ?_;rintro⟨i,o⟩ ⟨h1,h2,h3⟩;simp;apply gw<;>intro a
 ·obtain⟨c,hc⟩:=aR (l:=l) (i:=i);have hq:=fH (I6 m) [] hc;rw[←h2]at hq;simp[hc];refine ck (agT _ _) ?_;simp;apply gw<;>intro b
  ·simp at b;have hu:I6 m o c=jW o c false:=if_pos (by simpa using b);have hp:=sM o c false;simp[hc];refine ck (zA _ _ _) ?_;simp;refine ai ?_;refine nxc (i+1,jW o c false) [5] ⟨by omega,by rw[hq,hu],by omega⟩
  ·simp at b;have hu:I6 m o c=o:=if_neg (fun h=>by obtain⟨y,h1,h2⟩:=dH.1 h;exact b y h1 (by simpa using h2));simp;refine ai ?_;refine nxc (i+1,o) [5] ⟨by omega,by rw[hq,hu],by omega⟩
 ·simp at a;rw[bS a]at h2;simp;grind[common]
def SH (l m:List Str)(hl:l.length<=262144)(hm:m.length<=262144):Fk 208 [mQ l,mQ m] (vR (Y0 l m)):=by
 refine fE [] ntmps208 fun _ _=> ?_;simp;refine wld [5] (Nat×List Str) (fun(i,o)=>([(0,vR l),(1,vR m),(5,vR o),(6,vI i)],l.length-i,(i<=l.length)/\(o=(l.take i).foldl xY [])/\(o.length<=i))) ((0,[])) ⟨by omega,rfl,by simp⟩ ?_;rintro⟨i,o⟩ ⟨h1,h2,h3⟩;simp;apply gw<;>intro a
 ·obtain⟨c,hc⟩:=aR (l:=l) (i:=i);have hq:=fH xY [] hc;rw[←h2]at hq;have hp:=sM o c false;simp[hc];refine ck (zA _ _ _) ?_;simp;refine ai ?_;refine nxc (i+1,jW o c false) [5] ⟨by omega,by rw[hq];rfl,by omega⟩
 ·simp at a;rw[bS a]at h2;simp;refine wlt (Nat×List Str) (fun(i,q)=>([(1,vR m),(5,vR q),(7,vI i)],m.length-i,(i<=m.length)/\(q=(m.take i).foldl xY o)/\(q.length<=o.length+i))) ((0,o)) ⟨by omega,rfl,by omega⟩ ?_;rintro⟨i,q⟩ ⟨h1j,h2j,h3j⟩;simp;apply gw<;>intro aj
  ·obtain⟨cj,hcj⟩:=aR (l:=m) (i:=i);have hq:=fH xY o hcj;rw[←h2j]at hq;have hp:=sM q cj false;simp[hcj];refine ck (zA q cj false) ?_;simp;refine nxa (i+1,jW q cj false) ⟨by omega,by rw[hq];rfl,by omega⟩
  ·simp at aj;rw[bS aj]at h2j;simp;grind[Y0]
def K7 (s:Str)(hs:Qle s):Fk 125 [dS s] (vS (digits s)):=by
 refine fE [] ntmps125 fun _ _=> ?_;simp;refine wlt (Nat×Str) (fun(i,o)=>([(0,vS s),(3,.own (oBs o)),(4,vI i)],s.length-i,(i<=s.length)/\(o=(s.take i).filter (fun c=>decide (48<=c.toNat/\c.toNat<=57)))/\(o.length<=i))) ((0,[])) ⟨by omega,rfl,by simp⟩ ?_;rintro⟨i,o⟩ ⟨h1,h2,h3⟩;simp;apply gw<;>intro a
 ·obtain⟨c,hc⟩:=aR (l:=s) (i:=i);have hm:=zZ (fun c:UInt8=>decide (48<=c.toNat/\c.toNat<=57)) hc;rw[←h2]at hm;simp[hc];apply gv<;>intro e
  ·have e':=e;simp[hc,e];apply gw<;>intro f
   ·have hd:(decide (48<=c.toNat/\c.toNat<=57))=true:=by simp;omega
    simp[hc];refine nxb (i+1,o++[c]) ⟨by omega,by rw[hm,hd];rfl,by simp;omega⟩
   ·simp at f;have hd:(decide (48<=c.toNat/\c.toNat<=57))=false:=by simp;omega
    simp;refine nxa (i+1,o) ⟨by omega,by rw[hm,hd];simp,by omega⟩
  ·have e':=e;simp at e';have hd:(decide (48<=c.toNat/\c.toNat<=57))=false:=by simp;omega
   simp[e];refine nxa (i+1,o) ⟨by omega,by rw[hm,hd];simp,by omega⟩
 ·simp at a;rw[bS a]at h2;simp;grind[digits]
def TA (x:Int):Fk 127 [dI x] (vB (inR x 0 9999)):=by
 refine fE [] ntmps127 fun _ _=> ?_;simp;refine ck (bJ _ _ _) ?_;simp
end Go.Proofs.YtnlkiflcbknaaaaGreatDoor
end
section
namespace Go
def iQ:= @Bool.false_and
end Go
end
section
namespace Go.Proofs.YtnlkiflcbknaaaaGreatDoor
open Go.Dv Go.Pl Go.Proofs.Tryz
abbrev al8 (t:Tri):D:= .agg [dI t.a,dI t.b,dI t.c,dI t.w]
abbrev IJ (l:List Tri):D:= .sl none (l.map al8)
abbrev aiH (l:List Tri):D:= .sl (some 249) (l.map al8)
def AV (x:Int):Int:=if x<0 then -x else x
def ag4 (m:L2)(a b c:Nat):L1:=[at2 m a b,at2 m a c,at2 m b c]
def U6 (l:L1):Nat:=(l.filter fun x=>decide (x<0)).length
def QD (l:L1):Nat:=(l.filter fun x=>decide (x>0)).length
def YX (m:L2)(a b c:Int):Bool:=bR m&&decide (0<=a)&&decide (a<b)&&decide (b<c)&&decide (c<m.length)
def wR (m:L2)(a b c:Int):Bool:=YX m a b c&&(decide (U6 (ag4 m a.toNat b.toNat c.toNat)=1)&&decide (QD (ag4 m a.toNat b.toNat c.toNat)=2))
def I1 (x y:Int)(t:Tri):Bool:=(decide (t.a=x)&&decide (t.b=y))||(decide (t.a=x)&&decide (t.c=y))||(decide (t.b=x)&&decide (t.c=y))
def AR (l:List Tri)(x y:Int):Int:=l.foldl (fun s t=>if I1 x y t=true then s+t.w else s) 0
variable {l:List Tri}
def agI {w:Int}(hw:0<=w)(h:∀t∈l, -w<=t.w/\t.w<=w)(x y:Int): -(w*l.length)<=AR l x y/\AR l x y<=w*l.length:=by
 have key:∀(l:List Tri) (s:Int),(∀t∈l, -w<=t.w/\t.w<=w)->s-w*l.length<=l.foldl (fun s t=>if I1 x y t=true then s+t.w else s) s/\l.foldl (fun s t=>if I1 x y t=true then s+t.w else s) s<=s+w*l.length:=by
  intro l
  induction l with
  |nil=>intro s _;simp
  |cons t l ih=>
   intro s h;have h1:=h t (by simp);have h2:=ih (if I1 x y t=true then s+t.w else s) (fun t ht=>h t (aV _ ht));have e:w*((t::l).length:Int)=w*l.length+w:=by simp[Int.mul_add]
   rw[k_List_foldl_cons,e];by_cases hh:I1 x y t=true
   ·simp only[hh,if_true]at h2|-;omega
   ·simp only[hh,if_false,dR]at h2|-;omega
 have:=key l 0 h;unfold AR;omega
def oC (x:Int)(hx: -1048576<=x/\x<=1048576:=by omega):Fk 249 [dI x] (vI (AV x)):=by
 refine fE [] ntmps249 fun _ _=> ?_;simp;apply gw<;>intro h1
 ·simp;refine ai ?_;grind[AV]
 ·simp at h1;simp;grind[AV]
def CF (m:L2)(a b c:Int)(hm:Qle m:=by first|omega|grind):Fk 314 [cZ m,dI a,dI b,dI c] (vB (wR m a b c)):=by
 refine fE [] ntmps314 fun _ _=> ?_;simp;refine ck (eQ m hm) ?_;simp;apply gv<;>intro e1
 ·have e1':=e1;simp at e1';have h0:wR m a b c=false:=by simp only[wR,YX];rw[e1'];simp
  simp[e1,h0]
 ·have e1':=e1;simp at e1';simp[e1];apply gv<;>intro e2
  ·have e2':=e2;have h0:wR m a b c=false:=by simp only[wR,YX];rw[decide_eq_false (p:=0<=a) (by omega)];simp
   simp[e2,h0]
  ·have e2':=e2;simp at e2';simp[e2];apply gv<;>intro e3
   ·have e3':=e3;have h0:wR m a b c=false:=by simp only[wR,YX];rw[decide_eq_false (p:=a<b) (by omega)];simp
    simp[e3,h0]
   ·have e3':=e3;simp at e3';simp[e3];apply gv<;>intro e4
    ·have e4':=e4;have h0:wR m a b c=false:=by simp only[wR,YX];rw[decide_eq_false (p:=b<c) (by omega)];simp
     simp[e4,h0]
    ·have e4':=e4;simp at e4';simp[e4];apply gw<;>intro e5
     ·have h0:wR m a b c=false:=by simp only[wR,YX];rw[decide_eq_false (p:=c<m.length) (by omega)];simp
      simp[h0]
     ·simp at e5;have ht:YX m a b c:=by simp only[YX];rw[e1'];simp;omega
      have h0:wR m a b c=(decide (U6 (ag4 m a.toNat b.toNat c.toNat)=1)&&decide (QD (ag4 m a.toNat b.toNat c.toNat)=2)):=by simp[wR,ht]
      obtain⟨r,hr,hrb⟩:=lD e1' (i:=a.toNat) (k:=b.toNat);obtain⟨r',hr',hrc⟩:=lD e1' (i:=a.toNat) (k:=c.toNat);obtain rfl:r=r':=by rw[hr]at hr';exact k_Option_some_inj hr'
      obtain⟨q,hq,hqc⟩:=lD e1' (i:=b.toNat) (k:=c.toNat);have hb0:0<=b:=by omega
      have hc0:0<=c:=by omega
      have hT:ag4 m a.toNat b.toNat c.toNat=[at2 m a.toNat b.toNat,at2 m a.toNat c.toNat,at2 m b.toNat c.toNat]:=rfl;have hTl:(ag4 m a.toNat b.toNat c.toNat).length=3:=rfl;have hn0:U6 []=0:=rfl;have hp0:QD []=0:=rfl;simp;refine wdt 21 ?_;simp[hr,hrb,hrc,hq,hqc,hb0,hc0];refine ai ?_;refine wl (fun(i:Nat)=>[(9,vI (U6 ((ag4 m a.toNat b.toNat c.toNat).take i))),(10,vI (QD ((ag4 m a.toNat b.toNat c.toNat).take i))),(11,wN (ag4 m a.toNat b.toNat c.toNat)),(12,vI i)]) (fun(i:Nat)=>3-i) (fun(i:Nat)=>(i<=3)) (0) (by omega) ?_ (h0:=by simp[e2,hr,hrb,hrc,hq,hqc,hb0,hc0,hn0,hp0,hT]);rintro i h1;clear hT;generalize ag4 m a.toNat b.toNat c.toNat=T at*
      simp;apply gw<;>intro f
      ·have hg:=aY (l:=T) (i:=i);have hn1:=zZ (fun x:Int=>decide (x<0)) hg;have hp1:=zZ (fun x:Int=>decide (x>0)) hg;have hnl:(U6 (T.take i))<=3:=k_Nat_le_trans (bN _ _) (by simp;omega);have hpl:(QD (T.take i))<=3:=k_Nat_le_trans (bN _ _) (by simp;omega);simp[hg];apply gw<;>intro g
       ·have hn2:U6 (T.take (i+1))=U6 (T.take i)+1:=by rw[U6,hn1,decide_eq_true g];simp[U6]
        simp[hg];refine ai ?_;apply gw<;>intro k
        ·exfalso;omega
        ·simp at k;have hp2:QD (T.take (i+1))=QD (T.take i):=by rw[QD,hp1,decide_eq_false (by omega)];simp[QD]
         simp;refine nxa (i+1) (by first|omega|(simp;omega)|grind) (h3:=by simp[e2,hg,hn2,hp2])
       ·simp at g;have hn2:U6 (T.take (i+1))=U6 (T.take i):=by rw[U6,hn1,decide_eq_false (by omega)];simp[U6]
        simp[hg];apply gw<;>intro k
        ·have hp2:QD (T.take (i+1))=QD (T.take i)+1:=by rw[QD,hp1,decide_eq_true k];simp[QD]
         simp;refine nxb (i+1) (by first|omega|(simp;omega)|grind) (h3:=by simp[e2,hg,hn2,hp2])
        ·simp at k;have hp2:QD (T.take (i+1))=QD (T.take i):=by rw[QD,hp1,decide_eq_false (by omega)];simp[QD]
         simp;refine nxa (i+1) (by first|omega|(simp;omega)|grind) (h3:=by simp[e2,hg,hn2,hp2])
      ·simp at f;obtain rfl:i=3:=by omega
       rw[show T.take 3=T from k_List_take_of_length_le (by omega)];simp;apply gv<;>intro g
       ·have g':=g;simp[g];rw[h0,decide_eq_true (p:=U6 T=1) (by omega),eZ];exact decide_eq_decide.2 (by omega)
       ·have g':=g;simp[g];rw[h0,decide_eq_false (p:=U6 T=1) (by omega),iQ]
def YY (n:Nat)(t:Tri):Prop:=0<=t.a/\t.a<t.b/\t.b<t.c/\t.c<n/\0<=t.w/\t.w<=1000
def LV {x:Int}{w:Int}(h: -w<=x/\x<=w):0<=AV x/\AV x<=w:=by unfold AV;split<;>omega
variable {m:L2}
def auX {a b c:Int}(h:wR m a b c):bR m=true/\0<=a/\a<b/\b<c/\c<m.length:=by
 simp only[wR,YX,k_Bool_and_eq_true,decide_eq_true_eq]at h;exact⟨h.1.1.1.1.1,h.1.1.1.1.2,h.1.1.1.2,h.1.1.2,h.1.2⟩
def w3 (m:L2)(a b c:Nat):Int:=min (AV (at2 m a b)) (min (AV (at2 m a c)) (AV (at2 m b c)))
def QS (m:L2)(a b c:Nat)(q:List Tri):List Tri:=if wR m a b c=true then q++[⟨a,b,c,w3 m a b c⟩]else q
def aCV (m:L2)(a b:Nat)(p:List Tri):List Tri:=loopN (m.length-(b+1)) p fun j q=>QS m a b (b+1+j) q
def aCU (m:L2)(a:Nat)(o:List Tri):List Tri:=loopN (m.length-(a+1)) o fun j p=>aCV m a (a+1+j) p
def FQ (m:L2):List Tri:=loopN m.length [] (aCU m)
def LU (m:L2)(k:Nat)(L:List Tri):Prop:=L.length<=k/\∀t∈L,YY m.length t
variable {a k:Nat}
def ai5 (hm:bR m){b c:Nat}{q:List Tri}(h:LU m k q):LU m (k+1) (QS m a b c q):=by
 unfold QS;split
 ·rename_i hb;have h1:=auX hb;have v1:=LV (iP hm a b);have v2:=LV (iP hm a c);have v3:=LV (iP hm b c);have hw:0<=w3 m a b c/\w3 m a b c<=1000:=by unfold w3;omega
  refine⟨by have:=h.1;simp;omega,fun t ht=> ?_⟩;rcases k_List_mem_append.1 ht with h2|h2
  ·exact h.2 t h2
  ·rw[k_List_mem_singleton.1 h2];unfold YY;simp only;omega
 ·exact⟨by have:=h.1;omega,h.2⟩
def auJ (hm:bR m){b:Nat}{p:List Tri}(h:LU m k p):LU m (k+8) (aCV m a b p):=by
 have h8:=dN hm;have:=loopN_inv (n:=m.length-(b+1)) (fun j (q:List Tri)=>LU m (k+j) q) (f:=fun j q=>QS m a b (b+1+j) q) h (fun j q _ hq=>ai5 hm hq);exact⟨k_Nat_le_trans this.1 (by omega),this.2⟩
def auI (hm:bR m){o:List Tri}(h:LU m k o):LU m (k+64) (aCU m a o):=by
 have h8:=dN hm;have:=loopN_inv (n:=m.length-(a+1)) (fun j (q:List Tri)=>LU m (k+8*j) q) (f:=fun j p=>aCV m a (a+1+j) p) (by simpa using h) (fun j q _ hq=>auJ hm hq);exact⟨k_Nat_le_trans this.1 (by omega),this.2⟩
def adL (hm:bR m)(i:Nat):LU m (64*i) (loopN i [] (aCU m)):=
 loopN_inv (fun i (q:List Tri)=>LU m (64*i) q) ⟨by simp,by simp⟩ fun i q _ hq=>auI hm hq
def PG (m:L2)(hm:bR m):Fk 248 [cZ m] (.own (aiH (FQ m))):=by
 refine fE [] ntmps248 fun _ _=> ?_;have hml:=dN hm;simp;refine wlt (Nat×List Tri) (fun(a,o)=>([(0,.val (cZ m)),(3,.own (aiH o)),(4,vI a)],m.length-a,(a<=m.length)/\(o=loopN a ([]) (aCU m))/\(LU m (64*a) o))) ((0,[])) ⟨by omega,rfl,(⟨by simp,by simp⟩)⟩ ?_;rintro⟨a,o⟩ ⟨h1z,h2z,h3⟩;simp;apply gw<;>intro az
 ·have hsz:=aM a ([]) (aCU m);rw[←h2z]at hsz;simp;refine ai ?_;refine wlt (Nat×List Tri) (fun(b,p)=>([(0,.val (cZ m)),(3,.own (aiH p)),(4,vI a),(5,vI b)],m.length-b,(a<b/\b<=m.length)/\(p=loopN (b-(a+1)) o (fun j p=>aCV m a (a+1+j) p))/\(LU m (64*a+8*(b-(a+1))) p))) ((a+1,o)) ⟨by omega,by simp[loopN_zero],by simpa using h3⟩ ?_;rintro⟨b,p⟩ ⟨h4,h5,h6⟩;simp;apply gw<;>intro f
  ·have hsb:=aM (b-(a+1)) o (fun j p=>aCV m a (a+1+j) p);rw[←h5,show b-(a+1)+1=b+1-(a+1) by omega,show a+1+(b-(a+1))=b by omega]at hsb;simp;refine ai ?_;refine wlt (Nat×List Tri) (fun(c,q)=>([(0,.val (cZ m)),(3,.own (aiH q)),(4,vI a),(5,vI b),(6,vI c)],m.length-c,(b<c/\c<=m.length)/\(q=loopN (c-(b+1)) p (fun j q=>QS m a b (b+1+j) q))/\(LU m (64*a+8*(b-(a+1))+(c-(b+1))) q))) ((b+1,p)) ⟨by omega,by simp[loopN_zero],by simpa using h6⟩ ?_;rintro⟨c,q⟩ ⟨h7,h8,h9⟩;simp;apply gw<;>intro g
   ·have hsc:=aM (c-(b+1)) p (fun j q=>QS m a b (b+1+j) q);rw[←h8,show c-(b+1)+1=c+1-(b+1) by omega,show b+1+(c-(b+1))=c by omega]at hsc;have hok:=ai5 hm (a:=a) (b:=b) (c:=c) h9;rw[show 64*a+8*(b-(a+1))+(c-(b+1))+1=64*a+8*(b-(a+1))+(c+1-(b+1)) by omega]at hok;have hq512:=h9.1;simp;refine ck (CF m a b c) ?_;simp;apply gw<;>intro k
    ·obtain⟨r,hr,hrb⟩:=lD hm (i:=a) (k:=b);obtain⟨r',hr',hrc⟩:=lD hm (i:=a) (k:=c);obtain rfl:r=r':=by rw[hr]at hr';exact k_Option_some_inj hr'
     obtain⟨s,hs',hsc'⟩:=lD hm (i:=b) (k:=c);have v1:=iP hm a b;have v2:=iP hm a c;have v3:=iP hm b c;have hta:QS m a b c q=q++[⟨a,b,c,w3 m a b c⟩]:=if_pos k;have hw:min (AV (at2 m a b)) (min (AV (at2 m a c)) (AV (at2 m b c)))=w3 m a b c:=rfl;rw[hta]at hok;simp;refine wdf [(29,[36,37,38,63,64]),(30,[64,65]),(31,[35,65,66,3]),(32,[66,3])] [(0,.val (cZ m)),(3,.own (aiH q)),(4,vI a),(5,vI b),(6,vI c)] [] (by simp) ?_;simp[hr,hrb];refine cd (oC (at2 m a b)) ?_;simp[hr,hrc];refine cd (oC (at2 m a c)) ?_;simp[hs',hsc'];refine cd (oC (at2 m b c)) ?_;simp[hw];refine nxb (c+1,q++[⟨a,b,c,w3 m a b c⟩]) ⟨by omega,by rw[hsc,hta],hok⟩
    ·have hta:QS m a b c q=q:=if_neg (by simp[k]);rw[hta]at hok;simp;refine nxa (c+1,q) ⟨by omega,by rw[hsc,hta],hok⟩
   ·simp at g;obtain rfl:c=m.length:=by omega
    have hok:=auJ hm (a:=a) (b:=b) h6;simp;refine nxa (b+1,q) ⟨by omega,by rw[hsb,h8];rfl,by rw[h8];rw[show 64*a+8*(b+1-(a+1))=64*a+8*(b-(a+1))+8 by omega];exact hok⟩
  ·simp at f;obtain rfl:b=m.length:=by omega
   simp;refine nxa (a+1,p) ⟨by omega,by rw[hsz,h5];rfl,by rw[h5];exact auI hm h3⟩
 ·simp at az;have hiz:m.length=a:=by omega
  subst hiz;simp;simp[FQ,←h2z]
def axL (l:List Tri)(t:Tri)(x y:Int):AR (l++[t]) x y=if I1 x y t=true then AR l x y+t.w else AR l x y:=by simp[AR,mG]
def axM {i:Nat}{t:Tri}(h:l[i]?=some t)(x y:Int):AR (l.take (i+1)) x y=if I1 x y t=true then AR (l.take i) x y+t.w else AR (l.take i) x y:=by rw[dM h,axL]
def zM (l:List Tri)(x y:Int)(hl:Qle l:=by first|omega|grind)(hw:∀t∈l, -1048576<=t.w/\t.w<=1048576:=by first|omega|grind):Fk 250 [IJ l,dI x,dI y] (vI (AR l x y)):=by
 refine fE [] ntmps250 fun _ _=> ?_;simp;refine wlt (Nat×Int) (fun(i,s)=>([(0,.val (IJ l)),(1,vI x),(2,vI y),(7,vI s),(8,vI i)],l.length-i,(i<=l.length)/\(s=AR (l.take i) x y)/\(-(1048576*i)<=s/\s<=1048576*i))) ((0,0)) ⟨by omega,rfl,by simp⟩ ?_;rintro⟨i,s⟩ ⟨h1,h2,h3⟩;simp;apply gw<;>intro a
 ·obtain⟨t,ht⟩:=aR a;have hwt:=hw t (J8 ht);have hu:=axM ht x y;simp[ht];apply gv<;>intro e
  ·have e':=e;simp[e];apply gv<;>intro f
   ·have f':=f;have hb:I1 x y t:=by simp[I1,e,f]
    simp[f];refine nxb (i+1,s+t.w) ⟨by omega,by rw[hu,hb,if_pos rfl,h2],by omega⟩
   ·have f':=f;simp[f];apply gv<;>intro g
    ·have g':=g;have hb:I1 x y t:=by simp[I1,e,g]
     simp[g];refine nxb (i+1,s+t.w) ⟨by omega,by rw[hu,hb,if_pos rfl,h2],by omega⟩
    ·have g':=g;simp[g];apply gv<;>intro k
     ·have k':=k;have hb:I1 x y t=false:=by simp[I1,f,g]
      simp[g,k];refine nxa (i+1,s) ⟨by omega,by rw[hu,hb,if_neg (by simp),h2],by omega⟩
     ·have k':=k;have hb:I1 x y t=false:=by simp[I1,f,g]
      simp[k];refine nxa (i+1,s) ⟨by omega,by rw[hu,hb,if_neg (by simp),h2],by omega⟩
  ·have e':=e;simp[e];apply gv<;>intro k
   ·have k':=k;simp[k];apply gw<;>intro n
    ·have hb:I1 x y t:=by simp[I1,k,n]
     simp;refine nxb (i+1,s+t.w) ⟨by omega,by rw[hu,hb,if_pos rfl,h2],by omega⟩
    ·have hb:I1 x y t=false:=by simp[I1,e,n]
     simp;refine nxa (i+1,s) ⟨by omega,by rw[hu,hb,if_neg (by simp),h2],by omega⟩
   ·have k':=k;have hb:I1 x y t=false:=by simp[I1,e,k]
    simp[k];refine nxa (i+1,s) ⟨by omega,by rw[hu,hb,if_neg (by simp),h2],by omega⟩
 ·simp at a;obtain rfl:i=l.length:=by omega
  rw[bV]at h2;simp;omega
end Go.Proofs.YtnlkiflcbknaaaaGreatDoor
end
section
namespace Go.Proofs.YtnlkiflcbknaaaaGreatDoor
open Go.Dv Go.Pl
@[go_sem,simp] abbrev vE (x:List Tri):S:= .own (aiH x)
end Go.Proofs.YtnlkiflcbknaaaaGreatDoor
end
section
namespace Go.Proofs.YtnlkiflcbknaaaaGreatDoor
open Go.Dv Go.Pl Go.Proofs.Tryz
def jM (l:L1)(x:Int)(hl:Qle l:=by first|omega|grind):Fk 322 [nInts l,dI x] (vI (ix (fun y=>decide (x=y)) l)):=by
 refine fE [] ntmps322 fun _ _=> ?_;simp;refine wlt Nat (fun i=>([(0,vN l),(1,vI x),(6,vN l),(7,vI l.length),(8,vI i)],l.length-i,(i<=l.length)/\((l.take i).any (fun y=>decide (x=y))=false))) (0) ⟨by omega,rfl⟩ ?_;rintro i ⟨h1,h2⟩;simp;apply gw<;>intro a
 ·obtain⟨c,hc⟩:=aR (l:=l) (i:=i);simp[hc];apply gw<;>intro b
  ·have hn:=CK hc h2 (by simp[b]);simp[hn]
  ·simp;refine nxa (i+1) ⟨by omega,(kL hc h2 (by simp[b]))⟩
 ·simp at a;have hf:=oL h2 a;have hx:=rQ hf;simp[hx]
def tJ (x:Int)(hx: -9000000000000000000<=x/\x<=9000000000000000000:=by omega):Fk 342 [dI x] (vI (AV x)):=by
 refine fE [] ntmps342 fun _ _=> ?_;have ha:max x (-x)=AV x:=by unfold AV;split<;>omega
 simp[ha];simp only[inI];omega
def nV (l:L1)(hl:1<=l.length/\Qle l):Fk 394 [nInts l] (wN l):=by
 refine fE [] ntmps394 fun _ _=> ?_;have hne:¬l=[]:=by rintro rfl;simp at hl
 have hle:l.length<=1073741824:=by omega
 simp[hne,hle]
def tH (l:L1)(hs:Qle l):Fk 274 [nInts l] (wN (canon l)):=by
 refine fE [] ntmps274 fun _ _=> ?_;simp;refine wlt (Nat×(L1×L1)) (fun(i,s)=>([(3,wN s.2),(4,wN s.1),(8,vN l),(9,vI l.length),(10,vI i)],l.length-i,(i<=l.length)/\(s=(l.take i).foldl jL ([],[]))/\(s.1.length<=i/\s.2.length<=i)/\(s.2.Nodup))) ((0,([],[]))) ⟨by omega,rfl,by simp,by simp⟩ ?_;rintro⟨i,s⟩ ⟨h1,h2,h3,h4⟩;simp;apply gw<;>intro a
 ·obtain⟨c,hc⟩:=aR (l:=l) (i:=i);have hm:=fH jL ([],[]) hc;rw[←h2]at hm;simp[hc];refine ck (jM s.2 c (by omega)) ?_;have hli:=ah5 c h4 s.2.length (k_Nat_le_refl _);rw[bV]at hli;simp;apply gw<;>intro b
  ·have hx:jL s c=(s.1++[(s.2.length:Int)],s.2++[c]):=if_pos (by rw[hli];exact b);have hni:c∉s.2:=fun hmem=>by have h9:s.2.any (fun y=>decide (c=y))=true:=dH.2 ⟨c,hmem,by simp⟩;have:=jB.2 h9;omega
   simp;refine nxd (i+1,(s.1++[(s.2.length:Int)],s.2++[c])) ⟨by omega,by rw[hm,hx],by simp;omega,by simp[mH,h4];intro a ha e;exact hni (e▸ha)⟩
  ·simp at b;have hx:jL s c=(s.1++[ix (fun y=>decide (c=y)) s.2],s.2):=by rw[jL,if_neg (by (try unfold Qle);rw[hli];omega),hli]
   simp;refine nxb (i+1,(s.1++[ix (fun y=>decide (c=y)) s.2],s.2)) ⟨by omega,by rw[hm,hx],by simp;omega,h4⟩
 ·simp at a;rw[bS a]at h2;simp;grind[canon]
end Go.Proofs.YtnlkiflcbknaaaaGreatDoor
end
section
namespace Go
def lS:= @List.replicate_succ'
end Go
end
section
namespace Go.Proofs.YtnlkiflcbknaaaaGreatDoor
open Go.Dv Go.Pl Go.Proofs.Tryz
def sqz (n i:Nat):L2:=List.replicate i (List.replicate n 0)++List.replicate (n-i) []
variable {n i:Nat}
def aHZ (h:i<n):(sqz n i)[i]?=some []:=by
 obtain⟨k,rfl⟩:∃k,n=i+(k+1):=⟨n-i-1,by omega⟩;rw[sqz,aN (by simp),show i+(k+1)-i=k+1 by omega];simp
def aFO (h:i<n):(sqz n i).set i (List.replicate n 0)=sqz n (i+1):=by
 obtain⟨k,rfl⟩:∃k,n=i+(k+1):=⟨n-i-1,by omega⟩;rw[sqz,sqz,show i+(k+1)-i=k+1 by omega,show i+(k+1)-(i+1)=k by omega,gZ _ _ (by simp),lS (n:=i),fU (n:=k)];simp
def tK (n:Nat)(hn:n<=1048576:=by omega):Fk 279 [dI n] (.own (mY (List.replicate n (List.replicate n 0)))):=by
 refine fE [] ntmps279 fun _ _=> ?_;have hz:(sqz n 0).map bT=List.replicate n (D.sl (some 3) []):=by simp[sqz]
 simp;refine ai ?_;refine wl (fun(i:Nat)=>[(0,vI n),(3,.own (mY (sqz n i))),(8,vI n),(9,vI i)]) (fun(i:Nat)=>n-i) (fun(i:Nat)=>(i<=n)) (0) (by omega) ?_ (h0:=by simp[hz]);rintro i h1;simp;apply gw<;>intro a
 ·have hat:=aHZ a;have hset:=aFO a;have hset2:((sqz n i).map bT).set i (D.sl (some 3) (List.replicate n (dI 0)))=(sqz n (i+1)).map bT:=by rw[←hset,jA];simp[bT]
  simp[hat,hset2];refine nxb (i+1) (by omega)
 ·simp at a;obtain rfl:i=n:=by omega
  have hfin:sqz i i=List.replicate i (List.replicate i 0):=by simp[sqz]
  simp[hfin]
def iH (m:L2)(hm:Qle m)(hr:∀r∈m,Qle r):Fk 328 [cZ m] (vB (bR m)):=by
 refine fE [] ntmps328 fun _ _=> ?_;rw[ZV];simp;refine ck (bI m.length 1 8) ?_;simp;apply gw<;>intro b
 ·simp at b;simp;omega
 ·simp at b;simp;refine wlt Nat (fun i=>([(0,.val (cZ m)),(11,.val (cZ m)),(12,vI m.length),(13,vI i)],m.length-i,(i<=m.length)/\((List.range i).all (FM m)=true))) (0) ⟨by omega,rfl⟩ ?_;rintro i ⟨h1,h2⟩;simp;apply gw<;>intro a
  ·obtain⟨r,hri⟩:=aR (l:=m) (i:=i);have hrl:=hr r (aA hri);have hgr:=BG hri;simp[hri];apply gv<;>intro e
   ·have e':=e;have hn:=mZ a (P:=(FM m)) (by unfold FM;rw[hgr];simp;omega);simp[e,hn]
   ·have e':=e;obtain⟨d,hd⟩:=aR (l:=r) (i:=i);have hdd:=OH hri hd;simp[e,hd];apply gw<;>intro d0
    ·have hn:=mZ a (P:=(FM m)) (by unfold FM;rw[hdd];simp[d0]);simp[hn]
    ·have hmin:min i r.length=i:=by omega
     simp[hmin,d0];refine ai ?_;refine wlt Nat (fun k=>([(0,.val (cZ m)),(3,vI i),(11,.val (cZ m)),(12,vI m.length),(13,vI i),(32,.val (.sl none ((r.map dI).take i))),(33,vI i),(34,vI k)],i-k,(k<=i)/\((List.range k).all (X4 m i)=true))) (0) ⟨by omega,rfl⟩ ?_;rintro k ⟨h1k,h2k⟩;simp;apply gw<;>intro ak
     ·obtain⟨w,hw⟩:=aR (l:=r) (i:=k);have hww:=OH hri hw;have hw2:(List.take i (List.map dI r))[k]?=some (dI w):=by rw[bC,if_pos (by omega),aQ,hw];rfl
      simp[hw2];refine ck (bI w (-1000) 1000) ?_;simp;apply gv<;>intro f
      ·have f':=f;simp at f';have hn:=mZ a (P:=FM m) (an4 ak (by unfold X4;rw[hww];simp;omega));simp[f,hn]
      ·have f':=f;simp at f';obtain⟨q,hq⟩:=aR (l:=m) (i:=k);have hql:q.length=m.length:=by have:=aI.1 h2 k (bB.2 (by omega));simp only[FM,k_Bool_and_eq_true,decide_eq_true_eq]at this;rw[←BG hq];exact this.1.1
       obtain⟨z,hz⟩:=aR (l:=q) (i:=i);have hzz:=OH hq hz;simp[f,hq,hz];apply gw<;>intro g
       ·have hn:=mZ a (P:=FM m) (an4 ak (by unfold X4;rw[hww,hzz];simp[g]));simp[hn]
       ·simp;refine nxa (k+1) ⟨by omega,(oH h2k (by unfold X4;rw[hww,hzz];simp[g];omega))⟩
     ·simp at ak;have hf:=LJ (n:=i) h2k;simp;refine nxa (i+1) ⟨by omega,(oH h2 (av4 (by (try unfold Qle);rw[hgr];omega) (by rw[hdd];exact d0) hf))⟩
  ·simp at a;have hf:=LJ (n:=m.length) h2;simp[hf];refine ai ?_;omega
def ajC {α:Type}(p:α->Bool)(l:List α):(l.any fun c=> !p c)= !(l.all p):=by rw[List.not_all_eq_any_not]
def aeL (l:List Con)(p:Con->Bool)(g:FuncId)(b:Nat)(d:D)(F:d.fz=d)(E:Dv.Enters prog g)(U:T (1000000+g)=⟨.no,0,.any 0⟩)(G:∀c∈l,fK prog g [al5 c,.bx false d] (fun r=>r=vB (p c)))(hl:Qle l):yY prog 433 [jN l,.one (.func (.func g) #[] #[.pointer (some ⟨b,0,none⟩)])] [(b,d)] (fun res'=>res'=vI (ix p l)):=by
 refine fB [] ntmps433 fun _ _=> ?_;simp;refine wlt Nat (fun i=>([(0,vC l),(1,.val (.one (.func (.func g) #[] #[.pointer (some ⟨b,0,none⟩)]))),(7,vI l.length),(8,vI i),(1000000+2*b,.rp (d))],l.length-i,(i<=l.length)/\((l.take i).any p=false))) (0) ⟨by omega,rfl⟩ ?_;rintro i ⟨h1,h2⟩;simp;apply gw<;>intro a
 ·obtain⟨c,hc⟩:=aR (l:=l) (i:=i);simp[E,U,F,hc];refine ck ((G c (aA hc))) ?_;simp;apply gw<;>intro e
  ·have hn:=CK hc h2 (by simp[e]);simp[hn]
  ·simp;refine nxa (i+1) ⟨by omega,(kL hc h2 (by simp[e]))⟩
 ·simp at a;have hf:=oL h2 a;have hx:=rQ hf;simp[hx]
def ahV (l:List Con)(p:Con->Bool)(g:FuncId)(b:Nat)(d:D)(F:d.fz=d)(E:Dv.Enters prog g)(U:T (1000000+g)=⟨.no,0,.any 0⟩)(G:∀c∈l,fK prog g [al5 c,.bx false d] (fun r=>r=vB (p c)))(hl:Qle l):yY prog 386 [jN l,.one (.func (.func g) #[] #[.pointer (some ⟨b,0,none⟩)])] [(b,d)] (fun res'=>res'=vB (l.any p)):=by
 refine fB [] ntmps386 fun _ _=> ?_;have hq:decide (0<=ix p l)=l.any p:=by rw[bQ,decide_eq_true_eq];exact jB
 simp[F];refine ckB (aeL l p g b d F E U G hl) ?_;simp[hq]
def JX (c:Con)(n:Int)(hn: -1048576<=n/\n<=1048576):Fk 387 [al5 c,.bx false (dI n)] (vB (!NM n c)):=by
 refine fE [] ntmps387 fun _ _=> ?_;simp;refine ck (nL c.a n) ?_;simp;apply gv<;>intro e
 ·have e':=e;simp at e';simp[e];grind[NM]
 ·have e':=e;simp at e';simp[e];refine ck (nL c.b n) ?_;simp;apply gv<;>intro f
  ·have f':=f;simp at f';simp[f];grind[NM]
  ·have f':=f;simp at f';simp[f];grind[NM]
def uO (n:Int)(l:List Con)(hn: -1048576<=n/\n<=1048576:=by first|omega|grind)(hl:Qle l:=by first|omega|grind):Fk 330 [dI n,jN l] (vB (dA n l)):=by
 refine fE [] ntmps330 fun _ _=> ?_;simp;refine ck (bI n 1 8) ?_;simp;apply gv<;>intro e
 ·have e':=e;simp at e';simp[e];grind[dA]
 ·have e':=e;simp at e';simp[e];apply gw<;>intro f
  ·simp;grind[dA]
  ·simp at f;simp;intro b;refine ckB (ahV l (fun c=> !NM n c) 387 b (dI n) rfl aIY aJD (fun c _=>JX c n hn) hl) ?_;simp;grind[dA]
end Go.Proofs.YtnlkiflcbknaaaaGreatDoor
end
section
namespace Go
def tT:= @List.length_replicate
end Go
end
section
namespace Go.Proofs.YtnlkiflcbknaaaaGreatDoor
open Go.Dv Go.Pl Go.Proofs.Tryz
def LD (m:L2)(i k:Nat)(v:Int):(m.map bT).set i (D.sl (some 3) (((gat m i).map dI).set k (dI v)))=(set2 m i k v).map bT:=by rw[set2,jA];simp[bT,jA]
variable {m:L2}{i k:Nat}
def azT {j:Nat}(v:Int)(h:¬i=j):gat (set2 m i k v) j=gat m j:=by simp[gat,set2,aC,h]
def auK {v w:Int}(h:¬i=k):((m.map bT).set i (D.sl (some 3) (((gat m i).map dI).set k (dI v)))).set k (D.sl (some 3) (((gat m k).map dI).set i (dI w)))=(set2 (set2 m i k v) k i w).map bT:=by
 rw[LD,←azT v h,LD]
def UK (n:Nat)(l:List Con)(hn:1<=n/\n<=8:=by first|omega|grind)(hl:Qle l:=by first|omega|grind)(hc:∀c∈l,0<=c.a/\c.a<c.b/\c.b<(n:Int):=by first|omega|grind):Fk 391 [dI n,jN l] (.own (mY (P8 n l))):=by
 refine fE [] ntmps391 fun _ _=> ?_;have hz:List.replicate n (bT (List.replicate n 0))=(zeros n).map bT:=by simp[zeros]
 simp;refine ck (tK n) ?_;simp[hz];refine wlt (Nat×L2) (fun(i,m)=>([(5,.own (mY m)),(10,vC l),(11,vI l.length),(12,vI i)],l.length-i,(i<=l.length)/\(m=(l.take i).foldl rD (zeros n))/\(sq2 n m))) ((0,zeros n)) ⟨by omega,by simp,(pM n)⟩ ?_ (h0:=by simp[hz]);rintro⟨i,m⟩ ⟨h1,h2,h3⟩;simp;apply gw<;>intro a
 ·obtain⟨c,hcc⟩:=aR (l:=l) (i:=i);have hb:=hc c (aA hcc);have hm:=fH rD (zeros n) hcc;rw[←h2]at hm;have ha0:0<=c.a:=hb.1;have hb0:0<=c.b:=by omega
  obtain⟨hA,hA2⟩:=sW h3 (i:=c.a.toNat);obtain⟨hB,hB2⟩:=sW h3 (i:=c.b.toNat);have hgA:=M4 h3 (i:=c.a.toNat) (k:=c.b.toNat);have hgB:=M4 h3 (i:=c.b.toNat) (k:=c.a.toNat);have hml:c.a.toNat<m.length:=by rw[h3.1];omega
  have hml2:c.b.toNat<m.length:=by rw[h3.1];omega
  have hne:¬c.a.toNat=c.b.toNat:=by omega
  simp[hcc];apply gw<;>intro e
  ·have hset:=auK (m:=m) (v:=1) (w:=1) hne;have hmm:rD m c=set2 (set2 m c.a.toNat c.b.toNat 1) c.b.toNat c.a.toNat 1:=if_pos e;rw[←hmm]at hset;simp;refine wdf [(15,[32,5,18,21,22,25,28,29]),(17,[33,5,18,21,22,25,28,29,32])] [(5,.own (mY m)),(7,.own (.bx true (al5 c))),(10,vC l),(11,vI l.length),(12,vI i)] [] (by simp) ?_;simp[ha0,hb0,hA,hB,hgA,hgB,hne,hset];refine nxa (i+1,rD m c) ⟨by omega,hm.symm,(X8 h3 hb)⟩
  ·have hmm:rD m c=m:=if_neg (by simp[e]);simp;refine nxa (i+1,m) ⟨by omega,by rw[hm,hmm],h3⟩
 ·simp at a;rw[bS a]at h2;have hfin:P8 n l=m:=h2.symm;simp[hfin]
abbrev Z7 (b:Nat):Value:= .pointer (some ⟨b,0,none⟩)
abbrev asM (bc bo bm bv:Nat):D:= .one (.func (.func 390) #[] #[Z7 bc,Z7 bo,Z7 bm,Z7 bv])
structure apW (a b c d:Nat):Prop where
 ab:¬a=b
 ac:¬a=c
 ad:¬a=d
 bc:¬b=c
 bd:¬b=d
 cd:¬c=d
 ba:¬b=a
 ca:¬c=a
 da:¬d=a
 cb:¬c=b
 db:¬d=b
 dc:¬d=c
def auR (n:Nat)(m:L2)(c:Int)(bc bo bm bv f:Nat):Prop:=∀(i:Nat) (o:L1),o.length=n->i<n->at1 o i<0->negs n o<=f->
 FnW prog 390 [dI i] [(bc,some (dI c)),(bo,none),(bm,some (cZ m)),(bv,some (asM bc bo bm bv))] [(bc,dI c),(bm,cZ m),(bv,asM bc bo bm bv)] [(bo,bT o)] (fun r ds'=>r= .tup []/\ds'=[bT (dfs n m c f i o)])
def dfs_keeps {n:Nat}{m:L2}{c:Int}(hc:0<=c):∀(f i:Nat) (o:L1),o.length=n->(dfs n m c f i o).length=n/\∀k,0<=at1 o k->0<=at1 (dfs n m c f i o) k
 |0,i,o,h=>⟨h,fun k hk=>hk⟩
 |f+1,i,o,h=>by
  rw[dfs];refine loopN_inv (fun _ (p:L1)=>p.length=n/\∀k,0<=at1 o k->0<=at1 p k) ⟨by simp[h],fun k hk=> ?_⟩ fun k p _ ⟨h1,h2⟩=> ?_
  ·by_cases hi:i<o.length
   ·rw[zJ k hi];split<;>omega
   ·rw[qJ (by omega)];exact hk
  ·split
   ·have:=dfs_keeps (m:=m) hc f k p h1;exact⟨this.1,fun k hk=>this.2 k (h2 k hk)⟩
   ·exact⟨h1,h2⟩
def vstep (n:Nat)(m:L2)(c:Int)(f i k:Nat)(o:L1):L1:=if 0<at2 m i k/\at1 o k<0 then dfs n m c f k o else o
variable {c:Int}
def apU {n:Nat}(hc:0<=c){f:Nat}{p:L1}(h:p.length=n):(vstep n m c f i k p).length=n/\negs n (vstep n m c f i k p)<=negs n p:=by
 unfold vstep;split
 ·have:=dfs_keeps (m:=m) hc f k p h;exact⟨this.1,aiF fun k _ hk=>this.2 k hk⟩
 ·exact⟨h,k_Nat_le_refl _⟩
def avB (n:Nat)(m:L2)(c:Int)(f i:Nat)(o:L1):dfs n m c (f+1) i o=loopN n (o.set i c) (vstep n m c f i):=rfl
def azH (n:Nat)(m:L2)(c:Int)(bc bo bm bv f:Nat)(hA:apW bc bo bm bv)(hm:bR m)(hn:m.length=n)(hc:0<=c/\c<=1048576)(IH:auR n m c bc bo bm bv f)(i:Nat)(o:L1)(hl:o.length=n)(hi:i<n)(h0:at1 o i<0)(hf:negs n o<=f+1):FnW prog 390 [dI i] [(bc,some (dI c)),(bo,none),(bm,some (cZ m)),(bv,some (asM bc bo bm bv))] [(bc,dI c),(bm,cZ m),(bv,asM bc bo bm bv)] [(bo,bT o)] (fun r ds'=>r= .tup []/\ds'=[bT (dfs n m c (f+1) i o)]):=by
 refine fW [] ntmps390 fun _ _=> ?_;obtain⟨a1,a2,a3,a4,a5,a6,a7,a8,a9,a10,a11,a12⟩:=hA;have hn8:=dN hm;obtain⟨r,hr⟩:=aR (l:=m) (i:=i);have hoi:=aY (l:=o) (i:=i);have hr2:=(DJ hm (show i<m.length by omega));have hrl:r.length=n:=by obtain⟨r',e1,e2⟩:=hr2;rw[hr]at e1;obtain rfl:=k_Option_some_inj e1;omega
 have hng:=YA hl hi h0 hc.1;simp[hr,hoi];refine wlt (Nat×L1) (fun(k,p)=>([(0,vI i),(1,.rp (dI c)),(2,.rf (1000000+2*bo) [0]),(3,.rp (cZ m)),(4,.rp (asM bc bo bm bv)),(15,vN r),(16,vI r.length),(17,vI k),(1000000+2*bc,.rp (dI c)),(1000000+2*bo,.own (.bx true (bT p))),(1000000+2*bm,.rp (cZ m)),(1000000+2*bv,.rp (asM bc bo bm bv))],n-k,(k<=n)/\(p=loopN k (o.set i c) (vstep n m c f i))/\p.length=n/\(negs n p<=f))) ((0,o.set i c)) ⟨by omega,rfl,by simp[hl],by omega⟩ ?_ (h0:=by simp[a1,a2,a3,a4,a5,a6,a7,a8,a9,a10,a11,a12,hr,hoi]);rintro⟨k,p⟩ ⟨h1,h2,h3,h4⟩;simp;apply gw<;>intro b
 ·obtain⟨w,hw⟩:=aR (l:=r) (i:=k);have hww:=OH hr hw;have hpk:=aY (l:=p) (i:=k);have hs:=aM k (o.set i c) (vstep n m c f i);rw[←h2]at hs;have hv:=apU (n:=n) (m:=m) (c:=c) hc.1 (f:=f) (i:=i) (k:=k) h3;simp[hw];apply gv<;>intro d
  ·have d':=d;simp[a7,hpk,d];apply gw<;>intro e
   ·have hst:vstep n m c f i k p=dfs n m c f k p:=if_pos ⟨by rw[hww];exact d,e⟩;simp;refine adR (IH k p h3 (by omega) e h4) rfl ?_;simp[a7,a8,a9,a10,a11,a12];refine nxa (k+1,dfs n m c f k p) ⟨by omega,by rw[hs,hst],by rw[←hst];exact hv.1,by rw[←hst];omega⟩ (h3:=by simp[a1,a2,a3,a4,a5,a6,a7,a8,a9,a10,a11,a12,hr,hoi,hw,hpk,d])
   ·simp at e;have hst:vstep n m c f i k p=p:=if_neg (by omega);simp;refine nxa (k+1,p) ⟨by omega,by rw[hs,hst],h3,h4⟩ (h3:=by simp[a1,a2,a3,a4,a5,a6,a7,a8,a9,a10,a11,a12,hr,hoi,hw,hpk,d])
  ·have d':=d;simp at d';have hst:vstep n m c f i k p=p:=if_neg (by omega);simp[d];refine nxa (k+1,p) ⟨by omega,by rw[hs,hst],h3,h4⟩ (h3:=by simp[a1,a2,a3,a4,a5,a6,a7,a8,a9,a10,a11,a12,hr,hoi,hw,hpk,d])
 ·simp at b;obtain rfl:k=n:=by omega
  rw[←avB]at h2;simp[a7,h2]
def azG {n:Nat}{bc bo bm bv:Nat}(hA:apW bc bo bm bv)(hm:bR m)(hn:m.length=n)(hc:0<=c/\c<=1048576):∀f,auR n m c bc bo bm bv f
 |0=>fun i o hl hi h0 hf=>by have:=YA hl hi h0 hc.1;omega
 |f+1=>fun i o hl hi h0 hf=>azH n m c bc bo bm bv f hA hm hn hc (azG hA hm hn hc f) i o hl hi h0 hf
def wY (h:bR m):∀r∈m,Qle r:=fun r hr=>by
 have h8:=dN h;simp only[bR,k_Bool_and_eq_true,aI,decide_eq_true_eq]at h;have:=h.1.1 r hr;omega
def oV (n i:Nat):L1:=List.replicate i (-1)++List.replicate (n-i) 0
def aHE {n:Nat}(h:i<n):(oV n i)[i]?=some 0:=by
 rw[oV,aN (by simp),tT,cO,fF,if_pos (by omega)]
def aE1 {n:Nat}(h:i<n):(oV n i).set i (-1)=oV n (i+1):=by
 obtain⟨k,hk⟩:∃k,n-i=k+1:=⟨n-i-1,by omega⟩;rw[oV,oV,hk,show n-(i+1)=k by omega,gZ _ _ (by simp),lS (n:=i),fU (n:=k)];simp
def pX (m:L2)(hm:bR m:=by first|omega|grind):Fk 332 [cZ m] (wN (oW m)):=by
 refine fE [] ntmps332 fun _ _=> ?_;have hn8:=dN hm;have hz:oV m.length 0=List.replicate m.length 0:=by simp[oV]
 have hz2:List.replicate m.length (dI 0)=(oV m.length 0).map dI:=by rw[hz];simp
 have hnl:∀i≤m.length,(oV m.length i).length=m.length:=fun i hi=>by simp[oV];omega
 have hnl0:=hnl 0 (by omega);simp;refine ck (iH m (by omega) (wY hm)) ?_;simp[hm,hz2,hnl0];refine ai ?_;refine wl (fun(i:Nat)=>[(1,.own (.bx true (cZ m))),(3,.own (.bx true (bT (oV m.length i)))),(15,vI m.length),(16,vI i)]) (fun(i:Nat)=>m.length-i) (fun(i:Nat)=>(i<=m.length)) (0) (by omega) ?_;rintro i h1;simp;apply gw<;>intro a
 ·have hat:=aHE a;have hset:((oV m.length i).map dI).set i (dI (-1))=(oV m.length (i+1)).map dI:=by rw[←aE1 a,jA]
  simp[hat,hset];refine nxa (i+1) (by omega)
 ·simp at a;simp;refine arO (pI (dI 0) (by simp) fun bc nc=> ?_);refine pI (bT (oV m.length i)) (by simp) fun bo no=> ?_;have d1:=oK.ne no (b':=bc) (o:=true) (d:=dI 0) (by simp);have e1:=d1.symm;refine pI (cZ m) (by simp) fun bm nm=> ?_;have d2:=oK.ne nm (b':=bc) (o:=true) (d:=dI 0) (by simp[e1]);have d3:=oK.ne nm (b':=bo) (o:=true) (d:=bT (oV m.length i)) (by simp);have e2:=d2.symm;have e3:=d3.symm;refine pI (.one .nilFunc) (by simp) fun bv nv=> ?_;have d4:=oK.ne nv (b':=bc) (o:=true) (d:=dI 0) (by simp[e1,e2]);have d5:=oK.ne nv (b':=bo) (o:=true) (d:=bT (oV m.length i)) (by simp[e3]);have d6:=oK.ne nv (b':=bm) (o:=true) (d:=cZ m) (by simp);have e4:=d4.symm;have e5:=d5.symm;have e6:=d6.symm;refine Y6 ?_;simp[e6];clear nc no nm nv;obtain rfl:i=m.length:=by omega
  have hA:apW bc bo bm bv:=⟨e1,e2,e4,e3,e5,e6,d1,d2,d4,d3,d5,d6⟩;have hng:oV m.length m.length=List.replicate m.length (-1):=by simp[oV]
  simp[hng];refine wlt (Nat×L1×Int) (fun(i,o,c)=>([(1,.rf (1000000+2*bm) [0]),(3,.rf (1000000+2*bo) [0]),(5,.rf (1000000+2*bc) [0]),(6,.rf (1000000+2*bv) [0]),(25,vI m.length),(26,vI i),(1000000+2*bc,.own (.bx true (dI c))),(1000000+2*bo,.own (.bx true (bT o))),(1000000+2*bm,.own (.bx true (cZ m))),(1000000+2*bv,.own (.bx true (asM bc bo bm bv)))],m.length-i,(i<=m.length)/\((o,c)=loopN i (List.replicate m.length (-1),0) (L8 m.length m))/\o.length=m.length/\(0<=c/\c<=i))) ((0,List.replicate m.length (-1),0)) ⟨by omega,rfl,by simp,by omega⟩ ?_ (h0:=by simp[hm,hz2,hnl0,d1,e1,d2,e2,d3,e3,d4,e4,d5,e5,d6,e6,hng]);rintro⟨i,o,c⟩ ⟨h2,h3,h4,h5⟩;simp;apply gw<;>intro b
  ·have hoi:=aY (l:=o) (i:=i);have hs:=aM i (List.replicate m.length (-1),(0:Int)) (L8 m.length m);rw[←h3]at hs;simp[d1,hoi];apply gw<;>intro f
   ·have hst:L8 m.length m i (o,c)=(dfs m.length m c m.length i o,c+1):=if_pos f;simp[d4,d5,d6];refine adR (azG (c:=c) hA hm rfl (by omega) m.length i o h4 b f (atS _ _)) rfl ?_;simp[d1,e1,d2,d3,d4,d5,d6];refine nxb (i+1,dfs m.length m c m.length i o,c+1) ⟨by show i+1<=m.length;omega,by rw[hs,hst],((dfs_keeps (c:=c) (by omega) _ _ _ h4).1),(by show 0<=c+1/\c+1<=((i+1:Nat):Int);omega)⟩ (h3:=by simp[hm,hz2,hnl0,d1,e1,d2,e2,d3,e3,d4,e4,d5,e5,d6,e6,hng,hoi])
   ·simp at f;have hst:L8 m.length m i (o,c)=(o,c):=if_neg (show¬at1 o i<0 by omega);simp;refine nxa (i+1,o,c) ⟨by omega,by rw[hs,hst],h4,by omega⟩ (h3:=by simp[hm,hz2,hnl0,d1,e1,d2,e2,d3,e3,d4,e4,d5,e5,d6,e6,hng,hoi])
  ·simp at b;obtain rfl:i=m.length:=by omega
   have hfin:oW m=o:=by rw[←aDD hm];exact congrArg Prod.fst h3.symm
   simp[d1,hfin];omega
def yJ (n:Nat)(l:List Con)(hn:n<=1048576:=by first|omega|grind)(hl:Qle l:=by first|omega|grind)(hc:dA n l:=by first|omega|grind):Fk 333 [dI n,jN l] (wN (eH n l)):=by
 refine fE [] ntmps333 fun _ _=> ?_;simp;refine ck (uO n l) ?_;have hc2:=mE hc;have hm:=aa3 hc;have hx:=arP hc;simp[hc];refine ck (UK n l) ?_;simp;refine ck (pX _) ?_;simp;grind
def NR (a b:L1)(ha:Qle a)(hb:Qle b):Fk 389 [nInts a,nInts b] (vB (mJ a b)):=by
 refine fE [] ntmps389 fun _ _=> ?_;simp;refine ck (yI a ha) ?_;simp;apply gv<;>intro e
 ·have e':=e;simp[e];refine ck (yI b hb) ?_;simp;apply gv<;>intro f
  ·have f':=f;simp[f];grind[mJ]
  ·have f':=f;simp[f];grind[mJ]
 ·have e':=e;simp[e];grind[mJ]
def aoP {f:Nat->Nat->Bool}(h:f i k):set2 m i k 1=zO f i k m:=by unfold zO;rw[if_pos h]
def MG (p q:L1)(hp:Qle p)(hq:Qle q)(h:mJ p q):Fk 331 [nInts p,nInts q] (wN (EK p q)):=by
 refine fE [] ntmps331 fun _ _=> ?_;obtain⟨hpp,hqq,hlen⟩:=YH h;have hpl:=isPart_len hpp;have hz:List.replicate p.length (bT (List.replicate p.length 0))=(zeros p.length).map bT:=by simp[zeros]
 have hmat:=aaV (q:=q) hpl;have hlab:=aq7 (q:=q) hpl;simp;refine ck (NR p q hp hq) ?_;simp[h];refine ck (tK p.length) ?_;simp[hz];refine wlt (Nat×L2) (fun(i,m)=>([(0,vN p),(1,vN q),(5,.own (mY m)),(16,vI p.length),(17,vI i)],p.length-i,(i<=p.length)/\(m=loopN i (zeros p.length) (Z5 p.length (CL p q)))/\(sq2 p.length m))) ((0,zeros p.length)) ⟨by omega,rfl,(pM _)⟩ ?_ (h0:=by simp[h,hz]);rintro⟨i,m⟩ ⟨h1,h2,h3⟩;simp;apply gw<;>intro a
 ·have hs:=aM i (zeros p.length) (Z5 p.length (CL p q));rw[←h2]at hs;have gp:=aY (l:=p) (i:=i);have gq:=aY (l:=q) (i:=i);simp;refine wlt (Nat×L2) (fun(k,w)=>([(0,vN p),(1,vN q),(5,.own (mY w)),(6,vI i),(16,vI p.length),(17,vI i),(21,vI p.length),(22,vI k)],p.length-k,(k<=p.length)/\(w=loopN k m (zO (CL p q) i))/\(sq2 p.length w))) ((0,m)) ⟨by omega,rfl,h3⟩ ?_;rintro⟨k,w⟩ ⟨h4,h5,h6⟩;simp;apply gw<;>intro b
  ·have hs2:=aM k m (zO (CL p q) i);rw[←h5]at hs2;have kp:=aY (l:=p) (i:=k);have kq:=aY (l:=q) (i:=k);have hrw:=(sW h6 (i:=i)).1;have hgw:=M4 h6 (i:=i) (k:=k);have hset:=LD w i k 1;simp;refine wdr ?_;simp;apply gv<;>intro e
   ·have e':=e;simp[gp,kp,e];apply gv<;>intro f
    ·have f':=f;have ho:=aoP (m:=w) (show CL p q i k=true by simp only[CL,k_Bool_and_eq_true,bM,decide_eq_true_eq];exact⟨by omega,.inl f⟩);simp[hrw,hgw,hset,f];refine nxa (k+1,set2 w i k 1) ⟨by omega,by rw[hs2,ho],(xW h6 (by omega) 1)⟩
    ·have f':=f;simp[gq,kq,f];apply gw<;>intro g
     ·have ho:=aoP (m:=w) (show CL p q i k=true by simp only[CL,k_Bool_and_eq_true,bM,decide_eq_true_eq];exact⟨by omega,.inr g⟩);simp[hrw,hgw,hset];refine nxa (k+1,set2 w i k 1) ⟨by omega,by rw[hs2,ho],(xW h6 (by omega) 1)⟩
     ·have ho:zO (CL p q) i k w=w:=if_neg (by simp only[CL,k_Bool_and_eq_true,bM,decide_eq_true_eq];omega);simp;refine nxa (k+1,w) ⟨by omega,by rw[hs2,ho],h6⟩
   ·have e':=e;have ho:zO (CL p q) i k w=w:=if_neg (by simp only[CL,k_Bool_and_eq_true,bM,decide_eq_true_eq];omega);simp[e];refine nxa (k+1,w) ⟨by omega,by rw[hs2,ho],h6⟩ (h3:=by simp[h,hz,gp,gq,kp,kq,hrw,hgw,hset,e])
  ·simp at b;obtain rfl:k=p.length:=by omega
   simp;refine nxa (i+1,w) ⟨by omega,by rw[hs,h5];rfl,h6⟩
 ·simp at a;obtain rfl:i=p.length:=by omega
  have hfin:PY p q=m:=h2.symm;rw[hfin]at hmat hlab;simp;refine ck (pX m hmat) ?_;simp[hlab]
def R4 (m:L2)(l:List Con)(hl:Qle l)(hm:bR m)(hc:dA m.length l):Fk 270 [cZ m,jN l] (wN (dJ m l)):=by
 refine fE [] ntmps270 fun _ _=> ?_;have hn8:=dN hm;have hpl:=MX hm;have hml:=nO hc;have hpp:=LC hpl hn8.1 hn8.2;have hmp:=LC hml hn8.1 hn8.2;have hpair:mJ (oW m) (eH m.length l):=by simp only[mJ,k_Bool_and_eq_true,decide_eq_true_eq];exact⟨⟨hpp,hmp⟩,by rw[hpl.1,hml.1]⟩
 have hx:=(JQ hm hc).1;simp;refine ck (iH m (by omega) (wY hm)) ?_;simp[hm];refine ck (uO m.length l) ?_;simp[hc];refine ck (pX m hm) ?_;simp;refine ck (yJ m.length l (by omega) hl hc) ?_;have q1:=hpl.1;have q2:=hml.1;simp;refine ck (MG (oW m) (eH m.length l) (by omega) (by omega) hpair) ?_;simp[hx]
def ayL (h:bR m)(l:L1)(i k:Nat):0<=tC m l i k/\tC m l i k<=1000:=by
 have:=iP h i k;rw[ahK];split<;>omega
def kI (m:L2)(l:L1)(hm:bR m)(hl:l.length=m.length):Fk 275 [cZ m,nInts l] (vI (dP m l)):=by
 refine fE [] ntmps275 fun _ _=> ?_;have hn8:=dN hm;simp;refine wlt (Nat×Int) (fun(i,s)=>([(0,.val (cZ m)),(1,vN l),(5,vI s),(9,vI l.length),(10,vI i)],l.length-i,(i<=l.length)/\(s=loopN i 0 (zK m l))/\(0<=s/\s<=8000*i))) ((0,0)) ⟨by omega,rfl,by omega⟩ ?_;rintro⟨i,s⟩ ⟨h1,h2,h3⟩;simp;apply gw<;>intro a
 ·have hs:=aM i 0 (zK m l);rw[←h2]at hs;simp;refine wlt (Nat×Int) (fun(k,t)=>([(0,.val (cZ m)),(1,vN l),(5,vI t),(6,vI i),(9,vI l.length),(10,vI i),(13,vI i),(14,vI k)],i-k,(k<=i)/\(t=loopN k s (fun k s=>s+tC m l i k))/\(s<=t/\t<=s+1000*k))) ((0,s)) ⟨by omega,rfl,by omega⟩ ?_;rintro⟨k,t⟩ ⟨h4,h5,h6⟩;simp;apply gw<;>intro b
  ·have hs2:=aM k s (fun k s=>s+tC m l i k);rw[←h5]at hs2;have gi:=aY (l:=l) (i:=i);have gk:=aY (l:=l) (i:=k);obtain⟨r,hr,hw⟩:=lD hm (i:=i) (k:=k);have hc:=ayL hm l i k;have hw2:=iP hm i k;have hcb:=ahK m l i k;simp;refine wdr ?_;simp[gi,gk];apply gw<;>intro e
   ·rw[if_pos e]at hcb;have hcs:=hcb.symm;simp[hr,hw,hcs];refine nxd (k+1,t+tC m l i k) ⟨by omega,hs2.symm,by omega⟩
   ·rw[if_neg e]at hcb;have hcs:=hcb.symm;simp[hr,hw,hcs];refine nxb (k+1,t+tC m l i k) ⟨by omega,hs2.symm,by omega⟩
  ·simp at b;obtain rfl:k=i:=by omega
   simp;refine nxa (k+1,t) ⟨by omega,by rw[hs,h5];rfl,by omega⟩
 ·simp at a;obtain rfl:i=l.length:=by omega
  have hfin:dP m l=s:=h2.symm;simp[hfin]
def XQ (l:L1):(nInts l).fz=nInts l:=by simp[D.fz,D.K9]
def ME (c:Con)(p:L1)(h0:0<=c.a/\c.a<c.b)(h1:c.b<(p.length:Int)):Fk 434 [al5 c,.bx false (nInts p)] (vB (GJ p c)):=by
 refine fE [] ntmps434 fun _ _=> ?_;have ha:0<=c.a:=h0.1;have hb:0<=c.b:=by omega
 have q1:=aY (l:=p) (i:=c.a.toNat);have q2:=aY (l:=p) (i:=c.b.toNat);simp;refine wdt 16 ?_;simp;apply gv<;>intro g1
 ·have g1':=g1;simp at g1';simp[ha,hb,q1,q2,g1];grind[GJ]
 ·have g1':=g1;simp at g1';simp[g1];grind[GJ]
def O1 (n:Nat)(l:List Con)(hn:n<=1048576:=by first|omega|grind)(hl:Qle l:=by first|omega|grind)(hc:dA n l:=by first|omega|grind):Fk 385 [dI n,jN l] (vI (wT n l)):=by
 refine fE [] ntmps385 fun _ _=> ?_;have hc2:=mE hc;have hml:(eH n l).length=n:=(nO hc).1;have hne:¬eH n l=[]:=by intro e;rw[e]at hml;simp at hml;omega
 have hf:wT n l=ix (GJ (eH n l)) l:=if_pos hc;simp;refine ck (yJ n l) ?_;simp[hne,hf];intro b;refine ckB (aeL l (GJ (eH n l)) 434 b (nInts (eH n l)) (XQ _) aI0 aJF (fun c hm=>ME c (eH n l) (by have:=hc2.2.2.2 c hm;omega) (by have:=hc2.2.2.2 c hm;omega)) hl) ?_;simp[hf]
def O3 (n:Nat)(l:List Con)(hn:n<=1048576:=by first|omega|grind)(hl:Qle l:=by first|omega|grind):Fk 329 [dI n,jN l] (vB (eP n l)):=by
 refine fE [] ntmps329 fun _ _=> ?_;simp;refine ck (uO n l) ?_;simp;apply gv<;>intro e
 ·have e':=e;simp[e];refine ck (O1 n l) ?_;simp;grind[eP]
 ·have e':=e;simp[e];grind[eP]
def UI (m:L2)(l:List Con)(hm:Qle m)(hr:∀r∈m,Qle r)(hl:Qle l):Fk 269 [cZ m,jN l] (vB (bR m&&eP m.length l)):=by
 refine fE [] ntmps269 fun _ _=> ?_;simp;refine ck (iH m hm hr) ?_;simp;apply gv<;>intro e
 ·have e':=e;simp[e];refine ck (O3 m.length l) ?_;simp[e]
 ·have e':=e;simp[e]
def CE (m:L2)(l:L1)(hm:bR m)(hl:Qle l):Fk 338 [cZ m,nInts l] (vI (wL m l)):=by
 refine fE [] ntmps338 fun _ _=> ?_;simp;refine ck (iH m (by have:=dN hm;omega) (wY hm)) ?_;simp[hm];refine ck (yI l hl) ?_;simp;apply gv<;>intro e
 ·have e':=e;simp at e';have hp:wL m l= -1:=if_neg (by simp[e']);simp[e,hp]
 ·have e':=e;simp at e';simp[e];apply gw<;>intro f
  ·have hp:wL m l= -1:=if_neg (by omega);simp[hp]
  ·have hll:l.length=m.length:=by omega
   have hp:wL m l=dP m l:=if_pos ⟨hm,e',hll⟩;simp;refine ck (kI m l hm hll) ?_;simp[hp]
def abR (c:Con)(l:L1)(hl:Qle l):Fk 396 [al5 c,.bx false (nInts l)] (vB (!yB l c)):=by
 refine fE [] ntmps396 fun _ _=> ?_;simp;refine wdt 30 ?_;simp;refine cd (nL c.a l.length) ?_;simp;apply gv<;>intro e
 ·have e':=e;simp at e';simp[e];grind[yB]
 ·have e':=e;simp at e';simp[e];refine cd (nL c.b l.length) ?_;simp;apply gv<;>intro f
  ·have f':=f;simp at f';simp[f];grind[yB]
  ·have f':=f;simp at f';have ha:0<=c.a:=by omega
   have hb:0<=c.b:=by omega
   have q1:=aY (l:=l) (i:=c.a.toNat);have q2:=aY (l:=l) (i:=c.b.toNat);simp[e',f',q1,q2];grind[yB]
def D9 (l:L1)(cs:List Con)(hl:Qle l:=by first|omega|grind)(hc:Qle cs:=by first|omega|grind):Fk 336 [nInts l,jN cs] (vB (nE cs l)):=by
 refine fE [] ntmps336 fun _ _=> ?_;have hx:(!(cs.any fun c=> !yB l c))=nE cs l:=by rw[ajC];simp[nE]
 simp;intro b;refine ckB (ahV cs (fun c=> !yB l c) 396 b (nInts l) (XQ _) aIZ aJE (fun c _=>abR c l hl) hc) ?_;simp[hx]
def DD (n:Nat)(hn:n<=8:=by first|omega|grind):Fk 243 [dI n] (.own (U7 (noLinks n))):=by
 refine fE [] ntmps243 fun _ _=> ?_;simp;refine wl (fun(i:Nat)=>[(0,vI n),(3,.own (U7 (List.replicate i (List.replicate n false)))),(4,vI i)]) (fun(i:Nat)=>n-i) (fun(i:Nat)=>(i<=n)) (0) (by omega) ?_;rintro i h1;simp;apply gw<;>intro a
 ·have hx:=lS (n:=i) (a:=List.replicate n false);simp;refine nxd (i+1) (by first|omega|(simp;omega)|grind) (h3:=by simp[hx])
 ·simp at a;obtain rfl:n=i:=by omega
  simp;all_goals(simp[noLinks];done)
def BF (n:Nat)(M:List (List Bool))(hn:n<=8:=by first|omega|grind)(hM:sqB n M:=by first|omega|grind):Fk 244 [dI n,Z0 M] (.own (bT (anE n M).1)):=by
 refine fE [] ntmps244 fun _ _=> ?_;simp;refine wl (fun(i:Nat)=>[(0,vI n),(1,.val (Z0 M)),(5,wN (List.replicate i (-1))),(6,vI i)]) (fun(i:Nat)=>n-i) (fun(i:Nat)=>(i<=n)) (0) (by omega) ?_;rintro i h1;simp;apply gw<;>intro a
 ·have hx:=lS (n:=i) (a:=(-1:Int));simp;refine nxb (i+1) (by first|omega|(simp;omega)|grind) (h3:=by simp[hx])
 ·simp at a;obtain rfl:n=i:=by omega
  simp;refine wlt (Nat×(L1×Int)) (fun(i,s)=>([(0,vI n),(1,.val (Z0 M)),(5,wN s.1),(7,vI s.2),(8,vI i)],n-i,(i<=n)/\(s=loopN i ((List.replicate n (-1),0)) (JL n M))/\(s.1.length=n/\0<=s.2/\s.2<=i))) ((0,(List.replicate n (-1),0))) ⟨by omega,rfl,by simp⟩ ?_;rintro⟨i,s⟩ ⟨h1,h2,h3⟩;simp;apply gw<;>intro a
  ·have hs:=aM i ((List.replicate n (-1),0)) (JL n M);rw[←h2]at hs;have hg:=aY (l:=s.1) (i:=i);simp[hg];apply gw<;>intro b
   ·have hx:JL n M i s=s:=if_pos b;simp;refine nxa (i+1,s) ⟨by omega,by rw[hs,hx],by omega⟩
   ·simp at b;have hx:JL n M i s=(spread n M s.2 (s.1.set i s.2),s.2+1):=if_neg (by omega);simp[hg];refine wlt (Nat×L1) (fun(a,o)=>([(0,vI n),(1,.val (Z0 M)),(5,wN o),(7,vI s.2),(8,vI i),(9,vI a)],n-a,(a<=n)/\(o=loopN a (s.1.set i s.2) (spS n M s.2))/\(o.length=n))) ((0,s.1.set i s.2)) ⟨by omega,rfl,by simp;omega⟩ ?_;rintro⟨a,o⟩ ⟨h1a,h2a,h3a⟩;simp;apply gw<;>intro aa
    ·have hsa:=aM a (s.1.set i s.2) (spS n M s.2);rw[←h2a]at hsa;simp;refine wlt (Nat×L1) (fun(b,p)=>([(0,vI n),(1,.val (Z0 M)),(5,wN p),(7,vI s.2),(8,vI i),(9,vI a),(10,vI b)],n-b,(b<=n)/\(p=loopN b (o) (spA n M s.2))/\(p.length=n))) ((0,o)) ⟨by omega,rfl,by omega⟩ ?_;rintro⟨b,p⟩ ⟨h1b,h2b,h3b⟩;simp;apply gw<;>intro ab
     ·have hsb:=aM b (o) (spA n M s.2);rw[←h2b]at hsb;simp;refine wlt (Nat×L1) (fun(c,q)=>([(0,vI n),(1,.val (Z0 M)),(5,wN q),(7,vI s.2),(8,vI i),(9,vI a),(10,vI b),(11,vI c)],n-c,(c<=n)/\(q=loopN c (p) (spB M s.2 b))/\(q.length=n))) ((0,p)) ⟨by omega,rfl,by omega⟩ ?_;rintro⟨c,q⟩ ⟨h1c,h2c,h3c⟩;simp;apply gw<;>intro ac
      ·have hsc:=aM c (p) (spB M s.2 b);rw[←h2c]at hsc;have hq:=aY (l:=q) (i:=b);obtain⟨r,hr,hrl⟩:=at6 hM ab;obtain⟨y,hy⟩:=aR (l:=r) (i:=c);have ey:=ax6 hr hy;have hqc:=aY (l:=q) (i:=c);simp[hq];apply gv<;>intro e
       ·have e':=e;simp[hr,hy,e];apply gw<;>intro f
        ·have hz:spB M s.2 b c q=q.set c s.2:=if_pos ⟨by simp_all,by simp_all⟩;simp[hqc];refine nxa (c+1,q.set c s.2) ⟨by omega,by rw[hsc,hz],by simp[h3c]⟩
        ·have hz:spB M s.2 b c q=q:=if_neg (by simp_all);simp;refine nxa (c+1,q) ⟨by omega,by rw[hsc,hz],h3c⟩
       ·have e':=e;have hz:spB M s.2 b c q=q:=if_neg (by simp_all);simp[e];refine nxa (c+1,q) ⟨by omega,by rw[hsc,hz],h3c⟩
      ·simp at ac;have hic:n=c:=by omega
       subst hic;simp;refine nxa (b+1,q) ⟨by omega,by rw[hsb,spA,h2c],h3c⟩
     ·simp at ab;have hib:n=b:=by omega
      subst hib;simp;refine nxa (a+1,p) ⟨by omega,by rw[hsa,spS,h2b],h3b⟩
    ·simp at aa;have hia:n=a:=by omega
     subst hia;simp;refine nxb (i+1,(o,s.2+1)) ⟨by omega,by rw[hs,hx,spread,h2a],by simp[h3a];omega⟩
  ·simp at a;have hi:n=i:=by omega
   subst hi;simp;subst h2;rfl
def yL (n:Int)(l:List Con)(hn: -1048576<=n/\n<=1048576:=by first|omega|grind)(hs:Qle l:=by first|omega|grind):Fk 166 [dI n,jN l] (wN (if dA n l=true then eH n.toNat l else[])):=by
 refine fE [] ntmps166 fun _ _=> ?_;simp;refine ck (uP _ _) ?_;simp;apply gw<;>intro e
 ·simp at e;simp;simp[e]
 ·simp at e;obtain⟨h1,h2,h3,h4⟩:=mE e;obtain⟨n,rfl⟩:∃k:Nat,n=k:=⟨n.toNat,by omega⟩;simp;refine ck (DD n) ?_;simp;refine wlt (Nat×List (List Bool)) (fun(i,M)=>([(0,vI n),(1,vC l),(5,.own (U7 M)),(6,vI i)],l.length-i,(i<=l.length)/\(M=(l.take i).foldl mustStep (noLinks n))/\(sqB n M))) ((0,(noLinks n))) ⟨by simp,rfl,(agB n)⟩ ?_;rintro⟨i,M⟩ ⟨h1,h2,h3⟩;simp;apply gw<;>intro a
  ·obtain⟨c,hc⟩:=aR (l:=l) (i:=i);have hm:=fH mustStep (noLinks n) hc;rw[←h2]at hm;have hb:=h4 c (aA hc);simp[hc];apply gw<;>intro b
   ·obtain⟨r,hr,hrl,hrc⟩:=YU (a:=c.a.toNat) (b:=c.b.toNat) h3;obtain⟨q,hq,hql,hqc⟩:=YU (a:=c.b.toNat) (b:=c.a.toNat) h3;have hne:c.a.toNat≠c.b.toNat:=by omega
    have hne2:¬c.b.toNat=c.a.toNat:=by omega
    have hz1:=YQ (k:=c.b.toNat) (v:=true) hr;have hz2:=YQ (M:=M.set c.a.toNat (r.set c.b.toNat true)) (i:=c.b.toNat) (k:=c.a.toNat) (v:=true) (r:=q) (by simp[hne,hq]);simp;refine wdt 14 ?_;simp[hc,hr,hrc];iterate 2 refine ai ?_
    refine wdt 14 ?_;simp[hc,hq,hqc,hne];refine nxd (i+1,(M.set c.a.toNat (r.set c.b.toNat true)).set c.b.toNat (q.set c.a.toNat true)) ⟨by omega,by rw[hm,mustStep,if_pos b,hz1,hz2],by rw[←hz2,←hz1];exact sqB_set (sqB_set h3)⟩
   ·simp;refine nxa (i+1,M) ⟨by omega,by rw[hm,mustStep,if_neg (by simp[b])],h3⟩
  ·simp at a;rw[bS a]at h2;subst h2;simp;refine ck (BF n _) ?_;simp;simp[e,eH,nG]
def HV (m:L2)(hs:Qle m:=by first|omega|grind):Fk 239 [cZ m] (wN (if bR m=true then oW m else[])):=by
 refine fE [] ntmps239 fun _ _=> ?_;simp;refine ck (eQ _) ?_;simp;apply gw<;>intro e
 ·simp at e;simp;simp[e]
 ·simp at e;have hml:=dN e;simp;refine ck (DD m.length) ?_;simp;refine wlt (Nat×List (List Bool)) (fun(i,M)=>([(0,.val (cZ m)),(3,.own (U7 M)),(4,vI i)],m.length-i,(i<=m.length)/\(M=loopN i (noLinks m.length) ((fun i M=>loopN m.length M (posRow m i))))/\(sqB m.length M))) ((0,noLinks m.length)) ⟨by simp,rfl,(agB _)⟩ ?_;rintro⟨i,M⟩ ⟨h1,h2,h3⟩;simp;apply gw<;>intro a
  ·have hs:=aM i (noLinks m.length) ((fun i M=>loopN m.length M (posRow m i)));rw[←h2]at hs;simp;refine wlt (Nat×List (List Bool)) (fun(k,L)=>([(0,.val (cZ m)),(3,.own (U7 L)),(4,vI i),(5,vI k)],m.length-k,(k<=m.length)/\(L=loopN k (M) (posRow m i))/\(sqB m.length L))) ((0,M)) ⟨by simp,rfl,h3⟩ ?_;rintro⟨k,L⟩ ⟨h1k,h2k,h3k⟩;simp;apply gw<;>intro ak
   ·have hsk:=aM k (M) (posRow m i);rw[←h2k]at hsk;obtain⟨r,hr,hrl,hrc⟩:=YU (a:=i) (b:=k) h3k;obtain⟨q,hq,hqc⟩:=lD e (i:=i) (k:=k);have hz1:=YQ (k:=k) (v:=decide (at2 m i k>0)) hr;have hsq:=sqB_set (i:=i) (k:=k) (v:=decide (at2 m i k>0)) h3k;rw[hz1]at hsq;simp;refine wdt 14 ?_;simp[hr,hrc,hq,hqc];refine nxa (k+1,L.set i (r.set k (decide (at2 m i k>0)))) ⟨by omega,by rw[hsk,posRow,hz1],hsq⟩
   ·simp at ak;have hik:m.length=k:=by omega
    subst hik;simp;refine nxa (i+1,L) ⟨by omega,by rw[hs];exact h2k,h3k⟩
  ·simp at a;have hi:m.length=i:=by omega
   subst hi;simp;refine ck (BF m.length _) ?_;simp;simp[e,oW,YI,←h2]
variable {n:Int}{l:List Con}{C:L1}
def alX (hC:(if dA n l=true then eH n.toNat l else[])=C)(b:0<C.length):dA n l=true:=by
 cases h:dA n l with
 |true=>rfl
 |false=>subst hC;simp[h]at b
def ajO (hC:(if dA n l=true then eH n.toNat l else[])=C)(b:¬0<C.length):¬dA n l=true:=by
 intro h;have:=mE h;subst hC;rw[if_pos h,eH,P5]at b;omega
def alD (e:¬dA n l=true):¬dA n.toNat l=true:=by
 intro h;by_cases h0:0<=n
 ·rw[show(n.toNat:Int)=n by omega]at h;exact e h
 ·have:=mE h;omega
def agY (hC:(if dA n l=true then eH n.toNat l else[])=C)(e:dA n.toNat l=true):eH n.toNat l=C:=by
 by_cases h0:0<=n
 ·rw[show(n.toNat:Int)=n by omega]at e;rw[if_pos e]at hC;exact hC
 ·have:=mE e;omega
def PM (n:Int)(l:List Con)(hn: -1048576<=n/\n<=1048576:=by first|omega|grind)(hs:Qle l:=by first|omega|grind):Fk 237 [dI n,jN l] (vI (wT n.toNat l)):=by
 refine fE [] ntmps237 fun _ _=> ?_;simp;refine ck (yL n l) ?_;generalize hC:(if dA n l=true then eH n.toNat l else[])=C;have hCl:C.length<=8:=by subst hC;split;(next e=>rw[eH,P5];have:=mE e;omega);simp
 simp;refine wlt Nat (fun i=>([(0,vI n),(1,vC l),(5,wN C),(6,vI i)],l.length-i,(i<=l.length)/\((l.take i).any (GJ C)=false))) (0) ⟨by omega,rfl⟩ ?_;rintro i ⟨h1,h2⟩;simp;apply gv<;>intro a
 ·have a':=a;simp[a];apply gw<;>intro b
  ·have e:=alX hC b;obtain⟨h3,h4,h5,h6⟩:=mE e;rw[if_pos e]at hC;have hCn:C.length=n.toNat:=by subst hC;exact P5 _ _
   obtain⟨c,hc⟩:=aR (l:=l) (i:=i);have hb:=h6 c (aA hc);have ha1:=aY (l:=C) (i:=c.a.toNat);have hb1:=aY (l:=C) (i:=c.b.toNat);simp;refine wdr ?_;simp[hc];apply gv<;>intro f
   ·have f':=f;simp at f';simp[hc,ha1,hb1,f];iterate 2 refine ai ?_
    apply gw<;>intro g
    ·have hx:ix (GJ C) l=i:=CK hc h2 (by simp[GJ,g];simpa using f);simp;simp[wT,show(n.toNat:Int)=n by omega,e,hC,hx]
    ·simp;refine nxa (i+1) ⟨by omega,(kL hc h2 (by simp[GJ,g]))⟩
   ·have f':=f;simp at f';simp[f];refine nxa (i+1) ⟨by omega,(kL hc h2 (by simp[GJ];simp_all))⟩
  ·simp at b;have e:=ajO hC (by simp[b]);have e2:=alD e;simp;rw[wT,if_neg e2]
 ·have a':=a;simp at a';have hx:=rQ (oL h2 (by omega));simp[a];have h:=fun e=>agY hC e;unfold wT;split<;>simp_all
def EH (n:Int)(l:List Con)(hn: -1048576<=n/\n<=1048576:=by first|omega|grind)(hs:Qle l:=by first|omega|grind):Fk 159 [dI n,jN l] (vB (dA n l&&decide (wT n.toNat l<0))):=by
 refine fE [] ntmps159 fun _ _=> ?_;simp;refine ck (uP _ _) ?_;simp;apply gv<;>intro e
 ·have e':=e;simp[e];refine ck (PM _ _) ?_;simp[e]
 ·have e':=e;simp[e]
def ab7 (a b:L1)(ha:Qle a:=by first|omega|grind)(hb:Qle b:=by first|omega|grind):Fk 309 [nInts a,nInts b] (vB (mJ a b)):=by
 refine fE [] ntmps309 fun _ _=> ?_;simp;refine ck (mF _) ?_;simp;apply gv<;>intro e
 ·have e':=e;simp[e];refine ck (mF _) ?_;simp;apply gv<;>intro f
  ·have f':=f;simp[f];grind[mJ]
  ·have f':=f;simp[f];grind[mJ]
 ·have e':=e;simp[e];grind[mJ]
def MK (p q:L1)(ha:Qle p)(hb:Qle q):Fk 238 [nInts p,nInts q] (wN (am8 p q)):=by
 refine fE [] ntmps238 fun _ _=> ?_;simp;refine ck (ab7 _ _) ?_;simp;apply gw<;>intro e
 ·simp at e;simp;simp[am8,e]
 ·simp at e;obtain⟨h1,h2,h3⟩:=YH e;have h4:=isPart_len h1;simp;refine ck (DD p.length) ?_;simp;refine wlt (Nat×List (List Bool)) (fun(i,M)=>([(0,vN p),(1,vN q),(5,.own (U7 M)),(6,vI i)],p.length-i,(i<=p.length)/\(M=loopN i (noLinks p.length) ((fun i M=>loopN p.length M (FW p q i))))/\(sqB p.length M))) ((0,noLinks p.length)) ⟨by simp,rfl,(agB _)⟩ ?_;rintro⟨i,M⟩ ⟨h1,h2,h3⟩;simp;apply gw<;>intro a
  ·have hs:=aM i (noLinks p.length) ((fun i M=>loopN p.length M (FW p q i)));rw[←h2]at hs;simp;refine wlt (Nat×List (List Bool)) (fun(k,L)=>([(0,vN p),(1,vN q),(5,.own (U7 L)),(6,vI i),(7,vI k)],p.length-k,(k<=p.length)/\(L=loopN k (M) (FW p q i))/\(sqB p.length L))) ((0,M)) ⟨by simp,rfl,h3⟩ ?_;rintro⟨k,L⟩ ⟨h1k,h2k,h3k⟩;simp;apply gw<;>intro ak
   ·have hsk:=aM k (M) (FW p q i);rw[←h2k]at hsk;obtain⟨r,hr,hrl,hrc⟩:=YU (a:=i) (b:=k) h3k;have ha1:=aY (l:=p) (i:=i);have ha2:=aY (l:=p) (i:=k);have hb1:=aY (l:=q) (i:=i);have hb2:=aY (l:=q) (i:=k);have hz1:=fun v=>YQ (k:=k) (v:=v) hr;have hsq:=fun v=>sqB_set (i:=i) (k:=k) (v:=v) h3k;simp;refine wdt 26 ?_;simp[hr,ha1,ha2];apply gv<;>intro e
    ·have e':=e;have hj:FW p q i k L=L.set i (r.set k true):=by rw[FW,hz1];simp[e]
     simp[hr,hrc,e];refine nxa (k+1,L.set i (r.set k true)) ⟨by omega,by rw[hsk,hj],by rw[←hz1];exact hsq _⟩
    ·have e':=e;have hj:FW p q i k L=L.set i (r.set k (decide (at1 q i=at1 q k))):=by rw[FW,hz1];simp[e]
     simp[hr,hrc,hb1,hb2,e];refine nxa (k+1,L.set i (r.set k (decide (at1 q i=at1 q k)))) ⟨by omega,by rw[hsk,hj],by rw[←hz1];exact hsq _⟩
   ·simp at ak;have hik:p.length=k:=by omega
    subst hik;simp;refine nxa (i+1,L) ⟨by omega,by rw[hs];exact h2k,h3k⟩
  ·simp at a;have hi:p.length=i:=by omega
   subst hi;simp;refine ck (BF p.length _) ?_;simp;simp[am8,e,EK,Q9,←h2]
def aoV (m:L2):(oW m).length=m.length:=P5 _ _
def akG (n:Nat)(l:List Con):(eH n l).length=n:=P5 _ _
def SG (m:L2)(cs:List Con)(hm:Qle m)(hc:Qle cs):Fk 160 [cZ m,jN cs] (wN (dJ m cs)):=by
 refine fE [] ntmps160 fun _ _=> ?_;simp;refine ck (eQ _) ?_;simp;apply gv<;>intro e
 ·have e':=e;simp at e';simp[e];grind[dJ]
 ·have e':=e;simp at e';simp[e];refine ck (uP _ _) ?_;simp;apply gw<;>intro f
  ·simp at f;simp;grind[dJ]
  ·simp at f;have hml:=dN (m:=m) (by simpa using e);simp[e',f];refine ck (HV _) ?_;simp[e'];refine ck (yL _ _) ?_;simp[f];refine ck (MK (oW m) (eH m.length cs) (by (try unfold Qle);rw[aoV];omega) (by (try unfold Qle);rw[akG];omega)) ?_;simp;all_goals(simp only[dJ,e',f];simp)
def FU (l:List Con)(items:L1)(hs:Qle l)(hi:Qle items):Fk 162 [jN l,nInts items] (vG (iM l items)):=by
 refine fE [] ntmps162 fun _ _=> ?_;simp;refine wlt (Nat×List Con) (fun(i,out)=>([(0,vC l),(1,vN items),(5,vG out),(6,vI i)],l.length-i,(i<=l.length)/\(out=(l.take i).filterMap (zX items))/\(out.length<=i))) ((0,[])) ⟨by omega,rfl,by simp⟩ ?_;rintro⟨i,out⟩ ⟨h1,h2,h3⟩;simp;apply gw<;>intro a
 ·obtain⟨c,hc⟩:=aR (l:=l) (i:=i);have hm:=A9 (zX items) hc;rw[←h2]at hm;simp[hc];refine ck (oD _ _) ?_;simp[hc];refine ck (oD _ _) ?_;simp;apply gv<;>intro e
  ·have e':=e;simp[e];apply gw<;>intro b
   ·have hv:zX items c=some ⟨place items c.a,place items c.b,c.same⟩:=if_pos ⟨by unfold place;omega,by unfold place;omega⟩;simp[hc];refine nxb (i+1,out++[⟨place items c.a,place items c.b,c.same⟩]) ⟨by omega,by rw[hm,hv];rfl,by simp;omega⟩
   ·simp at b;have hv:zX items c=none:=if_neg (by rintro⟨h1,h2⟩;unfold place at h1 h2;omega);simp;refine nxa (i+1,out) ⟨by omega,by rw[hm,hv];simp,by omega⟩
  ·have e':=e;simp at e';have hv:zX items c=none:=if_neg (by rintro⟨h1,h2⟩;unfold place at h1 h2;omega);simp[e];refine nxa (i+1,out) ⟨by omega,by rw[hm,hv];simp,by omega⟩
 ·simp at a;rw[bS a]at h2;simp;grind[iM]
def tL (l:L1)(hs:Qle l):Fk 168 [nInts l] (wN (canon l)):=by
 refine fE [] ntmps168 fun _ _=> ?_;simp;refine wlt (Nat×(L1×L1)) (fun(i,s)=>([(0,vN l),(3,wN s.1),(4,wN s.2),(5,vI i)],l.length-i,(i<=l.length)/\(s=(l.take i).foldl jL ([],[]))/\(s.1.length<=i/\s.2.length<=i))) ((0,([],[]))) ⟨by omega,rfl,by simp⟩ ?_;rintro⟨i,s⟩ ⟨h1,h2,h3⟩;simp;apply gw<;>intro a
 ·obtain⟨c,hc⟩:=aR (l:=l) (i:=i);have hm:=fH jL ([],[]) hc;rw[←h2]at hm;simp;refine wlt (Nat×Int) (fun(j,t)=>([(0,vN l),(3,wN s.1),(4,wN s.2),(5,vI i),(6,vI t),(7,vI j)],s.2.length-j,(j<=s.2.length)/\(t=loopN j (-1) ((fun j a=>if at1 s.2 j=c then(j:Int)else a)))/\(-1<=t/\t<=j))) ((0, -1)) ⟨by omega,rfl,by omega⟩ ?_;rintro⟨j,t⟩ ⟨h1j,h2j,h3j⟩;simp;apply gw<;>intro aj
  ·have hsj:=aM j (-1) ((fun j a=>if at1 s.2 j=c then(j:Int)else a));rw[←h2j]at hsj;have hj:=aY (l:=s.2) (i:=j);simp;refine wdr ?_;simp[hc,hj];apply gw<;>intro b
   ·simp;refine nxa (j+1,(j:Int)) ⟨by omega,by rw[hsj,if_pos b],by omega⟩
   ·simp;refine nxa (j+1,t) ⟨by omega,by rw[hsj,if_neg b],by omega⟩
  ·simp at aj;have hij:s.2.length=j:=by omega
   subst hij;simp;apply gw<;>intro b
   ·have hx:jL s c=(s.1++[(s.2.length:Int)],s.2++[c]):=if_pos (by rw[uT,←h2j];exact b);simp[hc];refine nxd (i+1,(s.1++[(s.2.length:Int)],s.2++[c])) ⟨by omega,by rw[hm,hx],by simp;omega⟩
   ·simp at b;have hx:jL s c=(s.1++[t],s.2):=by rw[jL,if_neg (by (try unfold Qle);rw[uT,←h2j];omega),uT,←h2j]
    simp;refine nxb (i+1,(s.1++[t],s.2)) ⟨by omega,by rw[hm,hx],by simp;omega⟩
 ·simp at a;rw[bS a]at h2;simp;grind[canon]
def DC (l:L1)(x y:Int)(hs:Qle l)(hx: -1048576<=x/\x<=1048576)(hy: -1048576<=y/\y<=1048576):Fk 246 [nInts l,dI x,dI y] (.tup [wN (rW l x y),vB (yU l x y)]):=by
 refine fE [] ntmps246 fun _ _=> ?_;simp;refine ai ?_;refine wlt (Nat×Int) (fun(i,t)=>([(0,vN l),(1,vI x),(2,vI y),(8,wN l),(9,vI t),(10,vI i)],l.length-i,(i<=l.length)/\(t=loopN i ((-1)) ((fun i t=>max t (at1 l i)))))) ((0,(-1))) ⟨by omega,rfl⟩ ?_;rintro⟨i,t⟩ ⟨h1,h2⟩;simp;apply gw<;>intro a
 ·have hs:=aM i ((-1)) ((fun i t=>max t (at1 l i)));rw[←h2]at hs;have hg:=aY a;simp[hg];refine nxa (i+1,max t (at1 l i)) ⟨(by first|omega|(simp;omega)|grind),(by first|omega|(simp;omega)|grind)⟩
 ·simp at a;have hi:l.length=i:=by omega
  subst hi;have ht:CP l=t:=h2.symm;simp;refine ck (mF l hs) ?_;simp;apply gv<;>intro a
  ·have a':=a;simp at a';have ho:yU l x y=false:=by simp only[yU];rw[a'];simp
   simp[a];simp[rW,ho]
  ·have a':=a;simp at a';have htl:=apQ a';simp[a];refine ai ?_;refine ck (bJ _ _ _) ?_;simp;apply gv<;>intro b
   ·have b':=b;simp at b';have ho:yU l x y=false:=by simp only[yU];rw[show inR x 0 ((l.length:Int)-1)=false by simp at b|-;omega];simp
    simp[b];simp[rW,ho]
   ·have b':=b;simp at b';simp[b];refine ai ?_;refine ck (bJ _ _ _) ?_;simp;apply gw<;>intro d
    ·simp at d;have ho:yU l x y=false:=by simp only[yU,ht];rw[show inR y 0 (t+1)=false by simp at d|-;omega];simp
     simp;simp[rW,ho]
    ·simp at d;have hxb:0<=x/\x<=(l.length:Int)-1:=by simp at b;omega
     have hyb:0<=y/\y<=t+1:=by omega
     have ho:yU l x y:=by simp only[yU,ht];rw[a'];simp;omega
     have hg:=aY (l:=l) (i:=x.toNat);have hx0:=hxb.1;simp[hg,hx0];refine ckz (tL (l.set x.toNat y) (by simp;omega)) ?_;simp;simp[rW,ho]
def ZR (m:L2)(l:L1)(x y:Int)(hm:Qle m)(hs:Qle l)(hx: -1048576<=x/\x<=1048576)(hy: -1048576<=y/\y<=1048576):Fk 312 [cZ m,nInts l,dI x,dI y] (vI (LA m l x y)):=by
 refine fE [] ntmps312 fun _ _=> ?_;have hml:=RH l x y;have hp1:=BP m l;have hp2:=BP m (rW l x y);have e1:(if bR m=true/\gD l=true/\l.length=m.length then dP m l else -1)=wL m l:=rfl;have e2:(if bR m=true/\gD (rW l x y)=true/\(rW l x y).length=m.length then dP m (rW l x y)else -1)=wL m (rW l x y):=rfl;simp;refine ck (DC l x y hs hx hy) ?_;simp;refine ck ((e1▸mW m l hm hs)) ?_;simp;apply gv<;>intro a
 ·have a':=a;simp at a';have hg:LA m l x y=0:=if_neg (by simp[a']);simp[a,hg]
 ·have a':=a;simp at a';simp[a];apply gw<;>intro b
  ·have hg:LA m l x y=0:=if_neg (by omega);simp[hg]
  ·simp at b;simp;refine ck ((e2▸mW m (rW l x y) hm)) ?_;have hg:LA m l x y=wL m l-wL m (rW l x y):=if_pos ⟨a',by omega⟩;simp[hg];simp only[inI];omega
abbrev VW (b:Mov):D:= .agg [dI b.item,dI b.block,dI b.gain]
def alQ (m:L2)(cs:List Con)(l:L1)(i k:Nat)(b:Mov)(h:0<=b.gain/\b.gain<=2000000):0<=(yF m cs l i k b).gain/\(yF m cs l i k b).gain<=2000000:=by
 have:=amV m l i k;unfold yF;split
 ·rename_i h2;simp only;omega
 ·exact h
def ZQ (m:L2)(cs:List Con)(l:L1)(hm:Qle m)(hcs:Qle cs)(hs:l.length<=1048575):Fk 245 [cZ m,jN cs,nInts l] (.tup [.val (VW (mR m cs l)),vB (decide (0<(mR m cs l).gain))]):=by
 refine fE [] ntmps245 fun _ _=> ?_;have hp:=BP m l;have e1:(if bR m=true/\gD l=true/\l.length=m.length then dP m l else -1)=wL m l:=rfl;have hkp:(cs.all (yB l)&&gD l)=keepP cs l:=rfl;have hcm:alV m cs l=(decide (0<=wL m l)&&keepP cs l):=rfl;simp;refine ck ((e1▸mW m l hm)) ?_;simp;apply gv<;>intro a
 ·have a':=a;have hb:mR m cs l=⟨0,0,0⟩:=if_neg (by rw[hcm,decide_eq_false (by omega)];simp);simp[a,hb]
 ·have a':=a;simp at a';simp[a];refine ck ((hkp▸sD l cs (by omega) hcs)) ?_;simp;apply gw<;>intro d
  ·simp at d;have hb:mR m cs l=⟨0,0,0⟩:=if_neg (by rw[hcm,d];simp);simp[hb]
  ·simp at d;have hb:mR m cs l=loopN l.length ⟨0,0,0⟩ (adM m cs l):=if_pos (by rw[hcm,decide_eq_true (by omega),d];rfl);simp;refine wlt (Nat×Mov) (fun(i,b)=>([(0,.val (cZ m)),(1,vC cs),(2,vN l),(6,.own (.bx true (VW ⟨0,0,0⟩))),(8,.own (.bx true (VW b))),(9,vI i)],l.length-i,(i<=l.length)/\(b=loopN i (⟨0,0,0⟩) (adM m cs l))/\(0<=b.gain/\b.gain<=2000000))) ((0,⟨0,0,0⟩)) ⟨by omega,rfl,by simp⟩ ?_;rintro⟨i,b⟩ ⟨h1,h2,h3⟩;simp;apply gw<;>intro a
   ·have hs:=aM i (⟨0,0,0⟩) (adM m cs l);rw[←h2]at hs;simp;refine wlt (Nat×Mov) (fun(k,c)=>([(0,.val (cZ m)),(1,vC cs),(2,vN l),(6,.own (.bx true (VW ⟨0,0,0⟩))),(8,.own (.bx true (VW c))),(9,vI i),(10,vI k)],(l.length+1)-k,(k<=(l.length+1))/\(c=loopN k (b) (yF m cs l i))/\(0<=c.gain/\c.gain<=2000000))) ((0,b)) ⟨by omega,rfl,h3⟩ ?_;rintro⟨k,c⟩ ⟨h1k,h2k,h3k⟩;simp;apply gw<;>intro ak
    ·have hsk:=aM k (b) (yF m cs l i);rw[←h2k]at hsk;have hml:=RH l i k;have hgl:=amV m l i k;have hkp2:(cs.all (yB (rW l i k))&&gD (rW l i k))=keepP cs (rW l i k):=rfl;have hst:=alQ m cs l i k c h3k;simp;refine ck (DC l i k (by omega) (by omega) (by omega)) ?_;simp;refine ck (ZR m l i k hm (by omega) (by omega) (by omega)) ?_;simp;apply gv<;>intro e
     ·have e':=e;simp[e];apply gv<;>intro f
      ·have f':=f;simp[f];refine ck ((hkp2▸sD (rW l i k) cs (by omega) hcs)) ?_;simp;apply gw<;>intro g
       ·have hu:yF m cs l i k c=⟨i,k,LA m l i k⟩:=if_pos ⟨by simpa using e,by omega,by simpa using g⟩;rw[hu]at hst;simp;refine nxa (k+1,⟨i,k,LA m l i k⟩) ⟨by omega,by rw[hsk,hu],hst⟩
       ·have hu:yF m cs l i k c=c:=if_neg (by simp[g]);simp;refine nxa (k+1,c) ⟨by omega,by rw[hsk,hu],h3k⟩
      ·have f':=f;simp at f';have hu:yF m cs l i k c=c:=if_neg (by omega);simp[f];refine nxa (k+1,c) ⟨by omega,by rw[hsk,hu],h3k⟩
     ·have e':=e;have hu:yF m cs l i k c=c:=if_neg (by simp[e]);simp[e];refine nxa (k+1,c) ⟨by omega,by rw[hsk,hu],h3k⟩
    ·simp at ak;have hik:(l.length+1)=k:=by omega
     subst hik;simp;refine nxa (i+1,c) ⟨by omega,by rw[hs,adM,←h2k],h3k⟩
   ·simp at a;have hi:l.length=i:=by omega
    subst hi;have hbb:mR m cs l=b:=by rw[hb,h2]
    simp;refine jX [] (dK 8) ?_;simp;refine wdf [(4,[6,66]),(5,[69,7])] [(6,.own (.bx true (VW ⟨0,0,0⟩))),(8,.val (.bx false (VW b)))] [] (by simp) ?_;simp[hbb]
def auY (m:L2)(cs:List Con)(l:L1):0<=(mR m cs l).item/\(mR m cs l).item<=l.length/\0<=(mR m cs l).block/\(mR m cs l).block<=l.length:=by
 unfold mR;split
 ·refine loopN_inv (n:=l.length) (fun _ (b:Mov)=>0<=b.item/\b.item<=l.length/\0<=b.block/\b.block<=l.length) (by simp) fun i b hi hb=> ?_;refine loopN_inv (n:=l.length+1) (fun _ (b:Mov)=>0<=b.item/\b.item<=l.length/\0<=b.block/\b.block<=l.length) hb fun k c hk hc=> ?_;unfold yF;split
  ·simp only;omega
  ·exact hc
 ·simp
def J3 (m:L2)(cs:List Con)(l:L1)(hm:Qle m)(hcs:Qle cs)(hs:l.length<=1048575):fK prog 167 [cZ m,jN cs,nInts l] (fun r'=>∃k:Int,r'= .tup [wN (rP m cs 100 l),vI k]):=by
 refine fE [] ntmps167 fun _ _=> ?_;simp;refine ai ?_;refine wlt (Nat×L1) (fun(k,x)=>([(0,.val (cZ m)),(1,vC cs),(8,wN x),(9,vI k)],100-k,(k<=100)/\x.length=l.length/\(rP m cs (100-k) x=rP m cs 100 l))) ((0,l)) ⟨by omega,rfl,rfl⟩ ?_;rintro⟨k,x⟩ ⟨h1,h2,h3⟩;simp;apply gw<;>intro a
 ·have hbl:=auY m cs x;have hml:=RH x (mR m cs x).item (mR m cs x).block;have hgo:rP m cs (100-k) x=if 0<(mR m cs x).gain then rP m cs (100-(k+1)) (rW x (mR m cs x).item (mR m cs x).block)else x:=by rw[show 100-k=(100-(k+1))+1 by omega,rP]
  simp;refine ck (ZQ m cs x hm hcs (by omega)) ?_;simp;apply gw<;>intro b
  ·simp at b;rw[if_neg (by simpa using b)]at hgo;simp;simp[←h3,hgo]
  ·rw[if_pos (by simpa using b)]at hgo;simp;refine ck (DC x (mR m cs x).item (mR m cs x).block (by omega) (by omega) (by omega)) ?_;simp;refine nxa (k+1,rW x (mR m cs x).item (mR m cs x).block) ⟨by omega,by omega,by rw[←hgo,h3]⟩
 ·simp at a;obtain rfl:k=100:=by omega
  have hgo:rP m cs (100-100) x=x:=rfl;simp;simp[←h3,hgo]
def S9 (l:L1)(x y:Int)(hl:1<=l.length/\Qle l)(hx:0<=x/\x<(l.length:Int)):Fk 398 [nInts l,dI x,dI y] (wN (canon (l.set x.toNat y))):=by
 refine fE [] ntmps398 fun _ _=> ?_;have hg:=aY (l:=l) (i:=x.toNat);have hx0:=hx.1;simp;refine ck (nV l hl) ?_;simp[hg,hx0];refine ckz (tH (l.set x.toNat y) (by simp;omega)) ?_;simp
def axG {l:L1}(h:1<=l.length)(h0: -1<=at1 l 0):at1 l 0=loopN 1 (-1) (fun i t=>max t (at1 l i)):=by
 rw[aM,loopN_zero];omega
def NT (l:L1)(hl:1<=l.length/\Qle l)(h0: -1<=at1 l 0):Fk 460 [nInts l] (vI (CP l)):=by
 refine fE [] ntmps460 fun _ _=> ?_;have hg:=aY (l:=l) (i:=0);have hn:¬(l.length:Int)<1:=by omega
 have hb:=axG hl.1 h0;simp[hg,hn];refine wlt (Nat×Int) (fun(i,t)=>([(0,vN l),(3,vI t),(4,vI i)],l.length-i,(1<=i/\i<=l.length)/\(t=loopN i (-1) (fun i t=>max t (at1 l i))))) ((1,at1 l 0)) ⟨by omega,hb⟩ ?_;rintro⟨i,t⟩ ⟨h1,h2⟩;simp;apply gw<;>intro a
 ·have hgi:=aY (l:=l) (i:=i);have hs:=aM i (-1) (fun i t=>max t (at1 l i));rw[←h2]at hs;simp[hgi];refine nxa (i+1,max t (at1 l i)) ⟨by omega,hs.symm⟩
 ·simp at a;obtain rfl:i=l.length:=by omega
  have hfin:CP l=t:=h2.symm;simp[hfin]
def UH (l:L1)(hp:gD l):Fk 439 [nInts l] (vI (CP l+1)):=by
 refine fE [] ntmps439 fun _ _=> ?_;have hpl:=isPart_len hp;have ht:=apQ hp;have h0:=(isPart_iff.1 hp).1 0 (by omega);simp;refine ck (NT l ⟨by omega,by omega⟩ (by omega)) ?_;simp;simp only[inI];omega
def abO (m:L2)(cs:List Con)(l:L1)(hm:bR m)(hp:gD l)(hl:l.length=m.length)(hc:Qle cs):Fk 438 [cZ m,jN cs,nInts l] (vB (nE cs l)):=by
 refine fE [] ntmps438 fun _ _=> ?_;have hpc:=LH hm hp hl;have h0:=kQ hm l;have hn8:=dN hm;simp;refine ck (CE m l hm (by omega)) ?_;simp[hpc,h0];refine ck (D9 l cs) ?_;simp
def aJI {l:L1}(hm:bR m)(hp:gD l)(hl:l.length=m.length)(i k:Nat): -1000000<=mvGain m l i k/\mvGain m l i k<=1000000:=by
 have h1:=BP m l;have h3:=kQ hm l;have h4:=kQ hm (canon (l.set i k));have hc:(canon (l.set i k)).length=l.length:=by rw[pG];simp
 have h2:=BP m (canon (l.set i k));rw[LH hm hp hl]at h1;rw[LH hm (TT (by simp;exact isPart_len hp)) (by omega)]at h2;unfold mvGain;omega
def aoE {cs:List Con}{l:L1}{b:Mov}(hg:mvGain m l i k<=1000000)(h:0<=b.gain/\b.gain<=1000000):0<=(IG m cs l i k b).gain/\(IG m cs l i k b).gain<=1000000:=by
 unfold IG;split
 ·next hh=>exact⟨by show 0<=mvGain m l i k;omega,hg⟩
 ·exact h
def ZC (m:L2)(cs:List Con)(l:L1)(hm:bR m)(hp:gD l)(hl:l.length=m.length)(hk:nE cs l)(hc:Qle cs):Fk 397 [cZ m,jN cs,nInts l] (.tup [.val (VW (mvBest m cs l)),vB (decide (0<(mvBest m cs l).gain))]):=by
 refine fE [] ntmps397 fun _ _=> ?_;have hn8:=dN hm;have ht:=apR hp;simp;refine ck (abO m cs l hm hp hl hc) ?_;simp[hk];refine ck (kI m l hm hl) ?_;simp;refine wlt (Nat×Mov) (fun(i,b)=>([(0,.val (cZ m)),(1,vC cs),(2,vN l),(6,.own (.bx true (VW ⟨0,0,0⟩))),(8,.own (.bx true (VW b))),(9,vI (dP m l)),(24,vI l.length),(25,vI i)],l.length-i,(i<=l.length)/\(b=loopN i (⟨0,0,0⟩) (atP m cs l))/\(0<=b.gain/\b.gain<=1000000))) ((0,⟨0,0,0⟩)) ⟨by omega,rfl,by simp⟩ ?_;rintro⟨i,b⟩ ⟨h1,h2,h3⟩;simp;apply gw<;>intro a
 ·have hs:=aM i (⟨0,0,0⟩) (atP m cs l);rw[←h2]at hs;simp;refine wlt (Nat×Mov) (fun(k,c)=>([(0,.val (cZ m)),(1,vC cs),(2,vN l),(6,.own (.bx true (VW ⟨0,0,0⟩))),(8,.own (.bx true (VW c))),(9,vI (dP m l)),(10,vI i),(11,vI k),(24,vI l.length),(25,vI i)],(CP l+2).toNat-k,(k<=(CP l+2).toNat)/\(c=loopN k b (IG m cs l i))/\(0<=c.gain/\c.gain<=1000000))) ((0,b)) ⟨by omega,rfl,h3⟩ ?_;rintro⟨k,c⟩ ⟨h4,h5,h6⟩;simp;refine ck (UH l hp) ?_;simp;apply gw<;>intro e
  ·have hs2:=aM k b (IG m cs l i);rw[←h5]at hs2;have hcl:(canon (l.set i k)).length=l.length:=by rw[pG];simp
   have hgl:=aJI hm hp hl i k;have hst:=aoE (cs:=cs) (k:=k) (i:=i) hgl.2 h6;have hmg:dP m l-dP m (canon (l.set i k))=mvGain m l i k:=rfl;simp;refine ck (S9 l i k (by omega) (by omega)) ?_;simp;refine ck (kI m (canon (l.set i k)) hm (by omega)) ?_;simp[hmg];refine ai ?_;apply gv<;>intro f
   ·have f':=f;simp[f];refine ck (D9 (canon (l.set i k)) cs (by omega) hc) ?_;simp;apply gw<;>intro g
    ·have hu:IG m cs l i k c=⟨i,k,mvGain m l i k⟩:=if_pos ⟨f,g⟩;rw[hu]at hst;simp;refine nxa (k+1,⟨i,k,mvGain m l i k⟩) ⟨by omega,by rw[hs2,hu],hst⟩
    ·have hu:IG m cs l i k c=c:=if_neg (by simp[g]);simp;refine nxa (k+1,c) ⟨by omega,by rw[hs2,hu],h6⟩
   ·have f':=f;simp at f';have hu:IG m cs l i k c=c:=if_neg (by omega);simp[f];refine nxa (k+1,c) ⟨by omega,by rw[hs2,hu],h6⟩
  ·simp at e;obtain rfl:k=(CP l+2).toNat:=by omega
   simp;refine nxa (i+1,c) ⟨by omega,by rw[hs,h5];rfl,h6⟩
 ·simp at a;have hi:l.length=i:=by omega
  subst hi;have hfin:mvBest m cs l=b:=h2.symm;simp;refine wdf [(4,[6,57]),(5,[60,7])] [(6,.own (.bx true (VW ⟨0,0,0⟩))),(8,.own (.bx true (VW b)))] [] (by simp) ?_;simp[hfin]
def JZ (m:L2)(cs:List Con)(l:L1)(hm:bR m)(hp:gD l)(hl:l.length=m.length)(hk:nE cs l)(hc:Qle cs):fK prog 337 [cZ m,jN cs,nInts l] (fun r=>∃k:Int,r= .tup [wN (rP m cs 100 l),vI k]):=by
 refine fE [] ntmps337 fun _ _=> ?_;have hn8:=dN hm;simp;refine ck (nV l ⟨by omega,by omega⟩) ?_;simp;refine wlt (Nat×L1) (fun(i,o)=>([(0,.val (cZ m)),(1,vC cs),(8,wN o),(14,vI i)],100-i,(i<=100)/\(rP m cs 100 l=rP m cs (100-i) o)/\(gD o=true)/\o.length=m.length/\(nE cs o=true))) ((0,l)) ⟨by omega,rfl,hp,hl,hk⟩ ?_;rintro⟨i,o⟩ ⟨h1,h2,h3,h4,h5⟩;simp;apply gw<;>intro a
 ·have hst:=aq4 hm h3 h4 h5 (99-i);rw[show 99-i+1=100-i by omega]at hst;have hbo:=(aiD (m:=m) (cs:=cs) (l:=o)).2;simp;refine ck (ZC m cs o hm h3 h4 h5 hc) ?_;simp;apply gw<;>intro b
  ·simp at b;have hfin:rP m cs 100 l=o:=by rw[h2,hst];exact if_neg (by simpa using b)
   simp[hfin]
  ·have hb2:0<(mvBest m cs o).gain:=by simpa using b
   have hbb:=hbo hb2;rw[if_pos hb2]at hst;simp;refine ck (S9 o (mvBest m cs o).item (mvBest m cs o).block ⟨by omega,by omega⟩ ⟨hbb.1,hbb.2.1⟩) ?_;simp;refine nxa (i+1,canon (o.set (mvBest m cs o).item.toNat (mvBest m cs o).block)) ⟨by omega,by rw[h2,hst,show 100-(i+1)=99-i by omega],(TT (by simp;omega)),by rw[pG];simp;omega,hbb.2.2.2.2⟩
 ·simp at a;obtain rfl:i=100:=by omega
  have hfin:rP m cs 100 l=o:=by rw[h2];rfl
  simp[hfin]
def pY (l:L1)(x:Int)(hl:Qle l):Fk 261 [nInts l,dI x] (vB (l.any fun y=>decide (x=y))):=by
 refine fE [] ntmps261 fun _ _=> ?_;have hq:decide (0<=ix (fun y=>decide (x=y)) l)=l.any (fun y=>decide (x=y)):=by rw[bQ,decide_eq_true_eq];exact jB
 simp;refine ck (jM l x) ?_;simp[hq]
def abL (n:Int)(l:L1)(hn:1<=n/\n<=8)(ho:IA n l)(hl:Qle l):Fk 436 [dI n,nInts l] (vB true):=by
 refine fE [] ntmps436 fun _ _=> ?_;have hon:=ho;simp only[IA,k_Bool_and_eq_true,aI,decide_eq_true_eq]at hon;obtain⟨⟨⟨o1,o2⟩,o3⟩,o4⟩:=hon;subst o4;have o5:=o3.1;have o6:=o3.2;simp;refine ck (bI l.length 1 8) ?_;simp[o5,o6];refine wl (fun(i:Nat)=>[(0,vI l.length),(1,vN l),(16,vN l),(17,vI l.length),(18,vI i)]) (fun(i:Nat)=>l.length-i) (fun(i:Nat)=>(i<=l.length)) (0) (by omega) ?_;rintro i h1;simp;apply gw<;>intro a
 ·obtain⟨c,hc⟩:=aR (l:=l) (i:=i);have hcn:=o1 c (aA hc);have hno:((l.take i).any fun y=>decide (c=y))=false:=by rw[iC];intro y hy;simp only[decide_eq_true_eq];rintro rfl;obtain⟨j,hj⟩:=dD hy;have hji:=dF hj;simp at hji;rw[bC,if_pos (by omega)]at hj;have e1:=OG hj;have e2:=OG hc;have:=acM o2 (i:=j) (k:=i) (by omega) (by omega) (by rw[e1,e2]);omega
  simp[hc];refine ck (nL c l.length) ?_;have htk:List.take i (List.map dI l)=(l.take i).map dI:=by rw[vL]
  have hmin:min i l.length=i:=by omega
  simp[hcn];refine ai ?_;refine ckz (pY (l.take i) c (by simp;omega)) ?_;simp[hno];refine nxa (i+1) (by omega)
 ·simp at a;simp
end Go.Proofs.YtnlkiflcbknaaaaGreatDoor
end
section
namespace Go.Proofs.YtnlkiflcbknaaaaGreatDoor
open Go.Dv Go.Pl Go.RowKit Go.Proofs.Tryz
def pV (n k:Nat)(v:Int):List Value:=List.replicate k (.int .i64 v)++List.replicate (n-k) (.int .i64 0)
variable {n k:Nat}
def avE {v:Int}(h:k<=n):(pV n k v).length=n:=by simp[pV];omega
def avD (n:Nat)(v:Int):pV n n v=List.replicate n (.int .i64 v):=by simp[pV]
def V5 {j:Nat}{v:Int}(h:k+j<=n):splice (pV n k v) k (List.replicate j (.int .i64 v))=pV n (k+j) v:=by
 have h1:(pV n k v).take k=List.replicate k (.int .i64 v):=by unfold pV;rw[List.take_left' (by simp)]
 have h2:(pV n k v).drop (k+j)=List.replicate (n-(k+j)) (.int .i64 0):=by
  unfold pV;rw[qF,bO (by simp),iV,List.drop_replicate,tT];congr 1;omega
 rw[splice,h1,tT,h2,←List.append_assoc,List.replicate_append_replicate];rfl
def aAL {z:Value}(n:Nat)(v:Int)(hz:z.cells= #[.int .i64 0]):madeCells z.cells (n*1)=(pV n 0 v).toArray:=by
 rw[hz];apply bU.1;apply kC;intro i;by_cases hi:i<n<;>simp[madeCells,pV,hi,Nat.mod_one]
def ar2 (v:Int)(n b off cap:Nat)(w:World)(hn:1<=n/\n<=8)(hc:w.cell? ⟨b,off,none⟩=some (.int .i64 v))(hb:b<w.heap.size):
  Calls prog 437 #[.slice (some ⟨b,off,none⟩) 1 cap,.int .i64 n] w fun e w'=>∃g,e= .returned (.slice (some ⟨g,0,none⟩) n n)/\w.heap.size<=g/\w'.heap[g]?=some (.cells (List.replicate n (Value.int .i64 v)).toArray 3 (0,0))/\Below w.heap.size w w':=by
 go_enter func437,ntmps437;have e1:(1*n/18446744073709551616:Nat)=0:=by omega
 have e2:(1*n % 18446744073709551616:Nat)=n:=by omega
 have hm:∀w,Calls prog 459 #[.int .u64 1,.int .u64 n] w fun e w'=>e= .returned (.tuple #[.int .u64 0,.int .u64 n])/\w'=w:=fun w=>by have:=Tryz.bits_Mul 1 n (by omega) (by omega) w;rw[e1,e2]at this;exact this
 obtain⟨hu,i,zv,hi,hsz,hz,hflat,_⟩:=(good 3).of (fun x h e=>by rw[e]at h;cases h);have hby:i.bytes<=4096:=by rename_i h;exact h.2.2.1
 have hzc:zv.cells= #[.int .i64 0]:=by
  have h9:some zv.cells.toList=some [Value.int .i64 0]:=hflat.symm;exact bU.1 (k_Option_some_inj h9)
 have hsz1:i.size=1:=hsz
 have hmk:∀w,(Instr.makeSlice 25 (.int .i64 (n:Int)) (.int .i64 (n:Int))).run prog w= .ok (.slice (some ⟨w.heap.size,0,none⟩) n n) (w.alloc (.cells (pV n 0 v).toArray 3)):=fun w=>by
  have:=run_make (P:=prog) (w:=w) 25 3 i zv underlying25 hi hz .i64 .i64 n n (by omega) (by omega) (by have:(i.bytes:Int)<=4096:=(by omega);have h2:(i.bytes:Int)*n<=4096*n:=lM this (by omega);omega) (by omega);rw[this,hsz1];simp only[iB];rw[aAL n v hzc]
 have g1:¬(9223372036854775807<(n:Int)):=by omega
 have g2:¬((n:Int)<0):=by omega
 have hinfo:(prog.info? 3).map (·.size)=some 1:=by rw[hi];simp[hsz1]
 have hinf:=hinfo;clear hinfo hi hz hflat hzc hsz hu hby
 have hn0:(w.alloc (.cells (pV n 0 v).toArray 3)).heap[w.heap.size]?=some (.cells (pV n 0 v).toArray 3 (0,0)):=heap_alloc_new w _
 have hc0:(w.alloc (.cells (pV n 0 v).toArray 3)).cell? ⟨b,off,none⟩=some (.int .i64 v):=by
  have e:(w.alloc (.cells (pV n 0 v).toArray 3)).heap[b]?=w.heap[b]?:=by show(w.heap.push _)[b]?=_;rw[Array.getElem?_push,if_neg (by omega)]
  simp only[World.cell?,e]at hc|-;exact hc
 have hsp0:(splice (pV n 0 v) 0 [Value.int .i64 v])=pV n 1 v:=by have:=V5 (n:=n) (k:=0) (j:=1) (v:=v) (by omega);simpa using this
 obtain⟨wa,hwa⟩:∃wa,wa=(w.alloc (.cells (pV n 0 v).toArray 3)):=⟨_,rfl⟩;have hBa:Below w.heap.size w wa:=hwa▸(Below.refl _ w).alloc (k_Nat_le_refl _) _;have hmk1:=hmk w;rw[←hwa]at hn0 hc0 hmk1
 have hcp:(Builtin.copy_ #[25,25] 3 #[.slice (some ⟨w.heap.size,0,none⟩) n n,.slice (some ⟨b,off,none⟩) 1 cap]).run prog wa= .ok (goInt 1) (wa.setRow w.heap.size (pV n 1 v).toArray):=by
  have h:=run_copy_row (P:=prog) wa 25 25 3 3 w.heap.size 0 n n ⟨b,off,none⟩ 1 cap (pV n 0 v).toArray 3 [.int .i64 v] underlying25 hinf hn0 (by simp[Nat.min_def];omega) (fun j u hj=> ?_) (by simp[pV];omega) (by simp[Value.oneCell'])
  ·rw[←hsp0];exact h
  ·match j,hj with
   |0,hj=>
    obtain rfl:Value.int .i64 v=u:=by simpa using hj
    exact hc0
   |j+1,hj=>simp at hj
 obtain⟨w2,hw2⟩:∃w2,w2=(wa.setRow w.heap.size (pV n 1 v).toArray):=⟨_,rfl⟩;have hB2:Below w.heap.size w w2:=hw2▸below_setRow hBa (k_Nat_le_refl _) _;have hg2:w2.heap[w.heap.size]?=some (.cells (pV n 1 v).toArray 3 (0,0)):=by rw[hw2];exact setRow_heap _ _ _ _ _ _ hn0
 rw[←hw2]at hcp;clear hmk hn0 hc0 hBa hwa hw2 hsp0
 go_wp2_with (first|(go_at_call 459;refine(hm _).mono ?_;rintro e w1 ⟨rfl,hw1⟩;obtain rfl:=hw1.symm))
 go_loopw [8] (fun x w'=>∃k:Nat,x= .int .i64 k/\1<=k/\k<=n/\w'.heap[w.heap.size]?=some (.cells (pV n k v).toArray 3 (0,0))/\Below w.heap.size w w') (fun x _=>match x with| .int _ i=>n-i.toNat|_=>0)
 case atStart=>exact⟨1,rfl,k_Nat_le_refl _,hn.1,hg2,hB2⟩
 case round=>
  obtain⟨k,rfl,hk1,hk2,hgk,hBk⟩:=hrel
  go_wp2
  ·obtain⟨cs,hcs⟩:∃cs,cs=List.replicate (min k (n-k)) (Value.int .i64 v):=⟨_,rfl⟩;have hl:cs.length=min k (n-k):=by simp[hcs]
   have hrow:∀j u,cs[j]?=some u->wr.cell? ((⟨w.heap.size,0,none⟩:Addr).add j)=some u:=by
    intro j u hj;have hlt:j<min k (n-k):=by rw[←hl];exact(aD.1 hj).1
    obtain rfl:Value.int .i64 v=u:=by rw[hcs]at hj;simpa[fF,hlt]using hj
    rcases kY j with rfl|hj0
    ·simp[World.cell?,Addr.add,hgk,pV,lQ,show 0<k by omega]
    ·simp[World.cell?,Addr.add,hgk,pV,lQ,show j<k by omega,show¬j=0 by omega]
   have hsp:splice (pV n k v) k cs=pV n (k+min k (n-k)) v:=by rw[hcs];exact V5 (by omega)
   have h1c:∀x∈cs,x.oneCell':=by intro x hx;rw[hcs]at hx;obtain rfl:=(nM.1 hx).2;rfl
   clear hcs
   go_region_law (refine step_copy_splice rfl (.tmp 41) (.tmp 44) 25 25 rfl 3 underlying25 hinf (some ⟨w.heap.size,k,none⟩) (some ⟨w.heap.size,0,none⟩) (n-k) (n-k) k n (by simp[Act.eval,Act.put,show¬n=k by omega]) (by simp[Act.eval,Act.put]) w.heap.size k (pV n k v) 3 hgk cs hl (fun _=>⟨rfl,_,rfl,hrow⟩) (by (try unfold Qle);rw[hl,avE hk2];omega) h1c w.heap.size w hBk.drew (k_Nat_le_refl _) ?_;intro w4 hg4 hb4;replace hg4:=hg4.out;rw[hsp]at hg4)
   go_wp2
   have hw:IntKind.i64.wrap ((k:Int)+((min k (n-k):Nat):Int))=((k+min k (n-k):Nat):Int):=by simp[IntKind.wrap,IntKind.bits,IntKind.signed];omega
   rw[hw];refine⟨⟨k+min k (n-k),rfl,by omega,by omega,rfl⟩,?_⟩;simp only[iB];omega
  ·obtain rfl:k=n:=by omega
   rw[avD]at hgk;refine bodyPost_ret (v:= .slice (some ⟨w.heap.size,0,none⟩) k k) ?_ rfl ⟨w.heap.size,rfl,k_Nat_le_refl _,hgk,hBk⟩;simp[results,Tryz.f437,loadVar]
variable {ow:Own}{u v:Value}
def LX {w:World}(h:V prog w ow (D.fz (.one u)) [] v):v=u:=by
 simp only[D.fz,V,R]at h;simpa using h.1
variable {vs:Array Value}
def Y3 {w:World}(hs:vs.size=1)(h:∀(i:Nat) (d:D),[D.one u][i]?=some d->V prog w ow d.fz [] (vs.getD i undef)):vs= #[u]:=by
 have h0:=LX (h 0 _ rfl);apply Array.ext
 ·simpa using hs
 ·intro i h1 h2;obtain rfl:i=0:=by simpa using h2
  simpa[aF,h1]using h0
def ajD {w:World}{u':Value}(hs:vs.size=2)(h:∀(i:Nat) (d:D),[D.one u,D.one u'][i]?=some d->V prog w ow d.fz [] (vs.getD i undef)):vs= #[u,u']:=by
 have h0:=LX (h 0 _ rfl);have h1:=LX (h 1 _ rfl);apply Array.ext
 ·simpa using hs
 ·intro i hi h2;have:i=0\/i=1:=by simp at h2;omega
  rcases this with rfl|rfl
  ·simpa[aF,hi]using h0
  ·simpa[aF,hi]using h1
def azF {f:FuncId}{ds:List D}{us:List Value}(hu:∀u∈us,u.oneCell')(h:∀(w:World) (ow:Own) (vs:Array Value),Laid w ow->vs.size=ds.length->(∀(i:Nat) (d:D),ds[i]?=some d->V prog w ow d.fz [] (vs.getD i undef))->Calls prog f vs w fun e w'=>e= .returned (.tuple us.toArray)/\Below w.heap.size w w'):
  fK prog f ds (fun r=>r= .tup (us.map fun u=> .val (.one u))):=by
 intro w ow vs t ht hL hnew hvs hargs;refine(h w ow vs hL hvs hargs).mono ?_;rintro e w' ⟨rfl,hB⟩;refine⟨_,fun b=>if b<w.heap.size then ow b else none,_,rfl,rfl,⟨hB.os,hB.tape,hB.output,hB.size,fun b hb=>⟨hB.block b hb,if_pos hb⟩,fun b hb=>if_neg (by have:=hB.size;omega)⟩,rfl,fun s a=> ?_⟩;refine⟨_,rfl,by simp,fun k x hx=> ?_⟩;rw[aQ,aL]at hx;obtain⟨u,hu1,rfl⟩:=hx;have hv:us.toArray.getD k undef=u:=by simp[aF,hu1]
 rw[hv];simp only[D.fz,V,R];simpa using hu u (aA hu1)
def below_grow {w:World}{os:Array Obj}:Below w.heap.size w (Go.Sort.grow (w.drewN k) os):=(show Below w.heap.size w (w.drewN k)from⟨rfl,rfl,rfl,k_Nat_le_refl _,fun _ _=>rfl⟩).trans ⟨rfl,rfl,rfl,by simp[Go.Sort.grow],fun b hb=>by simp[Go.Sort.grow,Array.getElem?_append,hb]⟩
def aD9 {w:World}{l:L1}(h:V prog w ow (D.fz (nInts l)) [] v):∃a cap,v= .slice a l.length cap/\l.length<=cap/\(l=[]\/∃b off,a=some ⟨b,off,none⟩/\b<w.heap.size/\∀(j:Nat) x,l[j]?=some x->w.cell? ⟨b,off+j,none⟩=some (.int .i64 x)):=by
 have hfz:D.fz (nInts l)=nInts l:=by simp[D.fz,D.K9]
 rw[hfz]at h;simp only[V,R]at h;obtain⟨a,cap,h1,h2,h3,h4⟩:=h;have h1:v= .slice a (l.map dI).length cap:=by simpa using h1
 rw[aK]at h1 h2;refine⟨a,cap,h1,h2,?_⟩;rcases h4 with h4|h4|⟨b,off,s,C,e,fz,ha,hh,hn,hs,hr⟩
 ·exact .inl (by simpa using h4.2.1)
 ·exact .inl (by simpa using h4.2)
 ·refine .inr ⟨b,off,ha,lt_of_heap hh,fun j x hx=> ?_⟩;have:=(Rs.iff hh).1 hr j (dI x) (by rw[aQ,hx];rfl);obtain⟨hw,C',e',fz',cs,g1,g2,g3⟩:=this;have hs1:s=1:=hw.symm;subst hs1;rw[hh]at g1;obtain⟨rfl,rfl,rfl⟩:C=C'/\e=e'/\fz=fz':=by simpa using g1
  simp only[R]at g3;obtain⟨rfl,_⟩:=g3;rw[cell_of_row w b (off+j) C e fz hh];have:=g2 0 (by simp[D.w]);simpa using this
def aG6 (v:Int)(n:Nat)(hn:1<=n/\n<=8):fK prog 437 [nInts [v],dI n] (fun r=>r=wN (List.replicate n v)):=by
 intro w ow vs t ht hL hnew hsz ha;have h0:=ha 0 _ rfl;have h1:=LX (ha 1 _ rfl);obtain⟨a,cap,hv,hcap,hc⟩:=aD9 h0
 obtain rfl:vs= #[.slice a 1 cap,.int .i64 n]:=by
  apply Array.ext
  ·simpa using hsz
  ·intro i hi h2;have:i=0\/i=1:=by simp at h2;omega
   rcases this with rfl|rfl
   ·simpa[aF,hi]using hv
   ·simpa[aF,hi]using h1
 rcases hc with hc|⟨b,off,rfl,hb,hcell⟩
 ·cases hc
 refine(ar2 v n b off cap w hn (hcell 0 v rfl) hb).mono ?_;rintro e w' ⟨g,rfl,hg,hrow,hB⟩;have hlt:g<w'.heap.size:=lt_of_heap hrow;refine⟨_,fun b=>if b=g then some [t]else if b<w.heap.size then ow b else none,_,rfl,rfl,⟨hB.os,hB.tape,hB.output,hB.size,fun b hb=>⟨?_,?_⟩,fun b hb=> ?_⟩,rfl,fun s' a=> ?_⟩
 ·exact hB.block b hb
 ·rw[if_neg (by omega),if_pos hb]
 ·have:=hB.size;rw[if_neg (by omega),if_neg (by omega)]
 ·simp only[SV,V,R];refine⟨some ⟨g,0,none⟩,n,by simp,by simp,by unfold maxLen;omega,.inr (.inr ⟨g,0,1,_,3,(0,0),rfl,hrow,(by intro h;cases h),fun t' ht'=> ?_,?_⟩)⟩
  ·obtain rfl:=k_Option_some_inj ht';obtain⟨_,i,zv,hi,hsz,_⟩:=(good 3).of (fun x h e=>by rw[e]at h;cases h);exact⟨by simp,rfl,unfz0 _,rfl,by simp,i,hi,hsz⟩
  ·rw[Rs.iff hrow];intro j x hx;rw[aQ,aL]at hx;obtain⟨y,hy,rfl⟩:=hx
   obtain⟨hj,rfl⟩:j<n/\v=y:=by
    have h1:=(aD.1 hy).1;simp at h1;exact⟨h1,by simpa[fF,h1]using hy⟩
   refine⟨rfl,_,_,_,[.int .i64 v],hrow,fun k hk=> ?_,?_⟩
   ·obtain rfl:k=0:=by simpa[D.w]using hk
    simp[hj]
   ·simp[R,Value.oneCell']
def MM (s:Str)(hs:Qle s)(ht:s.all AQ):fK prog 319 [dS s,dS [124,59]] (fun r=>r=vB (!s.all vZ)):=
 EG (u:= .bool (!s.all vZ)) rfl fun w ow vs hL hsz ha=>by
  obtain rfl:=ajD hsz ha;rw[←OU];refine(Tryz.strings_ContainsAny_laid ⟨s.toArray⟩ ⟨[124,59].toArray⟩ w (by simp[ByteArray.size];omega) (by decide) (fun j b hb=> ?_) (fun j b hb=> ?_))
  ·have hb':s[j]?=some b:=hb;have:=aI.1 ht b (aA hb');simp[AQ]at this;omega
  ·have hb':[124,59][j]?=some b:=hb;have:=aA hb';simp at this;rcases this with rfl|rfl<;>decide
def aeK (s:Str)(hs:Qle s:=by first|omega|grind):Fk 318 [dS s] (vB (isText s)):=by
 refine fE [] ntmps318 fun _ _=> ?_;simp;refine wlt Nat (fun i=>([(0,vS s),(5,vI s.length),(6,vI i)],s.length-i,(i<=s.length)/\((s.take i).all AQ=true))) (0) ⟨by omega,rfl⟩ ?_;rintro i ⟨h1,h2⟩;simp;apply gw<;>intro a
 ·obtain⟨c,hc⟩:=aR (l:=s) (i:=i);simp[hc];refine ck (bI c.toNat 32 126) ?_;simp;apply gw<;>intro b
  ·simp at b;have hn:=fV hc (P:=AQ) (by simp[AQ];omega);simp;grind[isText]
  ·simp at b;simp;refine nxa (i+1) ⟨by omega,(bX hc h2 (by simp[AQ];omega))⟩
 ·simp at a;have hf:=iX h2 a;simp;grind[isText]
def aq5 {s:Str}(h:isText s):s.all AQ=true:=by simp only[isText,k_Bool_and_eq_true]at h;exact h.1
def abQ (s:Str)(hs:Qle s:=by first|omega|grind):Fk 257 [dS s] (vB (lL s)):=by
 refine fE [] ntmps257 fun _ _=> ?_;simp;refine ck (aeK _) ?_;simp;apply gv<;>intro e
 ·have e':=e;simp[e];refine ck (MM s hs (aq5 e)) ?_;simp;simp[lL,e]
 ·have e':=e;simp[e];simp[lL,e]
def KT (s:Str)(hs:Qle s):Fk 256 [dS s] (vB (!lL s)):=by
 refine fE [] ntmps256 fun _ _=> ?_;simp;refine ck (abQ _) ?_;simp
def aqX (l:List Str)(hl:Qle l)(hs:∀f∈l,af5 f):Fk 317 [mQ l,.one (.func (.func 256) #[] #[])] (vI (ix (fun f=> !lL f) l)):=by
 refine fE [] ntmps317 fun _ _=> ?_;simp;refine wlt Nat (fun i=>([(0,vR l),(1,.val (.one (.func (.func 256) #[] #[]))),(7,vI l.length),(8,vI i)],l.length-i,(i<=l.length)/\((l.take i).any (fun f=> !lL f)=false))) (0) ⟨by omega,rfl⟩ ?_;rintro i ⟨h1,h2⟩;simp;apply gw<;>intro a
 ·obtain⟨c,hc⟩:=aR (l:=l) (i:=i);simp[hc];refine ck (KT c (hs c (aA hc))) ?_;simp;apply gw<;>intro b
  ·simp at b;have hn:=CK hc h2 (by simp[b]);simp[hn]
  ·simp at b;simp;refine nxa (i+1) ⟨by omega,(kL hc h2 (by simp[b]))⟩
 ·simp at a;have hf:=oL h2 a;have hx:=rQ hf;simp[hx]
def avK (l:List Str)(hl:Qle l)(hs:∀f∈l,af5 f):Fk 255 [mQ l,.one (.func (.func 256) #[] #[])] (vB (l.any fun f=> !lL f)):=by
 refine fE [] ntmps255 fun _ _=> ?_;have hq:decide (0<=ix (fun f=> !lL f) l)=l.any fun f=> !lL f:=by rw[bQ,decide_eq_true_eq];exact jB
 simp;refine ck (aqX l hl hs) ?_;simp[hq]
def CB (r:Rec)(hs:DW r:=by first|omega|grind):Fk 178 [nP r] (vB (bG r)):=by
 refine fE [] ntmps178 fun _ _=> ?_;simp;refine ck (bI _ _ _) ?_;simp;apply gv<;>intro e
 ·have e':=e;simp at e';simp[e];simp[bG];omega
 ·have e':=e;simp at e';simp[e];refine ck (bI _ _ _) ?_;simp;apply gv<;>intro f
  ·have f':=f;simp at f';simp[f];simp[bG];omega
  ·have f':=f;simp at f';simp[f];refine ck (bI _ _ _) ?_;simp;apply gw<;>intro g
   ·simp at g;simp;simp[bG];omega
   ·simp at g;simp;apply gv<;>intro k
    ·have k':=k;simp[k];refine ck (avK r.fields hs.1 hs.2) ?_;simp;have h4:r.fields.length=4:=by omega
     all_goals(simp[bG,h4,e',f',g];rw[List.not_all_eq_any_not])
    ·have k':=k;simp[k];have h4:¬r.fields.length=4:=by omega
     all_goals simp[bG,h4]
def akO {r:Rec}(h:bG r):inI .i64 (eG r)/\inI .i64 (100*r.source):=by
 simp only[bG,inR,k_Bool_and_eq_true,decide_eq_true_eq]at h;simp only[inI,eG];omega
def O7 (r:Rec)(hs:DW r):Fk 344 [nP r] (vB (!bG r)):=by
 refine fE [] ntmps344 fun _ _=> ?_;simp;refine ck (CB _) ?_;simp
def aqV (l:List Rec)(hl:Qle l)(hs:∀r∈l,DW r):Fk 402 [JN l,.one (.func (.func 344) #[] #[])] (vI (ix (fun r=> !bG r) l)):=by
 refine fE [] ntmps402 fun _ _=> ?_;simp;refine wlt Nat (fun i=>([(0,vT l),(1,.val (.one (.func (.func 344) #[] #[]))),(7,vI l.length),(8,vI i)],l.length-i,(i<=l.length)/\((l.take i).any (fun r=> !bG r)=false))) (0) ⟨by omega,rfl⟩ ?_;rintro i ⟨h1,h2⟩;simp;apply gw<;>intro a
 ·obtain⟨c,hc⟩:=aR (l:=l) (i:=i);simp[hc];refine ck (O7 c (hs c (aA hc))) ?_;simp;apply gw<;>intro b
  ·simp at b;have hn:=CK hc h2 (by simp[b]);simp[hn]
  ·simp at b;simp;refine nxa (i+1) ⟨by omega,(kL hc h2 (by simp[b]))⟩
 ·simp at a;have hf:=oL h2 a;have hx:=rQ hf;simp[hx]
def avJ (l:List Rec)(hl:Qle l)(hs:∀r∈l,DW r):Fk 343 [JN l,.one (.func (.func 344) #[] #[])] (vB (l.any fun r=> !bG r)):=by
 refine fE [] ntmps343 fun _ _=> ?_;have hq:decide (0<=ix (fun r=> !bG r) l)=l.any fun r=> !bG r:=by rw[bQ,decide_eq_true_eq];exact jB
 simp;refine ck (aqV l hl hs) ?_;simp[hq]
def UG (l:List Rec)(hl:Qle l)(hs:∀r∈l,DW r):Fk 278 [JN l] (vB (l.all bG)):=by
 refine fE [] ntmps278 fun _ _=> ?_;simp;refine ck (avJ l hl hs) ?_;have hn:=ajC bG l;simp[hn]
def O4 (s:Sto)(hs:Qle s.recs)(hr:∀r∈s.recs,DW r)(hv:Qle s.vers):Fk 103 [MS s] (vB (gN s)):=by
 refine fE [] ntmps103 fun _ _=> ?_;simp;refine wlt Nat (fun i=>([(1,.own (.bx true (MS s))),(6,vT s.recs),(7,vI s.recs.length),(8,vI i)],(s.recs).length-i,(i<=(s.recs).length)/\((s.recs.take i).all bG=true)/\(adj (fun a b=>decide (eG a<eG b)) (s.recs.take i)=true))) (0) ⟨by omega,rfl,rfl⟩ ?_;rintro i ⟨h1,h2,h3⟩;simp;apply gw<;>intro a
 ·obtain⟨c,hc⟩:=aR (l:=s.recs) (i:=i);simp[hc];refine wdr ?_;simp;refine cd (CB c (hr c (aA hc))) ?_;simp;apply gv<;>intro e
  ·have e':=e;simp at e';have hn:=fV hc (P:=bG) (by simpa using e);simp[e];grind[gN]
  ·have e':=e;simp at e';simp[e];apply gv<;>intro f
   ·have f':=f;obtain⟨p,hp⟩:=aR (l:=s.recs) (i:=i-1);have hi1:i-1+1=i:=by omega
    have hvp:bG p:=aI.1 h2 p (by apply aA (i:=i-1);rw[bC,if_pos (by omega)];exact hp);have hk1:inR p.source 0 3=true/\inR p.key 1 99:=by simp only[bG,k_Bool_and_eq_true]at hvp;exact⟨hvp.1.1.1.2,hvp.1.1.2⟩
    have hk2:inR c.source 0 3=true/\inR c.key 1 99:=by simp only[bG,k_Bool_and_eq_true]at e';exact⟨e'.1.1.1.2,e'.1.1.2⟩
    simp[f,hp];iterate 2 refine ai ?_
    refine cd (iO p (akO hvp).1 (akO hvp).2) ?_;simp;refine cd (iO c (akO e').1 (akO e').2) ?_;simp;apply gw<;>intro b
    ·have hn:=JV hp (by rw[hi1];exact hc) (R:=fun a b=>decide (eG a<eG b)) (by simp;omega);simp;grind[gN]
    ·simp at b;simp;refine nxa (i+1) ⟨by omega,(bX hc h2 (by simpa using e)),by have:=yZ (i:=i-1) (by rw[hi1];exact h3) hp (by rw[hi1];exact hc) (by simp;omega);rwa [hi1]at this⟩
   ·have f':=f;simp at f';simp[f];refine nxa (i+1) ⟨by omega,(bX hc h2 (by simpa using e)),(by obtain rfl:i=0:=(by omega);exact vW)⟩
 ·simp at a;have hf:=iX h2 a;rw[bS a]at h3;simp;refine ck (bI _ _ _) ?_;simp;apply gv<;>intro g1
  ·have g1':=g1;simp at g1';simp[g1];apply gv<;>intro g2
   ·have g2':=g2;simp[g2];refine ck (FJ _) ?_;simp;grind[gN]
   ·have g2':=g2;simp at g2';simp[g2];grind[gN]
  ·have g1':=g1;simp at g1';simp[g1];grind[gN]
end Go.Proofs.YtnlkiflcbknaaaaGreatDoor
end
section
namespace Go.Proofs.YtnlkiflcbknaaaaGreatDoor
open Go.Dv Go.Pl Go.Proofs.Tryz
variable {o:L2}{k:Nat}
def af2 (h:k<o.length):o[k]?=some (gat o k):=by
 obtain⟨r,hr⟩:=aR h;rw[BG hr];exact hr
variable {l:L1}{i:Nat}
def asW (h:agL l i o)(k:Nat):(gat o k).length<=i:=by
 by_cases hk:k<o.length
 ·rw[h.row k hk,aK];exact k_Nat_le_trans (bN _ _) (by simp)
 ·simp[gat,hk]
def ahD (h:agL l i o)(k:Nat):(gat (blkIn l i o) k).length<=i:=by
 unfold blkIn;split
 ·by_cases hk:k<o.length
  ·have:gat (o++[[]]) k=gat o k:=by simp[gat,lQ,hk]
   rw[this];exact asW h k
  ·have:gat (o++[[]]) k=[]:=by
    by_cases h2:k=o.length
    ·subst h2;simp[gat]
    ·have:(o++[[]]).length<=k:=by simp;omega
     simp[gat,k_List_getElem__eq_none this]
   rw[this];simp
 ·exact asW h k
def AC (l:L1)(hs:Qle l)(hp:l.length=0\/gD l):Fk 96 [nInts l] (.own (mY (blocksP l))):=by
 refine fE [200001] ntmps96 fun _ _=> ?_;have hrg:RG l:=by rcases hp with h|h;(intro k hk;omega);exact(isPart_iff.1 h).1
 have hl8:l.length<=8:=by rcases hp with h|h;omega;exact(isPart_len h).2
 simp;refine wlt (Nat×L2) (fun(i,o)=>([(0,vN l),(3,.own (mY o)),(4,vI i)],l.length-i,(i<=l.length)/\(o=loopN i [] (oM l)))) ((0,[])) ⟨by omega,rfl⟩ ?_;rintro⟨i,o⟩ ⟨h1,h2⟩;simp;apply gv<;>intro a
 ·have a':=a;simp[a];refine ck (mF l) ?_;have hpp:gD l:=hp.resolve_left (by omega);have hI:=blocksI hrg h1;rw[←h2]at hI;have hst:=(hI.step hrg a).1;have hle:=hI.le hrg a;have hol:=hI.len;have hlen:=ahD hI (at1 l i).toNat;have hs:=aM i [] (oM l);rw[←h2]at hs;have hg:=aY a;simp[hpp];refine QU (fun(_:Unit)=>[(0,vN l),(3,.own (mY (blkIn l i o))),(4,vI i)]) (fun(_:Unit)=>True) ?_ ?_
  ·simp[hg];apply gw<;>intro b
   ·have hb:blkIn l i o=o++[[]]:=if_pos b;simp;refine ai ?_;refine jn (()) trivial (h3:=by simp[hpp,hg,hb])
   ·have hb:blkIn l i o=o:=if_neg b;simp;refine jn (()) trivial (h3:=by simp[hpp,hg,hb])
  rintro⟨⟩ -
  have hbs:oM l i o=(blkIn l i o).set (at1 l i).toNat (gat (blkIn l i o) (at1 l i).toNat++[(i:Int)]):=rfl;have hr:=af2 hst;have hr2:(blkIn l i o)[(at1 l i).toNat]=gat (blkIn l i o) (at1 l i).toNat:=by rw[aB hst]at hr;exact k_Option_some_inj hr
  generalize blkIn l i o=q at hst hbs hr hr2 hlen|-
  have hset:(q.map bT).set (at1 l i).toNat (D.sl (some 3) ((gat q (at1 l i).toNat).map dI++[D.one (.int .i64 (i:Int))]))=(oM l i o).map bT:=by rw[hbs,jA];simp[bT,dI]
  simp;refine wdh [0] [(13,[39,40]),(14,[38,40,41,3,27,32,37]),(16,[42,41,3,27,32,37,38])] [(0,vN l),(3,.own (mY q)),(4,vI i),(27,.al 3 [])] [] ?_;simp[hg,hst,hr2,hset];iterate 4 refine ai ?_
  refine nx (i+1,oM l i o) ⟨by omega,hs.symm⟩
 ·have a':=a;simp at a';obtain rfl:i=l.length:=by omega
  have hbl:blocksP l=o:=h2.symm;simp[a,hbl]
variable {n:Nat}{items:L1}
def am5 (h:OC n items)(hi:i<items.length):0<=at1 items i/\at1 items i<n:=h.1 _ (aA (aY hi))
def az3 (h:OC n items)(hi:i<k)(hk:k<items.length):at1 items i<at1 items k:=by
 have h1:=aY (l:=items) (i:=i);have h2:=aY hk;have:=dQ.1 h.2 i k (by omega) hk hi;rw[aB (by omega)]at h1 h2;rw[k_Option_some_inj h1,k_Option_some_inj h2]at this;exact this
def agD (m:L2)(items:L1)(x:Int):L1:=items.map fun y=>at2 m x.toNat y.toNat
def F6 (m:L2)(items:L1)(x:Int)(k:Nat):L1:=(items.take k).map fun y=>at2 m x.toNat y.toNat
def akZ (m:L2)(items:L1)(x:Int):F6 m items x 0=[]:=rfl
variable {m:L2}
def akY {x:Int}(h:k<items.length):F6 m items x (k+1)=F6 m items x k++[at2 m x.toNat (at1 items k).toNat]:=uA _ (aY h)
def apI (m:L2)(items:L1)(x:Int):F6 m items x items.length=agD m items x:=by simp[F6,agD]
def BS (m:L2)(items:L1)(i:Nat):L2:=(items.take i).map (agD m items)
def akX (m:L2)(items:L1):BS m items 0=[]:=rfl
def akW (h:i<items.length):BS m items (i+1)=BS m items i++[agD m items (at1 items i)]:=uA _ (aY h)
def apG (m:L2)(items:L1):BS m items items.length=kN m items:=by simp[BS,kN,agD]
def apH (m:L2)(items:L1)(i:Nat):(BS m items i).length<=items.length:=by simp[BS];omega
def apJ (m:L2)(items:L1)(x:Int)(i:Nat):(F6 m items x i).length<=items.length:=by simp[F6];omega
def XM (m:L2)(items:L1)(hm:bR m)(hi:OC m.length items)(hl:items.length<=8):Fk 161 [cZ m,nInts items] (.own (mY (kN m items))):=by
 refine fE [200001] ntmps161 fun _ _=> ?_;have hml:=dN hm;have hz:=akX m items;have hz2:=akZ m items;have hall:=apG m items;have hall2:=apI m items;simp;refine ck (eQ m) ?_;simp[hm];refine wl (fun(i:Nat)=>[(0,.val (cZ m)),(1,vN items),(5,.own (mY (BS m items i))),(6,vI i)]) (fun(i:Nat)=>items.length-i) (fun(i:Nat)=>(i<=items.length)) (0) (by omega) ?_ (h0:=by simp[hm,hz,hz2]);rintro i h1;simp;apply gw<;>intro a
 ·have hx:=am5 hi a;have hg:=aY a;have hms:=akW (m:=m) a;have hml2:=apH m items i;obtain⟨r,hr,hrl⟩:=DJ hm (a:=(at1 items i).toNat) (by omega);simp;refine QU (fun(_:Unit)=>[(0,.val (cZ m)),(1,vN items),(5,.own (mY (BS m items i))),(6,vI i)]) (fun(_:Unit)=>True) ?_ ?_
  ·have hx1:=hx.1;have hx2:at1 items i<=(m.length:Int)-1:=by omega
   simp;refine wdr ?_;simp[hg];refine ai ?_;refine cd (bJ (at1 items i) _ _) ?_;simp[hx1,hx2];apply gv<;>intro e
   ·have e':=e;have hlt:=az3 hi (i:=i-1) (k:=i) (by omega) a;have hlt2:¬at1 items i<=at1 items (i-1):=by omega
    have hg1:=aY (l:=items) (i:=i-1);have hi1:((i:Int)-1).toNat=i-1:=by omega
    simp[hg,e,hg1,hlt2];iterate 2 refine ai ?_
    refine jn (()) trivial
   ·have e':=e;simp at e';simp[e];refine jn (()) trivial
  rintro⟨⟩ -
  simp;refine wl (fun(k:Nat)=>[(0,.val (cZ m)),(1,vN items),(5,.own (mY (BS m items i))),(6,vI i),(7,wN (F6 m items (at1 items i) k)),(8,vI k)]) (fun(k:Nat)=>items.length-k) (fun(k:Nat)=>(k<=items.length)) (0) (by omega) ?_ (h0:=by simp[hz,hz2]);rintro k h2;simp;apply gw<;>intro b
  ·have hy:=am5 hi b;have hk:=aY b;have hks:=akY (m:=m) (x:=at1 items i) b;have hkl2:=apJ m items (at1 items i) k;have hy1:=hy.1;have hy2:at1 items k<=(m.length:Int)-1:=by omega
   obtain⟨q,hq,hqk⟩:=lD hm (i:=(at1 items i).toNat) (k:=(at1 items k).toNat);simp[hk];refine ai ?_;refine ck (bJ (at1 items k) _ _) ?_;simp[hy1,hy2];refine wdf [(14,[76,77]),(15,[63,77,78,7]),(16,[78,7])] [(0,.val (cZ m)),(1,vN items),(5,.own (mY (BS m items i))),(6,vI i),(7,wN (F6 m items (at1 items i) k)),(8,vI k)] [] (by simp) ?_;simp[hg,hk,hy1,hq,hqk];refine nxd (k+1) (by first|omega|(simp;omega)|grind) (h3:=by simp[hz,hz2,hks,hks,hg,hk,hy1,hy2,hq,hqk])
  ·simp at b;obtain rfl:k=items.length:=by omega
   simp[hall2];refine nxb (i+1) (by first|omega|(simp;omega)|grind) (h3:=by simp[hz,hz2,hms,hall2])
 ·simp at a;obtain rfl:i=items.length:=by omega
  simp[hall]
variable {α:Type}
def last_at (l:List α)(a:α)(h:l.length=k):(l++[a])[k]?=some a:=by subst h;simp
def anP (l:List α)(a b:α)(h:l.length=k):(l++[a]).set k b=l++[b]:=by subst h;simp
def O9 (l:L1)(hs:Qle l)(hp:l.length=0\/gD l):Fk 187 [nInts l] (.own (mY (blocksP l))):=by
 refine fE [] ntmps187 fun _ _=> ?_;have hrg:RG l:=by rcases hp with h|h;(intro k hk;omega);exact(isPart_iff.1 h).1
 have hl8:l.length<=8:=by rcases hp with h|h;omega;exact(isPart_len h).2
 simp;refine wlt (Nat×L2) (fun(i,o)=>([(3,.own (mY o)),(6,vN l),(7,vI l.length),(8,vI i)],l.length-i,(i<=l.length)/\(o=loopN i [] (oM l)))) ((0,[])) ⟨by omega,rfl⟩ ?_;rintro⟨i,o⟩ ⟨h1,h2⟩;simp;apply gw<;>intro a
 ·have hI:=blocksI hrg h1;rw[←h2]at hI;have hst:=(hI.step hrg a).1;have hle:=hI.le hrg a;have hol:=hI.len;have hlen:=ahD hI (at1 l i).toNat;have hs:=aM i [] (oM l);rw[←h2]at hs;have hg:=aY a;have hbs:oM l i o=(blkIn l i o).set (at1 l i).toNat (gat (blkIn l i o) (at1 l i).toNat++[(i:Int)]):=rfl;simp[hg];apply gw<;>intro b
  ·have hb:blkIn l i o=o++[[]]:=if_pos b;rw[hb]at hbs;have hbn:(at1 l i).toNat=o.length:=by omega
   have hq:=last_at (o.map bT) (D.sl none []) (k:=o.length) (by simp);have hq2:=anP (o.map bT) (D.sl none []) (D.any 1) (k:=o.length) (by simp);have hq3:=last_at (o.map bT) (D.any 1) (k:=o.length) (by simp);have hq4:=anP (o.map bT) (D.any 1) (D.sl (some 3) [D.one (.int .i64 (i:Int))]) (k:=o.length) (by simp);have hgl:gat (o++[[]]) o.length=[]:=by simp[gat]
   have hnew:oM l i o=o++[[(i:Int)]]:=by rw[hbs,hbn,hgl];simp
   simp[b];refine nxb (i+1,oM l i o) ⟨by omega,hs.symm⟩ (h3:=by simp[hg,b,hq,hq2,hq3,hq4,hnew])
  ·have hb:blkIn l i o=o:=if_neg b;rw[hb]at hbs hst hlen;have hr:=af2 hst;have hr2:o[(at1 l i).toNat]=gat o (at1 l i).toNat:=by rw[aB hst]at hr;exact k_Option_some_inj hr
   have hset:(o.map bT).set (at1 l i).toNat (D.sl (some 3) ((gat o (at1 l i).toNat).map dI++[D.one (.int .i64 (i:Int))]))=(oM l i o).map bT:=by rw[hbs,jA];simp[bT,dI]
   have ha0:=hle.1;simp[hst,hr2,ha0,hset];refine nxb (i+1,oM l i o) ⟨by omega,hs.symm⟩
 ·simp at a;obtain rfl:i=l.length:=by omega
  have hbl:blocksP l=o:=h2.symm;simp[hbl]
def XZ (l:L1)(x:Int):ix (fun y=>decide (x=y)) l=place l x:=by
 unfold place;congr 1;funext y;simp[eq_comm]
def FT (l:List Con)(items:L1)(hl:Qle l)(hi:Qle items):Fk 273 [jN l,nInts items] (vG (iM l items)):=by
 refine fE [] ntmps273 fun _ _=> ?_;simp;refine wlt (Nat×List Con) (fun(i,o)=>([(1,vN items),(5,vG o),(10,vC l),(11,vI l.length),(12,vI i)],l.length-i,(i<=l.length)/\(o=(l.take i).filterMap (zX items))/\(o.length<=i))) ((0,[])) ⟨by omega,by simp,by simp⟩ ?_;rintro⟨i,o⟩ ⟨h1,h2,h3⟩;simp;apply gw<;>intro a
 ·obtain⟨c,hc⟩:=aR (l:=l) (i:=i);have hm:=A9 (zX items) hc;rw[←h2]at hm;have e1:=XZ items c.a;have e2:=XZ items c.b;have b1:=az4 (fun y=>decide (y=c.a)) items;have b2:=az4 (fun y=>decide (y=c.b)) items;simp[hc];refine wdt 8 ?_;simp;refine cd (jM items c.a) ?_;simp;refine cd (jM items c.b) ?_;simp[e1,e2];apply gv<;>intro e
  ·have e':=e;simp[e];apply gw<;>intro f
   ·have hr:zX items c=some ⟨place items c.a,place items c.b,c.same⟩:=if_pos ⟨e,f⟩;rw[hr]at hm;simp;refine nxb (i+1,o++[⟨place items c.a,place items c.b,c.same⟩]) ⟨by omega,by rw[hm];rfl,by simp;omega⟩
   ·simp at f;have hr:zX items c=none:=if_neg (by omega);rw[hr]at hm;simp;refine nxa (i+1,o) ⟨by omega,by rw[hm];simp,by omega⟩
  ·have e':=e;simp at e';have hr:zX items c=none:=if_neg (by omega);rw[hr]at hm;simp[e];refine nxa (i+1,o) ⟨by omega,by rw[hm];simp,by omega⟩
 ·simp at a;rw[bS a]at h2;have hfin:iM l items=o:=h2.symm;simp[hfin]
def akV (m:L2)(items:L1)(i k:Nat):Int:=at2 m (at1 items i).toNat (at1 items k).toNat
def WI (m:L2)(items:L1)(hm:bR m)(hs:OC m.length items)(hl:Qle items):Fk 272 [cZ m,nInts items] (.own (mY (kN m items))):=by
 refine fE [] ntmps272 fun _ _=> ?_;have hz:List.replicate items.length (bT (List.replicate items.length 0))=(zeros items.length).map bT:=by simp[zeros]
 simp;refine ck (tK items.length) ?_;simp[hz];refine wlt (Nat×L2) (fun(i,q)=>([(0,.val (cZ m)),(1,vN items),(5,.own (mY q)),(13,vN items),(14,vI items.length),(15,vI i)],items.length-i,(i<=items.length)/\(q=loopN i (zeros items.length) (V6 items.length (akV m items)))/\(sq2 items.length q))) ((0,zeros items.length)) ⟨by omega,rfl,(pM _)⟩ ?_ (h0:=by simp[hz]);rintro⟨i,q⟩ ⟨h1,h2,h3⟩;simp;apply gw<;>intro a
 ·have hs1:=aM i (zeros items.length) (V6 items.length (akV m items));rw[←h2]at hs1;have gi:=aY (l:=items) (i:=i);have si:=hs.1 _ (aA gi);simp[gi];refine wlt (Nat×L2) (fun(k,w)=>([(0,.val (cZ m)),(1,vN items),(5,.own (mY w)),(6,vI i),(7,vI (at1 items i)),(13,vN items),(14,vI items.length),(15,vI i),(20,vN items),(21,vI items.length),(22,vI k)],items.length-k,(k<=items.length)/\(w=loopN k q (MB (akV m items) i))/\(sq2 items.length w))) ((0,q)) ⟨by omega,rfl,h3⟩ ?_;rintro⟨k,w⟩ ⟨h4,h5,h6⟩;simp;apply gw<;>intro b
  ·have hs2:=aM k q (MB (akV m items) i);rw[←h5]at hs2;have gk:=aY (l:=items) (i:=k);have sk:=hs.1 _ (aA gk);have hrw:=(sW h6 (i:=i)).1;have hgw:=M4 h6 (i:=i) (k:=k);obtain⟨r,hr,hv⟩:=lD hm (i:=(at1 items i).toNat) (k:=(at1 items k).toNat);have hv2:r[(at1 items k).toNat]?=some (akV m items i k):=hv;have hset:(w.map bT).set i (D.sl (some 3) (((gat w i).map dI).set k (dI (akV m items i k))))=(MB (akV m items) i k w).map bT:=LD w i k (akV m items i k);have p1:=si.1;have p2:=sk.1;simp[gk];refine wdt 13 ?_;simp[hrw,hgw,hr,hv2,hset,p1,p2];refine nxa (k+1,MB (akV m items) i k w) ⟨by omega,hs2.symm,(xW h6 (by omega) _)⟩
  ·simp at b;obtain rfl:k=items.length:=by omega
   simp;refine nxa (i+1,w) ⟨by omega,by rw[hs1,h5];rfl,h6⟩
 ·simp at a;obtain rfl:i=items.length:=by omega
  have hfin:kN m items=q:=by rw[←aCJ,h2];rfl
  simp[hfin]
end Go.Proofs.YtnlkiflcbknaaaaGreatDoor
end
section
namespace Go
def qY:= @Int.eq_ofNat_of_zero_le
end Go
end
section
namespace Go.Proofs.YtnlkiflcbknaaaaGreatDoor
open Go.Dv Go.Pl Go.RowKit Go.Proofs.Tryz
abbrev al7 (t:Tri):D:= .agg [.agg [dI t.a,dI t.b],.agg [dI t.a,dI t.c],.agg [dI t.b,dI t.c]]
structure KG (n:Nat) (t:Tri):Prop where
 a:0<=t.a
 b:t.a<t.b
 c:t.b<t.c
 n:t.c<(n:Int)
def ac1 {t:Tri}{n i:Nat}(h:KG n t)(hi:i<3):∃x y:Nat,x<n/\y<n/\[D.agg [dI t.a,dI t.b],D.agg [dI t.a,dI t.c],D.agg [dI t.b,dI t.c]][i]?=some (D.agg [dI x,dI y]):=by
 obtain⟨h1,h2,h3,h4⟩:=h;obtain⟨a,ha⟩:=qY h1;obtain⟨b,hb⟩:=qY (show 0<=t.b by omega);obtain⟨c,hc⟩:=qY (show 0<=t.c by omega);rw[ha,hb,hc];have:i=0\/i=1\/i=2:=by omega
 rcases this with rfl|rfl|rfl
 ·exact⟨a,b,by omega,by omega,rfl⟩
 ·exact⟨a,c,by omega,by omega,rfl⟩
 ·exact⟨b,c,by omega,by omega,rfl⟩
def aFW (a b c d:Int)(w:World):Calls prog 341 #[.agg #[.int .i64 a,.int .i64 b,.int .i64 c,.int .i64 d]] w fun e w'=>e= .returned (.agg #[.int .i64 a,.int .i64 b,.int .i64 a,.int .i64 c,.int .i64 b,.int .i64 c])/\Below w.heap.size w w':=by
 go_enter func341,ntmps341
 go_wp2
 refine bodyPost_ret (v:= .agg #[.int .i64 a,.int .i64 b,.int .i64 a,.int .i64 c,.int .i64 b,.int .i64 c]) ?_ rfl ⟨rfl,((Below.refl _ w).alloc (k_Nat_le_refl _) _).alloc (by simp) _⟩;have z:=Tryz.sizeOf229;have g:=Tryz.isAgg229;simp[results,Tryz.f341,loadVar,asAddr]
 go_simp
def FV (t:Tri):fK prog 341 [al8 t] (fun r=>r= .val (al7 t)):=by
 intro w ow vs tt ht hL hnew hvs hargs;have h0:=hargs 0 _ rfl
 have hv:vs= #[.agg #[.int .i64 t.a,.int .i64 t.b,.int .i64 t.c,.int .i64 t.w]]:=by
  simp only[D.fz,D.fzs,V]at h0;obtain⟨cs,h1,h2⟩:=h0;have h3:=R.I8 (cs':=[.int .i64 t.a,.int .i64 t.b,.int .i64 t.c,.int .i64 t.w]) rfl h2;apply Array.ext
  ·simpa using hvs
  ·intro i h4 h5;obtain rfl:i=0:=by simpa using h5
   simp[aF,h4]at h1;simp[h1];apply bU.1;exact h3
 subst hv;refine(aFW t.a t.b t.c t.w w).mono ?_;rintro e w' ⟨rfl,hB⟩;refine⟨_,fun b=>if b<w.heap.size then ow b else none,_,rfl,rfl,⟨hB.os,hB.tape,hB.output,hB.size,fun b hb=>⟨hB.block b hb,if_pos hb⟩,fun b hb=>if_neg (by have:=hB.size;omega)⟩,rfl,fun s a=> ?_⟩;exact⟨_,rfl,R.flat rfl⟩
def aeX (t:Tri)(m:L2)(hm:bR m)(ht:KG m.length t):fK prog 401 [al8 t,cZ m] (fun r=>∃b:Bool,r=vB b):=by
 refine fE [] ntmps401 fun _ _=> ?_;simp;refine ck (FV t) ?_;simp;refine wlt (Nat×Int×Int) (fun(i,p,q)=>([(1,.val (cZ m)),(5,vI p),(6,vI q),(11,.val (al7 t)),(12,vI i)],3-i,(i<=3)/\(0<=p/\p<=i)/\(0<=q/\q<=i))) ((0,0,0)) ⟨by omega,by omega,by omega⟩ ?_;rintro⟨i,p,q⟩ ⟨h1,h2,h3⟩;simp;apply gw<;>intro a
 ·obtain⟨x,y,hx,hy,hp⟩:=ac1 ht (show i<3 by omega);obtain⟨r,hr,hw⟩:=lD hm hx hy;simp[hp];refine ai ?_;refine wdt 9 ?_;simp[hr,hw];apply gw<;>intro b
  ·simp;refine nxb (i+1,p+1,q) ⟨(by first|omega|(simp;omega)|grind),(by first|omega|(simp;omega)|grind),(by first|omega|(simp;omega)|grind)⟩
  ·simp at b;simp;apply gw<;>intro c
   ·simp;refine nxb (i+1,p,q+1) ⟨(by first|omega|(simp;omega)|grind),(by first|omega|(simp;omega)|grind),(by first|omega|(simp;omega)|grind)⟩
   ·simp at c;simp;refine nxa (i+1,p,q) ⟨(by first|omega|(simp;omega)|grind),(by first|omega|(simp;omega)|grind),(by first|omega|(simp;omega)|grind)⟩
 ·simp at a;simp;apply gv<;>intro g1
  ·have g1':=g1;simp[g1]
  ·have g1':=g1;simp[g1]
def avS (t:Tri)(n:Nat)(hn:n<=1048576):fK prog 440 [al8 t,dI n] (fun r=>∃b:Bool,r=vB b):=by
 refine fE [] ntmps440 fun _ _=> ?_;simp;refine ck (nL t.a n) ?_;simp;apply gv<;>intro e
 ·have e':=e;simp at e';simp[e];refine ck (nL t.b n) ?_;simp;apply gv<;>intro f
  ·have f':=f;simp at f';simp[f];refine ck (nL t.c n) ?_;simp;apply gv<;>intro g
   ·have g':=g;simp at g';simp[g];apply gv<;>intro h
    ·have h':=h;simp[h]
    ·have h':=h;simp at h';simp[h]
   ·have g':=g;simp at g';simp[g]
  ·have f':=f;simp at f';simp[f]
 ·have e':=e;simp at e';simp[e]
end Go.Proofs.YtnlkiflcbknaaaaGreatDoor
end
section
namespace Go.Proofs.YtnlkiflcbknaaaaGreatDoor
open Go.Dv Go.Pl Go.Proofs.Tryz
def acK {x:Int}(h: -1000<=x/\x<=1000):0<=AV x/\AV x<=1000:=by unfold AV;split<;>omega
def OX (m:L2)(hm:bR m):fK prog 340 [cZ m] (fun r=>∃l:List Tri,r=vE l/\l.length<=512/\∀t∈l,KG m.length t/\0<=t.w/\t.w<=1000):=by
 refine fE [] ntmps340 fun _ _=> ?_;have hn8:=dN hm;simp;refine ck (iH m (by omega) (wY hm)) ?_;simp[hm];refine wlt (Nat×List Tri) (fun(i,o)=>([(0,.val (cZ m)),(3,vE o),(12,vI m.length),(13,vI i)],m.length-i,(i<=m.length)/\(o.length<=64*i)/\(∀t∈o,KG m.length t/\0<=t.w/\t.w<=1000))) ((0,[])) ⟨by omega,by simp,by simp⟩ ?_;rintro⟨i,o⟩ ⟨h1,h2,h3⟩;simp;apply gw<;>intro a
 ·simp;refine ai ?_;refine wlt (Nat×List Tri) (fun(j,p)=>([(0,.val (cZ m)),(3,vE p),(4,vI i),(5,vI j),(12,vI m.length),(13,vI i)],m.length-j,(i+1<=j/\j<=m.length)/\(p.length<=64*i+8*j)/\(∀t∈p,KG m.length t/\0<=t.w/\t.w<=1000))) ((i+1,o)) ⟨by omega,by omega,h3⟩ ?_;rintro⟨j,p⟩ ⟨h4,h5,h6⟩;simp;apply gw<;>intro b
  ·simp;refine ai ?_;refine wlt (Nat×List Tri) (fun(k,q)=>([(0,.val (cZ m)),(3,vE q),(4,vI i),(5,vI j),(6,vI k),(12,vI m.length),(13,vI i)],m.length-k,(j+1<=k/\k<=m.length)/\(q.length<=64*i+8*j+k)/\(∀t∈q,KG m.length t/\0<=t.w/\t.w<=1000))) ((j+1,p)) ⟨by omega,by omega,h6⟩ ?_;rintro⟨k,q⟩ ⟨h7,h8,h9⟩;simp;apply gw<;>intro c
   ·obtain⟨r1,e1,f1⟩:=lD hm (i:=i) (k:=j);obtain⟨r2,e2,f2⟩:=lD hm (i:=i) (k:=k);obtain⟨r3,e3,f3⟩:=lD hm (i:=j) (k:=k);have b1:=iP hm i j;have b2:=iP hm i k;have b3:=iP hm j k;rw[e1]at e2;obtain rfl:=k_Option_some_inj e2;simp;refine wdf [(28,[32,33,34,59,60]),(29,[7]),(30,[7,60])] [(0,.val (cZ m)),(3,vE q),(4,vI i),(5,vI j),(6,vI k),(12,vI m.length),(13,vI i)] [] (by simp) ?_;simp[e1,f1];refine cd (tJ (at2 m i j)) ?_;simp[e1,f2];refine cd (tJ (at2 m i k)) ?_;simp[e3,f3];refine cd (tJ (at2 m j k)) ?_;obtain⟨w,hw⟩:∃w,w=min (AV (at2 m i j)) (min (AV (at2 m i k)) (AV (at2 m j k))):=⟨_,rfl⟩;have a1:=acK b1;have a2:=acK b2;have a3:=acK b3;have hw2:=hw.symm;have ht:KG m.length ⟨i,j,k,w⟩:=⟨by show(0:Int)<=i;omega,by show(i:Int)<j;omega,by show(j:Int)<k;omega,by show(k:Int)<m.length;omega⟩;simp[hw2];refine fG (aeX ⟨i,j,k,w⟩ m hm ht) (by simp) ?_;rintro r ⟨bb,rfl⟩;refine⟨by simp,?_⟩;simp;apply gw<;>intro d
    ·simp;refine nxb (k+1,q++[⟨i,j,k,w⟩]) ⟨by omega,by simp;omega,(by intro t htm;rcases k_List_mem_append.1 htm with h|h;exact h9 t h;obtain rfl:=k_List_mem_singleton.1 h;exact⟨ht,by show 0<=w;omega,by show w<=1000;omega⟩)⟩
    ·simp;refine nxa (k+1,q) ⟨by omega,by omega,h9⟩
   ·simp at c;simp;refine nxa (j+1,q) ⟨by omega,by omega,h9⟩
  ·simp at b;simp;refine nxa (i+1,p) ⟨by omega,by omega,h6⟩
 ·simp at a;simp;exact⟨o,rfl,by omega,h3⟩
variable {m u:L2}{x y:Nat}
def YZ (hu:sq2 m.length u)(hx:x<m.length)(hy:y<m.length):u[x]?=some (gat u x)/\(gat u x)[y]?=some (at2 u x y):=⟨(sW hu hx).1,M4 hu hx hy⟩
def M8 (m u:L2)(b:Int):Prop:=sq2 m.length u/\∀x y,x<m.length->y<m.length->0<=at2 u x y/\at2 u x y<=b
variable {b:Int}
def apS {w:Int}(h:M8 m u b)(hx:x<m.length)(hy:y<m.length)(hw:0<=w/\w<=1000):M8 m (set2 u x y (at2 u x y+w)) (b+1000):=by
 refine⟨xW h.1 hx _,fun a c ha hc=> ?_⟩;rw[EC h.1 hx hy];have h1:=h.2 a c ha hc;have h2:=h.2 x y hx hy;split<;>omega
def DZ {c:Int}(h:M8 m u b)(hb:b<=c:=by omega):M8 m u c:=⟨h.1,fun x y hx hy=>by have:=h.2 x y hx hy;omega⟩
def wB (m:L2)(hm:bR m):fK prog 277 [cZ m] (fun r=>∃l:List Tri,r=vE l/\l.length<=512/\∀t∈l,KG m.length t/\1<=t.w/\t.w<=1000):=by
 refine fE [] ntmps277 fun _ _=> ?_;have hn8:=dN hm;have hz:List.replicate m.length (bT (List.replicate m.length 0))=(zeros m.length).map bT:=by simp[zeros]
 simp;refine ck (tK m.length) ?_;simp[hz];refine fG (OX m hm) (by simp) ?_;rintro r ⟨L,rfl,hL,hT⟩;refine⟨by simp,?_⟩;simp;refine wlt (Nat×L2×List Tri) (fun(i,u,o)=>([(0,.val (cZ m)),(3,vE o),(4,.own (mY u)),(15,vE L),(16,vI L.length),(17,vI i)],L.length-i,(i<=L.length)/\(M8 m u (3000*i))/\o.length<=i/\(∀t∈o,KG m.length t/\1<=t.w/\t.w<=1000))) ((0,zeros m.length,[])) ⟨by omega,(⟨pM _,fun x y _ _=>by rw[KJ];omega⟩),by simp,by simp⟩ ?_ (h0:=by simp[hz]);rintro⟨i,u,o⟩ ⟨h1,h2,h3,h4⟩;simp;apply gw<;>intro a
 ·obtain⟨t,ht⟩:=aR (l:=L) (i:=i);have hto:=hT t (aA ht);simp[ht];refine ck (FV t) ?_;simp;refine wlt (Nat×Int) (fun(k,w)=>([(0,.val (cZ m)),(3,vE o),(4,.own (mY u)),(6,.own (.bx true (al8 ⟨t.a,t.b,t.c,w⟩))),(15,vE L),(16,vI L.length),(17,vI i),(22,.val (al7 t)),(23,vI k)],3-k,(k<=3)/\(-2000000<=w/\w<=1000))) ((0,t.w)) ⟨by omega,by omega⟩ ?_;rintro⟨k,w⟩ ⟨h5,h6⟩;simp;apply gw<;>intro b
  ·obtain⟨x,y,hx,hy,hp⟩:=ac1 hto.1 (show k<3 by omega);obtain⟨r,hr,hv⟩:=lD hm hx hy;obtain⟨q1,q2⟩:=YZ h2.1 hx hy;have q3:=h2.2 x y hx hy;have b1:=iP hm x y;have a1:=acK b1;simp[hp];refine ai ?_;refine wdt 24 ?_;simp[hr,hv];refine cd (tJ (at2 m x y)) ?_;simp[q1,q2];refine nxb (k+1,min w (AV (at2 m x y)-at2 u x y)) ⟨by omega,by omega⟩
  ·simp at b;have hu1:M8 m u (3000*((i+1:Nat):Int)):=DZ h2;simp;apply gw<;>intro c
   ·simp;refine nxa (i+1,u,o) ⟨by omega,hu1,by omega,h4⟩
   ·simp at c;have htw:KG m.length ⟨t.a,t.b,t.c,w⟩:=⟨hto.1.a,hto.1.b,hto.1.c,hto.1.n⟩;simp;refine ck (FV ⟨t.a,t.b,t.c,w⟩) ?_;simp;refine wlt (Nat×L2) (fun(j,v)=>([(0,.val (cZ m)),(3,vE o),(4,.own (mY v)),(6,.own (.bx true (al8 ⟨t.a,t.b,t.c,w⟩))),(15,vE L),(16,vI L.length),(17,vI i),(55,.val (al7 t)),(56,vI j)],3-j,(j<=3)/\(M8 m v (3000*i+1000*j)))) ((0,u)) ⟨by omega,(DZ h2)⟩ ?_;rintro⟨j,v⟩ ⟨h7,h8⟩;simp;apply gw<;>intro b2
    ·obtain⟨x,y,hx,hy,hp⟩:=ac1 hto.1 (show j<3 by omega);obtain⟨q1,q2⟩:=YZ h8.1 hx hy;have q3:=h8.2 x y hx hy;have hset:=LD v x y (at2 v x y+w);simp[hp];refine ai ?_;refine wdt 13 ?_;simp[q1,q2,hset];refine nxb (j+1,set2 v x y (at2 v x y+w)) ⟨by omega,(DZ (apS h8 hx hy (by omega)))⟩
    ·simp at b2;obtain rfl:j=3:=by omega
     simp;refine nxb (i+1,v,o++[⟨t.a,t.b,t.c,w⟩]) ⟨by omega,(DZ h8),by simp;omega,(by intro z hz;rcases k_List_mem_append.1 hz with h|h;exact h4 z h;obtain rfl:=k_List_mem_singleton.1 h;exact⟨htw,by show 1<=w;omega,by show w<=1000;omega⟩)⟩
 ·simp at a;simp;exact⟨o,rfl,by omega,h4⟩
def WE (m:L2)(l:List Tri)(hm:bR m)(hl:l.length<=512)(hT:∀t∈l,KG m.length t/\1<=t.w/\t.w<=1000):fK prog 400 [cZ m,IJ l] (fun r=>∃b:Bool,r=vB b):=by
 refine fE [] ntmps400 fun _ _=> ?_;have hn8:=dN hm;have hz:List.replicate m.length (bT (List.replicate m.length 0))=(zeros m.length).map bT:=by simp[zeros]
 simp;refine ck (iH m (by omega) (wY hm)) ?_;simp[hm];apply gw<;>intro a0
 ·simp
 ·simp at a0;simp;refine ck (tK m.length) ?_;simp[hz];refine wlt (Nat×L2) (fun(i,u)=>([(0,.val (cZ m)),(5,.own (mY u)),(21,.val (IJ l)),(22,vI l.length),(23,vI i)],l.length-i,(i<=l.length)/\(M8 m u (3000*i)))) ((0,zeros m.length)) ⟨by omega,(⟨pM _,fun x y _ _=>by rw[KJ];omega⟩)⟩ ?_ (h0:=by simp[hm,hz]);rintro⟨i,u⟩ ⟨h1,h2⟩;simp;apply gw<;>intro a
  ·obtain⟨t,ht⟩:=aR (l:=l) (i:=i);have hto:=hT t (aA ht);simp[ht];refine fG (avS t m.length (by omega)) (by simp) ?_;rintro r ⟨b1,rfl⟩;refine⟨by simp,?_⟩;simp;apply gv<;>intro e
   ·have e':=e;simp at e';simp[e]
   ·have e':=e;simp at e';simp[e];refine fG (aeX t m hm hto.1) (by simp) ?_;rintro r ⟨b2,rfl⟩;refine⟨by simp,?_⟩;simp;apply gv<;>intro f
    ·have f':=f;simp at f';simp[f]
    ·have f':=f;simp at f';simp[f];refine ck (bI t.w 1 1000) ?_;simp;apply gw<;>intro g
     ·simp at g;simp
     ·simp at g;simp;refine ck (FV t) ?_;simp;refine wlt (Nat×L2) (fun(j,v)=>([(0,.val (cZ m)),(5,.own (mY v)),(7,.own (.bx true (al8 t))),(21,.val (IJ l)),(22,vI l.length),(23,vI i),(45,.val (al7 t)),(46,vI j)],3-j,(j<=3)/\(M8 m v (3000*i+1000*j)))) ((0,u)) ⟨by omega,(DZ h2)⟩ ?_;rintro⟨j,v⟩ ⟨h7,h8⟩;simp;apply gw<;>intro c
      ·obtain⟨x,y,hx,hy,hp⟩:=ac1 hto.1 (show j<3 by omega);obtain⟨q1,q2⟩:=YZ h8.1 hx hy;obtain⟨r,hr,hv⟩:=lD hm hx hy;have q3:=h8.2 x y hx hy;have hset:=LD v x y (at2 v x y+t.w);have h9:=apS h8 hx hy (w:=t.w) (by omega);obtain⟨p1,p2⟩:=YZ h9.1 hx hy;have b3:=iP hm x y;simp[hp];refine ai ?_;refine wdt 13 ?_;simp[q1,q2,hset];refine ai ?_;refine wdr ?_;simp[p1,p2,hr,hv];refine cd (tJ (at2 m x y)) ?_;simp;apply gw<;>intro d
       ·simp
       ·simp at d;simp;refine nxa (j+1,set2 v x y (at2 v x y+t.w)) ⟨by omega,(DZ h9)⟩
      ·simp at c;obtain rfl:j=3:=by omega
       simp;refine nxa (i+1,v) ⟨by omega,(DZ h8)⟩
  ·simp at a;simp
def O5 (m:L2)(l:List Tri)(hm:bR m)(hl:l.length<=512)(hT:∀t∈l,KG m.length t/\1<=t.w/\t.w<=1000):fK prog 339 [cZ m,IJ l] (fun r=>∃k:Int,r=vI k/\ -1<=k/\k<=512000):=by
 refine fE [] ntmps339 fun _ _=> ?_;simp;refine fG (WE m l hm hl hT) (by simp) ?_;rintro r ⟨b1,rfl⟩;refine⟨by simp,?_⟩;simp;apply gw<;>intro a0
 ·simp at a0;simp
 ·simp at a0;simp;refine wlt (Nat×Int) (fun(i,s)=>([(5,vI s),(12,.val (IJ l)),(13,vI l.length),(14,vI i)],l.length-i,(i<=l.length)/\(0<=s/\s<=1000*i))) ((0,0)) ⟨by omega,by omega⟩ ?_;rintro⟨i,s⟩ ⟨h1,h2⟩;simp;apply gw<;>intro a
  ·obtain⟨t,ht⟩:=aR (l:=l) (i:=i);have hto:=hT t (aA ht);simp[ht];refine nxb (i+1,s+t.w) ⟨by omega,by omega⟩
  ·simp at a;simp;refine ai ?_;omega
def wD (m:L2)(p:L1)(l:List Tri)(hm:bR m)(hp:Qle p)(hl:l.length<=512)(hT:∀t∈l,KG m.length t/\1<=t.w/\t.w<=1000):fK prog 276 [cZ m,nInts p,IJ l] (fun r=>∃k:Int,r=vI k):=by
 refine fE [] ntmps276 fun _ _=> ?_;have hpc:=BP m p;simp;refine ck (CE m p hm hp) ?_;simp;refine fG (O5 m l hm hl hT) (by simp) ?_;rintro r ⟨k,rfl,hk1,hk2⟩;refine⟨by simp,?_⟩;simp;apply gv<;>intro e
 ·have e':=e;simp[e]
 ·have e':=e;simp at e';simp[e];apply gw<;>intro f
  ·simp
  ·simp at f;simp;simp only[inI];omega
structure aGM (a b c d e:Nat):Prop where
 ab:¬a=b
 ac:¬a=c
 ad:¬a=d
 ae:¬a=e
 bc:¬b=c
 bd:¬b=d
 be:¬b=e
 cd:¬c=d
 ce:¬c=e
 de:¬d=e
def azI (m:L2)(cs:List Con)(l:L1)(s:S20)(k:Int)(bc bm bl bf bn:Nat)(hA:aGM bc bm bl bf bn)(hm:bR m)(hl:l.length=m.length)(hc:Qle cs):FnW prog 393 [bT l] [(bc,some (jN cs)),(bm,some (cZ m)),(bl,none),(bf,none),(bn,none)] [(bc,jN cs),(bm,cZ m)] [(bl,dI s.cost),(bf,bT s.best),(bn,dI k)] (fun r ds'=>r= .tup []/\∃k',ds'=[dI (mM m cs l s).cost,bT (mM m cs l s).best,dI k']):=by
 refine fW [10] ntmps393 fun _ _=> ?_;obtain⟨a1,a2,a3,a4,a5,a6,a7,a8,a9,a10⟩:=hA;have c1:=k_Ne_symm a1;have c2:=k_Ne_symm a2;have c3:=k_Ne_symm a3;have c4:=k_Ne_symm a4;have c5:=k_Ne_symm a5;have c6:=k_Ne_symm a6;have c7:=k_Ne_symm a7;have c8:=k_Ne_symm a8;have c9:=k_Ne_symm a9;have c0:=k_Ne_symm a10;have hn8:=dN hm;simp;refine ck (D9 l cs) ?_;simp;apply gw<;>intro e
 ·simp at e;have hb:mM m cs l s=s:=if_neg (by simpa using e);simp[c8,c9,c0,hb]
 ·simp at e;have hk:nE cs l:=by simpa using e
  have hbs:mM m cs l s=if s.cost<0\/dP m l<s.cost then⟨l,dP m l,1⟩else if dP m l=s.cost then⟨s.best,s.cost,s.count+1⟩else s:=if_pos hk
  simp;refine ck (kI m l hm hl) ?_;simp;apply gv<;>intro f
  ·have f':=f;have hb:mM m cs l s=⟨l,dP m l,1⟩:=by rw[hbs,if_pos (.inl f)]
   simp[f];refine ck (nV l ⟨by omega,by omega⟩) ?_;simp[a8,a9,a10,c8,c9,c0,hb]
  ·have f':=f;simp at f';simp[f];apply gw<;>intro g
   ·have hb:mM m cs l s=⟨l,dP m l,1⟩:=by rw[hbs,if_pos (.inr g)]
    simp;refine ck (nV l ⟨by omega,by omega⟩) ?_;simp[a8,a9,a10,c8,c9,c0,hb]
   ·simp at g;simp;apply gw<;>intro h
    ·have hb:mM m cs l s=⟨s.best,s.cost,s.count+1⟩:=by rw[hbs,if_neg (by omega),if_pos h]
     simp;refine wrw [1] ?_;simp[a9,a10,c8,c9,c0,hb]
    ·have hb:mM m cs l s=s:=by rw[hbs,if_neg (by omega),if_neg h]
     simp[c8,c9,c0,hb]
end Go.Proofs.YtnlkiflcbknaaaaGreatDoor
end
