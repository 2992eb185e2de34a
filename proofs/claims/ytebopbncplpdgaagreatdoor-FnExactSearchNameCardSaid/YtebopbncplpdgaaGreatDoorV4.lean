/- Lemmas and walks that the law leans on, part V4. No condition. -/
import Derived.OpenShut
import Derived.ShutString
import Derived.ChangeOld
import Derived.Carry
import Derived.SizedLaws
import Derived.Lib.Hide
import Derived.BigQuiet
import Derived.Deep.QuietTactic
import Derived.StillTailTactics
import Derived.Deep.RegionLaw
import Derived.JoinedTies
import Derived.KernelRfl
import Derived.Shelf.Strings.Builder1
import Derived.Shelf.Strings.Builder2
import Derived.Shelf.Small.Utf8
import Derived.Shelf.Small.Bits
import Derived.Shelf.Small.Strs
import Derived.Shelf.Small.Wraps
import Derived.Shelf.Strings.BuilderF
import Derived.Shelf.Strings.BuilderK
import Derived.Shelf.Utf8.RuneCount
import Derived.Shelf.Strings.Builder2Cap
import Derived.Shelf.Strconv.Atoi
import Derived.Shelf.Strconv.Itoa0
import Derived.Shelf.Strconv.Itoa1
import Derived.Shelf.LaysM
import Derived.Shelf.Strconv.Itoa2
import Derived.Shelf.Strconv.AtoiErrFast
import Derived.Shelf.Strconv.ParseIntEmpty
import Derived.Shelf.Strconv.AtoiFail
import Derived.Shelf.Strconv.Clone
import Derived.Shelf.Strconv.SyntaxError
import Derived.Shelf.LaysC
import Derived.Shelf.Strconv.ToError
import Derived.Shelf.Strconv.Lower
import Derived.Shelf.Strconv.ParseUint10
import Derived.Shelf.Strconv.ParseUint10Empty
import Derived.Shelf.Strconv.ParseUint10Any
import Derived.Shelf.Strconv.ParseInt10
import Derived.Shelf.Strconv.AtoiLong
import Derived.Shelf.Strconv.AtoiInnerAll
import Derived.Shelf.Strconv.RangeError
import Derived.Shelf.Strconv.ToErrorRange
import Derived.Shelf.Strconv.AtoiAll
import Derived.Shelf.Strconv.ErrVarAll
import Derived.Shelf.Strings.Search1
import Derived.Shelf.Strings.Search2
import Derived.Shelf.Strings.Search3
import Derived.Shelf.Strings.Count
import Derived.Shelf.Strings.Shaped
import Derived.Shelf.Sort.Plain
import Derived.Shelf.Strings.Prefix
import Derived.Shelf.Strings.Split
import Derived.Shelf.Strings.Replace
import Derived.Shelf.Strings.SplitShaped
import Derived.Shelf.Unicode.Decode
import Derived.Shelf.Strings.Runes
import Derived.Shelf.Strings.RuneCount
import Derived.Shelf.Strings.IndexAny
import Derived.Shelf.Strings.AsciiSet
import Derived.Shelf.Strings.IndexAnyAll
import Derived.Shelf.Bits.Mul64
import Derived.Shelf.Unicode.DecodeSlow
import Derived.Shelf.Unicode.DecodeAny
import Derived.Shelf.Strings.FieldsFuncAny
import Derived.Shelf.Strings.FieldsFuncGrows
import Derived.Shelf.Strings.BuilderCap
import Derived.Shelf.Slices.Clone
import Derived.Shelf.Slices.CompactS
import Derived.Shelf.Slices.SearchI
import Derived.Shelf.Slices.Cells
import Derived.Shelf.SlicesE.Clone
import Derived.ChangeVars
import Derived.Handed
import Derived.LaidLaws
import Derived.Stop.LaidErr
import Derived.Test.YtebopbncplpdgaaGreatDoorCards
import Derived.Test.YtebopbncplpdgaaGreatDoorOwnTie
import Derived.Laws.CopyOwn
import Derived.LoopTactic
import Derived.Sort.Grow
import Derived.Still
import Derived.StillTactics
import Derived.Test.YtebopbncplpdgaaGreatDoorV3
set_option linter.unusedVariables false
set_option linter.defProp false
set_option linter.unusedSimpArgs false
set_option linter.unusedSectionVars false
set_option maxRecDepth 10000
set_option maxHeartbeats 1000000
def Go.cSz {α:Type}{a b:α}(h:a=b:=by kernel_rfl):some a=some b:=congrArg some h
section
namespace Go.Er
open Go.ChangeShapes Go.WideShapes Go.ChangeAt Go.RowKit
variable {P:Program}{W:World}
section
variable {H:Type}{enc:TypeId×Value->H}
def ajD (hl:laidOutB P=true){W':World}(hb:Below W.heap.size W W'):
  ∀{ts:List TypeId}{vs:List Value}{ds:List (DataW H)}{ps:List MemPlace},(∀t∈ts,P.readableRec t=true/\t<P.types.size)->
   DataW.TrodAll enc P W 0 (fun _=>true) true ts vs ds ps->DataW.TrodAll enc P W' 0 (fun b=>decide (b<W.heap.size)) true ts vs ds ps:=by
 intro ts
 induction ts with
 |nil=>
  intro vs ds ps _ h;cases vs<;>cases ds<;>simp_all[DataW.TrodAll]
 |cons t ts ih=>
  intro vs ds ps hr h;obtain⟨v,vs',d,ds',p,q,rfl,rfl,rfl,h0,h1⟩:=trodAll_cons h;have lt0:∀x∈p,x.block<W.heap.size:=by obtain⟨m,hm⟩:=h0;exact DataW.trod_lt m _ _ _ hm
  exact trodAll_cons_mk (Below.trod hl (hr t (by simp)).1 (hr t (by simp)).2 h0 hb lt0) (ih (fun t' h'=>hr t' (by simp[h'])) h1)
def trodAll_length {base:Nat}{sp:Nat->Bool}{hd:Bool}:
  ∀{ts:List TypeId}{vs:List Value}{ds:List (DataW H)}{ps:List MemPlace},DataW.TrodAll enc P W base sp hd ts vs ds ps->vs.length=ts.length/\ds.length=ts.length:=by
 intro ts
 induction ts with
 |nil=>intro vs ds ps h;cases vs<;>cases ds<;>simp_all[DataW.TrodAll]
 |cons t ts ih=>
  intro vs ds ps h;obtain⟨v,vs',d,ds',p,q,rfl,rfl,rfl,h0,h1⟩:=trodAll_cons h;have:=ih h1;simp[this]
end
abbrev Ext (w w':World):Prop:=Below w.heap.size w w'
def Ext.refl (w:World):Ext w w:=Below.refl _ _
def Ext.trans {a b c:World}(h:Ext a b)(k:Ext b c):Ext a c:=Below.trans h (k.mono h.size)
def Ext.alloc (w:World)(o:Obj):Ext w (w.alloc o):=(Below.refl _ _).alloc (k_Nat_le_refl _) o
def Ext.setCell' {a w:World}(h:Ext a w){p:Addr}(hp:a.heap.size<=p.block)(u:Value):Ext a (w.setCell p u):=Below.setCell h hp u
def Ext.cells {w1:World}(hb:Ext W w1):∀b o,b<W.heap.size->w1.cell? ⟨b,o,none⟩=W.cell? ⟨b,o,none⟩:=
 fun b o h=>Below.cell hb (p:=⟨b,o,none⟩) h
def Cells (w:World)(a:Option Addr)(cs:List Value):Prop:=
 ∀i,(h:i<cs.length)->∃b o,a=some ⟨b,o,none⟩/\w.cell? ⟨b,o+i,none⟩=some cs[i]
def Ints (w:World)(a:Option Addr)(l:L1):Prop:=
 ∀i,(h:i<l.length)->∃b o,a=some ⟨b,o,none⟩/\w.cell? ⟨b,o+i,none⟩=some (.int .i64 l[i])
variable {a:Option Addr}{l:L1}
def Ints.cells {w:World}(h:Ints w a l):Cells w a (l.map (.int .i64)):=by
 intro i hi;obtain⟨b,o,h1,h2⟩:=h i (by simpa using hi);exact⟨b,o,h1,by simpa using h2⟩
def Cells.ints {w:World}(h:Cells w a (l.map (.int .i64))):Ints w a l:=by
 intro i hi;obtain⟨b,o,h1,h2⟩:=h i (by simpa using hi);exact⟨b,o,h1,by simpa using h2⟩
variable {b o:Nat}
def lt_of_cell {w:World}{v:Value}(h:w.cell? ⟨b,o,none⟩=some v):b<w.heap.size:=
 World.block_lt_of_cell? w ⟨b,o,none⟩ h
variable {w':World}
def Cells.ext {w:World}{cs:List Value}(h:Cells w a cs)(e:Ext w w'):Cells w' a cs:=by
 intro i hi;obtain⟨b,o,h1,h2⟩:=h i hi;exact⟨b,o,h1,by rw[e.cells b _ (lt_of_cell h2)];exact h2⟩
def Ints.ext {w:World}(h:Ints w a l)(e:Ext w w'):Ints w' a l:=(h.cells.ext e).ints
def Own1 (w:World)(B:Nat)(e:TypeId)(v:Value)(cs:List Value):Prop:=w.ownsRow B e 1 v cs.length cs
def Own1.nil (w:World)(B:Nat)(e:TypeId):Own1 w B e (.slice none 0 0) []:=World.ownsRow_nil w B e 1
variable {B:Nat}
def Own1.ext {w:World}{e:TypeId}{v:Value}{cs:List Value}(h:Own1 w B e v cs)(hE:Ext w w'):Own1 w' B e v cs:=by
 refine⟨h.1,?_⟩;rcases h.2 with h2|⟨g,cap,cur,hv,hg,hh,r⟩
 ·exact Or.inl h2
 ·exact Or.inr ⟨g,cap,cur,hv,hg,by rw[hE.block g (bO.1 hh).1];exact hh,r⟩
def Own1.mono {w:World}{B':Nat}{e:TypeId}{v:Value}{cs:List Value}(h:Own1 w B e v cs)(hB:B'<=B):Own1 w B' e v cs:=by
 refine⟨h.1,?_⟩;rcases h.2 with h2|⟨g,cap,cur,hv,hg,r⟩
 ·exact Or.inl h2
 ·exact Or.inr ⟨g,cap,cur,hv,k_Nat_le_trans hB hg,r⟩
def Own1.alloc {w:World}{e:TypeId}{v:Value}{cs:List Value}(h:Own1 w B e v cs)(o:Obj):Own1 (w.alloc o) B e v cs:=h.ext (Ext.alloc w o)
def Own1.drewN {w:World}{e:TypeId}{v:Value}{cs:List Value}(h:Own1 w B e v cs)(n:Nat):Own1 (w.drewN n) B e v cs:=h
def Own1.slice {w:World}{e:TypeId}{v:Value}{cs:List Value}(h:Own1 w B e v cs):∃a cap,v= .slice a cs.length cap/\Cells w a cs/\(a=none->cs=[]):=by
 rcases h.2 with⟨rfl,hn⟩|⟨g,cap,cur,rfl,hg,hh,hn,hm,hs,ht⟩
 ·have:cs=[]:=bE hn;subst this;exact⟨none,0,rfl,fun i hi=>by simp at hi,fun _=>rfl⟩
 ·refine⟨some ⟨g,0,none⟩,cap,rfl,fun i hi=>⟨g,0,rfl,?_⟩,fun h=>by cases h⟩;have:=World.ownsRow.cellAt (w:=w) h i (by omega);rw[bT,this];simp[hi]
def Own1.ints {w:World}{e:TypeId}{v:Value}(h:Own1 w B e v (l.map (.int .i64))):∃a cap,v= .slice a l.length cap/\Ints w a l:=by
 obtain⟨a,cap,h1,h2,_⟩:=h.slice;exact⟨a,cap,by simpa using h1,h2.ints⟩
def Own1.set {w w0:World}{e:TypeId}{n cap:Nat}{cs:List Value}(h:Own1 w w0.heap.size e (.slice (some ⟨b,0,none⟩) n cap) cs)(hE:Ext w0 w)(j:Nat)(u:Value):
  Own1 (w.setCell ⟨b,j,none⟩ u) w0.heap.size e (.slice (some ⟨b,0,none⟩) n cap) (cs.set j u)/\Ext w0 (w.setCell ⟨b,j,none⟩ u):=by
 have hn:cs.length=n:=by
  rcases h.2 with⟨h',_⟩|⟨g',cap',cur,h',_⟩<;>simp at h';omega
 subst hn;have hs:=World.ownsRow.stored (w:=w) h j u;refine⟨?_,hE.setCell' (p:=⟨b,j,none⟩) (World.ownsRow.lt h b rfl).1 u⟩;unfold Own1;rw[oM];exact hs.1
def Own1.cellAt {w:World}{B:Nat}{e:TypeId}{b n cap:Nat}{cs:List Value}(h:Own1 w B e (.slice (some ⟨b,0,none⟩) n cap) cs)(j:Nat)(hj:j<cs.length):w.cell? ⟨b,j,none⟩=some cs[j]:=by
 have hn:cs.length=n:=by
  rcases h.2 with⟨h',_⟩|⟨g',cap',cur,h',_⟩<;>simp at h';omega
 subst hn;have:=World.ownsRow.cellAt (w:=w) h j (by omega);rw[this];simp[hj]
def Own1.kept {w:World}{e:TypeId}{v v2:Value}{cs:List Value}(h:Own1 w B e v2 cs)(hg:w.grownBy w' v.ownBlock)(hne:v2.ownBlock=none\/v2.ownBlock≠v.ownBlock):Own1 w' B e v2 cs:=
 World.ownsRow.kept h hg hne
def Apart (v v2:Value):Prop:=∀b,v.ownBlock=some b->v2.ownBlock≠some b
def Apart.symm {v v2:Value}(h:Apart v v2):Apart v2 v:=fun b h1 h2=>h b h2 h1
def Own1.lt {w:World}{e:TypeId}{v:Value}{cs:List Value}(h:Own1 w B e v cs)(hb:v.ownBlock=some b):b<w.heap.size:=(World.ownsRow.lt h b hb).2
def Own1.beside {w:World}{e:TypeId}{v v' v2:Value}{cs2:List Value}(h2:Own1 w B e v2 cs2) (hap:Apart v v2) (hg:w.grownBy w' v.ownBlock)
  (hb:(v'.ownBlock=v.ownBlock/\v.ownBlock≠none)\/v'.ownBlock=some w.heap.size):Own1 w' B e v2 cs2/\Apart v' v2:=by
 refine⟨h2.kept hg ?_,?_⟩
 ·cases h:v2.ownBlock with
  |none=>exact Or.inl rfl
  |some b=>
   right;intro h3;exact hap b h3.symm h
 ·intro b h3 h4;rcases hb with⟨h5,_⟩|h5
  ·exact hap b (h5▸h3) h4
  ·rw[h5]at h3;simp at h3;have:=h2.lt h4;omega
def Ext.at {w:World}(h:Ext w w'){v:Value}(hc:w.cell? ⟨b,o,none⟩=some v):w'.cell? ⟨b,o,none⟩=some v:=
 (h.cells b o (lt_of_cell hc)).trans hc
def Box (w:World)(b:Nat)(t:TypeId)(vs:Array Value):Prop:=w.heap[b]?=some (.cells vs t (0,0))
def Box.new (w:World)(t:TypeId)(vs:Array Value):Box (w.alloc (.cells vs t)) w.heap.size t vs:=heap_alloc_new w _
def Box.ext {w:World}{t:TypeId}{vs:Array Value}(h:Box w b t vs)(e:Ext w w'):Box w' b t vs:=by
 unfold Box at*
 rw[e.block b (bO.1 h).1];exact h
def Box.alloc {w:World}{t:TypeId}{vs:Array Value}(h:Box w b t vs)(o:Obj):Box (w.alloc o) b t vs:=h.ext (Ext.alloc w o)
def Box.lt {w:World}{t:TypeId}{vs:Array Value}(h:Box w b t vs):b<w.heap.size:=(bO.1 h).1
def Box.cell {w:World}{t:TypeId}{vs:Array Value}(h:Box w b t vs)(i:Nat):w.cell? ⟨b,i,none⟩=vs[i]?:=cell_of_row w b i vs t (0,0) h
def Box.free {w:World}{t:TypeId}{vs:Array Value}(h:Box w b t vs)(i:Nat):w.frozen? ⟨b,i,none⟩=false:=by
 unfold Box at h;simp[World.frozen?,h]
def Box.set {w:World}{t:TypeId}{vs:Array Value}(h:Box w b t vs)(i:Nat)(u:Value):Box (w.setCell ⟨b,i,none⟩ u) b t (vs.setIfInBounds i u):=by
 unfold Box at*
 exact heap_setCell_same w b i vs t u h
def Box.setOther {w:World}{c i:Nat}{t:TypeId}{vs:Array Value}(h:Box w b t vs)(hne:b≠c)(u:Value):Box (w.setCell ⟨c,i,none⟩ u) b t vs:=by
 unfold Box at*
 rw[heap_setCell_other w ⟨c,i,none⟩ b u hne];exact h
def Box.drewN {w:World}{t:TypeId}{vs:Array Value}(h:Box w b t vs)(n:Nat):Box (w.drewN n) b t vs:=h
end Go.Er
end
section
namespace Go
def iP:= @List.getElem_append_left
def lK:= @List.getElem_append_right
end Go
end
section
namespace Go.Er
open Go.RowKit
def alE (w:World)(a:Option Addr)(L:L2):Prop:=
 ∀i,(h:i<L.length)->∃b o ai ci,a=some ⟨b,o,none⟩/\w.cell? ⟨b,o+i,none⟩=some (.slice ai L[i].length ci)/\Ints w ai L[i]
variable {w':World}{a:Option Addr}
def alE.ext {w:World}{L:L2}(h:alE w a L)(e:Ext w w'):alE w' a L:=by
 intro i hi;obtain⟨b,o,ai,ci,h1,h2,h3⟩:=h i hi;exact⟨b,o,ai,ci,h1,e.at h2,h3.ext e⟩
variable {B:Nat}{e:TypeId}{v:Value}{cs:List Value}{b:Nat}
def Own1.setOther {w:World}(h:Own1 w B e v cs){j:Nat}(hne:v.ownBlock≠some b)(u:Value):Own1 (w.setCell ⟨b,j,none⟩ u) B e v cs:=by
 refine⟨h.1,?_⟩;rcases h.2 with h2|⟨g,cap,cur,rfl,hg,hh,r⟩
 ·exact Or.inl h2
 ·refine Or.inr ⟨g,cap,cur,rfl,hg,?_,r⟩;rw[heap_setCell_other w ⟨b,j,none⟩ g u (fun e=>hne (by simp only[Value.ownBlock];rw[e]))];exact hh
def Own1.shape {w:World}(h:Own1 w B e v cs)(hne:0<cs.length):∃g cap,v= .slice (some ⟨g,0,none⟩) cs.length cap:=by
 rcases h.2 with⟨_,hn⟩|⟨g,cap,cur,rfl,_⟩
 ·omega
 ·exact⟨g,cap,rfl⟩
def Apart.nil (v:Value):Apart (.slice none 0 0) v:=fun b h=>by simp[Value.ownBlock]at h
def Own2 (w:World)(B:Nat)(e2 e1:TypeId)(v:Value)(vs:List Value)(L:List (List Value)):Prop:=
 Own1 w B e2 v vs/\vs.length=L.length/\(∀i,(h:i<vs.length)->(h':i<L.length)->Own1 w B e1 vs[i] L[i]/\Apart vs[i] v)/\
  ∀i j,(h:i<vs.length)->(h':j<vs.length)->i≠j->Apart vs[i] vs[j]
variable {e2 e1:TypeId}{vs:List Value}{L:List (List Value)}
def Own2.ext {w:World}(h:Own2 w B e2 e1 v vs L)(hE:Ext w w'):Own2 w' B e2 e1 v vs L:=
 ⟨h.1.ext hE,h.2.1,fun i h1 h2=>⟨(h.2.2.1 i h1 h2).1.ext hE,(h.2.2.1 i h1 h2).2⟩,h.2.2.2⟩
variable {B':Nat}
def Own2.mono {w:World}(h:Own2 w B e2 e1 v vs L)(hB:B'<=B):Own2 w B' e2 e1 v vs L:=
 ⟨h.1.mono hB,h.2.1,fun i h1 h2=>⟨(h.2.2.1 i h1 h2).1.mono hB,(h.2.2.1 i h1 h2).2⟩,h.2.2.2⟩
def Own2.empty {w:World}(h:Own1 w B e2 v []):Own2 w B e2 e1 v [] []:=
 ⟨h,rfl,fun i h1 _=>by simp at h1,fun i j h1 _ _=>by simp at h1⟩
def Own2.push {w:World}{v':Value}{u:Value}(h:Own2 w B e2 e1 v vs L)
  (hu:Own1 w B e1 u cs) (huv:Apart u v) (hus:∀i,(hi:i<vs.length)->Apart u vs[i])
  (hv':Own1 w' B e2 v' (vs++[u])) (hg:w.grownBy w' v.ownBlock) (hb:(v'.ownBlock=v.ownBlock/\v.ownBlock≠none)\/v'.ownBlock=some w.heap.size):
  Own2 w' B e2 e1 v' (vs++[u]) (L++[cs]):=by
 obtain⟨h1,h2,h3,h4⟩:=h;have hbu:=hu.beside huv.symm hg hb;refine⟨hv',by simp[h2],?_,?_⟩
 ·intro i hi hi';simp only[aR,k_List_length_cons,jI]at hi hi';by_cases hlt:i<vs.length
  ·have:=h3 i hlt (by omega);have hbi:=this.1.beside this.2.symm hg hb;simp only[iP hlt,iP (show i<L.length by omega)];exact⟨hbi.1,hbi.2.symm⟩
  ·have e1:(vs++[u])[i]'(by simp;omega)=u:=by rw[lK (by omega)];simp
   have e2:(L++[cs])[i]'(by simp;omega)=cs:=by rw[lK (by omega)];simp
   rw[e1,e2];exact⟨hbu.1,hbu.2.symm⟩
 ·intro i j hi hj hne;simp only[aR,k_List_length_cons,jI]at hi hj;by_cases hli:i<vs.length
  ·by_cases hlj:j<vs.length
   ·simp only[iP hli,iP hlj];exact h4 i j hli hlj hne
   ·obtain rfl:j=vs.length:=by omega
    simp only[iP hli,lK (k_Nat_le_refl _),cB];exact(hus i hli).symm
  ·obtain rfl:i=vs.length:=by omega
   have hlj:j<vs.length:=by omega
   simp only[iP hlj,lK (k_Nat_le_refl _),cB];exact hus j hlj
variable {n k:Nat}
def Own2.put {w w0:World}{cap:Nat}{x:Value}(h:Own2 w w0.heap.size e2 e1 (.slice (some ⟨b,0,none⟩) n cap) vs L) (hE:Ext w0 w')
  (hk:k<vs.length) (hx:Own1 w' w0.heap.size e1 x cs) (hg:w.grownBy w' vs[k].ownBlock) (hb:(x.ownBlock=vs[k].ownBlock/\vs[k].ownBlock≠none)\/x.ownBlock=some w.heap.size):
  Own2 (w'.setCell ⟨b,k,none⟩ x) w0.heap.size e2 e1 (.slice (some ⟨b,0,none⟩) n cap) (vs.set k x) (L.set k cs)/\Ext w0 (w'.setCell ⟨b,k,none⟩ x):=by
 obtain⟨h1,h2,h3,h4⟩:=h;have hkv:=(h3 k hk (by omega)).2;have hv:=h1.beside hkv hg hb;have hset:=hv.1.set hE k x;have hne:∀y:Value,Apart y (.slice (some ⟨b,0,none⟩) n cap)->y.ownBlock≠some b:=fun y hy hyb=>hy b hyb rfl;refine⟨⟨hset.1,by simp[h2],?_,?_⟩,hset.2⟩
 ·intro i hi hi';have hi2:i<vs.length:=by simpa using hi
  have hi3:i<L.length:=by simpa using hi'
  rw[nO,nO];by_cases hik:k=i
  ·rw[if_pos hik,if_pos hik];exact⟨hx.setOther (hne _ hv.2) x,hv.2⟩
  ·rw[if_neg hik,if_neg hik];have:=h3 i hi2 hi3;have hbi:=this.1.beside (h4 k i hk hi2 hik) hg hb;exact⟨hbi.1.setOther (hne _ this.2) x,this.2⟩
 ·intro i j hi hj hne2;have hi2:i<vs.length:=by simpa using hi
  have hj2:j<vs.length:=by simpa using hj
  rw[nO,nO];by_cases hik:k=i
  ·rw[if_pos hik,if_neg (by omega)];subst hik;exact((h3 j hj2 (by omega)).1.beside (h4 k j hk hj2 hne2) hg hb).2
  ·rw[if_neg hik];by_cases hjk:k=j
   ·rw[if_pos hjk];subst hjk;exact((h3 i hi2 (by omega)).1.beside (h4 k i hk hi2 (k_Ne_symm hne2)) hg hb).2.symm
   ·rw[if_neg hjk];exact h4 i j hi2 hj2 hne2
def NS (B:Nat)(w w':World):Prop:=w.heap.size<=w'.heap.size/\∀k,B<=k->k<w.heap.size->w'.heap[k]?=w.heap[k]?
def NS.aDR {w:World}(h:Ext w w'):NS B w w':=⟨h.size,fun k _ hk=>h.block k hk⟩
def NS.trans {a b c:World}(h:NS B a b)(k:NS B b c):NS B a c:=
 ⟨k_Nat_le_trans h.1 k.1,fun i hi hk=>(k.2 i hi (dZ hk h.1)).trans (h.2 i hi hk)⟩
def NS.refl (B:Nat)(w:World):NS B w w:=⟨k_Nat_le_refl _,fun _ _ _=>rfl⟩
def NS.cell {w:World}(h:NS B w w'){o:Nat}(hb:B<=b)(hc:w.cell? ⟨b,o,none⟩=some v):w'.cell? ⟨b,o,none⟩=some v:=
 (World.cell?_of_block (a:=⟨b,o,none⟩) (h.2 b hb (lt_of_cell hc))).trans hc
def NS.setCell (w:World)(hb:b<B)(o:Nat)(u:Value):NS B w (w.setCell ⟨b,o,none⟩ u):=
 ⟨by simp,fun k hk _=>heap_setCell_other w ⟨b,o,none⟩ k u (by simp;omega)⟩
abbrev Rel (α:Type):=Nat->World->List Value->α->Prop
structure ab8 {α:Type}(R:Rel α):Prop where
 keep:∀{B w w' vs x},NS B w w'->R B w vs x->R B w' vs x
 mono:∀{B B' w vs x},B'<=B->R B w vs x->R B' w vs x
variable {α:Type}
def ab8.ext {R:Rel α}(g:ab8 R){w:World}{x:α}(h:R B w vs x)(hE:Ext w w'):R B w' vs x:=g.keep (NS.aDR hE) h
def aiQ (k:Nat)(R:Rel α)(B:Nat)(w:World)(a:Option Addr)(l:List α):Prop:=
 l.length<=maxLen/\∀i,(h:i<l.length)->∃b o vs,a=some ⟨b,o,none⟩/\B<=b/\vs.length=k/\(∀j,(hj:j<vs.length)->w.cell? ⟨b,o+i*k+j,none⟩=some vs[j])/\R B w vs l[i]
variable {l:List α}
def aiQ.keep {R:Rel α}(g:ab8 R){w:World}(h:aiQ k R B w a l)(hk:NS B w w'):aiQ k R B w' a l:=by
 refine⟨h.1,fun i hi=> ?_⟩;obtain⟨b,o,vs,h1,h2,h3,h4,h5⟩:=h.2 i hi;exact⟨b,o,vs,h1,h2,h3,fun j hj=>hk.cell h2 (h4 j hj),g.keep hk h5⟩
def aiQ.mono {R:Rel α}(g:ab8 R){w:World}(h:aiQ k R B w a l)(hB:B'<=B):aiQ k R B' w a l:=by
 refine⟨h.1,fun i hi=> ?_⟩;obtain⟨b,o,vs,h1,h2,h3,h4,h5⟩:=h.2 i hi;exact⟨b,o,vs,h1,k_Nat_le_trans hB h2,h3,h4,g.mono hB h5⟩
def aiQ.ext {R:Rel α}(g:ab8 R){w:World}(h:aiQ k R B w a l)(hE:Ext w w'):aiQ k R B w' a l:=h.keep g (NS.aDR hE)
def setCells (w:World)(N:Nat):Nat->List Value->World
 |_,[]=>w
 |o,u::us=>setCells (w.setCell ⟨N,o,none⟩ u) N (o+1) us
def setMany (arr:Array Value):Nat->List Value->Array Value
 |_,[]=>arr
 |o,u::us=>setMany (arr.setIfInBounds o u) (o+1) us
def aaS:∀(us:List Value) (arr:Array Value) (o:Nat),(setMany arr o us).size=arr.size
 |[],_,_=>rfl
 |u::us,arr,o=>by rw[setMany,aaS us];simp
def SY:∀(us:List Value) (arr:Array Value) (o m:Nat),o+us.length<=arr.size->(setMany arr o us)[m]?=if o<=m/\m<o+us.length then us[m-o]? else arr[m]?
 |[],arr,o,m,_=>by
  have:¬(o<=m/\m<o+([]:List Value).length):=by simp
  rw[if_neg this];rfl
 |u::us,arr,o,m,h=>by
  simp only[k_List_length_cons]at h;rw[setMany,SY us _ (o+1) m (by simp;omega)];by_cases h1:m=o
  ·subst h1;have h2:¬(m+1<=m/\m<m+1+us.length):=by omega
   have h3:m<=m/\m<m+(u::us).length:=by simp
   rw[if_neg h2,if_pos h3];have h4:m<arr.size:=by omega
   simp[h4]
  ·by_cases h2:o+1<=m/\m<o+1+us.length
   ·have h3:o<=m/\m<o+(u::us).length:=by simp;omega
    rw[if_pos h2,if_pos h3];have h4:m-o=(m-(o+1))+1:=by omega
    rw[h4,nG]
   ·have h3:¬(o<=m/\m<o+(u::us).length):=by simp;omega
    rw[if_neg h2,if_neg h3];rw[Array.getElem?_setIfInBounds];have h4:¬o=m:=fun h=>h1 h.symm;rw[if_neg h4]
variable {N:Nat}
def Box.setCells :∀(us:List Value) {w:World}{arr:Array Value}(o:Nat),Box w N e arr->Box (setCells w N o us) N e (setMany arr o us)
 |[],_,_,_,h=>h
 |u::us,_,_,o,h=>Box.setCells us (o+1) (h.set o u)
def VO (hB:N<B):∀(us:List Value) (w:World) (o:Nat),NS B w (setCells w N o us)
 |[],_,_=>⟨k_Nat_le_refl _,fun _ _ _=>rfl⟩
 |u::us,w,o=>(NS.setCell w hB o u).trans (VO hB us _ (o+1))
def zA (k:Nat)(R:Rel α)(N:Nat)(e:TypeId)(n:Nat)(w:World)(l:List α)(i:Nat):Prop:=
 ∃arr:Array Value,Box w N e arr/\arr.size=n*k/\∀j,(hj:j<l.length)->j<i->∃vs:List Value,vs.length=k/\(∀t,(ht:t<vs.length)->arr[j*k+t]?=some vs[t])/\R (N+1) w vs l[j]
variable {i:Nat}
def zA.cell {R:Rel α}{w:World}(h:zA k R N e n w l i){m:Nat}(hm:m<n*k):∃y,w.cell? ⟨N,m,none⟩=some y:=by
 obtain⟨arr,h1,h2,_⟩:=h;have h3:m<arr.size:=by omega
 exact⟨arr[m],by rw[h1.cell m];simp[h3]⟩
def zA.free {R:Rel α}{w:World}(h:zA k R N e n w l i)(m:Nat):w.frozen? ⟨N,m,none⟩=false:=by
 obtain⟨arr,h1,_⟩:=h;exact h1.free m
def zA.lt {R:Rel α}{w:World}(h:zA k R N e n w l i):N<w.heap.size:=by
 obtain⟨arr,h1,_⟩:=h;exact h1.lt
def zA.ext {R:Rel α}(g:ab8 R){w:World}(h:zA k R N e n w l i)(hE:Ext w w'):zA k R N e n w' l i:=by
 obtain⟨arr,h1,h2,h3⟩:=h;refine⟨arr,h1.ext hE,h2,fun j hj hji=> ?_⟩;obtain⟨vs,h4,h5,h6⟩:=h3 j hj hji;exact⟨vs,h4,h5,g.ext h6 hE⟩
def zA.start {R:Rel α}{w:World}{xs:List Value}(h:w.ownsRow B e k (.slice (some ⟨N,0,none⟩) n n) n xs)(hn:l.length<=n):zA k R N e n w l 0:=by
 rcases h.2 with⟨h1,_⟩|⟨g,cap,cur,h1,_,h2,_,_,h3,_⟩
 ·cases h1
 ·cases h1;exact⟨cur,h2,h3,fun j _ hj=>absurd hj (by omega)⟩
def zA.step {α:Type}{k:Nat}{R:Rel α}(g:ab8 R) {N:Nat}{e:TypeId}{n:Nat}{w:World}{l:List α}{i:Nat}(h:zA k R N e n w l i) (hi:i<l.length) (hn:l.length<=n)
  {us:List Value}(hu:us.length=k) (hR:R (N+1) w us l[i]):zA k R N e n (setCells w N (i*k) us) l (i+1):=by
 obtain⟨arr,h1,h2,h3⟩:=h;have hb:(i+1)*k<=n*k:=aX k (by omega);have hb2:i*k+us.length<=arr.size:=by rw[h2,hu];rw[k_Nat_add_mul]at hb;omega
 have hkp:=VO (N:=N) (B:=N+1) (by omega) us w (i*k);refine⟨_,h1.setCells us (i*k),by rw[aaS];exact h2,fun j hj hji=> ?_⟩;by_cases hji2:j=i
 ·subst hji2;refine⟨us,hu,fun t ht=> ?_,g.keep hkp hR⟩;rw[SY us arr _ _ hb2,if_pos ⟨by omega,by omega⟩];have:j*k+t-j*k=t:=by omega
  rw[this];simp[ht]
 ·obtain⟨vs,h4,h5,h6⟩:=h3 j hj (by omega);refine⟨vs,h4,fun t ht=> ?_,g.keep hkp h6⟩;have hlt:(j+1)*k<=i*k:=aX k (by omega);rw[k_Nat_add_mul]at hlt;rw[SY us arr _ _ hb2,if_neg (by omega)];exact h5 t ht
def zA.done {R:Rel α}(g:ab8 R){w:World}(h:zA k R N e n w l l.length)(hl:l.length<=maxLen):aiQ k R N w (some ⟨N,0,none⟩) l:=by
 obtain⟨arr,h1,h2,h3⟩:=h;refine⟨hl,fun i hi=> ?_⟩;obtain⟨vs,h4,h5,h6⟩:=h3 i hi hi;refine⟨N,0,vs,rfl,k_Nat_le_refl _,h4,fun j hj=> ?_,g.mono (by omega) h6⟩;rw[h1.cell,bT];exact h5 j hj
def Box.keep {w:World}{t:TypeId}{vs:Array Value}(h:Box w b t vs)(hk:NS B w w')(hb:B<=b):Box w' b t vs:=by
 have hs:=h.lt;unfold Box at*
 rw[hk.2 b hb hs];exact h
end Go.Er
end
section
namespace Go.Dv
open Go.RowKit
variable [lL]
def putC:Nat->List (Nat×Option D)->St->St
 |k,(b,none)::cs,s=>(putC (k+1) cs s).put k (.rf (1000000+2*b) [0])
 |k,(_,some d)::cs,s=>(putC (k+1) cs s).put k (.rp d)
 |_,[],s=>s
def putR:List (Nat×D)->St->St
 |(b,d)::rd,s=>(putR rd s).put (1000000+2*b) (.rp d)
 |[],s=>s
def putG:List (Nat×D)->St->St
 |(b,d)::gs,s=>(putG gs s).put (1000000+2*b) (.own (.bx true d))
 |[],s=>s
def wSt (ds:List D)(cs:List (Nat×Option D))(rd gs:List (Nat×D)):St:=putG gs (putR rd (putC ds.length cs (argSt ds)))
def getG:List (Nat×D)->St->(List D->Prop)->Prop
 |[],_,K=>K []
 |(b,_)::gs,s,K=>match s (1000000+2*b)with
  | .own (.bx true d)=>getG gs s fun ds=>K (d::ds)
  |_=>False
def endW (T:TypeId->TyE)(rs:List ResultVar)(gs:List (Nat×D))(Q:S->List D->Prop):Exit->St->Prop
 | .normal,s=>retL T rs s fun ds s2=>getG gs s2 fun ds'=>Q (retS ds) ds'
 | .ret,s=>retL T rs s fun ds s2=>getG gs s2 fun ds'=>Q (retS ds) ds'
 |_,_=>False
def aj8 {s:St}:∀{gs:List (Nat×D)}{K:List D->Prop},getG gs s K->∃ds',K ds'/\ds'.length=gs.length/\∀(j:Nat) (g:Nat×D) (d':D),gs[j]?=some g->ds'[j]?=some d'->s (1000000+2*g.1)= .own (.bx true d')
 |[],K,h=>⟨[],h,rfl,fun j g d' hj=>by simp at hj⟩
 |(b,d0)::gs,K,h=>by
  unfold getG at h;split at h
  ·rename_i d hs;obtain⟨ds',h1,h2,h3⟩:=aj8 h;refine⟨d::ds',h1,by simp[h2],fun j g d' hj hj'=> ?_⟩;cases j with
   |zero=>simp at hj hj';subst hj;subst hj';exact hs
   |succ j=>exact h3 j g d' (by simpa using hj) (by simpa using hj')
  ·exact h.elim
def inG (gs:List (Nat×D))(lab:List Nat):Bool:=gs.any fun g=>lab.getLast?==some (1000000+2*g.1)
variable {gs:List (Nat×D)}
def aCF {g:Nat×D}{q:List Nat}(hg:g∈gs):inG gs (q++[1000000+2*g.1])=true:=cZ.2 ⟨g,hg,by simp⟩
def aCE {lab:List Nat}(h:∀g∈gs,∀q,lab≠q++[1000000+2*g.1]):inG gs lab=false:=by
 rw[kE];intro hi;obtain⟨g,hg,he⟩:=cZ.1 hi
 obtain⟨q,hq⟩:∃q,lab=q++[1000000+2*g.1]:=by
  have:lab.getLast?=some (1000000+2*g.1):=by simpa using he
  exact⟨lab.dropLast,by rw[pV]at this;obtain⟨ys,rfl⟩:=this;simp⟩
 exact h g hg q hq
def VP (gs:List (Nat×D))(ow:Own):Own:=fun b=>match ow b with
 |none=>none
 |some lab=>if inG gs lab=true then some lab else some (lab++[far0])
def QS (w:World)(gs:List (Nat×D))(t:Nat)(ow ow1:Own):Own:=fun b=>
 if b<w.heap.size/\(match ow b with|none=>true|some lab=> !inG gs lab)=true then ow b else match ow1 b with
  |none=>none
  |some lab=>if inG gs lab=true then some lab else if lab.getLast?=some res0 then some (lab.dropLast++[t])else none
def O4 {P:Program}{w:World}{ow:Own}:∀{gs:List (Nat×D)}{s:St}{i:Nat},(∃g∈gs,i=1000000+2*g.1/\putG gs s i= .own (.bx true g.2))\/((∀g∈gs,i≠1000000+2*g.1)/\putG gs s i=s i)
 |[],s,i=> .inr ⟨fun g hg=>by simp at hg,rfl⟩
 |(b,d)::gs,s,i=>by
  by_cases hi:i=1000000+2*b
  ·exact .inl ⟨(b,d),by simp,hi,by simp[putG,St.put,hi]⟩
  ·simp only[putG,St.put,if_neg hi];rcases O4 (P:=P) (w:=w) (ow:=ow) (gs:=gs) (s:=s) (i:=i)with⟨g,h1,h2,h3⟩|⟨h1,h2⟩
   ·exact .inl ⟨g,by simp[h1],h2,h3⟩
   ·refine .inr ⟨fun g hg=> ?_,h2⟩;rcases aK.1 hg with rfl|hg
    ·exact hi
    ·exact h1 g hg
def XR:∀{rd:List (Nat×D)}{s:St}{i:Nat},(∃p∈rd,i=1000000+2*p.1/\putR rd s i= .rp p.2)\/putR rd s i=s i
 |[],s,i=> .inr rfl
 |(b,d)::rd,s,i=>by
  by_cases hi:i=1000000+2*b
  ·exact .inl ⟨(b,d),by simp,hi,by simp[putR,St.put,hi]⟩
  ·simp only[putR,St.put,if_neg hi];rcases XR (rd:=rd) (s:=s) (i:=i)with⟨g,h1,h2,h3⟩|h2
   ·exact .inl ⟨g,by simp[h1],h2,h3⟩
   ·exact .inr h2
def O3:∀{cs:List (Nat×Option D)}{k:Nat}{s:St}{i:Nat},(∃j c,cs[j]?=some c/\i=k+j/\putC k cs s i=(match c.2 with|none=> .rf (1000000+2*c.1) [0]|some d=> .rp d))\/putC k cs s i=s i
 |[],k,s,i=> .inr rfl
 |(b,none)::cs,k,s,i=>by
  by_cases hi:i=k
  ·exact .inl ⟨0,(b,none),rfl,hi,by simp[putC,St.put,hi]⟩
  ·simp only[putC,St.put,if_neg hi];rcases O3 (cs:=cs) (k:=k+1) (s:=s) (i:=i)with⟨j,c,h1,h2,h3⟩|h2
   ·exact .inl ⟨j+1,c,by simpa using h1,by omega,h3⟩
   ·exact .inr h2
 |(b,some d)::cs,k,s,i=>by
  by_cases hi:i=k
  ·exact .inl ⟨0,(b,some d),rfl,hi,by simp[putC,St.put,hi]⟩
  ·simp only[putC,St.put,if_neg hi];rcases O3 (cs:=cs) (k:=k+1) (s:=s) (i:=i)with⟨j,c,h1,h2,h3⟩|h2
   ·exact .inl ⟨j+1,c,by simpa using h1,by omega,h3⟩
   ·exact .inr h2
def aMU {P:Program}{T:TypeId->TyE}{f:FuncId}{fn:Func}{c:Code}{n:Nat}{rs:List ResultVar}{ds:List D}{cs:List (Nat×Option D)}{rd:List (Nat×D)}{Q:S->List D->Prop}(hG:∀t,Good P T t) (hf:P.funcs[f]?=some fn) (hb:fn.body=some c) (hn':fn.ntmps=n) (hn:n<=1000000) (hd:ds.length+cs.length<=n)
  (hr:fn.results=rs.toArray) (hcs:∀c∈cs,match c.2 with|none=>∃g∈gs,g.1=c.1|some d=>∃p∈rd,p=(c.1,d)) (h:∀w0 ow0,OkC P n w0 ow0 none c (wSt ds cs rd gs) (endW T rs gs Q)):FnW P f ds cs rd gs Q:=by
 subst hn';intro w ow vs t ht hL hnew hvs hargs hcap hrd hgs;refine calls_of_wp hf hb ?_
 have hav:∀i,i<ds.length+cs.length->aval {tmps:=vs++Array.replicate (fn.ntmps-vs.size) undef,defers:=[]} i=vs.getD i undef:=by
  intro i hi;unfold aval;rw[if_pos (by omega)];simp only[aF];rw[fC (by omega)]
 have havg:∀(a:Act) (b:Nat),aval a (1000000+2*b)= .pointer (some ⟨b,0,none⟩):=fun a b=>by
  unfold aval;rw[if_neg (by omega)];have:(1000000+2*b-1000000)/2=b:=by omega
  rw[this]
 have hlnone:∀b,ow b=none->VP gs ow b=none:=fun b hb=>by simp[VP,hb]
 have hlhit:∀g∈gs,∀b q,ow b=some (q++[1000000+2*g.1])->VP gs ow b=some (q++[1000000+2*g.1]):=fun g hg b q hb=>by simp only[VP,hb];rw[if_pos (aCF hg)]
 have hq0:Quiet w ow w (VP gs ow):=fun b _ ho=>⟨rfl,hlnone b ho⟩
 have hrp:∀(b:Nat) (d:D),V P w ow (D.bx false d).fz [] (.pointer (some ⟨b,0,none⟩))->∀s a i,SV P w (VP gs ow) s a i (.rp d) (.pointer (some ⟨b,0,none⟩)):=by
  intro b d h1 s a i;have h2:=V.trf (l2:=[]) hq0 h1;simp only[V,D.fz,R]at h2;obtain⟨b',off,C,e,fz,cs,g1,g2,g3,_,g5,g6,g7⟩:=h2;simp only[mD,rH,aJ,and_true]at g1;obtain⟨rfl,rfl,_⟩:=Addr.mk.inj g1;exact⟨b,0,rfl,g3 trivial,C,e,fz,cs,g2,fun j hj=>g6 j (by rw[g5];exact hj),R.trf (fun b _ hb=>⟨rfl,hb⟩) g7⟩
 have hfit:Fits P fn.ntmps w (VP gs ow) (VP gs ow) (wSt ds cs rd gs) {tmps:=vs++Array.replicate (fn.ntmps-vs.size) undef,defers:=[]} w:=by
  refine⟨rfl,by simp;omega,hn,(hL.mono fun b o h1 h2=>⟨h1,hlnone b h2⟩),⟨rfl,rfl,rfl,k_Nat_le_refl _,fun _ _ _=>rfl⟩,fun _ _ h=>h,fun b hb=>hlnone b (hnew b hb),?_,fun _ _ _ h=>⟨rfl,h⟩,fun i=> ?_⟩
  ·have e0:argSt ds far0= .un:=by unfold argSt;rw[k_List_getElem__eq_none (by unfold far0;omega)]
   rcases O4 (P:=P) (w:=w) (ow:=ow) (gs:=gs) (s:=putR rd (putC ds.length cs (argSt ds))) (i:=far0)with⟨g,_,h2,_⟩|⟨_,h2⟩
   ·unfold far0 at h2;omega
   ·unfold wSt;rw[h2];rcases XR (rd:=rd) (s:=putC ds.length cs (argSt ds)) (i:=far0)with⟨g,_,h2,_⟩|h2
    ·unfold far0 at h2;omega
    ·rw[h2];rcases O3 (cs:=cs) (k:=ds.length) (s:=argSt ds) (i:=far0)with⟨j,c,h1,h2,_⟩|h2
     ·have:=(aD.1 h1).1;unfold far0 at h2;omega
     ·rw[h2];exact e0
  ·rcases O4 (P:=P) (w:=w) (ow:=ow) (gs:=gs) (s:=putR rd (putC ds.length cs (argSt ds))) (i:=i)with⟨g,h1,rfl,h3⟩|⟨h1,h2⟩
   ·unfold wSt;rw[h3,havg];exact V.tr (fun b _=>⟨fun ho=>⟨rfl,hlnone b ho⟩,fun q hq=>⟨rfl,hlhit g h1 b q hq⟩⟩) (hgs g h1)
   ·have hw:wSt ds cs rd gs i=putR rd (putC ds.length cs (argSt ds)) i:=h2;rw[hw];rcases XR (rd:=rd) (s:=putC ds.length cs (argSt ds)) (i:=i)with⟨p,k1,rfl,k3⟩|k2
    ·rw[k3,havg];exact hrp _ _ (hrd p k1) _ _ _
    ·rw[k2];rcases O3 (cs:=cs) (k:=ds.length) (s:=argSt ds) (i:=i)with⟨j,c,e1,rfl,e3⟩|e2
     ·have hjl:=(aD.1 e1).1;rw[e3,hav _ (by omega),hcap j c e1];have hc:=hcs c (aA e1);cases hc2:c.2 with
      |some d=>
       rw[hc2]at hc;obtain⟨p,hp,rfl⟩:=hc;exact hrp _ _ (hrd _ hp) _ _ _
      |none=>
       rw[hc2]at hc;obtain⟨g,hg,hgc⟩:=hc;rcases O4 (P:=P) (w:=w) (ow:=ow) (gs:=gs) (s:=putR rd (putC ds.length cs (argSt ds))) (i:=1000000+2*c.1)with⟨g',h1',h2',h3'⟩|⟨h1',_⟩
       ·have:g'.1=c.1:=by omega
        refine⟨.bx true g'.2,g'.2,c.1,0,h3',by simp[D.sub,D.kid],?_,rfl⟩;rw[havg];simp[loc,into,eX]
       ·exact absurd (by rw[hgc]) (h1' g hg)
     ·rw[e2];unfold argSt;cases hdi:ds[i]? with
      |none=>trivial
      |some d=>
       have hi:i<ds.length:=(aD.1 hdi).1;simp only[SV];rw[hav i (by omega)];exact V.trf hq0 (hargs i d hdi)
 refine h w _ _ w ⟨_,hfit⟩ (fun m v e=>by cases e) _ fun e s' a' w' hK hR _=> ?_
 have key:(retL T rs s' fun ds s2=>getG gs s2 fun ds'=>Q (retS ds) ds')->bodyPost P fn (fun e w'=>∃v ow' r ds',e= .returned v/\Q r ds'/\w'.os=w.os/\w'.tape=w.tape/\w'.output=w.output/\w.heap.size<=w'.heap.size/\
   (∀b,b<w.heap.size->(∀g∈gs,∀q,ow b≠some (q++[1000000+2*g.1]))->w'.heap[b]?=w.heap[b]?/\ow' b=ow b)/\(∀b,w'.heap.size<=b->ow' b=none)/\
   ds'.length=gs.length/\(∀(j:Nat) (g:Nat×D) (d':D),gs[j]?=some g->ds'[j]?=some d'->V P w' ow' (.bx true d') [1000000+2*g.1] (.pointer (some ⟨g.1,0,none⟩)))/\S.plain r=true/\∀s a,SV P w' ow' s a t r v) .ret a' w':=by
  intro hK;obtain⟨ow1,hf1⟩:=hR;obtain⟨vals,ow2,s2,ds2,hQ,hf2,hl1,hl2,hrun,hvals,hkeep⟩:=hf1.retL hG (fun k=>if rs.length=1 then[]else[k]) rs 0 hK;obtain⟨ds',hQ,hdl,hds⟩:=aj8 hQ
  have hres:(results fn a'.tmps).run P w'= .ok (if h:vals.toArray.size=1 then vals.toArray[0]else .tuple vals.toArray) w':=by
   unfold results;rw[hr];have hb:∀{α β:Type}(x:Sem α) (g:α->Sem β),Sem.run P (Sem.bind x g) w'=(Sem.run P x w').andThen fun a w'=>Sem.run P (g a) w':=fun x g=>aI ..;simp only[tC,Functor.map,aI,aU];rw[hb,hrun _ (aaQ a'.tmps P w' _ (fun _=>rfl) fun _ _=>rfl)];rfl
  refine⟨hf1.nodef,_,hres,?_⟩
  have hmiss:∀b,b<w.heap.size->(∀lab,ow b=some lab->inG gs lab=false)->w'.heap[b]?=w.heap[b]?/\(ow b=none->ow2 b=none)/\(∀lab,ow b=some lab->ow2 b=some (lab++[far0])):=by
   intro b hlt hno;cases ho:ow b with
   |none=>exact⟨hf2.bel.block b hlt (hlnone b ho),fun _=>hf2.own b hlt (hlnone b ho),fun lab e=>by cases e⟩
   |some lab=>
    have hlab:VP gs ow b=some (lab++[far0]):=by simp[VP,ho,hno lab ho]
    obtain⟨g1,g2⟩:=hf2.keep b hlt lab hlab;exact⟨g1,fun e=>(by cases e),fun lab' e=>by obtain rfl:=k_Option_some_inj e;exact g2⟩
  have hcond:∀b,(match ow b with|none=>true|some lab=> !inG gs lab)=true↔∀lab,ow b=some lab->inG gs lab=false:=by
   intro b;cases ho:ow b with
   |none=>simp
   |some lab=>simp
  have hnone:∀b,ow2 b=none->QS w gs t ow ow2 b=none:=by
   intro b hb;unfold QS;by_cases hc:b<w.heap.size/\(match ow b with|none=>true|some lab=> !inG gs lab)=true
   ·rw[if_pos hc];cases ho:ow b with
    |none=>rfl
    |some lab=>
     have:=(hmiss b hc.1 ((hcond b).1 hc.2)).2.2 lab ho;rw[hb]at this;cases this
   ·rw[if_neg hc,hb]
  have hlast:∀b q j,ow2 b=some (q++[j])->j≠far0->¬(b<w.heap.size/\(match ow b with|none=>true|some lab=> !inG gs lab)=true):=by
   rintro b q j hq hj ⟨h1,h2⟩;obtain⟨_,g1,g2⟩:=hmiss b h1 ((hcond b).1 h2);cases ho:ow b with
   |none=>rw[g1 ho]at hq;cases hq
   |some lab=>
    rw[g2 lab ho]at hq;have:=congrArg List.getLast? (k_Option_some_inj hq);simp at this;exact hj this.symm
  have hkg:∀g∈gs,Keeps w' ow2 [1000000+2*g.1] w' (QS w gs t ow ow2) [1000000+2*g.1]:=fun g hg b _=>⟨fun ho=>⟨rfl,hnone b ho⟩,fun q hq=>⟨rfl,by
   unfold QS;rw[if_neg (hlast b q _ hq (by unfold far0;omega)),hq];simp only;rw[if_pos (aCF hg)]⟩⟩
  have hnr:∀q,inG gs (q++[res0])=false:=fun q=>aCE fun g hg q' e=>by
   have:=congrArg List.getLast? e;simp[res0]at this;omega
  have hk:∀l2,Keeps w' ow2 (l2++[res0]) w' (QS w gs t ow ow2) (l2++[t]):=fun l2 b _=>⟨fun ho=>⟨rfl,hnone b ho⟩,fun q hq=>⟨rfl,by
   have hq':ow2 b=some ((q++l2)++[res0]):=by rw[hq];simp
   unfold QS;rw[if_neg (hlast b _ res0 hq' (by unfold res0 far0;omega)),hq'];simp only;rw[hnr];simp⟩⟩
  have hq:Quiet w' ow2 w' (QS w gs t ow ow2):=fun b _ ho=>⟨rfl,hnone b ho⟩
  have part:∀(j:Nat) (p:D×Bool),ds2[j]?=some p->∃v,vals[j]?=some v/\(if(p.2||p.1.frz)=true then V P w' (QS w gs t ow ow2) p.1.fz [] v else V P w' (QS w gs t ow ow2) p.1 ((if rs.length=1 then[]else[j])++[t]) v):=by
   intro j p hj;obtain⟨v,h1,h2,h3⟩:=hvals j p hj;rw[bT]at h2;refine⟨v,h1,?_⟩;by_cases hp:(p.2||p.1.frz)=true
   ·rw[if_pos hp]
    have hfz:p.1.fz=p.1:=by
     rcases bN _ _▸hp with hp|hp
     ·exact h3 hp
     ·exact D.WZ hp
    rw[←hfz]at h2;exact V.trf hq h2
   ·rw[if_neg hp];exact V.tr (hk _) h2
  refine⟨_,QS w gs t ow ow2,retS ds2,ds',rfl,hQ,hf2.bel.os,hf2.bel.tape,hf2.bel.output,hf2.bel.size,fun b hb hno=> ?_,fun b hb=>hnone b (hf2.new b hb),hdl,fun j g d' hj hj'=> ?_,?_,fun s a=> ?_⟩
  ·have hn2:∀lab,ow b=some lab->inG gs lab=false:=fun lab hl=>aCE fun g hg q e=>hno g hg q (by rw[hl,e]);exact⟨(hmiss b hb hn2).1,by unfold QS;rw[if_pos ⟨hb,(hcond b).2 hn2⟩]⟩
  ·have h1:=hf2.slot (1000000+2*g.1);rw[hds j g d' hj hj',havg]at h1;exact V.tr (hkg g (aA hj)) h1
  ·unfold retS;split
   ·split<;>rfl
   ·rfl
  ·by_cases hone:rs.length=1
   ·have hd1:ds2.length=1:=by rw[hl1,hone]
    have hv1:vals.length=1:=by rw[hl2,hone]
    obtain⟨⟨d,b⟩,rfl⟩:=eP.1 hd1;obtain⟨v,rfl⟩:=eP.1 hv1;obtain⟨v',h1,h2⟩:=part 0 (d,b) rfl;obtain rfl:v=v':=by simpa using h1
    rw[if_pos hone]at h2;simp only[retS];by_cases hp:(b||d.frz)=true
    ·rw[if_pos hp]at h2|-
     exact h2
    ·rw[if_neg hp]at h2|-
     exact h2
   ·have hd1:∀p,ds2≠[p]:=fun p e=>by rw[e]at hl1;simp at hl1;exact hone hl1.symm
    have htup:retS ds2= .tup (ds2.map fun p=>if p.2||p.1.frz then .val p.1 else .own p.1):=by
     unfold retS;split
     ·rename_i d b;exact absurd rfl (hd1 _)
     ·rfl
    rw[htup];refine⟨vals.toArray,?_,by simp[hl1,hl2],fun j x hx=> ?_⟩
    ·rw[dif_neg];simp[hl2,hone]
    ·simp only[aS,aL]at hx;obtain⟨p,hp,rfl⟩:=hx;obtain⟨v,h1,h2⟩:=part j p hp;have hv:vals.toArray.getD j undef=v:=by simp[aF,h1]
     rw[hv];by_cases hpf:(p.2||p.1.frz)=true
     ·rw[if_pos hpf]at h2|-
      exact h2
     ·rw[if_neg hpf]at h2|-
      rw[if_neg hone]at h2;exact h2
 cases e with
 |normal=>exact key hK
 |ret=>exact key hK
 |_=>exact hK.elim
attribute [go_sem] endW wSt putG putR putC getG
end Go.Dv
end
section
namespace Go.Dv
open Go.RowKit Go.Pl
variable [lL]
variable {ds:List D}
def argB_nil :argB [] ds=argSt ds:=rfl
variable {b:Nat}{gs:List (Nat×D)}
def argB_cons {d:D}:argB ((b,d)::gs) ds=(argB gs ds).put (1000000+2*b) (.rp d):=rfl
variable {P:Program}{f:FuncId}{fn:Func}{c:Code}{n:Nat}{rs:List ResultVar}
def fB {T:TypeId->TyE}{Q:S->Prop}[hG:xD P T] (sp:List Nat) (hn':fn.ntmps=n) (h:∀w0 ow0,@WC _ P T n w0 ow0 none sp ⟨c⟩ (argB gs ds) ⟨endR T rs Q⟩) (hf:P.funcs[f]?=some fn:=by rfl)
  (hb:fn.body=some c:=by rfl) (hr:fn.results=rs.toArray:=by rfl) (hn:n<=1000000:=by decide) (hd:ds.length<=n:=by simp):yX P f ds gs Q:=aBR hG.g hf hb hn' hn hd hr fun w0 ow0=>wcI hG.g sp (h w0 ow0) (AL c)
def ckB {rs:List Nat}{K:S->Prop}{r:S}(h:yX P f ds gs (fun r'=>r'=r))(hK:(rs=[]\/r.closed=true)/\K r):(asL (k:=⟨K⟩) P f ds gs rs):=axE h hK.1 hK.2
variable {cs:List (Nat×Option D)}{rd:List (Nat×D)}{Q:S->List D->Prop}
def fW {T:TypeId->TyE}[hG:xD P T] (sp:List Nat) (hn':fn.ntmps=n) (h:∀w0 ow0,@WC _ P T n w0 ow0 none sp ⟨c⟩ (wSt ds cs rd gs) ⟨endW T rs gs Q⟩) (hf:P.funcs[f]?=some fn:=by rfl)
  (hb:fn.body=some c:=by rfl) (hr:fn.results=rs.toArray:=by rfl) (hn:n<=1000000:=by decide) (hd:ds.length+cs.length<=n:=by simp) (hcs:∀c∈cs,match c.2 with|none=>∃g∈gs,g.1=c.1|some d=>∃p∈rd,p=(c.1,d):=by simp):FnW P f ds cs rd gs Q:=aMU hG.g hf hb hn' hn hd hr hcs fun w0 ow0=>wcI hG.g sp (h w0 ow0) (AL c)
variable {s:St}
def aBF {T:TypeId->TyE}:endW T rs gs Q .normal s=retL T rs s fun ds s2=>getG gs s2 fun ds'=>Q (retS ds) ds':=rfl
def aBG {T:TypeId->TyE}:endW T rs gs Q .ret s=retL T rs s fun ds s2=>getG gs s2 fun ds'=>Q (retS ds) ds':=rfl
attribute [go_sem ↓] aBF aBG
class aMN where
 P:Prop
def aI3 [E:aMN]:Prop:=E.P
def Z6 {A:Prop}(h:A): @aI3 ⟨A⟩:=h
def YC {bs rs:List Nat}{L:List (Nat×D)->List (Nat×D)->(List Nat->Prop)->Prop}{K:S->List D->List (Nat×D)->Prop}(h:FnW P f ds cs rd gs Q) (hc:cs.map (fun c=>c.1)=bs)
  (hL:L rd gs fun rs2=>(∀r∈rs++rs2,∀g∈gs,r≠1000000+2*g.1)/\ @aI3 ⟨∀r ds',Q r ds'->(rs++rs2=[]\/(r.closed=true/\D.nU ds'=true))/\K r ds' gs⟩): @aAW _ P f ds bs rs ⟨L,K⟩:=afM h hc hL
variable {u:Nat}{K:List Nat->St->Prop}
def kY {c:Nat}{cs:List Nat}(d:D)(hs:s c= .own (.bx true d))(h:∀b,oP s b->VH u ((((s.kill (1000000+2*b)).kill c).put (1000000+2*b) (.own (.bx true d))).put c (.rf (1000000+2*b) [0])) cs fun bs s'=>K (b::bs) s')(h1:u≠c:=by decide)(h2:c<1000000:=by decide):VH u s (c::cs) K:=by
 unfold VH;refine⟨h1,h2,?_⟩;rw[hs];exact h
def MK (h:K [] s):VH u s [] K:=h
def nW:List Nat->Prop
 |[]=>True
 |a::l=>(∀b∈l,¬a=b/\¬b=a)/\nW l
def gl_ne (h:n<1000000):(n=1000000+2*b)=False:=eq_false (by omega)
def gl_en (h:n<1000000):(1000000+2*b=n)=False:=eq_false (by omega)
def gl_lt :(1000000+2*b<1000000)=False:=eq_false (by omega)
def gl_eq {c:Nat}:(1000000+2*b=1000000+2*c)=(b=c):=propext ⟨fun h=>by omega,fun h=>by rw[h]⟩
def gl_eq2 {c:Nat}:(2*b=2*c)=(b=c):=propext ⟨fun h=>by omega,fun h=>by rw[h]⟩
attribute [go_sem] gl_ne gl_en gl_lt gl_eq gl_eq2
attribute [go_sem] argB_nil argB_cons
end Go.Dv
end
section
namespace Go.Dv
open Go.RowKit
variable [lL]
def arW {P:Program}{n:Nat}{s:St}(k G:Nat){d:D}(h1:s k= .rf G [0])(h2:s G= .own (.bx true d))(hk:k≠far0):vQ P n s ((s.V9 G).put k (.val (D.bx false d.fz))):=by
 intro w0 ow0 a w ⟨ow,hf⟩;have hkG:k≠G:=by rintro rfl;rw[h1]at h2;cases h2
 have hv:aval a k=aval a G:=by
  have hV:=hf.slot k;rw[h1]at hV;obtain⟨d',m,b,off,e1,e2,e3,e4⟩:=hV;rw[h2]at e1;obtain rfl:D.bx true d=d':=by injection e1
  have hG:=hf.slot G;rw[h2]at hG;simp only[SV,V,R]at hG;obtain⟨b2,off2,C,e,fz,cs',g1,_⟩:=hG;have g1:aval a G= .pointer (some ⟨b2,off2,none⟩):=by simpa using g1
  rw[g1]at e3;simp only[loc,into,if_true,eX,aJ,bZ]at e3;obtain⟨rfl,rfl⟩:=e3;rw[e4,g1]
 obtain⟨ow',hf'⟩:=hf.V9 G;have hsG:(s.V9 G) G= .val (D.bx true d).fz:=by unfold St.V9;rw[h2];simp[St.put]
 have hsk:((s.V9 G) k).fJ=false:=by
  unfold St.V9;rw[h2];simp only[St.put,if_neg hkG];unfold St.kill;simp[hkG,h1,S.drop,S.root,S.fJ]
 refine⟨_,hf'.tell hk hsk ?_⟩;have:=hf'.slot G;rw[hsG]at this;simp only[SV,D.fz,D.ZP]at this|-
 rw[hv];exact this
end Go.Dv
end
section
namespace Go.Proofs
open Tryz
open Go.Shelf
def Tryz.ap3:Go.Shelf.Ren:=⟨fun|125=>202|128=>309|129=>310|n=>n,fun|46=>197|3=>3|51=>270|53=>272|4=>4|5=>5|9=>9|n=>n,fun|n=>n⟩
def Tryz.aG0:Go.Proofs.Lays.n125 Tryz.prog Tryz.ap3:={
 mixed:=by kernel_rfl
 f125:=func202.trans cSz
 f128:=func309.trans cSz
 f129:=func310.trans cSz
 t3:=underlying3
 a3:=isAgg3
 z3:=sizeOf3
 v3:=zeroValue3
 t4:=underlying4
 a4:=isAgg4
 z4:=sizeOf4
 v4:=zeroValue4
 t5:=underlying5
 a5:=isAgg5
 z5:=sizeOf5
 v5:=zeroValue5
 t9:=underlying9
 a9:=isAgg9
 z9:=sizeOf9
 v9:=zeroValue9
 t46:=underlying197
 a46:=isAgg197
 z46:=sizeOf197
 v46:=zeroValue197
 t51:=underlying270
 a51:=isAgg270
 z51:=sizeOf270
 v51:=zeroValue270
 t53:=underlying272
 a53:=isAgg272
 z53:=sizeOf272
 v53:=zeroValue272}
def Tryz.bits_Len (x:Int)(w:World)(h0:0<=x)(h1:x<=18446744073709551615):
  Calls Tryz.prog 202 #[.int .u64 x] w fun e w'=>e= .returned (.int .i64 (Lib.bitLen x.toNat))/\w'=w:=Any.bits_Len Tryz.aG0 x w h0 h1
def Tryz.amL:Go.Shelf.Ren:=⟨fun|171=>468|243=>499|246=>512|283=>518|284=>519|285=>520|286=>521|129=>310|317=>522|318=>523|319=>524|320=>525|337=>526|338=>527|n=>n,fun|3=>3|9=>9|2=>2|4=>4|171=>435|0=>0|53=>272|37=>173|5=>5|173=>437|212=>440|51=>270|20=>20|213=>441|46=>197|232=>442|233=>443|n=>n,fun|17=>6|18=>7|19=>8|n=>n⟩
def Tryz.aCR:Go.Proofs.LaysM.n171 Tryz.prog Tryz.amL:={
 mixed:=by kernel_rfl
 f129:=func310.trans cSz
 f171:=func468.trans cSz
 f243:=func499.trans cSz
 f246:=func512.trans cSz
 f283:=func518.trans cSz
 f284:=func519.trans cSz
 f285:=func520.trans cSz
 f286:=func521.trans cSz
 f317:=func522.trans cSz
 f318:=func523.trans cSz
 f319:=func524.trans cSz
 f320:=func525.trans cSz
 f337:=func526.trans cSz
 f338:=func527.trans cSz
 t0:=underlying0
 a0:=isAgg0
 z0:=sizeOf0
 v0:=zeroValue0
 t2:=underlying2
 a2:=isAgg2
 z2:=sizeOf2
 v2:=zeroValue2
 t3:=underlying3
 a3:=isAgg3
 z3:=sizeOf3
 v3:=zeroValue3
 t4:=underlying4
 a4:=isAgg4
 z4:=sizeOf4
 v4:=zeroValue4
 t5:=underlying5
 a5:=isAgg5
 z5:=sizeOf5
 v5:=zeroValue5
 t9:=underlying9
 a9:=isAgg9
 z9:=sizeOf9
 v9:=zeroValue9
 t20:=underlying20
 a20:=isAgg20
 z20:=sizeOf20
 v20:=zeroValue20
 t37:=underlying173
 a37:=isAgg173
 z37:=sizeOf173
 v37:=zeroValue173
 t46:=underlying197
 a46:=isAgg197
 z46:=sizeOf197
 v46:=zeroValue197
 t51:=underlying270
 a51:=isAgg270
 z51:=sizeOf270
 v51:=zeroValue270
 t53:=underlying272
 a53:=isAgg272
 z53:=sizeOf272
 v53:=zeroValue272
 t171:=underlying435
 a171:=isAgg435
 z171:=sizeOf435
 v171:=zeroValue435
 t173:=underlying437
 a173:=isAgg437
 z173:=sizeOf437
 v173:=zeroValue437
 t212:=underlying440
 a212:=isAgg440
 z212:=sizeOf440
 v212:=zeroValue440
 t213:=underlying441
 a213:=isAgg441
 z213:=sizeOf441
 t232:=underlying442
 a232:=isAgg442
 z232:=sizeOf442
 v232:=zeroValue442
 t233:=underlying443
 a233:=isAgg443
 z233:=sizeOf443
 v233:=zeroValue443
 g17:=by kernel_rfl
 g18:=by kernel_rfl
 g19:=by kernel_rfl
 i0:=by kernel_rfl
 i2:=by kernel_rfl
 i3:=by kernel_rfl
 i4:=by kernel_rfl
 i5:=by kernel_rfl
 i9:=by kernel_rfl
 i20:=by kernel_rfl
 i37:=by kernel_rfl
 i46:=by kernel_rfl
 i51:=by kernel_rfl
 i53:=by kernel_rfl
 i171:=by kernel_rfl
 i173:=by kernel_rfl
 i212:=by kernel_rfl
 i232:=by kernel_rfl
 i233:=by kernel_rfl
 m17:=by kernel_rfl
 m18:=by kernel_rfl
 m19:=by kernel_rfl}
open Go.RowKit Go.Sort Go.Lib in
def Tryz.strconv_Itoa (n:Int)(h0: -9223372036854775808<=n)(h1:n<=9223372036854775807)(w:World)(htab:Lib.TabIs Tryz.prog w "internal/strconv.uint64pow10" .u64 Lib.pow10Tab):
  Calls Tryz.prog 468 #[.int .i64 n] w fun e w'=>e= .returned (.string ⟨(Lib.itoa n).toArray⟩)/\∃k os,w'=grow (w.drewN k) os:=Any.strconv_Itoa Tryz.aCR n h0 h1 w htab
def Tryz.amK:Go.Shelf.Ren:=⟨fun|172=>404|244=>466|245=>467|247=>494|279=>495|280=>496|281=>497|282=>498|287=>509|316=>510|171=>468|205=>511|321=>516|322=>517|243=>499|246=>512|283=>518|284=>519|285=>520|286=>521|129=>310|317=>522|318=>523|319=>524|320=>525|337=>526|338=>527|n=>n,fun|9=>9|3=>3|75=>346|76=>347|4=>4|5=>5|167=>404|37=>173|0=>0|85=>405|2=>2|168=>407|53=>272|175=>421|46=>197|210=>424|127=>392|145=>434|143=>432|21=>21|171=>435|173=>437|212=>440|51=>270|20=>20|213=>441|232=>442|233=>443|80=>356|n=>n,fun|15=>4|16=>5|17=>6|18=>7|19=>8|n=>n⟩
def Tryz.ahE:Go.Proofs.LaysC.n172 Tryz.prog Tryz.amK:={
 mixed:=by kernel_rfl
 f129:=func310.trans cSz
 f171:=func468.trans cSz
 f172:=func404.trans cSz
 f205:=func511.trans cSz
 f243:=func499.trans cSz
 f244:=func466.trans cSz
 f245:=func467.trans cSz
 f246:=func512.trans cSz
 f247:=func494.trans cSz
 f279:=func495.trans cSz
 f280:=func496.trans cSz
 f281:=func497.trans cSz
 f282:=func498.trans cSz
 f283:=func518.trans cSz
 f284:=func519.trans cSz
 f285:=func520.trans cSz
 f286:=func521.trans cSz
 f287:=func509.trans cSz
 f316:=func510.trans cSz
 f317:=func522.trans cSz
 f318:=func523.trans cSz
 f319:=func524.trans cSz
 f320:=func525.trans cSz
 f321:=func516.trans cSz
 f322:=func517.trans cSz
 f337:=func526.trans cSz
 f338:=func527.trans cSz
 t0:=underlying0
 a0:=isAgg0
 z0:=sizeOf0
 v0:=zeroValue0
 t2:=underlying2
 a2:=isAgg2
 z2:=sizeOf2
 v2:=zeroValue2
 t3:=underlying3
 a3:=isAgg3
 z3:=sizeOf3
 v3:=zeroValue3
 t4:=underlying4
 a4:=isAgg4
 z4:=sizeOf4
 v4:=zeroValue4
 t5:=underlying5
 a5:=isAgg5
 z5:=sizeOf5
 v5:=zeroValue5
 t9:=underlying9
 a9:=isAgg9
 z9:=sizeOf9
 v9:=zeroValue9
 t20:=underlying20
 a20:=isAgg20
 z20:=sizeOf20
 v20:=zeroValue20
 t21:=underlying21
 a21:=isAgg21
 z21:=sizeOf21
 v21:=zeroValue21
 t37:=underlying173
 a37:=isAgg173
 z37:=sizeOf173
 v37:=zeroValue173
 t46:=underlying197
 a46:=isAgg197
 z46:=sizeOf197
 v46:=zeroValue197
 t51:=underlying270
 a51:=isAgg270
 z51:=sizeOf270
 v51:=zeroValue270
 t53:=underlying272
 a53:=isAgg272
 z53:=sizeOf272
 v53:=zeroValue272
 t75:=underlying346
 a75:=isAgg346
 z75:=sizeOf346
 v75:=zeroValue346
 t76:=underlying347
 a76:=isAgg347
 z76:=sizeOf347
 v76:=zeroValue347
 t85:=underlying405
 a85:=isAgg405
 z85:=sizeOf405
 v85:=zeroValue405
 t127:=underlying392
 a127:=isAgg392
 z127:=sizeOf392
 v127:=zeroValue392
 t143:=underlying432
 a143:=isAgg432
 z143:=sizeOf432
 v143:=zeroValue432
 t145:=underlying434
 a145:=isAgg434
 z145:=sizeOf434
 v145:=zeroValue434
 t167:=underlying404
 a167:=isAgg404
 z167:=sizeOf404
 v167:=zeroValue404
 t168:=underlying407
 a168:=isAgg407
 z168:=sizeOf407
 v168:=zeroValue407
 t171:=underlying435
 a171:=isAgg435
 z171:=sizeOf435
 v171:=zeroValue435
 t173:=underlying437
 a173:=isAgg437
 z173:=sizeOf437
 v173:=zeroValue437
 t175:=underlying421
 a175:=isAgg421
 z175:=sizeOf421
 v175:=zeroValue421
 t210:=underlying424
 a210:=isAgg424
 z210:=sizeOf424
 v210:=zeroValue424
 t212:=underlying440
 a212:=isAgg440
 z212:=sizeOf440
 v212:=zeroValue440
 t213:=underlying441
 a213:=isAgg441
 z213:=sizeOf441
 t232:=underlying442
 a232:=isAgg442
 z232:=sizeOf442
 v232:=zeroValue442
 t233:=underlying443
 a233:=isAgg443
 z233:=sizeOf443
 v233:=zeroValue443
 g15:=by kernel_rfl
 g16:=by kernel_rfl
 g17:=by kernel_rfl
 g18:=by kernel_rfl
 g19:=by kernel_rfl
 t80:=underlying356
 a80:=isAgg356
 z80:=sizeOf356
 v80:=zeroValue356
 i0:=by kernel_rfl
 i2:=by kernel_rfl
 i3:=by kernel_rfl
 i4:=by kernel_rfl
 i5:=by kernel_rfl
 i9:=by kernel_rfl
 i20:=by kernel_rfl
 i21:=by kernel_rfl
 i37:=by kernel_rfl
 i46:=by kernel_rfl
 i51:=by kernel_rfl
 i53:=by kernel_rfl
 i75:=by kernel_rfl
 i76:=by kernel_rfl
 i80:=by kernel_rfl
 i85:=by kernel_rfl
 i127:=by kernel_rfl
 i143:=by kernel_rfl
 i145:=by kernel_rfl
 i167:=by kernel_rfl
 i168:=by kernel_rfl
 i171:=by kernel_rfl
 i173:=by kernel_rfl
 i175:=by kernel_rfl
 i210:=by kernel_rfl
 i212:=by kernel_rfl
 i232:=by kernel_rfl
 i233:=by kernel_rfl
 m15:=by kernel_rfl
 m16:=by kernel_rfl
 m17:=by kernel_rfl
 m18:=by kernel_rfl
 m19:=by kernel_rfl
 c0:=by kernel_rfl
 c2:=by kernel_rfl
 c3:=by kernel_rfl
 c4:=by kernel_rfl
 c5:=by kernel_rfl
 c9:=by kernel_rfl
 c20:=by kernel_rfl
 c21:=by kernel_rfl
 c37:=by kernel_rfl
 c46:=by kernel_rfl
 c51:=by kernel_rfl
 c53:=by kernel_rfl
 c75:=by kernel_rfl
 c76:=by kernel_rfl
 c80:=by kernel_rfl
 c85:=by kernel_rfl
 c127:=by kernel_rfl
 c143:=by kernel_rfl
 c145:=by kernel_rfl
 c167:=by kernel_rfl
 c168:=by kernel_rfl
 c171:=by kernel_rfl
 c173:=by kernel_rfl
 c175:=by kernel_rfl
 c210:=by kernel_rfl
 c212:=by kernel_rfl
 c213:=by kernel_rfl
 c232:=by kernel_rfl
 c233:=by kernel_rfl}
open Go.RowKit in
def Tryz.strconv_Atoi_ok (s:ByteArray)(hmax:s.size<=9223372036854775806)(v:Int)(h:Lib.atoiAll s.data.toList= .ok v)(w:World):
  Calls Tryz.prog 404 #[.string s] w fun e w'=>e= .returned (.tuple #[.int .i64 v,.nilIface])/\(w'=w\/∃t,w'=Lib.bytesWorld w 5 t):=Any.strconv_Atoi_ok Tryz.ahE s hmax v h w
open Go.RowKit in
def Tryz.strconv_Atoi_syntax_var (s:ByteArray)(hlim:s.size<=281474976710656)(h1:∀v,Lib.atoiAll s.data.toList≠ .ok v)(h2:Lib.atoiAll s.data.toList≠ .range)(tp:TypeId)(p:Value)(w:World)(hvar:w.var? Tryz.prog "strconv.ErrSyntax" =some #[.iface tp p]):
  Calls Tryz.prog 404 #[.string s] w fun e w'=>∃N,e= .returned (.tuple #[.int .i64 0,.iface 407 (.pointer (some ⟨N,0,none⟩))])/\w.heap.size<=N/\w'.heap[N]?=some (.cells #[.string ⟨#[65,116,111,105]⟩,.string s,.iface tp p] 424 (0,0))/\Below w.heap.size w w':=by
 cases hx:Lib.atoiAll s.data.toList with
 |ok v=>exact absurd hx (h1 v)
 |range=>exact absurd hx h2
 |_=>exact Any.strconv_Atoi_syntax_var Tryz.ahE s hlim hx tp p w hvar
open Go.RowKit in
def Tryz.strconv_Atoi_range_var (s:ByteArray)(hlim:s.size<=281474976710656)(h:Lib.atoiAll s.data.toList= .range)(tp:TypeId)(p:Value)(w:World)(hvar:w.var? Tryz.prog "strconv.ErrRange" =some #[.iface tp p]):
  Calls Tryz.prog 404 #[.string s] w fun e w'=>∃N,e= .returned (.tuple #[.int .i64 (Lib.atoiSat s.data.toList),.iface 407 (.pointer (some ⟨N,0,none⟩))])/\w.heap.size<=N/\w'.heap[N]?=some (.cells #[.string ⟨#[65,116,111,105]⟩,.string s,.iface tp p] 424 (0,0))/\Below w.heap.size w w':=Any.strconv_Atoi_range_var Tryz.ahE s hlim h tp p w hvar
def Tryz.ap5:Go.Shelf.Ren:=⟨fun|190=>322|125=>202|258=>403|128=>309|129=>310|302=>457|303=>458|304=>459|305=>460|306=>461|307=>462|308=>463|309=>464|310=>465|333=>490|329=>391|330=>392|334=>491|335=>492|336=>493|344=>508|n=>n,fun|31=>63|9=>9|3=>3|46=>197|0=>0|51=>270|53=>272|4=>4|183=>264|182=>263|131=>202|5=>5|218=>327|222=>331|228=>381|229=>382|n=>n,fun|n=>n⟩
def Tryz.aG3:Go.Proofs.Lays.n190 Tryz.prog Tryz.ap5:={
 mixed:=by kernel_rfl
 f125:=func202.trans cSz
 f128:=func309.trans cSz
 f129:=func310.trans cSz
 f190:=func322.trans cSz
 f258:=func403.trans cSz
 f302:=func457.trans cSz
 f303:=func458.trans cSz
 f304:=func459.trans cSz
 f305:=func460.trans cSz
 f306:=func461.trans cSz
 f307:=func462.trans cSz
 f308:=func463.trans cSz
 f309:=func464.trans cSz
 f310:=func465.trans cSz
 f329:=func391.trans cSz
 f330:=func392.trans cSz
 f333:=func490.trans cSz
 f334:=func491.trans cSz
 f335:=func492.trans cSz
 f336:=func493.trans cSz
 f344:=func508.trans cSz
 t0:=underlying0
 a0:=isAgg0
 z0:=sizeOf0
 v0:=zeroValue0
 t3:=underlying3
 a3:=isAgg3
 z3:=sizeOf3
 v3:=zeroValue3
 t4:=underlying4
 a4:=isAgg4
 z4:=sizeOf4
 v4:=zeroValue4
 t5:=underlying5
 a5:=isAgg5
 z5:=sizeOf5
 v5:=zeroValue5
 t9:=underlying9
 a9:=isAgg9
 z9:=sizeOf9
 v9:=zeroValue9
 t31:=underlying63
 a31:=isAgg63
 z31:=sizeOf63
 v31:=zeroValue63
 t46:=underlying197
 a46:=isAgg197
 z46:=sizeOf197
 v46:=zeroValue197
 t51:=underlying270
 a51:=isAgg270
 z51:=sizeOf270
 v51:=zeroValue270
 t53:=underlying272
 a53:=isAgg272
 z53:=sizeOf272
 v53:=zeroValue272
 t131:=underlying202
 a131:=isAgg202
 z131:=sizeOf202
 v131:=zeroValue202
 t182:=underlying263
 a182:=isAgg263
 z182:=sizeOf263
 v182:=zeroValue263
 t183:=underlying264
 a183:=isAgg264
 z183:=sizeOf264
 v183:=zeroValue264
 t218:=underlying327
 a218:=isAgg327
 z218:=sizeOf327
 v218:=zeroValue327
 t222:=underlying331
 a222:=isAgg331
 z222:=sizeOf331
 v222:=zeroValue331
 t228:=underlying381
 a228:=isAgg381
 z228:=sizeOf381
 v228:=zeroValue381
 t229:=underlying382
 a229:=isAgg382
 z229:=sizeOf382
 v229:=zeroValue382}
open Go.Sort Go.RowKit in
def Tryz.slices_Sort_string (blk off cap:Nat)(ss:List (List UInt8))(w:World)(hH:Holds encStr w blk off ss.toArray)(hblk:blk<w.heap.size)(hsz:ss.length<4611686018427387904):
  Calls Tryz.prog 322 #[.slice (some ⟨blk,off,none⟩) ss.length cap] w fun e w'=>
   e= .returned (.tuple #[])/\∃n os,w'=grow (putRow encStr (Sort.ahead w n) blk off (ss.mergeSort fun x y=>decide (x<=y)).toArray) os:=Any.slices_Sort_string Tryz.aG3 blk off cap ss w hH hblk hsz
def Tryz.ap1:Go.Shelf.Ren:=⟨fun|100=>131|207=>205|n=>n,fun|9=>9|4=>4|3=>3|n=>n,fun|n=>n⟩
def Tryz.aGY:Go.Proofs.Lays.n100 Tryz.prog Tryz.ap1:={
 mixed:=by kernel_rfl
 f100:=func131.trans cSz
 f207:=func205.trans cSz
 t3:=underlying3
 a3:=isAgg3
 z3:=sizeOf3
 v3:=zeroValue3
 t4:=underlying4
 a4:=isAgg4
 z4:=sizeOf4
 v4:=zeroValue4
 t9:=underlying9
 a9:=isAgg9
 z9:=sizeOf9
 v9:=zeroValue9}
open Go.RowKit Go.Lib in
def Tryz.strings_HasSuffix (s p:ByteArray)(w:World)(hs:s.size<=9223372036854775807):
  Calls Tryz.prog 131 #[.string s,.string p] w fun e w'=>e= .returned (.bool (Lib.hasSuffix s.data.toList p.data.toList))/\w'=w:=Any.strings_HasSuffix Tryz.aGY s p w hs
def Tryz.ap2:Go.Shelf.Ren:=⟨fun|102=>232|209=>332|207=>205|n=>n,fun|9=>9|4=>4|3=>3|n=>n,fun|n=>n⟩
def Tryz.aGZ:Go.Proofs.Lays.n102 Tryz.prog Tryz.ap2:={
 mixed:=by kernel_rfl
 f102:=func232.trans cSz
 f207:=func205.trans cSz
 f209:=func332.trans cSz
 t3:=underlying3
 a3:=isAgg3
 z3:=sizeOf3
 v3:=zeroValue3
 t4:=underlying4
 a4:=isAgg4
 z4:=sizeOf4
 v4:=zeroValue4
 t9:=underlying9
 a9:=isAgg9
 z9:=sizeOf9
 v9:=zeroValue9}
open Go.RowKit Go.Lib in
def Tryz.strings_TrimSuffix (s p:ByteArray)(w:World)(hs:s.size<=9223372036854775807):
  Calls Tryz.prog 232 #[.string s,.string p] w fun e w'=>e= .returned (.string ⟨(Lib.trimSuffix s.data.toList p.data.toList).toArray⟩)/\w'=w:=Any.strings_TrimSuffix Tryz.aGZ s p w hs
def Tryz.acS:Go.Shelf.Ren:=⟨fun|155=>234|154=>333|138=>407|165=>408|143=>409|166=>410|197=>411|169=>412|195=>469|218=>470|240=>471|241=>472|219=>473|260=>474|276=>500|277=>501|217=>489|225=>455|224=>454|267=>502|266=>507|314=>513|n=>n,fun|9=>9|3=>3|4=>4|72=>352|0=>0|76=>347|105=>354|21=>21|5=>5|70=>350|20=>20|37=>173|75=>346|127=>392|164=>410|46=>197|119=>413|139=>416|138=>415|146=>427|51=>270|80=>356|n=>n,fun|1=>1|3=>2|4=>3|n=>n⟩
def Tryz.aG2:Go.Proofs.Lays.n155 Tryz.prog Tryz.acS:={
 mixed:=by kernel_rfl
 f138:=func407.trans cSz
 f143:=func409.trans cSz
 f154:=func333.trans cSz
 f155:=func234.trans cSz
 f165:=func408.trans cSz
 f166:=func410.trans cSz
 f169:=func412.trans cSz
 f195:=func469.trans cSz
 f197:=func411.trans cSz
 f217:=func489.trans cSz
 f218:=func470.trans cSz
 f219:=func473.trans cSz
 f224:=func454.trans cSz
 f225:=func455.trans cSz
 f240:=func471.trans cSz
 f241:=func472.trans cSz
 f260:=func474.trans cSz
 f266:=func507.trans cSz
 f267:=func502.trans cSz
 f276:=func500.trans cSz
 f277:=func501.trans cSz
 f314:=func513.trans cSz
 t0:=underlying0
 a0:=isAgg0
 z0:=sizeOf0
 v0:=zeroValue0
 t3:=underlying3
 a3:=isAgg3
 z3:=sizeOf3
 v3:=zeroValue3
 t4:=underlying4
 a4:=isAgg4
 z4:=sizeOf4
 v4:=zeroValue4
 t5:=underlying5
 a5:=isAgg5
 z5:=sizeOf5
 v5:=zeroValue5
 t9:=underlying9
 a9:=isAgg9
 z9:=sizeOf9
 v9:=zeroValue9
 t20:=underlying20
 a20:=isAgg20
 z20:=sizeOf20
 v20:=zeroValue20
 t21:=underlying21
 a21:=isAgg21
 z21:=sizeOf21
 v21:=zeroValue21
 t37:=underlying173
 a37:=isAgg173
 z37:=sizeOf173
 v37:=zeroValue173
 t46:=underlying197
 a46:=isAgg197
 z46:=sizeOf197
 v46:=zeroValue197
 t51:=underlying270
 a51:=isAgg270
 z51:=sizeOf270
 v51:=zeroValue270
 t70:=underlying350
 a70:=isAgg350
 z70:=sizeOf350
 v70:=zeroValue350
 t72:=underlying352
 a72:=isAgg352
 z72:=sizeOf352
 v72:=zeroValue352
 t75:=underlying346
 a75:=isAgg346
 z75:=sizeOf346
 v75:=zeroValue346
 t76:=underlying347
 a76:=isAgg347
 z76:=sizeOf347
 v76:=zeroValue347
 t105:=underlying354
 a105:=isAgg354
 z105:=sizeOf354
 v105:=zeroValue354
 t119:=underlying413
 a119:=isAgg413
 z119:=sizeOf413
 t127:=underlying392
 a127:=isAgg392
 z127:=sizeOf392
 v127:=zeroValue392
 t138:=underlying415
 a138:=isAgg415
 z138:=sizeOf415
 v138:=zeroValue415
 t139:=underlying416
 a139:=isAgg416
 z139:=sizeOf416
 v139:=zeroValue416
 t146:=underlying427
 a146:=isAgg427
 z146:=sizeOf427
 v146:=zeroValue427
 t164:=underlying410
 a164:=isAgg410
 z164:=sizeOf410
 v164:=zeroValue410
 g1:=by kernel_rfl
 g3:=by kernel_rfl
 g4:=by kernel_rfl}
def Tryz.X5:Builder.Extra Tryz.prog Tryz.acS:={
 sizeBuilder:=by kernel_rfl
 liesBuilder:=by kernel_rfl
 t5:=underlying5
 a5:=isAgg5
 z5:=sizeOf5
 v5:=zeroValue5
 infoByte:=by kernel_rfl
 cellsByte:=by kernel_rfl
 sizeByte:=by kernel_rfl
 neB5:=by decide}
open Go.RowKit Go.Lib in
def Tryz.strings_ReplaceAll (s old new:ByteArray)(m:Int)(w:World)(hs:s.size<4294967281)(hm:w.cell? ⟨1,0,none⟩=some (.int .i64 m))(h1:1<=old.size)(hlen:s.size+Lib.countB s old*new.size<=140737488355328):
  Calls Tryz.prog 234 #[.string s,.string old,.string new] w fun e w'=>
   e= .returned (.string ⟨(Lib.replaceAll s.data.toList old.data.toList new.data.toList).toArray⟩)/\Below w.heap.size w w':=Any.strings_ReplaceAll Tryz.aG2 Tryz.X5 s old new m w hs hm h1 hlen
def Tryz.ap4:Go.Shelf.Ren:=⟨fun|150=>217|153=>318|152=>397|226=>398|227=>399|228=>400|137=>452|119=>453|224=>454|225=>455|217=>489|266=>507|n=>n,fun|9=>9|4=>4|3=>3|5=>5|21=>21|117=>338|116=>337|0=>0|46=>197|124=>385|n=>n,fun|n=>n⟩
def Tryz.aG1:Go.Proofs.Lays.n150 Tryz.prog Tryz.ap4:={
 mixed:=by kernel_rfl
 f119:=func453.trans cSz
 f137:=func452.trans cSz
 f150:=func217.trans cSz
 f152:=func397.trans cSz
 f153:=func318.trans cSz
 f217:=func489.trans cSz
 f224:=func454.trans cSz
 f225:=func455.trans cSz
 f226:=func398.trans cSz
 f227:=func399.trans cSz
 f228:=func400.trans cSz
 f266:=func507.trans cSz
 t0:=underlying0
 a0:=isAgg0
 z0:=sizeOf0
 v0:=zeroValue0
 t3:=underlying3
 a3:=isAgg3
 z3:=sizeOf3
 v3:=zeroValue3
 t4:=underlying4
 a4:=isAgg4
 z4:=sizeOf4
 v4:=zeroValue4
 t5:=underlying5
 a5:=isAgg5
 z5:=sizeOf5
 v5:=zeroValue5
 t9:=underlying9
 a9:=isAgg9
 z9:=sizeOf9
 v9:=zeroValue9
 t21:=underlying21
 a21:=isAgg21
 z21:=sizeOf21
 v21:=zeroValue21
 t46:=underlying197
 a46:=isAgg197
 z46:=sizeOf197
 v46:=zeroValue197
 t116:=underlying337
 a116:=isAgg337
 z116:=sizeOf337
 t117:=underlying338
 a117:=isAgg338
 z117:=sizeOf338
 v117:=zeroValue338
 t124:=underlying385
 a124:=isAgg385
 z124:=sizeOf385
 v124:=zeroValue385}
open Go.RowKit Go.Lib in
def Tryz.strings_ContainsAny_laid (s chars:ByteArray)(w:World)(hs:s.size<4294967281)(hcs:chars.size<4294967281)(has:∀(j:Nat) b,s.data.toList[j]?=some b->b.toNat<128)(hac:∀(j:Nat) b,chars.data.toList[j]?=some b->b.toNat<128):
  Calls Tryz.prog 217 #[.string s,.string chars] w fun e w'=>e= .returned (.bool (Lib.containsAny s.data.toList chars.data.toList))/\Below w.heap.size w w':=Any.strings_ContainsAny_laid Tryz.aG1 (by kernel_rfl) s chars w hs hcs has hac
def Tryz.ap7:Go.Shelf.Ren:=⟨fun|212=>505|263=>514|264=>515|n=>n,fun|46=>197|51=>270|146=>427|53=>272|148=>430|n=>n,fun|n=>n⟩
def Tryz.aG4:Go.Proofs.Lays.n212 Tryz.prog Tryz.ap7:={
 mixed:=by kernel_rfl
 f212:=func505.trans cSz
 f263:=func514.trans cSz
 f264:=func515.trans cSz
 t46:=underlying197
 a46:=isAgg197
 z46:=sizeOf197
 v46:=zeroValue197
 t51:=underlying270
 a51:=isAgg270
 z51:=sizeOf270
 v51:=zeroValue270
 t53:=underlying272
 a53:=isAgg272
 z53:=sizeOf272
 v53:=zeroValue272
 t146:=underlying427
 a146:=isAgg427
 z146:=sizeOf427
 v146:=zeroValue427
 t148:=underlying430
 a148:=isAgg430
 z148:=sizeOf430
 v148:=zeroValue430}
open Go.RowKit Go.Lib in
def Tryz.bits_Mul (x y:Nat)(hx:x<18446744073709551616)(hy:y<18446744073709551616)(w:World):
  Calls Tryz.prog 505 #[.int .u64 x,.int .u64 y] w fun e w'=>e= .returned (.tuple #[.int .u64 ((x*y/18446744073709551616:Nat):Int),.int .u64 ((x*y % 18446744073709551616:Nat):Int)])/\w'=w:=Any.bits_Mul Tryz.aG4 x y hx hy w
def Tryz.ap8:Go.Shelf.Ren:=⟨fun|229=>324|n=>n,fun|9=>9|40=>278|31=>63|152=>341|3=>3|0=>0|4=>4|21=>21|154=>343|n=>n,fun|n=>n⟩
def Tryz.aG5:Go.Proofs.Lays.n229 Tryz.prog Tryz.ap8:={
 mixed:=by kernel_rfl
 f229:=func324.trans cSz
 t0:=underlying0
 a0:=isAgg0
 z0:=sizeOf0
 v0:=zeroValue0
 t3:=underlying3
 a3:=isAgg3
 z3:=sizeOf3
 v3:=zeroValue3
 t4:=underlying4
 a4:=isAgg4
 z4:=sizeOf4
 v4:=zeroValue4
 t9:=underlying9
 a9:=isAgg9
 z9:=sizeOf9
 v9:=zeroValue9
 t21:=underlying21
 a21:=isAgg21
 z21:=sizeOf21
 v21:=zeroValue21
 t31:=underlying63
 a31:=isAgg63
 z31:=sizeOf63
 v31:=zeroValue63
 t40:=underlying278
 a40:=isAgg278
 z40:=sizeOf278
 v40:=zeroValue278
 t152:=underlying341
 a152:=isAgg341
 z152:=sizeOf341
 v152:=zeroValue341
 t154:=underlying343
 a154:=isAgg343
 z154:=sizeOf343
 v154:=zeroValue343}
open Go.RowKit Go.Lib in
def Tryz.strings_FieldsFunc_grows (g:Nat)(lb:Array Value)(eg:∀args w,(callFunc g args).run Tryz.prog w= .ok (.enter g args) w)(p:Nat->Bool)(s:ByteArray)(w:World)(hs:s.size<=4294967296)(hp:PredGrows Tryz.prog g lb p w):
  Calls Tryz.prog 324 #[.string s,.func (.func g) #[] lb] w fun e w'=>∃A,e= .returned (.slice (some ⟨A,0,none⟩) (Lib.goFieldsP p s).length (Lib.goFieldsP p s).length)/\w.heap.size<=A/\
   w'.ownsRow w.heap.size 9 1 (.slice (some ⟨A,0,none⟩) (Lib.goFieldsP p s).length (Lib.goFieldsP p s).length) (Lib.goFieldsP p s).length ((Lib.goFieldsP p s).map Value.string)/\Below w.heap.size w w':=Any.strings_FieldsFunc_grows Tryz.aG5 g lb eg p s w hs hp (by kernel_rfl) (by kernel_rfl)
def Tryz.ai2:Go.Shelf.Ren:=⟨fun|16=>198|n=>n,fun|24=>63|9=>9|4=>4|n=>n,fun|n=>n⟩
def Tryz.abS:Go.Proofs.Lays2.n16 Tryz.prog Tryz.ai2:={
 mixed:=by kernel_rfl
 f16:=func198.trans cSz
 t4:=underlying4
 a4:=isAgg4
 z4:=sizeOf4
 v4:=zeroValue4
 t9:=underlying9
 a9:=isAgg9
 z9:=sizeOf9
 v9:=zeroValue9
 t24:=underlying63
 a24:=isAgg63
 z24:=sizeOf63
 v24:=zeroValue63
 i9:=by kernel_rfl}
open Go.RowKit Go.Lib in
def Tryz.slices_Clone_string (b off n c:Nat)(zs:List ByteArray)(w:World)(hz:n<=zs.length)(hbig:n*16<=140737488355328)(hc:∀j,j<zs.length->w.cell? ⟨b,off+j,none⟩=some (.string (zs.getD j ByteArray.empty))):
  Calls Tryz.prog 198 #[.slice (some ⟨b,off,none⟩) n c] w fun e w'=>∃v',e= .returned v'/\w'.ownsRow w.heap.size 9 1 v' n ((zs.take n).map (Value.string))/\v'≠ .slice none 0 0/\Below w.heap.size w w':=Any.slices_Clone_string Tryz.abS b off n c zs w hz hbig hc
open Go.RowKit Go.Lib in
def Tryz.slices_Clone_string_nil (n c:Nat)(w:World):
  Calls Tryz.prog 198 #[.slice none n c] w fun e w'=>e= .returned (.slice none 0 0)/\w'=w:=Any.slices_Clone_string_nil Tryz.abS n c w
open Go.RowKit Go.Lib in
def Tryz.slices_Clone_string_zero (a:Addr)(c:Nat)(w:World):
  Calls Tryz.prog 198 #[.slice (some a) 0 c] w fun e w'=>∃v',e= .returned v'/\w'.ownsRow w.heap.size 9 1 v' 0 []/\v'≠ .slice none 0 0/\Below w.heap.size w w':=Any.slices_Clone_string_zero Tryz.abS a c w
def Tryz.ap6:Go.Shelf.Ren:=⟨fun|194=>323|n=>n,fun|31=>63|9=>9|3=>3|4=>4|0=>0|n=>n,fun|n=>n⟩
def Tryz.avZ:Go.Proofs.Lays.n194 Tryz.prog Tryz.ap6:={
 mixed:=by kernel_rfl
 f194:=func323.trans cSz
 t0:=underlying0
 a0:=isAgg0
 z0:=sizeOf0
 v0:=zeroValue0
 t3:=underlying3
 a3:=isAgg3
 z3:=sizeOf3
 v3:=zeroValue3
 t4:=underlying4
 a4:=isAgg4
 z4:=sizeOf4
 v4:=zeroValue4
 t9:=underlying9
 a9:=isAgg9
 z9:=sizeOf9
 v9:=zeroValue9
 t31:=underlying63
 a31:=isAgg63
 z31:=sizeOf63
 v31:=zeroValue63}
open Go.RowKit Go.Lib Go.Sort in
def Tryz.slices_Compact_string (blk off cap:Nat)(zs:List (List UInt8))(w:World)(hH:Holds encStr w blk off zs.toArray)(hsz:zs.length<=9223372036854775807)(hcap:zs.length<=cap):
  Calls Tryz.prog 323 #[.slice (some ⟨blk,off,none⟩) zs.length cap] w fun e w'=>e= .returned (.slice (some ⟨blk,off,none⟩) (Lib.compact zs).length cap)/\∃q,w'=putRow encStr (Sort.ahead w q) blk off (Lib.compact zs++List.replicate (zs.length-(Lib.compact zs).length) []).toArray:=Any.slices_Compact_string Tryz.avZ blk off cap zs w hH hsz hcap
open Go.RowKit Go.Lib Go.Sort in
def Tryz.slices_Compact_string_empty (a:Option Addr)(cap:Nat)(w:World):
  Calls Tryz.prog 323 #[.slice a 0 cap] w fun e w'=>e= .returned (.slice a 0 cap)/\w'=w:=Any.slices_Compact_string_empty Tryz.avZ a cap w
end Go.Proofs
end
section
namespace Go.Dv
open Go.RowKit
variable [lL]
variable {P:Program}{f:FuncId}{fn:Func}{c:Code}{n:Nat}{rs:List ResultVar}{ds:List D}{m:Nat}{dm:D}{Q:S->Prop}
def aLW {T:TypeId->TyE}(hG:∀t,Good P T t) (hf:P.funcs[f]?=some fn) (hb:fn.body=some c) (hn':fn.ntmps=n) (hn:n<=1000000) (hd:ds.length<=n)
  (hr:fn.results=rs.toArray) (h:∀w0 ow0,OkC P n w0 ow0 none c (mutSt ds m dm) (endR T rs Q)):adE P f ds m dm Q:=by
 subst hn';intro w ow vs t l ht hL hnew hvs hm hargs hV;have hm6:m<1000000:=by omega
 refine calls_of_wp hf hb ?_
 have hav:∀i,i<ds.length->aval {tmps:=vs++Array.replicate (fn.ntmps-vs.size) undef,defers:=[]} i=vs.getD i undef:=by
  intro i hi;unfold aval;rw[if_pos (by omega)];simp only[aF];rw[fC (by omega)]
 have hfit:Fits P fn.ntmps w (LX l m ow) (LX l m ow) (mutSt ds m dm) {tmps:=vs++Array.replicate (fn.ntmps-vs.size) undef,defers:=[]} w:=by
  refine⟨rfl,by simp;omega,hn,(hL.mono fun b o h1 h2=>⟨h1,nA h2⟩),⟨rfl,rfl,rfl,k_Nat_le_refl _,fun _ _ _=>rfl⟩,fun _ _ h=>h,fun b hb=>nA (hnew b hb),?_,fun _ _ _ h=>⟨rfl,h⟩,fun i=> ?_⟩
  ·unfold mutSt argSt;rw[pY (by unfold far0;omega),k_List_getElem__eq_none (by unfold far0;omega)]
  ·by_cases him:i=m
   ·subst him;simp only[mutSt,put_eq,SV];rw[hav i hm];exact V.tr (fun b _=>⟨fun ho=>⟨rfl,nA ho⟩,fun q hq=>⟨rfl,ahF hq⟩⟩) hV
   ·simp only[mutSt,pY him];unfold argSt;cases hdi:ds[i]? with
    |none=>trivial
    |some d=>
     have hi:i<ds.length:=(aD.1 hdi).1;simp only[SV];rw[hav i hi];exact V.trf (fun b _ ho=>⟨rfl,nA ho⟩) (hargs i d hdi him)
 refine h w _ _ w ⟨_,hfit⟩ (by intro m v e;cases e) _ fun e s' a' w' hK hR hp'=> ?_
 have key:(retL T rs s' fun ds s2=>Q (retS ds))->bodyPost P fn (fun e w'=>∃v ow' r,e= .returned v/\Q r/\w'.os=w.os/\w'.tape=w.tape/\w'.output=w.output/\w.heap.size<=w'.heap.size/\
   (∀b,b<w.heap.size->(∀q,ow b≠some (q++l))->w'.heap[b]?=w.heap[b]?/\ow' b=ow b)/\(∀b,w'.heap.size<=b->ow' b=none)/\S.plain r=true/\∀s a,SV P w' ow' s a t r v) .ret a' w':=by
  intro hK;obtain⟨ow1,hf1⟩:=hR;obtain⟨vals,ow2,s2,ds2,hQ,hf2,hl1,hl2,hrun,hvals,hkeep⟩:=hf1.retL hG (fun k=>if rs.length=1 then[]else[k]) rs 0 hK
  have hres:(results fn a'.tmps).run P w'= .ok (if h:vals.toArray.size=1 then vals.toArray[0]else .tuple vals.toArray) w':=by
   unfold results;rw[hr];have hb:∀{α β:Type}(x:Sem α) (g:α->Sem β),Sem.run P (Sem.bind x g) w'=(Sem.run P x w').andThen fun a w'=>Sem.run P (g a) w':=fun x g=>aI ..;simp only[tC,Functor.map,aI,aU];rw[hb,hrun _ (aaQ a'.tmps P w' _ (fun _=>rfl) fun _ _=>rfl)];rfl
  refine⟨hf1.nodef,_,hres,?_⟩
  have hmiss:∀b,b<w.heap.size->(∀q,ow b≠some (q++l))->w'.heap[b]?=w.heap[b]?/\(ow b=none->ow2 b=none)/\(∀lab,ow b=some lab->ow2 b=some (lab++[far0])):=by
   intro b hlt hno;cases ho:ow b with
   |none=>exact⟨hf2.bel.block b hlt (nA ho),fun _=>hf2.own b hlt (nA ho),fun lab e=>by cases e⟩
   |some lab=>
    have hlab:=acT (l:=l) (m:=m) ho (fun hu=>by obtain⟨q,hq⟩:=hu;exact hno q (by rw[ho,hq]));obtain⟨g1,g2⟩:=hf2.keep b hlt lab hlab;exact⟨g1,fun e=>(by cases e),fun lab' e=>by obtain rfl:=k_Option_some_inj e;exact g2⟩
  have hnone:∀b,ow2 b=none->kC w l m t ow ow2 b=none:=by
   intro b hb;unfold kC;split
   ·rename_i hc;cases ho:ow b with
    |none=>rfl
    |some lab=>have:=(hmiss b hc.1 hc.2).2.2 lab ho;rw[hb]at this;cases this
   ·rw[hb]
  have hlast:∀b q j,ow2 b=some (q++[j])->j≠far0->¬(b<w.heap.size/\∀q,ow b≠some (q++l)):=by
   rintro b q j hq hj ⟨h1,h2⟩;obtain⟨_,g1,g2⟩:=hmiss b h1 h2;cases ho:ow b with
   |none=>rw[g1 ho]at hq;cases hq
   |some lab=>
    rw[g2 lab ho]at hq;have:=congrArg List.getLast? (k_Option_some_inj hq);simp at this;exact hj this.symm
  have hmf:m≠far0:=by unfold far0;omega
  have hmr:m≠res0:=by unfold res0;omega
  have hkm:Keeps w' ow2 [m] w' (kC w l m t ow ow2) l:=fun b _=>⟨fun ho=>⟨rfl,hnone b ho⟩,fun q hq=>⟨rfl,by
   unfold kC;rw[if_neg (hlast b q m hq hmf),hq];simp⟩⟩
  have hk:∀l2,Keeps w' ow2 (l2++[res0]) w' (kC w l m t ow ow2) (l2++[t]):=fun l2 b _=>⟨fun ho=>⟨rfl,hnone b ho⟩,fun q hq=>⟨rfl,by
   have hq':ow2 b=some ((q++l2)++[res0]):=by rw[hq];simp
   unfold kC;rw[if_neg (hlast b _ res0 hq' (by unfold res0 far0;omega)),hq'];simp[k_Ne_symm hmr]⟩⟩
  have hq:Quiet w' ow2 w' (kC w l m t ow ow2):=fun b _ ho=>⟨rfl,hnone b ho⟩
  have part:∀(j:Nat) (p:D×Bool),ds2[j]?=some p->∃v,vals[j]?=some v/\(if(p.2||p.1.frz)=true then V P w' (kC w l m t ow ow2) p.1.fz [] v else V P w' (kC w l m t ow ow2) p.1 ((if rs.length=1 then[]else[j])++[t]) v):=by
   intro j p hj;obtain⟨v,h1,h2,h3⟩:=hvals j p hj;rw[bT]at h2;refine⟨v,h1,?_⟩;by_cases hp:(p.2||p.1.frz)=true
   ·rw[if_pos hp]
    have hfz:p.1.fz=p.1:=by
     rcases bN _ _▸hp with hp|hp
     ·exact h3 hp
     ·exact D.WZ hp
    rw[←hfz]at h2;exact V.trf hq h2
   ·rw[if_neg hp];exact V.tr (hk _) h2
  refine⟨_,kC w l m t ow ow2,retS ds2,rfl,hQ,hf2.bel.os,hf2.bel.tape,hf2.bel.output,hf2.bel.size,fun b hb hno=>⟨(hmiss b hb hno).1,by unfold kC;rw[if_pos ⟨hb,hno⟩]⟩,fun b hb=>hnone b (hf2.new b hb),?_,fun s a=> ?_⟩
  ·unfold retS;split
   ·split<;>rfl
   ·rfl
  ·by_cases hone:rs.length=1
   ·have hd1:ds2.length=1:=by rw[hl1,hone]
    have hv1:vals.length=1:=by rw[hl2,hone]
    obtain⟨⟨d,b⟩,rfl⟩:=eP.1 hd1;obtain⟨v,rfl⟩:=eP.1 hv1;obtain⟨v',h1,h2⟩:=part 0 (d,b) rfl;obtain rfl:v=v':=by simpa using h1
    rw[if_pos hone]at h2;simp only[retS];by_cases hp:(b||d.frz)=true
    ·rw[if_pos hp]at h2|-
     exact h2
    ·rw[if_neg hp]at h2|-
     exact h2
   ·have hd1:∀p,ds2≠[p]:=fun p e=>by rw[e]at hl1;simp at hl1;exact hone hl1.symm
    have htup:retS ds2= .tup (ds2.map fun p=>if p.2||p.1.frz then .val p.1 else .own p.1):=by
     unfold retS;split
     ·rename_i d b;exact absurd rfl (hd1 _)
     ·rfl
    rw[htup];refine⟨vals.toArray,?_,by simp[hl1,hl2],fun j x hx=> ?_⟩
    ·rw[dif_neg];simp[hl2,hone]
    ·simp only[aS,aL]at hx;obtain⟨p,hp,rfl⟩:=hx;obtain⟨v,h1,h2⟩:=part j p hp;have hv:vals.toArray.getD j undef=v:=by simp[aF,h1]
     rw[hv];by_cases hpf:(p.2||p.1.frz)=true
     ·rw[if_pos hpf]at h2|-
      exact h2
     ·rw[if_neg hpf]at h2|-
      rw[if_neg hone]at h2;exact h2
 cases e with
 |normal=>exact key hK
 |ret=>exact key hK
 |_=>exact hK.elim
def fT {T:TypeId->TyE}[hG:xD P T] (sp:List Nat) (hn':fn.ntmps=n) (h:∀w0 ow0,@WC _ P T n w0 ow0 none sp ⟨c⟩ ((argSt ds).put m (.own dm)) ⟨endR T rs Q⟩) (hf:P.funcs[f]?=some fn:=by rfl)
  (hb:fn.body=some c:=by rfl) (hr:fn.results=rs.toArray:=by rfl) (hn:n<=1000000:=by decide) (hd:ds.length<=n:=by simp):adE P f ds m dm Q:=aLW hG.g hf hb hn' hn hd hr fun w0 ow0=>wcI hG.g sp (h w0 ow0) (AL c)
end Go.Dv
end
section
namespace Go.Proofs.YtebopbncplpdgaaGreatDoor
open Go.Dv Go.Pl
attribute [simp ↓] apW apR apX apS apV apU apT apY awQ awP awR anZ anY an0 aBD aBE anX anW anV ajM arM ak6 aBF aBG
attribute [simp] akS Dv.ones D.agW D.QQ D.JQ D.qO D.nU S.closed afJ QU V5 VG av5 aqO apD aj9 WE acD axP tmpsOf aqC aFL ab0 St.fresh S.fresh St.DN St.V9 wI aqD awZ aw0 awY awX ar3 avU avV aI0 aB2 aB3 aI1 avW ao4 mM stepCall N9 QV af2 ajF aoP aoS aqU apE DU D.flat D.yY KE ZZ oneK vU FB ajT FN WF CK GM MN af1 YH TS dcall abB af3 acH St.F3 S.ac3 St.K9 S.GL nN evS slotOf oF asSl srcOf Src.st Src.from Src.data SLv.xs PU setParts IA rowOf places St.set St.jR St.free St.kill St.put St.OB St.SB S.drop S.root S.fJ Value.oneCell' dbin binV arithK strK unV dconvI eqB bndK dsliceT D.ahP isAny_one isAny_sl isAny_agg isAny_bx isAny_any isAgg_one isAgg_sl isAgg_agg isAgg_bx isAgg_any isHd_one isHd_sl isHd_agg isHd_bx isHd_any hkid_one hkid_sl hkid_agg hkid_bx hkid_any hsetKid_one hsetKid_sl hsetKid_agg hsetKid_bx hsetKid_any D.w D.ws D.frz D.xU D.fz D.fzs D.sub D.upd D.free TyE.ok Ty.isAgg dstOk lst argSt thenK blockK endK retK numb argB endR retL retS rvOp res0 far0 QL_nil QL_put QL_lst QL_arg stepD quietOp qmove endM mutSt gC_true gC_false gQ_eq ba_size ba_get ba_append ba_extract ba_lt take_drop_len ByteArray.mk.injEq fzs_app wrap_u8 u8_eq int_beq int_bne all_drop take_drop_map fzs_take fzs_drop all_take all_take_drop QM QF_nil QF_put QF_lst frK_put putAll rootIn rootOut rootOwn detOp List.lookup stepF fnOf fnC argsOf dcallF dcallMF vcW_nil vcW_put vcW_lst vcW_kill stepW wrapV St.aAZ fzs_tail fzs_set frzs_tail frzs_set1 frzs_append S.plain wc_skip wc_ret wc_exit wc_label wc_block wc_loop wc_rf wc_draw wc_cond wc_region wc_seq holdA_eq holdB_eq T3 T4 T5 T9 T22 T24 T25 T27 T29 T30 T31 T33 T34 T36 T38 T40 T42 T43 T45 T46 T48 T49 T51 T58 T63 T65 T68 T90 T104 T122 T123 T129 T138 T173 T179 T182 T197 T205 T207 T221 T223 T232 T246 T250 T257 T263 T291 T295 T297 T300 T307 T317 T318 T346 T353 T365 T376 T397 enF muF mu14 mu15 mu20 mu27 mu33 mu53 mu54 mu55 mu56 mu122 mu123 mu124 mu126 mu192 mu200 mu201 mu278 mu282 mu294 mu298 mu300 mu301 mu322 mu361 mu364 mu381 mu415 mu421 mu435 mu437 mu438 mu482 okF QT QO endW wSt putG putR putC getG gl_ne gl_en gl_lt gl_eq gl_eq2 argB_nil argB_cons Go.Value.oneCell' Go.IntKind.bits List.lookup
end Go.Proofs.YtebopbncplpdgaaGreatDoor
end
section
namespace Go.Proofs.YtebopbncplpdgaaGreatDoor
open Go.Dv
instance:xD Tryz.prog T:=⟨good⟩
end Go.Proofs.YtebopbncplpdgaaGreatDoor
end
section
namespace Go.Proofs.YtebopbncplpdgaaGreatDoor
open Go.Dv Go.Pl Go.Proofs.Tryz
abbrev nInts (l:L1):D:= .sl none (l.map dI)
abbrev bV (l:L1):D:= .sl (some 3) (l.map dI)
abbrev mH (l:List Str):D:= .sl none (l.map dS)
abbrev J5 (l:List Str):D:= .sl (some 9) (l.map dS)
abbrev cK (m:L2):D:= .sl none (m.map nInts)
abbrev nL (m:L2):D:= .sl (some 25) (m.map bV)
abbrev kK (v:Ver):D:= .agg [dI v.a,dI v.b,dB v.same,dI v.time]
abbrev nVers (l:List Ver):D:= .sl none (l.map kK)
abbrev oVers (l:List Ver):D:= .sl (some 129) (l.map kK)
abbrev uP (t:Tst):D:= .agg [dI t.feature,dI t.threshold,dB t.below]
abbrev xJ (l:List Tst):D:= .agg [.sl none (l.map uP)]
abbrev nD (r:List (List Tst)):D:= .agg [.sl none (r.map xJ)]
abbrev J2 (s:Sco):D:= .agg [nInts s.weights,dI s.bias]
abbrev ai6 (c:Cfg):D:= .agg [nD c.rules,J2 c.sco,nInts c.surv]
abbrev nV (r:Rec):D:= .agg [dI r.source,dI r.key,dI r.version,mH r.fields]
abbrev uR (l:List Rec):D:= .sl none (l.map nV)
abbrev XM (s:Sto):D:= .agg [dI s.version,uR s.recs,nVers s.vers]
def bK (x a b:Int):Fk 107 [dI x,dI a,dI b] (vB (inR x a b)):=by
 refine fE [] ntmps107 fun _ _=> ?_;simp;apply gv<;>intro g1
 ·have g1':=g1;simp[g1]
 ·have g1':=g1;simp at g1';simp[g1]
def bH (x a b:Int):Fk 91 [dI x,dI a,dI b] (vB (inR x a b)):=by
 refine fE [] ntmps91 fun _ _=> ?_;simp;apply gv<;>intro g1
 ·have g1':=g1;simp[g1]
 ·have g1':=g1;simp at g1';simp[g1]
def EJ (x:Int):Fk 276 [dI x] (vB (inR x 1 399)):=by
 refine fE [] ntmps276 fun _ _=> ?_;simp;refine ck (bK _ _ _) ?_;simp
def OG (v:Ver):Fk 274 [kK v] (vB (fQ v)):=by
 refine fE [] ntmps274 fun _ _=> ?_;simp;refine ck (EJ _) ?_;simp;apply gv<;>intro g1
 ·have g1':=g1;simp at g1';simp[g1];refine ck (EJ _) ?_;simp;apply gv<;>intro g2
  ·have g2':=g2;simp at g2';simp[g2];apply gv<;>intro g3
   ·have g3':=g3;simp[g3];refine ck (bK _ _ _) ?_;simp;grind[fQ]
   ·have g3':=g3;simp at g3';simp[g3];grind[fQ]
  ·have g2':=g2;simp at g2';simp[g2];grind[fQ]
 ·have g1':=g1;simp at g1';simp[g1];grind[fQ]
def CR (v:Ver):Fk 341 [kK v] (vB (fQ v)):=by
 refine fE [] ntmps341 fun _ _=> ?_;simp;refine ck (bH _ _ _) ?_;simp;apply gv<;>intro g1
 ·have g1':=g1;simp at g1';simp[g1];refine ck (bH _ _ _) ?_;simp;apply gv<;>intro g2
  ·have g2':=g2;simp at g2';simp[g2];apply gv<;>intro g3
   ·have g3':=g3;simp[g3];refine ck (bH _ _ _) ?_;simp;grind[fQ]
   ·have g3':=g3;simp at g3';simp[g3];grind[fQ]
  ·have g2':=g2;simp at g2';simp[g2];grind[fQ]
 ·have g1':=g1;simp at g1';simp[g1];grind[fQ]
def agM (s:Str)(hs:Qle s:=by first|omega|grind):Fk 206 [dS s] (vB (isText s)):=by
 refine fE [] ntmps206 fun _ _=> ?_;simp;refine wlt Nat (fun i=>([(0,wN s),(3,vI i)],s.length-i,(i<=s.length)/\((s.take i).all BS=true))) (0) ⟨by omega,rfl⟩ ?_;rintro i ⟨h1,h2⟩;simp;apply gw<;>intro a
 ·obtain⟨c,hc⟩:=aO (l:=s) (i:=i);simp[hc];apply gv<;>intro g
  ·have g':=g;have hn:=fV hc (P:=BS) (by first|assumption|(simp;omega)|(simp[*];done)|(simp[BS, *];done)|grind[BS]|(simp[BS];omega));simp[g];grind[isText]
  ·have g':=g;simp at g';simp[hc,g];apply gw<;>intro b
   ·have hn:=fV hc (P:=BS) (by first|assumption|(simp;omega)|(simp[*];done)|(simp[BS, *];done)|grind[BS]|(simp[BS];omega));simp;grind[isText]
   ·simp at b;simp;refine nxa (i+1) ⟨by omega,(bW hc h2 (by first|assumption|(simp;omega)|(simp[*];done)|(simp[BS, *];done)|grind[BS]|(simp[BS];omega)))⟩
 ·simp at a;have hf:=iX h2 a;simp;grind[isText]
def ad7 (s:Str)(hs:Qle s):Fk 132 [dS s] (vB (kS s)):=by
 refine fE [] ntmps132 fun _ _=> ?_;simp;refine wlt Nat (fun i=>([(0,wN s),(3,vI i)],s.length-i,(i<=s.length)/\((s.take i).all wR=true))) (0) ⟨by omega,rfl⟩ ?_;rintro i ⟨h1,h2⟩;simp;apply gw<;>intro a
 ·obtain⟨c,hc⟩:=aO (l:=s) (i:=i);simp[hc];apply gv<;>intro g
  ·have g':=g;have hn:=fV hc (P:=wR) (by first|assumption|(simp;omega)|(simp[*];done)|(simp[wR, *];done)|grind[wR]|(simp[wR];omega));simp[g];grind[kS]
  ·have g':=g;simp[hc,g];apply gw<;>intro b
   ·have hn:=fV hc (P:=wR) (by first|assumption|(simp;omega)|(simp[*];done)|(simp[wR, *];done)|grind[wR]|(simp[wR];omega));simp;grind[kS]
   ·simp;refine nxa (i+1) ⟨by omega,(bW hc h2 (by first|assumption|(simp;omega)|(simp[*];done)|(simp[wR, *];done)|grind[wR]|(simp[wR];omega)))⟩
 ·simp at a;have hf:=iX h2 a;simp;refine ck (agM _) ?_;simp;grind[kS]
def oL (f:L1)(hs:Qle f:=by first|omega|grind):Fk 141 [nInts f] (vB (vZ f)):=by
 refine fE [] ntmps141 fun _ _=> ?_;simp;refine wlt Nat (fun i=>([(0,.val (nInts f)),(3,vI i)],f.length-i,(i<=f.length)/\((f.take i).all J8=true))) (0) ⟨by omega,rfl⟩ ?_;rintro i ⟨h1,h2⟩;simp;apply gw<;>intro a
 ·obtain⟨c,hc⟩:=aO (l:=f) (i:=i);simp[hc];refine ck (bH _ _ _) ?_;simp;apply gw<;>intro b
  ·simp at b;have hn:=fV hc (P:=J8) (by first|assumption|(simp;omega)|(simp[*];done)|(simp[J8, *];done)|grind[J8]|(simp[J8];omega));simp;grind[vZ]
  ·simp at b;simp;refine nxa (i+1) ⟨by omega,(bW hc h2 (by first|assumption|(simp;omega)|(simp[*];done)|(simp[J8, *];done)|grind[J8]|(simp[J8];omega)))⟩
 ·simp at a;have hf:=iX h2 a;simp;grind[vZ]
def AA (f:L1)(hs:Qle f:=by first|omega|grind):Fk 164 [nInts f] (vB (rV f)):=by
 refine fE [] ntmps164 fun _ _=> ?_;simp;refine wlt Nat (fun i=>([(0,.val (nInts f)),(3,vI i)],f.length-i,(i<=f.length)/\((f.take i).all TC=true))) (0) ⟨by omega,rfl⟩ ?_;rintro i ⟨h1,h2⟩;simp;apply gw<;>intro a
 ·obtain⟨c,hc⟩:=aO (l:=f) (i:=i);simp[hc];refine ck (bH _ _ _) ?_;simp;apply gw<;>intro b
  ·simp at b;have hn:=fV hc (P:=TC) (by first|assumption|(simp;omega)|(simp[*];done)|(simp[TC, *];done)|grind[TC]|(simp[TC];omega));simp;grind[rV]
  ·simp at b;simp;refine nxa (i+1) ⟨by omega,(bW hc h2 (by first|assumption|(simp;omega)|(simp[*];done)|(simp[TC, *];done)|grind[TC]|(simp[TC];omega)))⟩
 ·simp at a;have hf:=iX h2 a;simp;grind[rV]
def sO (a b:Int):Fk 180 [dI a,dI b] (vI (cmpI a b)):=by
 refine fE [] ntmps180 fun _ _=> ?_;simp;apply gw<;>intro h1
 ·simp;grind[cmpI]
 ·simp at h1;simp;apply gw<;>intro h2
  ·simp;grind[cmpI]
  ·simp at h2;simp;grind[cmpI]
def mZ (l:L1)(x:Int)(hs:Qle l:=by first|omega|grind):Fk 93 [nInts l,dI x] (vI (ix (fun y=>decide (y=x)) l)):=by
 refine fE [] ntmps93 fun _ _=> ?_;simp;refine wlt Nat (fun i=>([(0,.val (nInts l)),(1,vI x),(5,vI i)],l.length-i,(i<=l.length)/\((l.take i).any (fun y=>decide (y=x))=false))) (0) ⟨by omega,rfl⟩ ?_;rintro i ⟨h1,h2⟩;simp;apply gw<;>intro a
 ·obtain⟨c,hc⟩:=aO (l:=l) (i:=i);simp[hc];apply gw<;>intro b
  ·have hn:=DZ hc h2 (by simp[b]);simp[hn]
  ·simp;refine nxa (i+1) ⟨by omega,(kN hc h2 (by simp[b]))⟩
 ·simp at a;have hf:=pK h2 a;have hx:=sF hf;simp[hx]
def vY (l:List Ver)(hs:Qle l:=by first|omega|grind):Fk 248 [nVers l] (.own (oVers l)):=by
 refine fE [] ntmps248 fun _ _=> ?_;simp;omega
def nH (r:Rec)(hs:zW r):Fk 64 [nV r] (vB (aV r)):=by
 refine fE [] ntmps64 fun _ _=> ?_;obtain⟨hs1,hs2⟩:=hs;simp;refine wlt Nat (fun i=>([(1,.own (.bx true (nV r))),(3,vI i)],(r.fields).length-i,(i<=(r.fields).length)/\(((r.fields).take i).all kS=true))) (0) ⟨by omega,rfl⟩ ?_;rintro i ⟨h1,h2⟩;simp;apply gw<;>intro a
 ·obtain⟨c,hc⟩:=aO (l:=r.fields) (i:=i);simp[hc];refine ck (ad7 _ (hs2 c (aA hc))) ?_;simp;apply gw<;>intro b
  ·simp at b;have hn:=fV hc (P:=kS) (by first|assumption|(simp;omega)|(simp[*];done)|(simp[kS, *];done)|grind[kS]|(simp[kS];omega));simp;grind[aV]
  ·simp at b;simp;refine nxa (i+1) ⟨by omega,(bW hc h2 (by first|assumption|(simp;omega)|(simp[*];done)|(simp[kS, *];done)|grind[kS]|(simp[kS];omega)))⟩
 ·simp at a;have hf:=iX h2 a;simp;refine ck (bH _ _ _) ?_;simp;apply gv<;>intro g1
  ·have g1':=g1;simp at g1';simp[g1];refine ck (bH _ _ _) ?_;simp;apply gv<;>intro g2
   ·have g2':=g2;simp at g2';simp[g2];refine ck (bH _ _ _) ?_;simp;apply gv<;>intro g3
    ·have g3':=g3;simp at g3';simp[g3];grind[aV]
    ·have g3':=g3;simp at g3';simp[g3];grind[aV]
   ·have g2':=g2;simp at g2';simp[g2];grind[aV]
  ·have g1':=g1;simp at g1';simp[g1];grind[aV]
def yM (r:Rec)(hs:inR r.source 0 3)(hk:inR r.key 1 99):Fk 94 [nV r] (vI (jQ r)):=by
 refine fE [] ntmps94 fun _ _=> ?_;simp at hs hk;simp;iterate 2 refine ai ?_
 grind[jQ]
def vX (l:List Rec)(hs:Qle l)(hr:∀r∈l,zW r):Fk 163 [uR l] (vB (l.all aV&&decide (l.length<=12))):=by
 refine fE [] ntmps163 fun _ _=> ?_;simp;refine wlt Nat (fun i=>([(0,.val (uR l)),(3,vI i)],l.length-i,(i<=l.length)/\((l.take i).all aV=true))) (0) ⟨by omega,rfl⟩ ?_;rintro i ⟨h1,h2⟩;simp;apply gw<;>intro a
 ·obtain⟨c,hc⟩:=aO (l:=l) (i:=i);simp[hc];refine ck (nH _ (hr c (aA hc))) ?_;simp;apply gw<;>intro b
  ·simp at b;have hn:=fV hc (P:=aV) (by first|assumption|(simp;omega)|(simp[*];done)|(simp[aV, *];done)|grind[aV]|(simp[aV];omega));simp[hn]
  ·simp at b;simp;refine nxa (i+1) ⟨by omega,(bW hc h2 (by first|assumption|(simp;omega)|(simp[*];done)|(simp[aV, *];done)|grind[aV]|(simp[aV];omega)))⟩
 ·simp at a;have hf:=iX h2 a;simp[hf];omega
end Go.Proofs.YtebopbncplpdgaaGreatDoor
end
section
namespace Go.Proofs.YtebopbncplpdgaaGreatDoor
open Go.Dv Go.Pl
@[go_sem,simp] abbrev vN (x:L1):S:= .val (nInts x)
@[go_sem,simp] abbrev vS (x:L1):S:= .own (bV x)
@[go_sem,simp] abbrev vV (x:List Ver):S:= .val (nVers x)
@[go_sem,simp] abbrev wV (x:List Ver):S:= .own (oVers x)
@[go_sem,simp] abbrev vR (x:List Rec):S:= .val (uR x)
@[go_sem,simp] abbrev vT (x:List Str):S:= .val (mH x)
@[go_sem,simp] abbrev wC (x:List Str):S:= .own (J5 x)
end Go.Proofs.YtebopbncplpdgaaGreatDoor
end
section
namespace Go.Proofs.YtebopbncplpdgaaGreatDoor
open Go.Dv Go.Pl Go.Proofs.Tryz
abbrev aoG (c:Con):D:= .agg [dI c.a,dI c.b,dB c.same]
abbrev aMC (l:List Con):D:= .sl (some 232) (l.map aoG)
abbrev jO (l:List Con):D:= .sl none (l.map aoG)
def aBI (a b c d:Int)(s t:Bool)(a' b':Int):Dv.EqAt prog 129 [.int .i64 a,.int .i64 b,.bool s,.int .i64 c] [.int .i64 a',.int .i64 b',.bool t,.int .i64 d] (decide (a=a'/\b=b'/\s=t/\c=d)):=by
 refine⟨by kernel_rfl,fun w=> ?_⟩;have u3:=underlying3;have a3:=Tryz.isAgg3;have z3:=Tryz.sizeOf3;have u4:=underlying4;have a4:=Tryz.isAgg4;have z4:=Tryz.sizeOf4;have hS:prog.underlying 129=some (.struct (prog.fieldsOf 129)):=by kernel_rfl
 have hp:prog.stoodInHeld 129=false:=by kernel_rfl
 rw[show(10000:Nat)=9999+1 from rfl,run_equalIn_agg w 9999 129 _ _ hS hp];simp only[Program.fieldsOf,underlying129]
 go_simp
 by_cases h1:a=a'<;>by_cases h2:b=b'<;>by_cases h3:s=t<;>by_cases h4:c=d<;>simp[h1,h2,h3,h4]
@[go_sem,simp] def aK8 (a b c d:Int)(s t:Bool)(a' b':Int)(r:Bool):Dv.EqAt prog 129 [.int .i64 a,.int .i64 b,.bool s,.int .i64 c] [.int .i64 a',.int .i64 b',.bool t,.int .i64 d] r↔r=(decide (a=a'/\b=b'/\s=t/\c=d)):=(aBI a b c d s t a' b').iff
def tZ (a b:Ver):Fk 342 [kK a,kK b] (vI (gP a b)):=by
 refine fE [] ntmps342 fun _ _=> ?_;simp;refine ck (sO _ _) ?_;simp;apply gw<;>intro h1
 ·simp;refine ck (sO _ _) ?_;simp;apply gw<;>intro h2
  ·simp;refine ck (sO _ _) ?_;simp;apply gv<;>intro g3
   ·have g3':=g3;simp[g3];apply gw<;>intro h4
    ·simp at h4;simp;apply gw<;>intro h5
     ·simp;grind[gP]
     ·simp;grind[gP]
    ·simp at h4;simp;grind[gP]
   ·have g3':=g3;simp[g3];grind[gP]
  ·simp;apply gv<;>intro g6
   ·have g6':=g6;simp[g6];apply gw<;>intro h7
    ·simp at h7;simp;apply gw<;>intro h8
     ·simp;omega
     ·simp;omega
    ·simp at h7;simp;omega
   ·have g6':=g6;simp[g6];grind[gP]
 ·simp;apply gw<;>intro h9
  ·simp;refine ck (sO _ _) ?_;simp;apply gv<;>intro g10
   ·have g10':=g10;simp[g10];apply gw<;>intro h11
    ·simp at h11;simp;apply gw<;>intro h12
     ·simp;omega
     ·simp;omega
    ·simp at h11;simp;omega
   ·have g10':=g10;simp[g10];omega
  ·simp;apply gv<;>intro g13
   ·have g13':=g13;simp[g13];apply gw<;>intro h14
    ·simp at h14;simp;apply gw<;>intro h15
     ·simp;omega
     ·simp;omega
    ·simp at h14;simp;omega
   ·have g13':=g13;simp[g13];grind[gP]
def aiY (l:List Ver)(v:Ver)(hs:Qle l:=by first|omega|grind):Fk 343 [nVers l,kK v] (vI (ix (fun y=>decide (y=v)) l)):=by
 refine fE [] ntmps343 fun _ _=> ?_;simp;refine wlt Nat (fun i=>([(0,vV l),(3,.own (.bx true (kK v))),(5,vI i)],l.length-i,(i<=l.length)/\((l.take i).any (fun y=>decide (y=v))=false))) (0) ⟨by omega,rfl⟩ ?_;rintro i ⟨h1,h2⟩;simp;apply gw<;>intro a
 ·obtain⟨c,hc⟩:=aO (l:=l) (i:=i);simp;refine wdr ?_;simp[hc];apply gw<;>intro b
  ·simp at b;have hn:=DZ hc h2 (by cases c;cases v;simp_all);simp[hn]
  ·simp at b;simp;refine nxa (i+1) ⟨by omega,(kN hc h2 (by cases c;cases v;simp_all))⟩
 ·simp at a;have hf:=pK h2 a;have hx:=sF hf;simp[hx]
def qI (g:L2)(x:Int)(hs:Qle g:=by first|omega|grind)(hg:∀l∈g,Qle l:=by first|omega|grind):Fk 254 [cK g,dI x] (vI (eZ g x)):=by
 refine fE [] ntmps254 fun _ _=> ?_;simp;refine wlt Nat (fun i=>([(0,.val (cK g)),(1,vI x),(5,vI i)],g.length-i,(i<=g.length)/\((g.take i).any (grp x)=false))) (0) ⟨by omega,rfl⟩ ?_;rintro i ⟨h1,h2⟩;simp;apply gw<;>intro a
 ·obtain⟨c,hc⟩:=aO (l:=g) (i:=i);simp[hc];refine ck (mZ _ _ (hg c (aA hc))) ?_;simp;apply gw<;>intro b
  ·have hx:eZ g x=i:=DZ hc h2 (jC.1 b);simp[hx]
  ·simp at b;simp;refine nxa (i+1) ⟨by omega,(kN hc h2 (by rw[kE];intro h;have:=jC.2 h;unfold grp at*;omega))⟩
 ·simp at a;have hx:eZ g x= -1:=sF (pK h2 a);simp[hx]
def abQ (g:L2)(l:List Ver)(hs:Qle g)(hg:∀l∈g,Qle l)(hl:Qle l):Fk 250 [cK g,nVers l] (vB (l.all (EA g))):=by
 refine fE [] ntmps250 fun _ _=> ?_;simp;refine wlt Nat (fun i=>([(0,.val (cK g)),(1,vV l),(5,vI i)],l.length-i,(i<=l.length)/\((l.take i).all (EA g)=true))) (0) ⟨by omega,rfl⟩ ?_;rintro i ⟨h1,h2⟩;simp;apply gw<;>intro a
 ·obtain⟨c,hc⟩:=aO (l:=l) (i:=i);simp[hc];refine ck (qI _ _) ?_;simp;apply gv<;>intro e
  ·have e':=e;simp[hc,e];refine ck (qI _ _) ?_;simp;apply gw<;>intro b
   ·have hn:=fV hc (P:=(EA g)) (by simp[EA,b];omega);simp[hn]
   ·simp;refine nxa (i+1) ⟨by omega,(bW hc h2 (by simp[EA,b,e]))⟩
  ·have e':=e;simp at e';simp[e];refine nxa (i+1) ⟨by omega,(bW hc h2 (by simp[EA,e]))⟩
 ·simp at a;have hf:=iX h2 a;simp[hf]
def pR (s:Sco)(hs:Qle s.weights:=by first|omega|grind):Fk 140 [J2 s] (vB (mO s)):=by
 refine fE [] ntmps140 fun _ _=> ?_;simp;refine wlt Nat (fun i=>([(1,.own (.bx true (J2 s))),(3,.val (dI (s.weights.take i).sum)),(4,vI i)],(s.weights).length-i,(i<=(s.weights).length)/\((s.weights.take i).all IL=true)/\(0<=(s.weights.take i).sum/\(s.weights.take i).sum<=9*i))) (0) ⟨by omega,rfl,by simp⟩ ?_;rintro i ⟨h1,h2,h3⟩;simp;apply gw<;>intro a
 ·obtain⟨c,hc⟩:=aO (l:=s.weights) (i:=i);simp[hc];refine ck (bH _ _ _) ?_;simp;apply gw<;>intro b
  ·simp at b;have hn:=fV hc (P:=IL) (by simp[IL];omega);simp;grind[mO]
  ·simp at b;have hsum:(s.weights.take (i+1)).sum=(s.weights.take i).sum+c:=by rw[dE hc];simp
   simp[hc];refine nxb (i+1) ⟨by omega,(bW hc h2 (by simp[IL];omega)),by omega⟩ (h3:=by simp[hc,hsum])
 ·simp at a;have hf:=iX h2 a;rw[bJ a];simp;apply gv<;>intro g1
  ·have g1':=g1;simp[g1];apply gv<;>intro g2
   ·have g2':=g2;simp[g2];refine ck (bH _ _ _) ?_;simp;grind[mO]
   ·have g2':=g2;simp at g2';simp[g2];grind[mO]
  ·have g1':=g1;simp[g1];grind[mO]
def zK (l:List Ver)(hs:Qle l:=by first|omega|grind):Fk 246 [nVers l] (vB (lI l)):=by
 refine fE [] ntmps246 fun _ _=> ?_;simp;refine wlt Nat (fun i=>([(0,vV l),(3,vI i)],l.length-i,(i<=l.length)/\((l.take i).all fQ=true)/\(adj (fun a b=>decide (gP a b<0)) (l.take i)=true))) (0) ⟨by omega,rfl,rfl⟩ ?_;rintro i ⟨h1,h2,h3⟩;simp;apply gw<;>intro a
 ·obtain⟨c,hc⟩:=aO (l:=l) (i:=i);simp;refine wdr ?_;simp[hc];refine cd (CR _) ?_;simp;apply gv<;>intro e
  ·have e':=e;simp at e';have hn:=fV hc (P:=fQ) (by simpa using e);simp[e];grind[lI]
  ·have e':=e;simp at e';simp[e];apply gv<;>intro f
   ·have f':=f;obtain⟨p,hp⟩:=aO (l:=l) (i:=i-1);have hi1:i-1+1=i:=by omega
    simp[hc,f,hp];iterate 2 refine ai ?_
    refine cd (tZ _ _) ?_;simp;apply gw<;>intro b
    ·have hn:=LJ hp (by rw[hi1];exact hc) (R:=fun a b=>decide (gP a b<0)) (by simp;omega);simp;grind[lI]
    ·simp at b;simp;refine nxa (i+1) ⟨by omega,(bW hc h2 (by simpa using e)),by have:=zX (i:=i-1) (by rw[hi1];exact h3) hp (by rw[hi1];exact hc) (by simp;omega);rwa [hi1]at this⟩
   ·have f':=f;simp at f';simp[f];refine nxa (i+1) ⟨by omega,(bW hc h2 (by simpa using e)),(by obtain rfl:i=0:=(by omega);exact wO)⟩
 ·simp at a;have hf:=iX h2 a;rw[bJ a]at h3;simp;grind[lI]
end Go.Proofs.YtebopbncplpdgaaGreatDoor
end
section
namespace Go.Proofs.YtebopbncplpdgaaGreatDoor
open Go.Dv Go.Pl
@[go_sem,simp] abbrev vE (x:List Con):S:= .val (jO x)
@[go_sem,simp] abbrev wG (x:List Con):S:= .own (aMC x)
end Go.Proofs.YtebopbncplpdgaaGreatDoor
end
section
namespace Go.Proofs.YtebopbncplpdgaaGreatDoor
open Go.Dv Go.Pl Go.Proofs.Tryz
def axB (l:List Str):Prop:=l.length<=9223372036854775807/\∀x∈l,x.length<=9223372036854775807
def as4 (l:List Str)(left:Int):Prop:=(l.length:Int)<=left/\∀x∈l,(x.length:Int)<=left
def axV {l:List Str}{a b:Int}(h:as4 l a)(hab:a<=b):as4 l b:=⟨by have:=h.1;omega,fun x hx=>by have:=h.2 x hx;omega⟩
def aAO (l:List Rec):Prop:=l.length<=9223372036854775807/\∀o∈l,axB o.fields
def aJS (l:List Rec)(left:Int):Prop:=(l.length:Int)<=left/\∀o∈l,as4 o.fields left
def axC (l:List (List Tst)):Prop:=l.length<=9223372036854775807/\∀o∈l,o.length<=9223372036854775807
def aGC (l:List (List Tst))(left:Int):Prop:=(l.length:Int)<=left/\∀o∈l,(o.length:Int)<=left
def adU (l:List Tst)(left:Int)(hl:l.length<=9223372036854775807)(h0:0<=left/\left<=1048576):fA prog 340 [.sl none (l.map uP),dI left] (fun r=>∃v:Int,r=vI v/\(-1<=v/\v<=left)/\(0<=v->(l.length:Int)<=left)):=by
 refine fE [] ntmps340 fun _ _=> ?_;simp;refine ai ?_;apply gw<;>intro e
 ·simp;omega
 ·simp at e;simp;refine ai ?_;omega
def agJ (l:List Tst)(left:Int)(hl:l.length<=9223372036854775807)(h0:0<=left/\left<=1048576):fA prog 245 [xJ l,dI left] (fun r=>∃v:Int,r=vI v/\(-1<=v/\v<=left)/\(0<=v->(l.length:Int)<=left)):=by
 refine fE [] ntmps245 fun _ _=> ?_;simp;refine eB (adU l left hl h0) (by simp) ?_;rintro r ⟨v,rfl,hv,hf⟩;refine⟨by simp,?_⟩;simp;apply gw<;>intro b
 ·simp;omega
 ·simp at b;have hfit:=hf (by omega);simp[hfit];refine ai ?_;omega
def adS (l:List (List Tst))(left:Int)(hl:axC l)(h0:0<=left/\left<=1048576):fA prog 169 [.sl none (l.map xJ),dI left] (fun r=>∃v:Int,r=vI v/\(-1<=v/\v<=left)/\(0<=v->aGC l left)):=by
 refine fE [] ntmps169 fun _ _=> ?_;have hl1:=hl.1;simp;refine ai ?_;apply gw<;>intro e
 ·simp;omega
 ·simp at e;simp;refine wlt (Nat×Int) (fun(i,L)=>([(0,.val (.sl none (l.map xJ))),(1,vI L),(5,vI i)],l.length-i,(i<=l.length)/\(0<=L/\L<=left-l.length)/\(∀o∈l.take i,(o.length:Int)<=left))) ((0,left-l.length)) ⟨by omega,by omega,by simp⟩ ?_;rintro⟨i,L⟩ ⟨h1,h2,h3⟩;simp;apply gw<;>intro a
  ·obtain⟨c,hc⟩:=aO (l:=l) (i:=i);have hcl:=hl.2 c (aA hc);simp[hc];refine eB (agJ c L hcl (by omega)) (by simp) ?_;rintro r ⟨v,rfl,hv,hf⟩;refine⟨by simp,?_⟩;simp;apply gw<;>intro b
   ·simp;omega
   ·simp at b;have hfc:=hf (by omega);simp;refine nxa (i+1,v) ⟨by omega,by omega,(by rw[dE hc];intro x hx;rcases k_List_mem_append.1 hx with hx|hx;(exact h3 x hx);(obtain rfl:=k_List_mem_singleton.1 hx;omega))⟩
  ·simp at a;have hfit:aGC l left:=⟨by omega,by rwa [bJ]at h3⟩;simp[hfit];refine ai ?_;omega
def Y5 (l:List (List Tst))(left:Int)(hl:axC l)(h0:0<=left/\left<=1048576):fA prog 84 [nD l,dI left] (fun r=>∃v:Int,r=vI v/\(-1<=v/\v<=left)/\(0<=v->aGC l left)):=by
 refine fE [] ntmps84 fun _ _=> ?_;simp;refine eB (adS l left hl h0) (by simp) ?_;rintro r ⟨v,rfl,hv,hf⟩;refine⟨by simp,?_⟩;simp;apply gw<;>intro b
 ·simp;omega
 ·simp at b;have hfit:=hf (by omega);simp[hfit];refine ai ?_;omega
def JC (l:L1)(left:Int)(hl:l.length<=9223372036854775807)(h0:0<=left/\left<=1048576):fA prog 86 [nInts l,dI left] (fun r=>∃v:Int,r=vI v/\(-1<=v/\v<=left)/\(0<=v->v+(l.length:Int)<=left)):=by
 refine fE [] ntmps86 fun _ _=> ?_;simp;refine ai ?_;apply gw<;>intro e
 ·simp;omega
 ·simp at e;simp;refine ai ?_;omega
def Y6 (s:Sco)(left:Int)(hl:s.weights.length<=9223372036854775807)(h0:0<=left/\left<=1048576):fA prog 85 [J2 s,dI left] (fun r=>∃v:Int,r=vI v/\(-1<=v/\v<=left)/\(0<=v->(s.weights.length:Int)<=left)):=by
 refine fE [] ntmps85 fun _ _=> ?_;simp;refine eB (JC s.weights left hl h0) (by simp) ?_;rintro r ⟨v,rfl,hv,hf⟩;refine⟨by simp,?_⟩;simp;apply gw<;>intro b
 ·simp;omega
 ·simp at b;have hfit:=hf (by omega);simp;refine ai ?_;omega
def JD (l:List Ver)(left:Int)(hl:l.length<=9223372036854775807)(h0:0<=left/\left<=1048576):fA prog 38 [nVers l,dI left] (fun r=>∃v:Int,r=vI v/\(-1<=v/\v<=left)/\(0<=v->(l.length:Int)<=left)):=by
 refine fE [] ntmps38 fun _ _=> ?_;simp;refine ai ?_;apply gw<;>intro e
 ·simp;omega
 ·simp at e;simp;refine ai ?_;omega
def Y7 (l:List Str)(left:Int)(hl:axB l)(h0:0<=left/\left<=1048576):fA prog 63 [mH l,dI left] (fun r=>∃v:Int,r=vI v/\(-1<=v/\v<=left)/\(0<=v->as4 l left)):=by
 refine fE [] ntmps63 fun _ _=> ?_;have hl1:=hl.1;simp;refine ai ?_;apply gw<;>intro e
 ·simp;omega
 ·simp at e;simp;refine wlt (Nat×Int) (fun(i,L)=>([(0,vT l),(1,vI L),(5,vI i)],l.length-i,(i<=l.length)/\(0<=L/\L<=left-l.length)/\(∀x∈l.take i,(x.length:Int)<=left))) ((0,left-l.length)) ⟨by omega,by omega,by simp⟩ ?_;rintro⟨i,L⟩ ⟨h1,h2,h3⟩;simp;apply gw<;>intro a
  ·obtain⟨c,hc⟩:=aO (l:=l) (i:=i);have hcl:=hl.2 c (aA hc);simp[hc];refine ai ?_;apply gw<;>intro b
   ·simp;omega
   ·simp at b;simp;refine nxa (i+1,L-c.length) ⟨by omega,by omega,(by rw[dE hc];intro x hx;rcases k_List_mem_append.1 hx with hx|hx;(exact h3 x hx);(obtain rfl:=k_List_mem_singleton.1 hx;omega))⟩
  ·simp at a;have hfit:as4 l left:=⟨by omega,by rwa [bJ]at h3⟩;simp[hfit];refine ai ?_;omega
def M6 (r:Rec)(left:Int)(hl:axB r.fields)(h0:0<=left/\left<=1048576):fA prog 22 [nV r,dI left] (fun x=>∃v:Int,x=vI v/\(-1<=v/\v<=left)/\(0<=v->as4 r.fields left)):=by
 refine fE [] ntmps22 fun _ _=> ?_;simp;refine eB (Y7 r.fields left hl h0) (by simp) ?_;rintro r ⟨v,rfl,hv,hf⟩;refine⟨by simp,?_⟩;simp;apply gw<;>intro b
 ·simp;omega
 ·simp at b;have hfit:=hf (by omega);simp[hfit];refine ai ?_;omega
def Y4 (l:List Rec)(left:Int)(hl:aAO l)(h0:0<=left/\left<=1048576):fA prog 87 [uR l,dI left] (fun r=>∃v:Int,r=vI v/\(-1<=v/\v<=left)/\(0<=v->aJS l left)):=by
 refine fE [] ntmps87 fun _ _=> ?_;have hl1:=hl.1;simp;refine ai ?_;apply gw<;>intro e
 ·simp;omega
 ·simp at e;simp;refine wlt (Nat×Int) (fun(i,L)=>([(0,vR l),(1,vI L),(5,vI i)],l.length-i,(i<=l.length)/\(0<=L/\L<=left-l.length)/\(∀o∈l.take i,as4 o.fields left))) ((0,left-l.length)) ⟨by omega,by omega,by simp⟩ ?_;rintro⟨i,L⟩ ⟨h1,h2,h3⟩;simp;apply gw<;>intro a
  ·obtain⟨c,hc⟩:=aO (l:=l) (i:=i);have hcl:=hl.2 c (aA hc);simp[hc];refine eB (M6 c L hcl (by omega)) (by simp) ?_;rintro r ⟨v,rfl,hv,hf⟩;refine⟨by simp,?_⟩;simp;apply gw<;>intro b
   ·simp;omega
   ·simp at b;have hfc:=axV (hf (by omega)) (show L<=left by omega);simp;refine nxa (i+1,v) ⟨by omega,by omega,(by rw[dE hc];intro x hx;rcases k_List_mem_append.1 hx with hx|hx;(exact h3 x hx);(obtain rfl:=k_List_mem_singleton.1 hx;exact hfc))⟩
  ·simp at a;have hfit:aJS l left:=⟨by omega,by rwa [bJ]at h3⟩;simp[hfit];refine ai ?_;omega
end Go.Proofs.YtebopbncplpdgaaGreatDoor
end
section
namespace Go.Er
open Go.ChangeShapes Go.WideShapes Go.ChangeAt Go.RowKit
variable {n:String}{g:Nat}
section
variable {H:Type}{enc:TypeId×Value->H}
def ajE {P:Program}(hl:laidOutB P) {W W':World}(hb:Below W.heap.size W W') {t:TypeId}(hg:P.globalNamed n=some g) (ht:(P.globals[g]?).map (·.type)=some t) (hr:P.readableRec t=true/\t<P.types.size) {gs:List (DataW H)}{ps:List MemPlace}
  (h:DataW.TrodVars enc P W (fun _=>true) [n] gs ps):∃q,DataW.TrodVars enc P W' (fun b=>decide (b<W.heap.size)) [n] gs q:=by
 obtain⟨g',t',cs,fuel,d,p,rfl,h1,h2,h3,h4,rfl⟩:=trodVars_one h;obtain rfl:=k_Option_some_inj (hg.symm.trans h1);obtain rfl:=k_Option_some_inj (ht.symm.trans h2);have h0:DataW.Trod enc P W 0 (fun _=>true) true t (.agg cs) d p:=⟨fuel,h4⟩;have lt0:∀x∈p,x.block<W.heap.size:=DataW.trod_lt fuel _ _ _ h4;obtain⟨m,hm⟩:=Below.trod hl hr.1 hr.2 h0 hb lt0
 have h5:W'.var? P n=some cs:=by
  unfold World.var? at h3|-
  rw[hg]at h3|-
  simp only[nP]at h3|-
  have hlt:g<W.heap.size:=by
   cases hx:W.heap[g]? with
   |none=>rw[hx]at h3;cases h3
   |some o=>exact(bO.1 hx).1
  rw[hb.block g hlt];exact h3
 exact⟨_,trodVars_mk1 hg ht h5 hm⟩
def wH {C:Checked}{f:FuncId}{fn:Func}{s:ChangeSpec}{os:Os}{L:List (String×DataW Unit)}{t:TypeId}(started:os.Started)
  (own:ownKnob C.prog.godebug=none) (laidOut:laidOutB C.prog=true) (noInit:C.prog.inits.idxOf? f=none) (hfn:C.prog.funcs[f]?=some fn)
  (hvars:s.vars=[n]) (hspec:∀(ds:List (DataW H)) (v:DataW H),ds.length=fn.params.size->s.fn H (ds++[v])={results:=[.lit (.bool true)],args:=ds,vars:=[v]})
  (hg:C.prog.globalNamed n=some g) (ht:(C.prog.globals[g]?).map (·.type)=some t) (hrt:C.prog.readableRec t=true/\t<C.prog.types.size)
  {tb:TypeId}(hres:fn.resultTypes= #[tb]) (hb:C.prog.underlying tb=some .bool)
  (hread:∀t∈fn.params.toList,C.prog.readableRec t=true/\t<C.prog.types.size)
  (witness:∃(w:World) (tape:Tape) (i:Input),w.os=os/\(w.forCall tape i).Shaped C.prog/\i.vars=[]/\Input.okWide C.prog (w.forCall tape i) .any w.heap.size f i/\
   ((s.pre enc C.prog fn [] false (w.forCall tape i).memory i.args/\laidMet C.prog L (w.forCall tape i).memory)/\sizedMet enc C.prog fn (OpenSpec.ofChange s) false (w.forCall tape i).memory i.args)/\({}:Assume).holds C.prog (lone (Frame.enter C.prog f i.args .normal) [] (w.forCall tape i)))
  (walk:∀(W:World) (base:Nat) (args:Array Value) (ds:List (DataW H)) (p:List MemPlace),W.ShapedOpen C.prog->
   (∀(j:Nat) t v,fn.params[j]?=some t->args[j]?=some v->Value.okWide C.prog W .any base t v)->
   DataW.TrodAll enc C.prog W 0 (fun _=>true) true fn.params.toList args.toList ds p->laidMet C.prog L W->
   Calls C.prog f args W fun e W'=>e= .returned (.bool true)/\Below W.heap.size W W'):
  ReturnsInHanded {} C os f .any (fun w args=>(s.pre enc C.prog fn [] false w args/\laidMet C.prog L w)/\sizedMet enc C.prog fn (OpenSpec.ofChange s) false w args) (s.post enc C.prog fn false true false false):=by
 refine returnsInHanded_of_calls own started noInit witness ?_;intro w tape i _ hsh _ hok hpre hholds;obtain⟨_,_,_,fn',hfn',_,_,_,_,hval⟩:=hok;obtain rfl:fn'=fn:=k_Option_some_inj (hfn'.symm.trans hfn);obtain⟨⟨⟨ds,gs,before,hw,hc⟩,hx⟩,hz⟩:=hpre;have hW:=DataW.Whole.of_heap (w':=w.forCall tape i) (by rfl) hw;have hL:laidMet C.prog L (w.forCall tape i):=hx.of_heap (by rfl);have hW':=hW;obtain⟨p,q,hA,hV,rfl,_,_⟩:=hW;rw[hvars]at hV;have hlen:=(trodAll_length hA).2;refine(walk (w.forCall tape i) w.heap.size i.args ds p hsh hval hA hL).mono fun e W' ⟨he,bel⟩=> ?_;subst he;obtain⟨q2,hV2⟩:=ajE laidOut bel hg ht hrt hV;obtain⟨_,_,_,_,v,_,rfl,_⟩:=trodVars_one hV;refine ChangeSpec.post_blind (v:= .bool true) ?_;have hsp:=hspec ds v (by simpa using hlen);refine⟨ds,[v],p++q,[],p,q2,hW',?_,?_,?_,bel.frame _,fun h=>by cases h⟩
 ·rw[hsp,hres];exact trodAll_mk1 (shut_bool hb _)
 ·rw[hsp];exact ajD laidOut bel hread hA
 ·rw[hsp,hvars];exact hV2
end
end Go.Er
namespace Go.Proofs.YtebopbncplpdgaaGreatDoor
open Go.Dv Go.Pl
open Go.ChangeShapes Go.WideShapes Go.ChangeAt Go.RowKit Go.Er
abbrev tables:List (String×DataW Unit):=[("unicode/utf8.first",Rows.laid_unicode_utf8_first),("unicode/utf8.acceptRanges",Rows.laid_unicode_utf8_acceptRanges),("loop.example/g01923/impl.soundCodes",Rows.laid_loop_example_g01923_impl_soundCodes),("strconv.ErrSyntax",Rows.laid_strconv_ErrSyntax),("strconv.ErrRange",Rows.laid_strconv_ErrRange),("internal/strconv.uint64pow10",Rows.laid_internal_strconv_uint64pow10),("math/bits.deBruijn32tab",Rows.laid_math_bits_deBruijn32tab),("math/bits.deBruijn64tab",Rows.laid_math_bits_deBruijn64tab)]
def own:ownKnob Tryz.prog.godebug=none:=by kernel_rfl
def laidOut:laidOutB Tryz.prog=true:=by kernel_rfl
def aJD: "*" ++ "errors.errorString" = "*errors.errorString" :=by decide
def aEN (u:TypeId)(h:Tryz.prog.typeName? 3 u=some "*errors.errorString"):u=432:=
 typeName_ptr_named (nm:= "errors.errorString") (by rw[aJD];kernel_rfl) (by kernel_rfl) (by decide) u (by rw[aJD];exact h)
def aID {W:World}(hL:laidMet Tryz.prog tables W):Lib.TabIs Tryz.prog W "internal/strconv.uint64pow10" .u64 Lib.pow10Tab:=by
 have h:=hL.tail.tail.tail.tail.tail;rw[show(Rows.laid_internal_strconv_uint64pow10:DataW Unit)=Lib.tabData .u64 Lib.pow10Tab by kernel_rfl]at h;exact Lib.tabIs_of_head (g:=6) (by kernel_rfl) (by kernel_rfl) Tryz.underlying440 Tryz.underlying272 (by kernel_rfl) (by kernel_rfl) h
def azO {W:World}(hL:laidMet Tryz.prog tables W):Lib.TabIs Tryz.prog W "loop.example/g01923/impl.soundCodes" .i64 TB:=by
 have h:=hL.tail.tail;rw[show(Rows.laid_loop_example_g01923_impl_soundCodes:DataW Unit)=Lib.tabData .i64 TB by kernel_rfl]at h;exact Lib.tabIs_of_head (g:=0) (by kernel_rfl) (by kernel_rfl) Tryz.underlying344 Tryz.underlying3 (by kernel_rfl) (by kernel_rfl) h
variable {P:Program}{base:Nat}
def asM {W:World}{t:TypeId}{cs:Array Value}(ht:P.cellTypes P.depth t=some [t])(hu:P.underlying t=some (.int .i64))(hs:cs.size=1)(h:Row.ok P W .any base t cs):∃m,cs= #[.int .i64 m]:=by
 obtain⟨ts,h1,_,h3⟩:=h;rw[ht]at h1;obtain rfl:=k_Option_some_inj h1;obtain⟨v,rfl⟩:=Array.size_eq_one_iff.1 hs;obtain⟨u,hu',hv⟩:=h3 0 v rfl;obtain rfl:t=u:=by simpa using hu'
 unfold Cell.ok at hv;rw[hu]at hv;cases v with
 |int k n=>obtain⟨rfl,_⟩:=hv;exact⟨n,rfl⟩
 |_=>exact hv.elim
def ax8 {W:World}(hS:W.ShapedOpen Tryz.prog)(hL:laidMet Tryz.prog tables W):D9 W:=by
 refine⟨aID hL,?_,?_,?_,azO hL⟩
 ·obtain⟨a,s,h,_⟩:=laid_sentinel hL.tail.tail.tail (g:=4) (by kernel_rfl) (by kernel_rfl) Tryz.underlying346 aEN Tryz.underlying432 Tryz.underlying434 rfl rfl Tryz.underlying9 (by kernel_rfl) (by kernel_rfl);exact⟨_,_,h⟩
 ·obtain⟨a,s,h,_⟩:=laid_sentinel hL.tail.tail.tail.tail (g:=5) (by kernel_rfl) (by kernel_rfl) Tryz.underlying346 aEN Tryz.underlying432 Tryz.underlying434 rfl rfl Tryz.underlying9 (by kernel_rfl) (by kernel_rfl);exact⟨_,_,h⟩
 ·obtain⟨cs,h1,h2,h3⟩:=hS.1 1 #[.int .i64 0] 3 (of_decide_eq_true (by kernel_rfl)) (by kernel_rfl);obtain⟨m,rfl⟩:=asM (by kernel_rfl) Tryz.underlying3 h2 (h3 (by kernel_rfl));exact⟨m,by simp[World.cell?,h1]⟩
def ax9 {W W':World}(h:∀b,b<9->W'.heap[b]?=W.heap[b]?)(hg:D9 W):D9 W':=by
 have hv:∀(n:String) (g:Nat),Tryz.prog.globalNamed n=some g->g<9->W'.var? Tryz.prog n=W.var? Tryz.prog n:=fun n g h1 h2=>by
  unfold World.var?;rw[h1];simp only[nP];rw[h g h2]
 obtain⟨h1,h2,h3,⟨m,h4⟩,h5⟩:=hg;refine⟨(hv _ 6 (by kernel_rfl) (by decide)).trans h1,?_,?_,⟨m,?_⟩,(hv _ 0 (by kernel_rfl) (by decide)).trans h5⟩
 ·rw[hv _ 4 (by kernel_rfl) (by decide)];exact h2
 ·rw[hv _ 5 (by kernel_rfl) (by decide)];exact h3
 ·exact(World.cell?_of_block (a:=⟨1,0,none⟩) (h 1 (by decide))).trans h4
def Z7 {W:World}(hS:W.ShapedOpen Tryz.prog)(hL:laidMet Tryz.prog tables W)(hsz:9<=W.heap.size):Laid W (fun _=>none):=by
 have hg:=ax8 hS hL;refine⟨(List.range 9).filterMap fun b=>(W.heap[b]?).map fun o=>(b,o),fun W' h=>ax9 (fun b hb=> ?_) hg,fun p hp=> ?_⟩
 ·have hb2:b<W.heap.size:=by omega
  have h1:=h (b,W.heap[b]) (jU.2 ⟨b,by simpa using hb,by simp[iG hb2]⟩);rw[h1,iG hb2]
 ·obtain⟨b,_,hb⟩:=jU.1 hp;simp only[aL]at hb;obtain⟨o,ho,rfl⟩:=hb;exact⟨ho,rfl⟩
def NG {W:World}{f:FuncId}{ds:List D}{args:Array Value}(hf:fA Tryz.prog f ds (fun r=>r=vB true))(hlaid:Laid W (fun _=>none))(hn:args.size=ds.length)(ha:∀(i:Nat) (d:D),ds[i]?=some d->V Tryz.prog W (fun _=>none) d.fz [] (args.getD i undef)):
  Calls Tryz.prog f args W fun e W'=>e= .returned (.bool true)/\Below W.heap.size W W':=by
 refine(hf W (fun _=>none) args 0 (by decide) hlaid (fun _ _=>rfl) hn ha).mono ?_;rintro e W' ⟨v,ow',r,rfl,rfl,haf,_,hsv⟩;have hv:=hsv (fun _=> .un) {tmps:= #[],defers:=[]};simp only[SV,V,D.fz,R]at hv;obtain⟨hv,_⟩:=hv;obtain rfl:v= .bool true:=by simpa using hv
 exact⟨rfl,haf.os,haf.tape,haf.output,haf.size,fun b hb=>(haf.old b hb).1⟩
def setBlock (h:Array Obj)(i:Nat)(cs:Array Value):Array Obj:=h.modify i fun
 | .cells _ t frozen=> .cells cs t frozen
 |o=>o
def ML:DataW Unit->Array Value
 | .agg parts=>(parts.flatMap fun| .lit (.int k n)=>[Value.int k n]| .agg ps=>(ps.map fun| .lit (.int k n)=>Value.int k n|_=>undef)|_=>[]).toArray
 |_=> #[]
def avJ:DataW Unit->ByteArray
 | .iface _ (.ptr (.agg [.lit (.string l)]))=>⟨l.toArray⟩
 |_=>⟨#[]⟩
noncomputable def low:Nat:=(World.holding Tryz.prog default ⟨#[],#[],[]⟩).heap.size
noncomputable def IP (os:Os):World:=
 let w0:=World.holding Tryz.prog os ⟨#[.cells #[.string (avJ Rows.laid_strconv_ErrSyntax)] 434,.cells #[.string (avJ Rows.laid_strconv_ErrRange)] 434],#[],[]⟩
 {w0 with heap:=setBlock (setBlock (setBlock (setBlock (setBlock (setBlock (setBlock (setBlock w0.heap 6 (ML Rows.laid_internal_strconv_uint64pow10)) 2 (ML Rows.laid_unicode_utf8_first)) 3 (ML Rows.laid_unicode_utf8_acceptRanges)) 7 (ML Rows.laid_math_bits_deBruijn32tab)) 8 (ML Rows.laid_math_bits_deBruijn64tab)) 0 (ML Rows.laid_loop_example_g01923_impl_soundCodes)) 4 #[.iface 432 (.pointer (some ⟨low,0,none⟩))]) 5 #[.iface 432 (.pointer (some ⟨low+1,0,none⟩))]}
def SE (os:Os)(args:Array Value):laidMet Tryz.prog tables ((IP os).forCall (fun _ _=>0) ⟨#[],args,[]⟩).memory:=
 laidMet_of_run' 9 (by kernel_rfl) (by kernel_rfl)
def aEX {W:World}{v:Value}(h:Value.okWide Tryz.prog W .any base 9 v):∃s:Str,v= .string ⟨s.toArray⟩:=by
 unfold Value.okWide at h;rw[Tryz.underlying9]at h;unfold Cell.okWide Cell.ok at h;rw[Tryz.underlying9]at h;cases v with
 |string b=>exact⟨b.data.toList,by rw[←aIS b]⟩
 |_=>exact h.elim
def arK {W:World}(hS:W.ShapedOpen Tryz.prog):9<=W.heap.size:=by
 obtain⟨cs,h1,_⟩:=hS.1 8 (Array.replicate 64 (.int .u8 0)) 443 (of_decide_eq_true (by kernel_rfl)) (by kernel_rfl);exact(bO.1 h1).1
def pI {t:TypeId}(h:(P.readableRec t&&decide (t<P.types.size))=true):P.readableRec t=true/\t<P.types.size:=by rw[k_Bool_and_eq_true,decide_eq_true_eq]at h;exact h
def NC:(Tryz.prog.funcs.toList.all fun f=> !f.goes)=true:=by kernel_rfl
def aGT (h:(P.funcs.toList.all fun f=> !f.goes)=true)(f:FuncId):P.goes f=false:=by
 have h1:∀fn∈P.funcs.toList,fn.goes=false:=fun fn hf=>by simpa using aH.1 h fn hf
 unfold Program.goes;rw[Bool.or_eq_false_iff,lC];refine⟨?_,.inr ?_⟩
 ·rw[gX];intro g _;cases hg:P.funcs[g]? with
  |none=>simp
  |some fn=>simpa using h1 fn (by simpa using kZ hg)
 ·rw[←Array.any_toList,gX];intro fn hf;simp[h1 fn hf]
def ZU (h:(P.funcs.toList.all fun f=> !f.goes)=true){c:OpenClaim}(hs:c.start= .entering):false=c.goesBy P:=by
 unfold OpenClaim.goesBy Program.goesAt Program.goesFrom;rw[hs];cases P.funcNamed c.func with
 |none=>rfl
 |some f=>simp[aGT h f]
def an {a b:Bool}(h:a)(h':b):(a&&b)=true:=by rw[h,h'];rfl
section
variable {H:Type}{enc:TypeId×Value->H}{W:World}{cs:List Value}
def aK5 (h:Tr enc Tryz.prog W 138 cs):∃v:Ver,Rd Tryz.prog W (kK v) cs:=by
 have hl:=AP Tryz.underlying138 (n:=4) (by kernel_rfl) h;have hf:=AO Tryz.underlying138 h;obtain⟨a,h0⟩:=open_int Tryz.underlying3 (hf 0 _ rfl 0 1 rfl (by kernel_rfl));obtain⟨b,h1⟩:=open_int Tryz.underlying3 (hf 1 _ rfl 1 1 rfl (by kernel_rfl));obtain⟨s,h2⟩:=open_bool Tryz.underlying4 (hf 2 _ rfl 2 1 rfl (by kernel_rfl));obtain⟨t,h3⟩:=open_int Tryz.underlying3 (hf 3 _ rfl 3 1 rfl (by kernel_rfl));exact⟨⟨a,b,s,t⟩,L6 (jT h0 (jT h1 (jT h2 (jT h3 (LZ hl)))))⟩
def aIJ (h:Tr enc Tryz.prog W 63 cs):∃l:List Str,axB l/\Rd Tryz.prog W (mH l) cs:=
 OZ Tryz.underlying63 (k:=1) (by kernel_rfl) (by decide) (fun vs h=>aEB Tryz.underlying9 h) h
def aE9 (h:Tr enc Tryz.prog W 65 cs):∃r:Rec,axB r.fields/\Rd Tryz.prog W (nV r) cs:=by
 have hl:=AP Tryz.underlying65 (n:=4) (by kernel_rfl) h;have hf:=AO Tryz.underlying65 h;obtain⟨a,h0⟩:=open_int Tryz.underlying3 (hf 0 _ rfl 0 1 rfl (by kernel_rfl));obtain⟨b,h1⟩:=open_int Tryz.underlying3 (hf 1 _ rfl 1 1 rfl (by kernel_rfl));obtain⟨c,h2⟩:=open_int Tryz.underlying3 (hf 2 _ rfl 2 1 rfl (by kernel_rfl));obtain⟨l,q,h3⟩:=aIJ (hf 3 _ rfl 3 1 rfl (by kernel_rfl));exact⟨⟨a,b,c,l⟩,q,L6 (jT h0 (jT h1 (jT h2 (jT h3 (LZ hl)))))⟩
def aIH (h:Tr enc Tryz.prog W 30 cs):∃l:List Rec,aAO l/\Rd Tryz.prog W (uR l) cs:=
 OZ Tryz.underlying30 (k:=4) (by kernel_rfl) (by decide) (fun vs h=>aE9 h) h
def awS (h:Tr enc Tryz.prog W 31 cs):∃l:List Ver,l.length<=9223372036854775807/\Rd Tryz.prog W (nVers l) cs:=by
 obtain⟨l,q,h⟩:=OZ (Q:=fun _:Ver=>True) Tryz.underlying31 (k:=4) (by kernel_rfl) (by decide) (fun vs h=>by obtain⟨v,h⟩:=aK5 h;exact⟨v,trivial,h⟩) h;exact⟨l,q.1,h⟩
def anE (h:Tr enc Tryz.prog W 25 cs):∃l:L1,l.length<=9223372036854775807/\Rd Tryz.prog W (nInts l) cs:=by
 obtain⟨l,q,h⟩:=OZ (Q:=fun _:Int=>True) Tryz.underlying25 (k:=1) (by kernel_rfl) (by decide) (fun vs h=>by obtain⟨v,h⟩:=open_int Tryz.underlying3 h;exact⟨v,trivial,h⟩) h;exact⟨l,q.1,h⟩
def aK4 (h:Tr enc Tryz.prog W 365 cs):∃v:Tst,Rd Tryz.prog W (uP v) cs:=by
 have hl:=AP Tryz.underlying365 (n:=3) (by kernel_rfl) h;have hf:=AO Tryz.underlying365 h;obtain⟨a,h0⟩:=open_int Tryz.underlying3 (hf 0 _ rfl 0 1 rfl (by kernel_rfl));obtain⟨b,h1⟩:=open_int Tryz.underlying3 (hf 1 _ rfl 1 1 rfl (by kernel_rfl));obtain⟨s,h2⟩:=open_bool Tryz.underlying4 (hf 2 _ rfl 2 1 rfl (by kernel_rfl));exact⟨⟨a,b,s⟩,L6 (jT h0 (jT h1 (jT h2 (LZ hl))))⟩
def aII (h:Tr enc Tryz.prog W 223 cs):∃l:List Tst,l.length<=9223372036854775807/\Rd Tryz.prog W (xJ l) cs:=by
 have hl:=AP Tryz.underlying223 (n:=1) (by kernel_rfl) h;have hf:=AO Tryz.underlying223 h;obtain⟨l,q,h0⟩:=OZ (Q:=fun _:Tst=>True) Tryz.underlying221 (k:=3) (by kernel_rfl) (by decide) (fun vs h=>by obtain⟨v,h⟩:=aK4 h;exact⟨v,trivial,h⟩) (hf 0 _ rfl 0 1 rfl (by kernel_rfl));exact⟨l,q.1,L6 (jT h0 (LZ hl))⟩
def aFA (h:Tr enc Tryz.prog W 24 cs):∃r:List (List Tst),axC r/\Rd Tryz.prog W (nD r) cs:=by
 have hl:=AP Tryz.underlying24 (n:=1) (by kernel_rfl) h;have hf:=AO Tryz.underlying24 h;obtain⟨l,q,h0⟩:=OZ Tryz.underlying22 (k:=1) (by kernel_rfl) (by decide) (fun vs h=>aII h) (hf 0 _ rfl 0 1 rfl (by kernel_rfl));exact⟨l,q,L6 (jT h0 (LZ hl))⟩
def aK2 (h:Tr enc Tryz.prog W 27 cs):∃s:Sco,s.weights.length<=9223372036854775807/\Rd Tryz.prog W (J2 s) cs:=by
 have hl:=AP Tryz.underlying27 (n:=2) (by kernel_rfl) h;have hf:=AO Tryz.underlying27 h;obtain⟨l,q,h0⟩:=anE (hf 0 _ rfl 0 1 rfl (by kernel_rfl));obtain⟨b,h1⟩:=open_int Tryz.underlying3 (hf 1 _ rfl 1 1 rfl (by kernel_rfl));exact⟨⟨l,b⟩,q,L6 (jT h0 (jT h1 (LZ hl)))⟩
def aK0 (h:Tr enc Tryz.prog W 29 cs):∃c:Cfg,(axC c.rules/\c.sco.weights.length<=9223372036854775807/\c.surv.length<=9223372036854775807)/\Rd Tryz.prog W (ai6 c) cs:=by
 have hl:=AP Tryz.underlying29 (n:=4) (by kernel_rfl) h;have hf:=AO Tryz.underlying29 h;obtain⟨r,q0,h0⟩:=aFA (hf 0 _ rfl 0 1 rfl (by kernel_rfl));obtain⟨s,q1,h1⟩:=aK2 (hf 1 _ rfl 1 2 rfl (by kernel_rfl));obtain⟨l,q2,h2⟩:=anE (hf 2 _ rfl 3 1 rfl (by kernel_rfl));exact⟨⟨r,s,l⟩,⟨q0,q1,q2⟩,L6 (jT h0 (jT h1 (jT h2 (LZ hl))))⟩
def aK3 (h:Tr enc Tryz.prog W 33 cs):∃s:Sto,(aAO s.recs/\s.vers.length<=9223372036854775807)/\Rd Tryz.prog W (XM s) cs:=by
 have hl:=AP Tryz.underlying33 (n:=3) (by kernel_rfl) h;have hf:=AO Tryz.underlying33 h;obtain⟨v,h0⟩:=open_int Tryz.underlying3 (hf 0 _ rfl 0 1 rfl (by kernel_rfl));obtain⟨r,q1,h1⟩:=aIH (hf 1 _ rfl 1 1 rfl (by kernel_rfl));obtain⟨l,q2,h2⟩:=awS (hf 2 _ rfl 2 1 rfl (by kernel_rfl));exact⟨⟨v,r,l⟩,⟨q1,q2⟩,L6 (jT h0 (jT h1 (jT h2 (LZ hl))))⟩
end
end Go.Proofs.YtebopbncplpdgaaGreatDoor
end
section
namespace Go.Proofs.YtebopbncplpdgaaGreatDoor
open Go.Dv Go.Pl Go.Proofs.Tryz
abbrev abV (m:List (List Bool)):D:= .sl none (m.map fun r=> .sl none (r.map dB))
abbrev XO (m:List (List Bool)):D:= .sl (some 297) (m.map fun r=> .sl (some 4) (r.map dB))
variable {i:Nat}
def drop_at {α:Type}{l:List α}{c:α}(h:l[i]?=some c):l.drop i=c::l.drop (i+1):=by
 have hi:=dH h;rw[aW hi];congr 1;simpa[aB hi]using h
def aJB {m:L2}(h:m.all (fun r=>decide (r.length=m.length))=true)(hi:i<m.length):∃r,m[i]?=some r/\r.length=m.length:=by
 obtain⟨r,hr⟩:=aO (l:=m) hi;exact⟨r,hr,by simpa using aH.1 h r (aA hr)⟩
def eT (m:L2)(hs:Qle m:=by first|omega|grind):Fk 256 [cK m] (vB (bR m)):=by
 refine fE [] ntmps256 fun _ _=> ?_;simp;refine wlt Nat (fun i=>([(0,.val (cK m)),(3,vI i)],m.length-i,(i<=m.length)/\((m.take i).all (fun r=>decide (r.length=m.length))=true))) (0) ⟨by omega,rfl⟩ ?_;rintro i ⟨h1,h2⟩;simp;apply gw<;>intro a
 ·obtain⟨c,hc⟩:=aO (l:=m) (i:=i);simp[hc];apply gw<;>intro b
  ·have hn:=fV hc (P:=(fun r=>decide (r.length=m.length))) (by first|assumption|(simp[*];done)|grind|(simp;omega));simp;grind[bR]
  ·simp;refine nxa (i+1) ⟨by omega,(bW hc h2 (by first|assumption|(simp[*];done)|grind|(simp;omega)))⟩
 ·simp at a;have hf:=iX h2 a;simp;refine wlt Nat (fun i=>([(0,.val (cK m)),(4,vI i)],m.length-i,(i<=m.length)/\((List.range i).all (fun i=>(List.range m.length).all (JY m i))=true))) (0) ⟨by omega,rfl⟩ ?_;rintro i ⟨h1j,h2j⟩;simp;apply gw<;>intro aj
  ·simp;refine wlt Nat (fun k=>([(0,.val (cK m)),(4,vI i),(5,vI k)],m.length-k,(k<=m.length)/\((List.range k).all (JY m i)=true))) (0) ⟨by omega,rfl⟩ ?_;rintro k ⟨h1k,h2k⟩;simp;apply gw<;>intro ak
   ·obtain⟨r,hr,hrl⟩:=aJB hf aj;obtain⟨q,hq,hql⟩:=aJB hf ak;obtain⟨c,hc⟩:=aO (l:=r) (i:=k);obtain⟨d,hd⟩:=aO (l:=q) (i:=i);have e1:=QR hr hc;have e2:=QR hq hd;simp;refine wdr ?_;simp[hr,hc];refine cd (bH _ _ _) ?_;simp;apply gv<;>intro e
    ·have e':=e;simp at e';have e':JY m i k=false:=by simp[JY,e1,e2];grind
     have hnk:=nM ak (P:=(JY m i)) e';have hn2:=nM aj (P:=fun i=>(List.range m.length).all (JY m i)) hnk;simp[e];grind[bR]
    ·have e':=e;simp at e';simp[hr,hq,hc,hd,e];apply gv<;>intro f
     ·have f':=f;have f':JY m i k=false:=by simp[JY,e1,e2];grind
      have hnk:=nM ak (P:=(JY m i)) f';have hn2:=nM aj (P:=fun i=>(List.range m.length).all (JY m i)) hnk;simp[f];grind[bR]
     ·have f':=f;simp[f];apply gv<;>intro g
      ·have g':=g;have gk:i=k:=by omega
       subst gk;obtain rfl:r=q:=by simpa[hr]using hq
       obtain rfl:c=d:=by simpa[hc]using hd
       simp[hr,hc];apply gw<;>intro b
       ·have f':JY m i i=false:=by simp[JY,e1,b]
        have hnk:=nM ak (P:=(JY m i)) f';have hn2:=nM aj (P:=fun i=>(List.range m.length).all (JY m i)) hnk;simp;grind[bR]
       ·simp;refine nxa (i+1) ⟨by omega,(oZ h2k (by simp[JY,e1,b]))⟩
      ·have g':=g;simp[g];refine nxa (k+1) ⟨by omega,(oZ h2k (by simp[JY,e1,e2];grind))⟩
   ·simp at ak;have hfk:=NM (n:=m.length) h2k;simp;refine nxa (i+1) ⟨by omega,(oZ h2j hfk)⟩
  ·simp at aj;have hfj:=NM (n:=m.length) h2j;simp;refine ck (bH _ _ _) ?_;simp;grind[bR]
def mR (l:L1)(hs:Qle l:=by first|omega|grind):Fk 270 [nInts l] (vB (gD l)):=by
 refine fE [] ntmps270 fun _ _=> ?_;simp;refine wlt (Nat×Int) (fun(i,t)=>([(0,vN l),(3,vI t),(4,vI i)],l.length-i,(i<=l.length)/\(DC (-1) l=DC t (l.drop i))/\(-1<=t/\t<=i))) ((0,(-1))) ⟨by omega,rfl,by omega⟩ ?_;rintro⟨i,t⟩ ⟨h1,h2,h3⟩;simp;apply gw<;>intro a
 ·obtain⟨c,hc⟩:=aO (l:=l) (i:=i);have hdr:=drop_at hc;rw[hdr,DC]at h2;simp[hc];refine ai ?_;refine ck (bH _ _ _) ?_;simp;apply gw<;>intro b
  ·simp at b;rw[show inR c 0 (t+1)=false by simp;omega]at h2;simp;grind[gD]
  ·simp at b;rw[show inR c 0 (t+1)=true by simp;omega,fD]at h2;simp[hc];refine nxa (i+1,max t c) ⟨by omega,h2,by omega⟩
 ·simp at a;rw[bX a]at h2;have hx:DC (-1) l:=h2;simp;refine ck (bH _ _ _) ?_;simp;grind[gD]
def uY (n:Int)(l:List Con)(hn: -1048576<=n/\n<=1048576:=by first|omega|grind)(hs:Qle l:=by first|omega|grind):Fk 344 [dI n,jO l] (vB (cO n l)):=by
 refine fE [] ntmps344 fun _ _=> ?_;simp;refine wlt Nat (fun i=>([(0,vI n),(1,vE l),(5,vI i)],l.length-i,(i<=l.length)/\((l.take i).all (PW n)=true))) (0) ⟨by omega,rfl⟩ ?_;rintro i ⟨h1,h2⟩;simp;apply gw<;>intro a
 ·obtain⟨c,hc⟩:=aO (l:=l) (i:=i);simp;refine wdr ?_;simp[hc];refine ai ?_;refine cd (bH _ _ _) ?_;simp;apply gv<;>intro e
  ·have e':=e;simp at e';have hn:=fV hc (P:=(PW n)) (by simp[PW];omega);simp[e];grind[cO]
  ·have e':=e;simp at e';simp[hc,e];refine ai ?_;refine cd (bH _ _ _) ?_;simp;apply gv<;>intro f
   ·have f':=f;simp at f';have hn:=fV hc (P:=(PW n)) (by simp[PW];omega);simp[f];grind[cO]
   ·have f':=f;simp at f';simp[hc,f];apply gw<;>intro b
    ·have hn:=fV hc (P:=(PW n)) (by simp[PW];omega);simp;grind[cO]
    ·simp at b;simp;refine nxa (i+1) ⟨by omega,(bW hc h2 (by simp[PW];omega))⟩
 ·simp at a;have hf:=iX h2 a;simp;refine ck (bH _ _ _) ?_;simp;apply gv<;>intro e
  ·have e':=e;simp at e';simp[e];grind[cO]
  ·have e':=e;simp at e';simp[e];grind[cO]
def sN (l:L1)(cs:List Con)(hs:Qle l)(hc:Qle cs):Fk 263 [nInts l,jO cs] (vB (cs.all (yZ l)&&gD l)):=by
 refine fE [] ntmps263 fun _ _=> ?_;simp;refine wlt Nat (fun i=>([(0,vN l),(1,vE cs),(5,vI i)],cs.length-i,(i<=cs.length)/\((cs.take i).all (yZ l)=true))) (0) ⟨by omega,rfl⟩ ?_;rintro i ⟨h1,h2⟩;simp;apply gw<;>intro a
 ·obtain⟨c,hc⟩:=aO (l:=cs) (i:=i);simp;refine wdr ?_;simp[hc];refine ai ?_;refine cd (bH _ _ _) ?_;simp;apply gv<;>intro e
  ·have e':=e;simp at e';have hn:=fV hc (P:=(yZ l)) (by simp[yZ];intros;omega);simp[e,hn]
  ·have e':=e;simp at e';simp[hc,e];refine ai ?_;refine cd (bH _ _ _) ?_;simp;apply gv<;>intro f
   ·have f':=f;simp at f';have hn:=fV hc (P:=(yZ l)) (by simp[yZ];intros;omega);simp[f,hn]
   ·have f':=f;simp at f';obtain⟨x,hx⟩:=aO (l:=l) (i:=c.a.toNat);obtain⟨y,hy⟩:=aO (l:=l) (i:=c.b.toNat);have ex:=aa5 hx;have ey:=aa5 hy;simp[hc,f,hx,hy];iterate 2 refine ai ?_
    apply gw<;>intro b
    ·simp at b;have hn:=fV hc (P:=(yZ l)) (by simp[yZ,ex,ey];grind);simp[hn]
    ·simp at b;simp;refine nxa (i+1) ⟨by omega,(bW hc h2 (by simp[yZ,ex,ey];grind))⟩
 ·simp at a;have hf:=iX h2 a;simp;refine ck (mR _) ?_;simp[hf]
def PM (m:L2)(l:L1)(hm:bR m:=by first|omega|grind)(hl:l.length=m.length:=by first|omega|grind):Fk 350 [cK m,nInts l] (vI (dP m l)):=by
 refine fE [] ntmps350 fun _ _=> ?_;have hml:=dM hm;simp;refine wlt (Nat×Int) (fun(i,s)=>([(0,.val (cK m)),(1,vN l),(5,vI s),(6,vI i)],l.length-i,(i<=l.length)/\(s=loopN i (0) (AU m l))/\(0<=s/\s<=8000*i))) ((0,0)) ⟨by omega,rfl,by omega⟩ ?_;rintro⟨i,s⟩ ⟨h1,h2,h3⟩;simp;apply gw<;>intro a
 ·have hs:=aM i (0) (AU m l);rw[←h2]at hs;simp;refine wlt (Nat×Int) (fun(k,t)=>([(0,.val (cK m)),(1,vN l),(5,vI t),(6,vI i),(7,vI k)],i-k,(k<=i)/\(t=loopN k (s) (fun k s=>s+tL m l i k))/\(s<=t/\t<=s+1000*k))) ((0,s)) ⟨by omega,rfl,by omega⟩ ?_;rintro⟨k,t⟩ ⟨h1k,h2k,h3k⟩;simp;apply gw<;>intro ak
  ·have hsk:=aM k (s) (fun k s=>s+tL m l i k);rw[←h2k]at hsk;obtain⟨r,hr,hrk⟩:=lJ hm (i:=i) (k:=k);have hi:=aY (l:=l) (i:=i);have hk:=aY (l:=l) (i:=k);have hb:=iL hm i k;simp;refine wdr ?_;simp[hr,hrk];apply gv<;>intro e
   ·have e':=e;simp[hi,hk,e];apply gw<;>intro f
    ·have hc:tL m l i k=at2 m i k:=if_pos ⟨e,f⟩;simp[hr,hrk];refine ai ?_;refine wdr ?_;simp[hr,hrk];apply gv<;>intro g
     ·have g':=g;exfalso;omega
     ·have g':=g;simp at g';simp[g];refine nxa (k+1,t+at2 m i k) ⟨by omega,by rw[hsk,hc],by omega⟩
    ·simp;refine wdr ?_;simp[hr,hrk];apply gv<;>intro g
     ·have g':=g;exfalso;omega
     ·have g':=g;simp at g';have hc:tL m l i k=0:=by rw[tL,if_neg (by simp[f]),if_neg (by omega)]
      simp[g];refine nxa (k+1,t) ⟨by omega,by rw[hsk,hc];simp,by omega⟩
   ·have e':=e;simp at e';simp[e];refine wdr ?_;simp[hr,hrk];apply gv<;>intro g
    ·have g':=g;simp[hi,hk,g];apply gw<;>intro f
     ·have hc:tL m l i k= - at2 m i k:=by rw[tL,if_neg (by omega),if_pos ⟨g,f⟩]
      simp[hr,hrk];refine nxb (k+1,t-at2 m i k) ⟨by omega,by rw[hsk,hc];omega,by omega⟩
     ·have hc:tL m l i k=0:=by rw[tL,if_neg (by omega),if_neg (by simp[f])]
      simp;refine nxa (k+1,t) ⟨by omega,by rw[hsk,hc];simp,by omega⟩
    ·have g':=g;simp at g';have hc:tL m l i k=0:=by rw[tL,if_neg (by omega),if_neg (by omega)]
     simp[g];refine nxa (k+1,t) ⟨by omega,by rw[hsk,hc];simp,by omega⟩
  ·simp at ak;have hik:i=k:=by omega
   subst hik;simp;refine nxa (i+1,t) ⟨by omega,by rw[hs,AU,h2k],by omega⟩
 ·simp at a;have hi:l.length=i:=by omega
  subst hi;simp;exact h2
def nI (m:L2)(l:L1)(hm:Qle m:=by omega)(hl:Qle l:=by omega):Fk 267 [cK m,nInts l] (vI (if bR m=true/\gD l=true/\l.length=m.length then dP m l else -1)):=by
 refine fE [] ntmps267 fun _ _=> ?_;simp;refine ck (eT _) ?_;simp;apply gv<;>intro e
 ·have e':=e;simp at e';simp[e];all_goals grind
 ·have e':=e;simp at e';simp[e];refine ck (mR _) ?_;simp;apply gv<;>intro f
  ·have f':=f;simp at f';simp[f];all_goals grind
  ·have f':=f;simp at f';simp[f];apply gw<;>intro b
   ·simp;all_goals grind
   ·simp;refine ck (PM _ _) ?_;simp;all_goals grind
def KX (x:Int):Fk 272 [dI x] (vB (inR x 0 5)):=by
 refine fE [] ntmps272 fun _ _=> ?_;simp;refine ck (bK x 0 5) ?_;simp
def U0 (x:Int):Fk 273 [dI x] (vB (inR x 1 1000)):=by
 refine fE [] ntmps273 fun _ _=> ?_;simp;refine ck (bK x 1 1000) ?_;simp
def rY (r:List (List Tst))(hs:Qle r)(hr:∀l∈r,Qle l):Fk 182 [nD r] (vB (jH r)):=by
 refine fE [] ntmps182 fun _ _=> ?_;simp;refine wlt Nat (fun i=>([(1,.own (.bx true (nD r))),(8,.val (.sl none (r.map xJ))),(9,vI r.length),(10,vI i)],r.length-i,(i<=r.length)/\((r.take i).all jE=true))) (0) ⟨by omega,rfl⟩ ?_;rintro i ⟨h1,h2⟩;simp;apply gw<;>intro a
 ·obtain⟨c,hc⟩:=aO (l:=r) (i:=i);have hcl:=hr c (aA hc);simp[hc];refine ck (bK c.length 1 3) ?_;simp;apply gw<;>intro b
  ·simp at b;have hn:=fV hc (P:=jE) (by simp[jE];omega);simp;grind[jH]
  ·simp at b;simp;refine wlt Nat (fun k=>([(1,.own (.bx true (nD r))),(4,.own (.bx true (xJ c))),(8,.val (.sl none (r.map xJ))),(9,vI r.length),(10,vI i),(20,.val (.sl none (c.map uP))),(21,vI c.length),(22,vI k)],c.length-k,(k<=c.length)/\((c.take k).all KC=true)/\(adj (fun a b=>decide (a.feature<b.feature)) (c.take k)=true))) (0) ⟨by omega,rfl,rfl⟩ ?_;rintro k ⟨h1k,h2k,h3k⟩;simp;apply gw<;>intro ak
   ·obtain⟨ck,hck⟩:=aO (l:=c) (i:=k);simp[hck];refine wdr ?_;simp;refine cd (KX ck.feature) ?_;simp;apply gv<;>intro e
    ·have e':=e;simp at e';have hn:=fV hc (P:=jE) (by have:=fV hck (P:=KC) (by simp[KC];omega);simp[jE,this]);simp[e];grind[jH]
    ·have e':=e;simp at e';simp[e];refine cd (U0 ck.threshold) ?_;simp;apply gv<;>intro f
     ·have f':=f;simp at f';have hn:=fV hc (P:=jE) (by have:=fV hck (P:=KC) (by simp[KC];omega);simp[jE,this]);simp[f];grind[jH]
     ·have f':=f;simp at f';simp[f];apply gv<;>intro g
      ·have g':=g;obtain⟨p,hp⟩:=aO (l:=c) (i:=k-1);have hi1:k-1+1=k:=by omega
       simp[g,hp];iterate 2 refine ai ?_
       apply gw<;>intro d
       ·have hn:=fV hc (P:=jE) (by have:=LJ hp (by rw[hi1];exact hck) (R:=fun a b=>decide (a.feature<b.feature)) (by simp;omega);simp[jE,this]);simp;grind[jH]
       ·simp at d;simp;refine nxa (k+1) ⟨by omega,(bW hck h2k (by simp[KC];omega)),by have:=zX (i:=k-1) (by rw[hi1];exact h3k) hp (by rw[hi1];exact hck) (by simp;omega);rwa [hi1]at this⟩
      ·have g':=g;simp at g';simp[g];refine nxa (k+1) ⟨by omega,(bW hck h2k (by simp[KC];omega)),(by obtain rfl:k=0:=(by omega);exact wO)⟩
   ·simp at ak;have hfk:=iX h2k ak;rw[bJ ak]at h3k;simp;refine nxa (i+1) ⟨by omega,(bW hc h2 (by simp[jE,hfk,h3k];omega))⟩
 ·simp at a;have hf:=iX h2 a;simp;refine ck (bK r.length 1 3) ?_;simp;grind[jH]
def pQ (s:Sco)(hw:Qle s.weights):Fk 152 [J2 s] (vB (mO s)):=by
 refine fE [] ntmps152 fun _ _=> ?_;simp;refine wlt Nat (fun i=>([(1,.own (.bx true (J2 s))),(3,.val (dI (s.weights.take i).sum)),(7,vN s.weights),(8,vI s.weights.length),(9,vI i)],(s.weights).length-i,(i<=(s.weights).length)/\((s.weights.take i).all IL=true)/\(0<=(s.weights.take i).sum/\(s.weights.take i).sum<=9*i))) (0) ⟨by omega,rfl,by simp⟩ ?_;rintro i ⟨h1,h2,h3⟩;simp;apply gw<;>intro a
 ·obtain⟨c,hc⟩:=aO (l:=s.weights) (i:=i);simp[hc];refine ck (bK c 0 9) ?_;simp;apply gw<;>intro b
  ·simp at b;have hn:=fV hc (P:=IL) (by simp[IL];omega);simp;grind[mO]
  ·simp at b;have hsum:(s.weights.take (i+1)).sum=(s.weights.take i).sum+c:=by rw[dE hc];simp
   simp;refine nxb (i+1) ⟨by omega,(bW hc h2 (by simp[IL];omega)),by omega⟩ (h3:=by simp[hc,hsum])
 ·simp at a;have hf:=iX h2 a;rw[bJ a];simp;apply gv<;>intro d
  ·have d':=d;simp[d];apply gv<;>intro e
   ·have e':=e;simp[e];refine ck (bK s.bias 0 1000) ?_;simp;grind[mO]
   ·have e':=e;simp at e';simp[e];grind[mO]
  ·have d':=d;simp[d];grind[mO]
def CP (x:Int):Fk 242 [dI x] (vB (inR x 1 4)):=by
 refine fE [] ntmps242 fun _ _=> ?_;simp;refine ck (bK x 1 4) ?_;simp
def G9 (x:Int):Bool:= !inR x 1 4
def IY (x:Int):Fk 241 [dI x] (vB (G9 x)):=by
 refine fE [] ntmps241 fun _ _=> ?_;simp;refine ck (CP x) ?_;simp;grind[G9]
def aoX (l:L1)(hl:Qle l):Fk 331 [nInts l,.one (.func (.func 241) #[] #[])] (vI (ix G9 l)):=by
 refine fE [] ntmps331 fun _ _=> ?_;simp;refine wlt Nat (fun i=>([(0,vN l),(1,.val (.one (.func (.func 241) #[] #[]))),(7,vI l.length),(8,vI i)],l.length-i,(i<=l.length)/\((l.take i).any G9=false))) (0) ⟨by omega,rfl⟩ ?_;rintro i ⟨h1,h2⟩;simp;apply gw<;>intro a
 ·obtain⟨c,hc⟩:=aO (l:=l) (i:=i);simp[hc];refine ck (IY c) ?_;simp;apply gw<;>intro b
  ·have hn:=DZ hc h2 (by simp[b]);simp[hn]
  ·simp;refine nxa (i+1) ⟨by omega,(kN hc h2 (by simp[b]))⟩
 ·simp at a;have hf:=pK h2 a;have hx:=sF hf;simp[hx]
def as6 (l:L1)(hl:Qle l):Fk 227 [nInts l,.one (.func (.func 241) #[] #[])] (vB (l.any G9)):=by
 refine fE [] ntmps227 fun _ _=> ?_;have hq:decide (0<=ix G9 l)=l.any G9:=by rw[bM,decide_eq_true_eq];exact jC
 simp;refine ck (aoX l hl) ?_;simp[hq]
def aE1 (l:L1):l.any G9= !(l.all TC):=by
 induction l with
 |nil=>rfl
 |cons x l ih=>rw[List.any_cons,wB,ih,G9,TC];simp
def zZ (l:L1)(hl:Qle l):Fk 167 [nInts l] (vB (rV l)):=by
 refine fE [] ntmps167 fun _ _=> ?_;simp;apply gv<;>intro e
 ·have e':=e;simp[e];refine ck (as6 l hl) ?_;simp;rw[aE1,rV,decide_eq_true (show l.length=4 by omega)];simp
 ·have e':=e;simp[e];rw[rV,decide_eq_false (show¬l.length=4 by omega)];simp
def PY (c:Cfg)(hs:Qle c.rules)(hr:∀l∈c.rules,Qle l)(hw:Qle c.sco.weights)(hv:Qle c.surv):Fk 104 [ai6 c] (vB (kR c)):=by
 refine fE [] ntmps104 fun _ _=> ?_;simp;refine ck (rY c.rules hs hr) ?_;simp;apply gv<;>intro e
 ·have e':=e;simp[e];refine ck (pQ c.sco hw) ?_;simp;apply gv<;>intro f
  ·have f':=f;simp[f];refine ck (zZ c.surv hv) ?_;simp;grind[kR]
  ·have f':=f;simp[f];grind[kR]
 ·have e':=e;simp[e];simp[kR,e']
end Go.Proofs.YtebopbncplpdgaaGreatDoor
end
section
namespace Go
def yA:= @List.find?_eq_none
end Go
end
section
namespace Go.Proofs.YtebopbncplpdgaaGreatDoor
open Go.Dv Go.Pl Go.Proofs.Tryz
def yK (r:Rec)(hr:inI .i64 (jQ r))(h2:inI .i64 (100*r.source)):Fk 115 [nV r] (vI (jQ r)):=by
 refine fE [] ntmps115 fun _ _=> ?_;simp;refine ai ?_;exact⟨hr,rfl⟩
def MO (x:Int):Fk 203 [dI x] (vB false):=by
 refine fE [] ntmps203 fun _ _=> ?_;simp
def kW (x y:Int):Fk 129 [dI x,dI y] (vI (cmpI x y)):=by
 refine fE [] ntmps129 fun _ _=> ?_;simp;refine ck (MO x) ?_;simp;refine ck (MO y) ?_;simp;apply gw<;>intro a
 ·simp;grind[cmpI]
 ·simp at a;simp;apply gw<;>intro b
  ·simp;grind[cmpI]
  ·simp at b;simp;grind[cmpI]
def orI (l:L1):Int:=(l.find? fun x=>decide (x≠0)).getD 0
variable {l:L1}{i:Nat}
def aKM {c:Int}(h:(l.take i).all (fun x=>decide (x=0))=true)(hc:l[i]?=some c)(hn:c≠0):orI l=c:=by
 have hlt:=(aD.1 hc).1;rw[aB hlt]at hc;have e:l=l.take i++c::l.drop (i+1):=by rw[←Option.some.inj hc];simp
 have h2:(l.take i).find? (fun x=>decide (x≠0))=none:=by
  rw[yA];intro x hx;have:=aH.1 h x hx;simpa using this
 rw[orI,e,List.find?_append,h2];simp[hn]
def aKN (h:l.all (fun x=>decide (x=0))=true):orI l=0:=by
 have h2:l.find? (fun x=>decide (x≠0))=none:=by
  rw[yA];intro x hx;have:=aH.1 h x hx;simpa using this
 rw[orI,h2];rfl
def VK (l:L1)(hl:Qle l):Fk 128 [nInts l] (vI (orI l)):=by
 refine fE [] ntmps128 fun _ _=> ?_;simp;refine wlt Nat (fun i=>([(3,vI 0),(6,vN l),(7,vI l.length),(8,vI i)],l.length-i,(i<=l.length)/\((l.take i).all (fun x=>decide (x=0))=true))) (0) ⟨by omega,rfl⟩ ?_;rintro i ⟨h1,h2⟩;simp;apply gw<;>intro a
 ·obtain⟨c,hc⟩:=aO (l:=l) (i:=i);simp[hc];apply gw<;>intro b
  ·have hx:=aKM h2 hc b;simp[hx]
  ·simp;refine nxa (i+1) ⟨by omega,(bW hc h2 (by simpa using b))⟩
 ·simp at a;have hx:orI l=0:=aKN (by rwa [bJ a]at h2);simp[hx]
def UZ (x y:Bool):Fk 360 [dB x,dB y] (vI (if x=y then 0 else if y then -1 else 1)):=by
 refine fE [] ntmps360 fun _ _=> ?_;simp;apply gw<;>intro a
 ·simp at a;simp;grind
 ·simp at a;simp;apply gw<;>intro b
  ·simp;grind
  ·simp;grind
def axH (a b:Ver):orI [cmpI a.a b.a,cmpI a.b b.b,cmpI a.time b.time,if a.same=b.same then 0 else if b.same then -1 else 1]=gP a b:=by
 unfold gP orI;by_cases h1:cmpI a.a b.a=0<;>by_cases h2:cmpI a.b b.b=0<;>by_cases h3:cmpI a.time b.time=0<;>simp[h1,h2,h3];all_goals(cases a.same<;>cases b.same<;>simp)
def BJ (a b:Ver):Fk 275 [kK a,kK b] (vI (gP a b)):=by
 refine fE [] ntmps275 fun _ _=> ?_;simp;refine wdt 20 ?_;simp;refine cd (kW a.a b.a) ?_;simp;refine cd (kW a.b b.b) ?_;simp;refine cd (kW a.time b.time) ?_;simp;refine cd (UZ a.same b.same) ?_;have hx:=axH a b;simp;refine ck (VK [cmpI a.a b.a,cmpI a.b b.b,cmpI a.time b.time,if a.same=b.same then 0 else if b.same then -1 else 1] (by simp)) ?_;simp[hx]
def GV (l:List Ver)(hs:Qle l:=by first|omega|grind):Fk 183 [nVers l] (vB (lI l)):=by
 refine fE [] ntmps183 fun _ _=> ?_;simp;refine wlt Nat (fun i=>([(0,vV l),(5,vV l),(6,vI l.length),(7,vI i)],l.length-i,(i<=l.length)/\((l.take i).all fQ=true)/\(adj (fun a b=>decide (gP a b<0)) (l.take i)=true))) (0) ⟨by omega,rfl,rfl⟩ ?_;rintro i ⟨h1,h2,h3⟩;simp;apply gw<;>intro a
 ·obtain⟨c,hc⟩:=aO (l:=l) (i:=i);simp[hc];refine wdr ?_;simp;refine cd (OG c) ?_;simp;apply gv<;>intro e
  ·have e':=e;simp at e';have hn:=fV hc (P:=fQ) (by simpa using e);simp[e];grind[lI]
  ·have e':=e;simp at e';simp[e];apply gv<;>intro f
   ·have f':=f;obtain⟨p,hp⟩:=aO (l:=l) (i:=i-1);have hi1:i-1+1=i:=by omega
    simp[f,hp];iterate 2 refine ai ?_
    refine cd (BJ p c) ?_;simp;apply gw<;>intro b
    ·have hn:=LJ hp (by rw[hi1];exact hc) (R:=fun a b=>decide (gP a b<0)) (by simp;omega);simp;grind[lI]
    ·simp at b;simp;refine nxa (i+1) ⟨by omega,(bW hc h2 (by simpa using e)),by have:=zX (i:=i-1) (by rw[hi1];exact h3) hp (by rw[hi1];exact hc) (by simp;omega);rwa [hi1]at this⟩
   ·have f':=f;simp at f';simp[f];refine nxa (i+1) ⟨by omega,(bW hc h2 (by simpa using e)),(by obtain rfl:i=0:=(by omega);exact wO)⟩
 ·simp at a;have hf:=iX h2 a;rw[bJ a]at h3;simp;grind[lI]
def nY (x n:Int)(hn: -1048576<=n/\n<=1048576:=by first|omega|grind):Fk 433 [dI x,dI n] (vB (inR x 0 (n-1))):=by
 refine fE [] ntmps433 fun _ _=> ?_;simp;refine ai ?_;refine ck (bK x 0 (n-1)) ?_;simp
def zG (l:L1)(hs:Qle l):Fk 444 [nInts l] (vB (gD l)):=by
 refine fE [] ntmps444 fun _ _=> ?_;simp;refine wlt (Nat×Int) (fun(i,t)=>([(0,vN l),(3,vI (t+1)),(6,vN l),(7,vI l.length),(8,vI i)],l.length-i,(i<=l.length)/\(DC (-1) l=DC t (l.drop i))/\(-1<=t/\t<=i))) ((0,(-1))) ⟨by omega,rfl,by omega⟩ ?_;rintro⟨i,t⟩ ⟨h1,h2,h3⟩;simp;apply gw<;>intro a
 ·obtain⟨c,hc⟩:=aO (l:=l) (i:=i);have hdr:=drop_at hc;rw[hdr,DC]at h2;simp[hc];refine ck (bK c 0 (t+1)) ?_;simp;apply gw<;>intro b
  ·simp at b;rw[show inR c 0 (t+1)=false by simp;omega]at h2;simp;grind[gD]
  ·simp at b;rw[show inR c 0 (t+1)=true by simp;omega,fD]at h2;have hmx:max (t+1) (c+1)=max t c+1:=by omega
   simp[hmx];refine nxb (i+1,max t c) ⟨by omega,h2,by omega⟩
 ·simp at a;rw[bX a]at h2;have hx:DC (-1) l:=h2;simp;refine ck (bK l.length 1 8) ?_;simp;grind[gD]
def WP (s:Sto)(hs:Qle s.recs)(hi:∀r∈s.recs,inI .i64 (jQ r)/\inI .i64 (100*r.source)):Fk 186 [XM s] (vS (s.recs.map jQ)):=by
 refine fE [] ntmps186 fun _ _=> ?_;simp;refine wlt (Nat×L1) (fun(i,o)=>([(3,vS o),(7,vR s.recs),(8,vI s.recs.length),(9,vI i)],s.recs.length-i,(i<=s.recs.length)/\(o=(s.recs.take i).map jQ))) ((0,[])) ⟨by omega,rfl⟩ ?_;rintro⟨i,o⟩ ⟨h1,h2⟩;simp;apply gw<;>intro a
 ·obtain⟨c,hc⟩:=aO a;have hm:=uI jQ hc;rw[←h2]at hm;have hol:o.length=i:=by rw[h2];simp;omega
  have hci:=hi c (aA hc);simp[hc];refine ck (yK c hci.1 hci.2) ?_;simp;refine nxb (i+1,o++[jQ c]) ⟨by omega,hm.symm⟩
 ·simp at a;rw[bJ a]at h2;subst h2;simp
variable {x c:Str}
def aKZ {l:List Str}(hc:l[i]?=some c)(h:i<=D6 l x)(hb:ltL c x):i+1<=D6 l x:=by
 induction l generalizing i with
 |nil=>cases hc
 |cons y l ih=>
  unfold D6 at*
  cases i with
  |zero=>
   obtain rfl:y=c:=by simpa using hc
   simp[hb]
  |succ i=>
   by_cases hy:ltL y x=true
   ·simp only[rG,hy,if_true,k_List_length_cons]at h|-
    have:=ih (i:=i) (by simpa using hc) (by omega);omega
   ·simp[hy]at h
def aKY {l:List Str}(hc:l[i]?=some c)(h:i<=D6 l x)(hb:ltL c x=false):D6 l x=i:=by
 induction l generalizing i with
 |nil=>cases hc
 |cons y l ih=>
  unfold D6 at*
  cases i with
  |zero=>
   obtain rfl:y=c:=by simpa using hc
   simp[hb]
  |succ i=>
   by_cases hy:ltL y x=true
   ·simp only[rG,hy,if_true,k_List_length_cons]at h|-
    have:=ih (i:=i) (by simpa using hc) (by omega);omega
   ·simp[hy]at h
def AB (l:List Str)(x:Str)(again:Bool)(hl:Qle l:=by first|omega|grind):Fk 209 [mH l,dS x,dB again] (vT (jZ l x again)):=by
 refine fE [13] ntmps209 fun _ _=> ?_;simp;refine wlt Nat (fun i=>([(0,vT l),(1,wN x),(2,vB again),(7,vI i)],l.length-i,(i<=l.length)/\(i<=D6 l x))) (0) ⟨by omega,by omega⟩ ?_;rintro i ⟨h1,h2⟩;simp;apply gv<;>intro a
 ·have a':=a;obtain⟨c,hc⟩:=aO (l:=l) (i:=i);have hcc:l[i]=c:=by simpa[aB a]using hc
  simp[a,hcc];apply gw<;>intro b
  ·simp;refine nxa (i+1) ⟨by omega,(aKZ hc h2 b)⟩
  ·have hi:D6 l x=i:=aKY hc h2 b;have htp:jZ l x again=if again=false/\c=x then l else l.take i++[x]++l.drop i:=by simp[jZ,hi,hc]
   simp;apply gv<;>intro e
   ·have e':=e;simp at e';simp[a,hcc,e];apply gw<;>intro f
    ·simp;simp_all
    ·simp;refine wdf [(0,[39]),(4,[39,42,43]),(6,[44,45]),(7,[43,45,46]),(11,[46,49,50]),(12,[50,6])] [(0,vT l),(1,wN x),(7,vI i)] [] (by simp) ?_;simp;iterate 5 refine ai ?_
     refine jL [] (dQ 6) ?_;simp;simp_all
   ·have e':=e;simp at e';simp[e];refine wdf [(0,[39]),(4,[39,42,43]),(6,[44,45]),(7,[43,45,46]),(11,[46,49,50]),(12,[50,6])] [(0,vT l),(1,wN x),(7,vI i)] [] (by simp) ?_;simp;iterate 5 refine ai ?_
    refine jL [] (dQ 6) ?_;simp;simp_all
 ·have a':=a;simp at a';have hi:l.length=i:=by omega
  have hia:D6 l x=i:=by have:=aE8 l x;omega
  have htp:jZ l x again=l.take i++[x]++l.drop i:=by simp[jZ,hia,k_List_getElem__eq_none (show l.length<=i by omega)]
  simp[a];apply gv<;>intro e
  ·have e':=e;simp at e';simp[a,e];refine wdf [(0,[39]),(4,[39,42,43]),(6,[44,45]),(7,[43,45,46]),(11,[46,49,50]),(12,[50,6])] [(0,vT l),(1,wN x),(7,vI i)] [] (by simp) ?_;simp;iterate 5 refine ai ?_
   refine jL [] (dQ 6) ?_;simp;simp_all
  ·have e':=e;simp at e';simp[e];refine wdf [(0,[39]),(4,[39,42,43]),(6,[44,45]),(7,[43,45,46]),(11,[46,49,50]),(12,[50,6])] [(0,vT l),(1,wN x),(7,vI i)] [] (by simp) ?_;simp;iterate 5 refine ai ?_
   refine jL [] (dQ 6) ?_;simp;simp_all
abbrev oBs (l:Str):D:= .sl (some 5) (l.map dU)
abbrev dC (c:UInt8):D:= .one (.int .u8 c.toNat)
def RZ (c:UInt8):Fk 229 [dC c] (vB (yH c)):=by
 refine fE [] ntmps229 fun _ _=> ?_;simp;apply gv<;>intro e
 ·have e':=e;simp[e];apply gv<;>intro f
  ·have f':=f;simp[f];grind[yH]
  ·have f':=f;simp at f';simp[f];apply gv<;>intro g
   ·have g':=g;simp[g];apply gv<;>intro g1
    ·have g1':=g1;simp[g1];omega
    ·have g1':=g1;simp at g1';simp[g1];apply gv<;>intro g2
     ·have g2':=g2;simp[g2];grind[yH]
     ·have g2':=g2;simp at g2';simp[g2];omega
   ·have g':=g;simp at g';simp[g];apply gv<;>intro g3
    ·have g3':=g3;simp[g3];omega
    ·have g3':=g3;simp at g3';simp[g3];omega
 ·have e':=e;simp at e';simp[e];apply gv<;>intro g4
  ·have g4':=g4;simp[g4];apply gv<;>intro g5
   ·have g5':=g5;simp[g5];grind[yH]
   ·have g5':=g5;simp at g5';simp[g5];apply gv<;>intro g6
    ·have g6':=g6;simp[g6];grind[yH]
    ·have g6':=g6;simp at g6';simp[g6];omega
  ·have g4':=g4;simp at g4';simp[g4];apply gv<;>intro g7
   ·have g7':=g7;simp[g7];grind[yH]
   ·have g7':=g7;simp at g7';simp[g7];grind[yH]
def yL (s:Str)(hs:Qle s:=by first|omega|grind):Fk 157 [dS s] (wN (uQ s)):=by
 refine fE [] ntmps157 fun _ _=> ?_;simp;refine wlt (Nat×Str) (fun(i,o)=>([(0,wN s),(3,.own (oBs o)),(4,vI i)],s.length-i,(i<=s.length)/\(o=(s.take i).map iT)/\(o.length=i))) ((0,[])) ⟨by omega,rfl,rfl⟩ ?_;rintro⟨i,o⟩ ⟨h1,h2,h3⟩;simp;apply gw<;>intro a
 ·obtain⟨c,hc⟩:=aO (l:=s) (i:=i);have hm:=uI iT hc;rw[←h2]at hm;simp[hc];apply gv<;>intro e
  ·have e':=e;simp[e];apply gw<;>intro f
   ·have hu:=aeT (c:=c) (by omega) (by omega);simp;refine nxd (i+1,o++[iT c]) ⟨by omega,by rw[hm],by simp;omega⟩ (h3:=by simp[hc,e,hu])
   ·simp at f;have hu:=UC (c:=c);simp;refine nxb (i+1,o++[iT c]) ⟨by omega,by rw[hm],by simp;omega⟩ (h3:=by simp[hc,e,hu])
  ·have e':=e;simp at e';have hu:=UC (c:=c);simp[e];refine nxb (i+1,o++[iT c]) ⟨by omega,by rw[hm],by simp;omega⟩ (h3:=by simp[hc,e,hu])
 ·simp at a;rw[bJ a]at h2;simp;grind[uQ]
def JK (s:Str)(hs:Qle s):Fk 156 [dS s] (wN (yF s)):=by
 refine fE [] ntmps156 fun _ _=> ?_;simp;refine wlt (Nat×Str) (fun(i,o)=>([(0,wN s),(3,.own (oBs o)),(4,vI i)],s.length-i,(i<=s.length)/\(o=(s.take i).flatMap DI)/\(o.length<=i))) ((0,[])) ⟨by omega,rfl,by simp⟩ ?_;rintro⟨i,o⟩ ⟨h1,h2,h3⟩;simp;apply gw<;>intro a
 ·obtain⟨c,hc⟩:=aO (l:=s) (i:=i);have hm:=al3 DI hc;rw[←h2]at hm;simp[hc];refine ck (RZ _) ?_;simp;apply gv<;>intro e
  ·have e':=e;have hu:DI c=[c]:=if_pos (.inl e);simp[hc,e];refine nxb (i+1,o++[c]) ⟨by omega,by rw[hm,hu],by simp;omega⟩
  ·have e':=e;simp[hc,e];apply gw<;>intro f
   ·have hu:DI c=[c]:=if_pos (.inr (by omega));simp[hc];refine nxb (i+1,o++[c]) ⟨by omega,by rw[hm,hu],by simp;omega⟩
   ·simp[hc];apply gw<;>intro g
    ·have hu:DI c=[32]:=by rw[DI,if_neg (fun h=>by rcases h with h|h;(rw[e']at h;cases h);omega),if_pos (by omega)]
     simp;refine nxb (i+1,o++[32]) ⟨by omega,by rw[hm,hu],by simp;omega⟩
    ·have hu:DI c=[]:=by rw[DI,if_neg (fun h=>by rcases h with h|h;(rw[e']at h;cases h);omega),if_neg (by omega)]
     simp;refine nxa (i+1,o) ⟨by omega,by rw[hm,hu];simp,by omega⟩
 ·simp at a;rw[bJ a]at h2;simp;grind[yF]
def CQ (s:Str)(hs:Qle s):Fk 155 [dS s] (wN (CJ s)):=by
 refine fE [] ntmps155 fun _ _=> ?_;simp;refine wlt (Nat×Str) (fun(i,o)=>([(0,wN s),(3,.own (oBs o)),(4,vI i)],s.length-i,(i<=s.length)/\(o=loopN i ([]) (oH s))/\(o.length<=2*i)/\(i=0->o=[]))) ((0,[])) ⟨by omega,rfl,by simp,by simp⟩ ?_;rintro⟨i,o⟩ ⟨h1,h2,h3,h4⟩;simp;apply gw<;>intro a
 ·have hs:=aM i ([]) (oH s);rw[←h2]at hs;obtain⟨c,hc⟩:=aO (l:=s) (i:=i);have hg:=ZT hc;simp[hc];apply gw<;>intro b
  ·have hu:oH s i o=(if 0<o.length/\(s.getD (i-1) 0).toNat=32 then o++[32]else o)++[c]:=by rw[oH,hg,if_neg (by omega)]
   simp;apply gv<;>intro e
   ·have e':=e;have hi:0<i:=by rcases lH i with h|h;(have:=h4 h;subst this;simp at e);exact h
    obtain⟨d,hd⟩:=aO (l:=s) (i:=i-1);have hdg:=ZT hd;simp[e,hd];iterate 2 refine ai ?_
    apply gw<;>intro f
    ·have hv:oH s i o=o++[32]++[c]:=by rw[hu,if_pos ⟨by simpa using e,by rw[hdg];omega⟩]
     simp[hc];refine nxd (i+1,o++[32]++[c]) ⟨by omega,by rw[hs,hv],by simp;omega,by omega⟩
    ·have hv:oH s i o=o++[c]:=by rw[hu,if_neg (by (try unfold Qle);rw[hdg];omega)]
     simp[hc];refine nxb (i+1,o++[c]) ⟨by omega,by rw[hs,hv],by simp;omega,by omega⟩
   ·have e':=e;simp at e';have hv:oH s i o=o++[c]:=by rw[hu,if_neg (by simp_all)]
    simp[hc,e];refine nxb (i+1,o++[c]) ⟨by omega,by rw[hs,hv],by simp;omega,by omega⟩
  ·have hu:oH s i o=o:=by rw[oH,hg,if_pos (by omega)]
   simp;refine nxa (i+1,o) ⟨by omega,by rw[hs,hu],by omega,by omega⟩
 ·simp at a;have hi:s.length=i:=by omega
  subst hi;simp;grind[CJ]
def J4 (s:Str):(normal s).length<=2*s.length:=by
 have h1:=YE (yF (uQ s));have h2:=E5 (uQ s);have h3:=BL s;unfold normal;omega
def iU (s:Str)(hs:Qle s:=by first|omega|grind):Fk 74 [dS s] (wN (normal s)):=by
 refine fE [] ntmps74 fun _ _=> ?_;simp;refine ck (yL _) ?_;simp;first|refine ck (JK _ (by have:=BL s;omega)) ?_|refine ckz (JK _ (by have:=BL s;omega)) ?_
 simp;first|refine ck (CQ _ (by have:=E5 (uQ s);have h2:=BL s;omega)) ?_|refine ckz (CQ _ (by have:=E5 (uQ s);have h2:=BL s;omega)) ?_
 simp;grind[normal]
def aA8 {l:Str}{c:UInt8}(h:l[i]?=some c):l.drop i=c::l.drop (i+1):=drop_at h
def aiZ (s:Str)(c:UInt8)(hs:Qle s):Fk 208 [dS s,dC c] (wC (af0 c s)):=by
 refine fE [] ntmps208 fun _ _=> ?_;simp;refine wlt (Nat×Nat×List Str) (fun(i,f,o)=>([(0,wN s),(1,.val (dC c)),(5,wC o),(6,vI f),(7,vI i)],s.length-i,(i<=s.length)/\f<=i/\o.length<=i/\(o++WA c ((s.drop f).take (i-f)) (s.drop i)=af0 c s))) ((0,0,[])) ⟨by simp,by simp,by simp,by simp[af0]⟩ ?_;rintro⟨i,f,o⟩ ⟨h1,h2,h3,h4⟩;simp;apply gw<;>intro a
 ·obtain⟨d,hd⟩:=aO (l:=s) (i:=i);rw[aA8 hd]at h4;simp[hd];apply gw<;>intro b
  ·simp;iterate 4 refine ai ?_
   refine nx (i+1,i+1,o++[(s.drop f).take (i-f)]) ⟨by omega,by omega,by simp;omega,by simpa[WA,b]using h4⟩
  ·have he:(s.drop f).take (i+1-f)=(s.drop f).take (i-f)++[d]:=by rw[show i+1-f=(i-f)+1 by omega];exact dE (by rw[dX,show f+(i-f)=i by omega];exact hd)
   simp;refine nxa (i+1,f,o) ⟨by omega,by omega,by omega,by rw[he];simpa[WA,b]using h4⟩
 ·simp at a;have:i=s.length:=by omega
  subst this;rw[List.drop_length,take_drop_len]at h4;simp;iterate 2 refine ai ?_
  rw[←h4];simp[WA]
def ZL (c:UInt8):Fk 315 [dC c] (vI (aP c)):=by
 refine fE [] ntmps315 fun _ _=> ?_;have hf:uQ [c]=[iT c]:=rfl;simp;refine ck (yL [c]) ?_;simp[hf];apply gw<;>intro a1
 ·have b1:(iT c).toNat=98:=by rw[a1];rfl
  simp[a1];all_goals simp[aP,codeOf,b1]
 ·have b1:¬(iT c).toNat=98:=fun h=>a1 (k_UInt8_toNat_inj.1 h);simp[a1];apply gw<;>intro a2
  ·have b2:(iT c).toNat=102:=by rw[a2];rfl
   simp[a2];all_goals simp[aP,codeOf,b2]
  ·have b2:¬(iT c).toNat=102:=fun h=>a2 (k_UInt8_toNat_inj.1 h);simp[a2];apply gw<;>intro a3
   ·have b3:(iT c).toNat=112:=by rw[a3];rfl
    simp[a3];all_goals simp[aP,codeOf,b3]
   ·have b3:¬(iT c).toNat=112:=fun h=>a3 (k_UInt8_toNat_inj.1 h);simp[a3];apply gw<;>intro a4
    ·have b4:(iT c).toNat=118:=by rw[a4];rfl
     simp;all_goals simp[aP,codeOf,b4]
    ·have b4:¬(iT c).toNat=118:=fun h=>a4 (k_UInt8_toNat_inj.1 h);simp[a4];apply gw<;>intro a5
     ·have b5:(iT c).toNat=99:=by rw[a5];rfl
      simp[a5];all_goals simp[aP,codeOf,b5]
     ·have b5:¬(iT c).toNat=99:=fun h=>a5 (k_UInt8_toNat_inj.1 h);simp[a5];apply gw<;>intro a6
      ·have b6:(iT c).toNat=103:=by rw[a6];rfl
       simp[a6];all_goals simp[aP,codeOf,b6]
      ·have b6:¬(iT c).toNat=103:=fun h=>a6 (k_UInt8_toNat_inj.1 h);simp[a6];apply gw<;>intro a7
       ·have b7:(iT c).toNat=106:=by rw[a7];rfl
        simp[a7];all_goals simp[aP,codeOf,b7]
       ·have b7:¬(iT c).toNat=106:=fun h=>a7 (k_UInt8_toNat_inj.1 h);simp[a7];apply gw<;>intro a8
        ·have b8:(iT c).toNat=107:=by rw[a8];rfl
         simp[a8];all_goals simp[aP,codeOf,b8]
        ·have b8:¬(iT c).toNat=107:=fun h=>a8 (k_UInt8_toNat_inj.1 h);simp[a8];apply gw<;>intro a9
         ·have b9:(iT c).toNat=113:=by rw[a9];rfl
          simp[a9];all_goals simp[aP,codeOf,b9]
         ·have b9:¬(iT c).toNat=113:=fun h=>a9 (k_UInt8_toNat_inj.1 h);simp[a9];apply gw<;>intro a10
          ·have b10:(iT c).toNat=115:=by rw[a10];rfl
           simp[a10];all_goals simp[aP,codeOf,b10]
          ·have b10:¬(iT c).toNat=115:=fun h=>a10 (k_UInt8_toNat_inj.1 h);simp[a10];apply gw<;>intro a11
           ·have b11:(iT c).toNat=120:=by rw[a11];rfl
            simp[a11];all_goals simp[aP,codeOf,b11]
           ·have b11:¬(iT c).toNat=120:=fun h=>a11 (k_UInt8_toNat_inj.1 h);simp[a11];apply gw<;>intro a12
            ·have b12:(iT c).toNat=122:=by rw[a12];rfl
             simp;all_goals simp[aP,codeOf,b12]
            ·have b12:¬(iT c).toNat=122:=fun h=>a12 (k_UInt8_toNat_inj.1 h);simp[a12];apply gw<;>intro a13
             ·have b13:(iT c).toNat=100:=by rw[a13];rfl
              simp[a13];all_goals simp[aP,codeOf,b13]
             ·have b13:¬(iT c).toNat=100:=fun h=>a13 (k_UInt8_toNat_inj.1 h);simp[a13];apply gw<;>intro a14
              ·have b14:(iT c).toNat=116:=by rw[a14];rfl
               simp;all_goals simp[aP,codeOf,b14]
              ·have b14:¬(iT c).toNat=116:=fun h=>a14 (k_UInt8_toNat_inj.1 h);simp[a14];apply gw<;>intro a15
               ·have b15:(iT c).toNat=108:=by rw[a15];rfl
                simp;all_goals simp[aP,codeOf,b15]
               ·have b15:¬(iT c).toNat=108:=fun h=>a15 (k_UInt8_toNat_inj.1 h);simp[a15];apply gw<;>intro a16
                ·have b16:(iT c).toNat=109:=by rw[a16];rfl
                 simp[a16];all_goals simp[aP,codeOf,b16]
                ·have b16:¬(iT c).toNat=109:=fun h=>a16 (k_UInt8_toNat_inj.1 h);simp[a16];apply gw<;>intro a17
                 ·have b17:(iT c).toNat=110:=by rw[a17];rfl
                  simp;all_goals simp[aP,codeOf,b17]
                 ·have b17:¬(iT c).toNat=110:=fun h=>a17 (k_UInt8_toNat_inj.1 h);simp[a17];apply gw<;>intro a18
                  ·have b18:(iT c).toNat=114:=by rw[a18];rfl
                   simp;all_goals simp[aP,codeOf,b18]
                  ·have b18:¬(iT c).toNat=114:=fun h=>a18 (k_UInt8_toNat_inj.1 h);simp[a18];apply gw<;>intro a19
                   ·have b19:(iT c).toNat=97:=by rw[a19];rfl
                    simp[a19];all_goals simp[aP,codeOf,b19]
                   ·have b19:¬(iT c).toNat=97:=fun h=>a19 (k_UInt8_toNat_inj.1 h);simp[a19];apply gw<;>intro a20
                    ·have b20:(iT c).toNat=101:=by rw[a20];rfl
                     simp[a20];all_goals simp[aP,codeOf,b20]
                    ·have b20:¬(iT c).toNat=101:=fun h=>a20 (k_UInt8_toNat_inj.1 h);simp[a20];apply gw<;>intro a21
                     ·have b21:(iT c).toNat=105:=by rw[a21];rfl
                      simp[a21];all_goals simp[aP,codeOf,b21]
                     ·have b21:¬(iT c).toNat=105:=fun h=>a21 (k_UInt8_toNat_inj.1 h);simp[a21];apply gw<;>intro a22
                      ·have b22:(iT c).toNat=111:=by rw[a22];rfl
                       simp[a22];all_goals simp[aP,codeOf,b22]
                      ·have b22:¬(iT c).toNat=111:=fun h=>a22 (k_UInt8_toNat_inj.1 h);simp[a22];apply gw<;>intro a23
                       ·have b23:(iT c).toNat=117:=by rw[a23];rfl
                        simp[a23];all_goals simp[aP,codeOf,b23]
                       ·have b23:¬(iT c).toNat=117:=fun h=>a23 (k_UInt8_toNat_inj.1 h);simp[a23];apply gw<;>intro a24
                        ·have b24:(iT c).toNat=121:=by rw[a24];rfl
                         simp;all_goals simp[aP,codeOf,b24]
                        ·have b24:¬(iT c).toNat=121:=fun h=>a24 (k_UInt8_toNat_inj.1 h);simp[a24];apply gw<;>intro a25
                         ·have b25:(iT c).toNat=104:=by rw[a25];rfl
                          simp[a25];all_goals simp[aP,codeOf,b25]
                         ·have b25:¬(iT c).toNat=104:=fun h=>a25 (k_UInt8_toNat_inj.1 h);simp[a25];apply gw<;>intro a26
                          ·have b26:(iT c).toNat=119:=by rw[a26];rfl
                           simp;all_goals simp[aP,codeOf,b26]
                          ·have b26:¬(iT c).toNat=119:=fun h=>a26 (k_UInt8_toNat_inj.1 h);simp[a26];all_goals simp[aP,codeOf,b1,b2,b3,b4,b5,b6,b7,b8,b9,b10,b11,b12,b13,b14,b15,b16,b17,b18,b19,b20,b21,b22,b23,b24,b25,b26]
def LY {α:Type}{l:List α}{c:α}(h:l[i]?=some c):c∈l:=aA h
def JL (s:Str)(hs:s.length<=65536:=by first|omega|grind):Fk 135 [dS s] (vT (tokens s)):=by
 refine fE [] ntmps135 fun _ _=> ?_;simp;refine ck (iU _) ?_;simp;refine ck (aiZ (normal s) 32 (by have:=J4 s;omega)) ?_;have hL:=(aoF 32 (normal s)).1;have hn:=J4 s;generalize hcs:af0 32 (normal s)=L at hL|-
 simp;refine wld [3] (Nat×List Str) (fun(i,o)=>([(3,vT o),(4,wC L),(5,vI i)],L.length-i,(i<=L.length)/\(o=(L.take i).foldl yT [])/\(o.length<=i))) ((0,[])) ⟨by omega,rfl,by simp⟩ ?_;rintro⟨i,o⟩ ⟨h1,h2,h3⟩;simp;apply gw<;>intro a
 ·obtain⟨c,hc⟩:=aO (l:=L) (i:=i);have hm:=dK yT [] hc;rw[←h2]at hm;simp[hc];apply gw<;>intro b
  ·have hu:yT o c=jZ o c false:=if_pos b;have hl:=sW o c false;simp[hc];refine ck (AB _ _ _) ?_;simp;refine ai ?_;refine nxc (i+1,jZ o c false) [3] ⟨by omega,by rw[hm,hu],by omega⟩
  ·have hu:yT o c=o:=if_neg (by simp[b]);simp;refine ai ?_;refine nxc (i+1,o) [3] ⟨by omega,by rw[hm,hu],by omega⟩
 ·simp at a;rw[bJ a]at h2;simp;simp[tokens,hcs,←h2]
def ai0 (l:List Str)(x:Str)(hl:Qle l:=by first|omega|grind):Fk 396 [mH l,dS x] (vB (l.any fun y=>decide (y=x))):=by
 refine fE [] ntmps396 fun _ _=> ?_;simp;refine wlt Nat (fun i=>([(0,vT l),(1,wN x),(5,vI i)],l.length-i,(i<=l.length)/\((l.take i).any (fun y=>decide (y=x))=false))) (0) ⟨by omega,rfl⟩ ?_;rintro i ⟨h1,h2⟩;simp;apply gw<;>intro a
 ·obtain⟨c,hc⟩:=aO (l:=l) (i:=i);simp[hc];apply gw<;>intro b
  ·have hn:=avA hc (P:=(fun y=>decide (y=x))) (by simp[b]);simp[hn]
  ·simp;refine nxa (i+1) ⟨by omega,(kN hc h2 (by simp[b]))⟩
 ·simp at a;have hf:=pK h2 a;simp[hf]
def RS (l m:List Str)(hl:l.length<=262144)(hm:m.length<=262144):Fk 313 [mH l,mH m] (vT (common l m)):=by
 refine fE [] ntmps313 fun _ _=> ?_;simp;refine wld [5] (Nat×List Str) (fun(i,o)=>([(0,vT l),(1,vT m),(5,vT o),(6,vI i)],l.length-i,(i<=l.length)/\(o=(l.take i).foldl (KM m) [])/\(o.length<=i))) ((0,[])) ⟨by omega,rfl,by simp⟩ ?_;rintro⟨i,o⟩ ⟨h1,h2,h3⟩;simp;apply gw<;>intro a
 ·obtain⟨c,hc⟩:=aO (l:=l) (i:=i);have hq:=dK (KM m) [] hc;rw[←h2]at hq;simp[hc];refine ck (ai0 _ _) ?_;simp;apply gw<;>intro b
  ·simp at b;have hu:KM m o c=jZ o c false:=if_pos (by simpa using b);have hp:=sW o c false;simp[hc];refine ck (AB _ _ _) ?_;simp;refine ai ?_;refine nxc (i+1,jZ o c false) [5] ⟨by omega,by rw[hq,hu],by omega⟩
  ·simp at b;have hu:KM m o c=o:=if_neg (fun h=>by obtain⟨y,h1,h2⟩:=cZ.1 h;exact b y h1 (by simpa using h2));simp;refine ai ?_;refine nxc (i+1,o) [5] ⟨by omega,by rw[hq,hu],by omega⟩
 ·simp at a;rw[bJ a]at h2;simp;grind[common]
def VA (l m:List Str)(hl:l.length<=262144)(hm:m.length<=262144):Fk 314 [mH l,mH m] (vT (aa1 l m)):=by
 refine fE [] ntmps314 fun _ _=> ?_;simp;refine wld [5] (Nat×List Str) (fun(i,o)=>([(0,vT l),(1,vT m),(5,vT o),(6,vI i)],l.length-i,(i<=l.length)/\(o=(l.take i).foldl yU [])/\(o.length<=i))) ((0,[])) ⟨by omega,rfl,by simp⟩ ?_;rintro⟨i,o⟩ ⟨h1,h2,h3⟩;simp;apply gw<;>intro a
 ·obtain⟨c,hc⟩:=aO (l:=l) (i:=i);have hq:=dK yU [] hc;rw[←h2]at hq;have hp:=sW o c false;simp[hc];refine ck (AB _ _ _) ?_;simp;refine ai ?_;refine nxc (i+1,jZ o c false) [5] ⟨by omega,by rw[hq];rfl,by omega⟩
 ·simp at a;rw[bJ a]at h2;simp;refine wlt (Nat×List Str) (fun(i,q)=>([(1,vT m),(5,vT q),(7,vI i)],m.length-i,(i<=m.length)/\(q=(m.take i).foldl yU o)/\(q.length<=o.length+i))) ((0,o)) ⟨by omega,rfl,by omega⟩ ?_;rintro⟨i,q⟩ ⟨h1j,h2j,h3j⟩;simp;apply gw<;>intro aj
  ·obtain⟨cj,hcj⟩:=aO (l:=m) (i:=i);have hq:=dK yU o hcj;rw[←h2j]at hq;have hp:=sW q cj false;simp[hcj];refine ck (AB q cj false) ?_;simp;refine nxa (i+1,jZ q cj false) ⟨by omega,by rw[hq];rfl,by omega⟩
  ·simp at aj;rw[bJ aj]at h2j;simp;grind[aa1]
def M9 (s:Str)(hs:Qle s):Fk 125 [dS s] (wN (digits s)):=by
 refine fE [] ntmps125 fun _ _=> ?_;simp;refine wlt (Nat×Str) (fun(i,o)=>([(0,wN s),(3,.own (oBs o)),(4,vI i)],s.length-i,(i<=s.length)/\(o=(s.take i).filter (fun c=>decide (48<=c.toNat/\c.toNat<=57)))/\(o.length<=i))) ((0,[])) ⟨by omega,rfl,by simp⟩ ?_;rintro⟨i,o⟩ ⟨h1,h2,h3⟩;simp;apply gw<;>intro a
 ·obtain⟨c,hc⟩:=aO (l:=s) (i:=i);have hm:=BI (fun c:UInt8=>decide (48<=c.toNat/\c.toNat<=57)) hc;rw[←h2]at hm;simp[hc];apply gv<;>intro e
  ·have e':=e;simp[hc,e];apply gw<;>intro f
   ·have hd:(decide (48<=c.toNat/\c.toNat<=57))=true:=by simp;omega
    simp[hc];refine nxb (i+1,o++[c]) ⟨by omega,by rw[hm,hd];rfl,by simp;omega⟩
   ·simp at f;have hd:(decide (48<=c.toNat/\c.toNat<=57))=false:=by simp;omega
    simp;refine nxa (i+1,o) ⟨by omega,by rw[hm,hd];simp,by omega⟩
  ·have e':=e;simp at e';have hd:(decide (48<=c.toNat/\c.toNat<=57))=false:=by simp;omega
   simp[e];refine nxa (i+1,o) ⟨by omega,by rw[hm,hd];simp,by omega⟩
 ·simp at a;rw[bJ a]at h2;simp;grind[digits]
def VM (x:Int):Fk 212 [dI x] (vB (inR x 0 9999)):=by
 refine fE [] ntmps212 fun _ _=> ?_;simp;refine ck (bH _ _ _) ?_;simp
end Go.Proofs.YtebopbncplpdgaaGreatDoor
end
section
namespace Go
def iM:= @Bool.false_and
end Go
end
section
namespace Go.Proofs.YtebopbncplpdgaaGreatDoor
open Go.Dv Go.Pl Go.Proofs.Tryz
abbrev aoI (t:Tri):D:= .agg [dI t.a,dI t.b,dI t.c,dI t.w]
abbrev J3 (l:List Tri):D:= .sl none (l.map aoI)
abbrev akP (l:List Tri):D:= .sl (some 307) (l.map aoI)
def BX (x:Int):Int:=if x<0 then -x else x
def ajC (m:L2)(a b c:Nat):L1:=[at2 m a b,at2 m a c,at2 m b c]
def XN (l:L1):Nat:=(l.filter fun x=>decide (x<0)).length
def SQ (l:L1):Nat:=(l.filter fun x=>decide (x>0)).length
def aaY (m:L2)(a b c:Int):Bool:=bR m&&decide (0<=a)&&decide (a<b)&&decide (b<c)&&decide (c<m.length)
def xQ (m:L2)(a b c:Int):Bool:=aaY m a b c&&(decide (XN (ajC m a.toNat b.toNat c.toNat)=1)&&decide (SQ (ajC m a.toNat b.toNat c.toNat)=2))
def KH (x y:Int)(t:Tri):Bool:=(decide (t.a=x)&&decide (t.b=y))||(decide (t.a=x)&&decide (t.c=y))||(decide (t.b=x)&&decide (t.c=y))
def BU (l:List Tri)(x y:Int):Int:=l.foldl (fun s t=>if KH x y t=true then s+t.w else s) 0
variable {l:List Tri}
def aiM {w:Int}(hw:0<=w)(h:∀t∈l, -w<=t.w/\t.w<=w)(x y:Int): -(w*l.length)<=BU l x y/\BU l x y<=w*l.length:=by
 have key:∀(l:List Tri) (s:Int),(∀t∈l, -w<=t.w/\t.w<=w)->s-w*l.length<=l.foldl (fun s t=>if KH x y t=true then s+t.w else s) s/\l.foldl (fun s t=>if KH x y t=true then s+t.w else s) s<=s+w*l.length:=by
  intro l
  induction l with
  |nil=>intro s _;simp
  |cons t l ih=>
   intro s h;have h1:=h t (by simp);have h2:=ih (if KH x y t=true then s+t.w else s) (fun t ht=>h t (bC _ ht));have e:w*((t::l).length:Int)=w*l.length+w:=by simp[Int.mul_add]
   rw[k_List_foldl_cons,e];by_cases hh:KH x y t=true
   ·simp only[hh,if_true]at h2|-;omega
   ·simp only[hh,if_false,dV]at h2|-;omega
 have:=key l 0 h;unfold BU;omega
def oQ (x:Int)(hx: -1048576<=x/\x<=1048576:=by omega):Fk 357 [dI x] (vI (BX x)):=by
 refine fE [] ntmps357 fun _ _=> ?_;simp;apply gw<;>intro h1
 ·simp;refine ai ?_;grind[BX]
 ·simp at h1;simp;grind[BX]
def DX (m:L2)(a b c:Int)(hm:Qle m:=by first|omega|grind):Fk 419 [cK m,dI a,dI b,dI c] (vB (xQ m a b c)):=by
 refine fE [] ntmps419 fun _ _=> ?_;simp;refine ck (eT m hm) ?_;simp;apply gv<;>intro e1
 ·have e1':=e1;simp at e1';have h0:xQ m a b c=false:=by simp only[xQ,aaY];rw[e1'];simp
  simp[e1,h0]
 ·have e1':=e1;simp at e1';simp[e1];apply gv<;>intro e2
  ·have e2':=e2;have h0:xQ m a b c=false:=by simp only[xQ,aaY];rw[decide_eq_false (p:=0<=a) (by omega)];simp
   simp[e2,h0]
  ·have e2':=e2;simp at e2';simp[e2];apply gv<;>intro e3
   ·have e3':=e3;have h0:xQ m a b c=false:=by simp only[xQ,aaY];rw[decide_eq_false (p:=a<b) (by omega)];simp
    simp[e3,h0]
   ·have e3':=e3;simp at e3';simp[e3];apply gv<;>intro e4
    ·have e4':=e4;have h0:xQ m a b c=false:=by simp only[xQ,aaY];rw[decide_eq_false (p:=b<c) (by omega)];simp
     simp[e4,h0]
    ·have e4':=e4;simp at e4';simp[e4];apply gw<;>intro e5
     ·have h0:xQ m a b c=false:=by simp only[xQ,aaY];rw[decide_eq_false (p:=c<m.length) (by omega)];simp
      simp[h0]
     ·simp at e5;have ht:aaY m a b c:=by simp only[aaY];rw[e1'];simp;omega
      have h0:xQ m a b c=(decide (XN (ajC m a.toNat b.toNat c.toNat)=1)&&decide (SQ (ajC m a.toNat b.toNat c.toNat)=2)):=by simp[xQ,ht]
      obtain⟨r,hr,hrb⟩:=lJ e1' (i:=a.toNat) (k:=b.toNat);obtain⟨r',hr',hrc⟩:=lJ e1' (i:=a.toNat) (k:=c.toNat);obtain rfl:r=r':=by rw[hr]at hr';exact k_Option_some_inj hr'
      obtain⟨q,hq,hqc⟩:=lJ e1' (i:=b.toNat) (k:=c.toNat);have hb0:0<=b:=by omega
      have hc0:0<=c:=by omega
      have hT:ajC m a.toNat b.toNat c.toNat=[at2 m a.toNat b.toNat,at2 m a.toNat c.toNat,at2 m b.toNat c.toNat]:=rfl;have hTl:(ajC m a.toNat b.toNat c.toNat).length=3:=rfl;have hn0:XN []=0:=rfl;have hp0:SQ []=0:=rfl;simp;refine wdt 21 ?_;simp[hr,hrb,hrc,hq,hqc,hb0,hc0];refine ai ?_;refine wl (fun(i:Nat)=>[(9,vI (XN ((ajC m a.toNat b.toNat c.toNat).take i))),(10,vI (SQ ((ajC m a.toNat b.toNat c.toNat).take i))),(11,vS (ajC m a.toNat b.toNat c.toNat)),(12,vI i)]) (fun(i:Nat)=>3-i) (fun(i:Nat)=>(i<=3)) (0) (by omega) ?_ (h0:=by simp[e2,hr,hrb,hrc,hq,hqc,hb0,hc0,hn0,hp0,hT]);rintro i h1;clear hT;generalize ajC m a.toNat b.toNat c.toNat=T at*
      simp;apply gw<;>intro f
      ·have hg:=aY (l:=T) (i:=i);have hn1:=BI (fun x:Int=>decide (x<0)) hg;have hp1:=BI (fun x:Int=>decide (x>0)) hg;have hnl:(XN (T.take i))<=3:=k_Nat_le_trans (aZ _ _) (by simp;omega);have hpl:(SQ (T.take i))<=3:=k_Nat_le_trans (aZ _ _) (by simp;omega);simp[hg];apply gw<;>intro g
       ·have hn2:XN (T.take (i+1))=XN (T.take i)+1:=by rw[XN,hn1,decide_eq_true g];simp[XN]
        simp[hg];refine ai ?_;apply gw<;>intro k
        ·exfalso;omega
        ·simp at k;have hp2:SQ (T.take (i+1))=SQ (T.take i):=by rw[SQ,hp1,decide_eq_false (by omega)];simp[SQ]
         simp;refine nxa (i+1) (by first|omega|(simp;omega)|grind) (h3:=by simp[e2,hg,hn2,hp2])
       ·simp at g;have hn2:XN (T.take (i+1))=XN (T.take i):=by rw[XN,hn1,decide_eq_false (by omega)];simp[XN]
        simp[hg];apply gw<;>intro k
        ·have hp2:SQ (T.take (i+1))=SQ (T.take i)+1:=by rw[SQ,hp1,decide_eq_true k];simp[SQ]
         simp;refine nxb (i+1) (by first|omega|(simp;omega)|grind) (h3:=by simp[e2,hg,hn2,hp2])
        ·simp at k;have hp2:SQ (T.take (i+1))=SQ (T.take i):=by rw[SQ,hp1,decide_eq_false (by omega)];simp[SQ]
         simp;refine nxa (i+1) (by first|omega|(simp;omega)|grind) (h3:=by simp[e2,hg,hn2,hp2])
      ·simp at f;obtain rfl:i=3:=by omega
       rw[show T.take 3=T from k_List_take_of_length_le (by omega)];simp;apply gv<;>intro g
       ·have g':=g;simp[g];rw[h0,decide_eq_true (p:=XN T=1) (by omega),fD];exact decide_eq_decide.2 (by omega)
       ·have g':=g;simp[g];rw[h0,decide_eq_false (p:=XN T=1) (by omega),iM]
def aaZ (n:Nat)(t:Tri):Prop:=0<=t.a/\t.a<t.b/\t.b<t.c/\t.c<n/\0<=t.w/\t.w<=1000
def NV {x:Int}{w:Int}(h: -w<=x/\x<=w):0<=BX x/\BX x<=w:=by unfold BX;split<;>omega
variable {m:L2}
def aw9 {a b c:Int}(h:xQ m a b c):bR m=true/\0<=a/\a<b/\b<c/\c<m.length:=by
 simp only[xQ,aaY,k_Bool_and_eq_true,decide_eq_true_eq]at h;exact⟨h.1.1.1.1.1,h.1.1.1.1.2,h.1.1.1.2,h.1.1.2,h.1.2⟩
def w3 (m:L2)(a b c:Nat):Int:=min (BX (at2 m a b)) (min (BX (at2 m a c)) (BX (at2 m b c)))
def TI (m:L2)(a b c:Nat)(q:List Tri):List Tri:=if xQ m a b c=true then q++[⟨a,b,c,w3 m a b c⟩]else q
def aFC (m:L2)(a b:Nat)(p:List Tri):List Tri:=loopN (m.length-(b+1)) p fun j q=>TI m a b (b+1+j) q
def aFB (m:L2)(a:Nat)(o:List Tri):List Tri:=loopN (m.length-(a+1)) o fun j p=>aFC m a (a+1+j) p
def HV (m:L2):List Tri:=loopN m.length [] (aFB m)
def NU (m:L2)(k:Nat)(L:List Tri):Prop:=L.length<=k/\∀t∈L,aaZ m.length t
variable {a k:Nat}
def ak9 (hm:bR m){b c:Nat}{q:List Tri}(h:NU m k q):NU m (k+1) (TI m a b c q):=by
 unfold TI;split
 ·rename_i hb;have h1:=aw9 hb;have v1:=NV (iL hm a b);have v2:=NV (iL hm a c);have v3:=NV (iL hm b c);have hw:0<=w3 m a b c/\w3 m a b c<=1000:=by unfold w3;omega
  refine⟨by have:=h.1;simp;omega,fun t ht=> ?_⟩;rcases k_List_mem_append.1 ht with h2|h2
  ·exact h.2 t h2
  ·rw[k_List_mem_singleton.1 h2];unfold aaZ;simp only;omega
 ·exact⟨by have:=h.1;omega,h.2⟩
def awU (hm:bR m){b:Nat}{p:List Tri}(h:NU m k p):NU m (k+8) (aFC m a b p):=by
 have h8:=dM hm;have:=loopN_inv (n:=m.length-(b+1)) (fun j (q:List Tri)=>NU m (k+j) q) (f:=fun j q=>TI m a b (b+1+j) q) h (fun j q _ hq=>ak9 hm hq);exact⟨k_Nat_le_trans this.1 (by omega),this.2⟩
def awT (hm:bR m){o:List Tri}(h:NU m k o):NU m (k+64) (aFB m a o):=by
 have h8:=dM hm;have:=loopN_inv (n:=m.length-(a+1)) (fun j (q:List Tri)=>NU m (k+8*j) q) (f:=fun j p=>aFC m a (a+1+j) p) (by simpa using h) (fun j q _ hq=>awU hm hq);exact⟨k_Nat_le_trans this.1 (by omega),this.2⟩
def afG (hm:bR m)(i:Nat):NU m (64*i) (loopN i [] (aFB m)):=
 loopN_inv (fun i (q:List Tri)=>NU m (64*i) q) ⟨by simp,by simp⟩ fun i q _ hq=>awT hm hq
def RO (m:L2)(hm:bR m):Fk 356 [cK m] (.own (akP (HV m))):=by
 refine fE [] ntmps356 fun _ _=> ?_;have hml:=dM hm;simp;refine wlt (Nat×List Tri) (fun(a,o)=>([(0,.val (cK m)),(3,.own (akP o)),(4,vI a)],m.length-a,(a<=m.length)/\(o=loopN a ([]) (aFB m))/\(NU m (64*a) o))) ((0,[])) ⟨by omega,rfl,(⟨by simp,by simp⟩)⟩ ?_;rintro⟨a,o⟩ ⟨h1z,h2z,h3⟩;simp;apply gw<;>intro az
 ·have hsz:=aM a ([]) (aFB m);rw[←h2z]at hsz;simp;refine ai ?_;refine wlt (Nat×List Tri) (fun(b,p)=>([(0,.val (cK m)),(3,.own (akP p)),(4,vI a),(5,vI b)],m.length-b,(a<b/\b<=m.length)/\(p=loopN (b-(a+1)) o (fun j p=>aFC m a (a+1+j) p))/\(NU m (64*a+8*(b-(a+1))) p))) ((a+1,o)) ⟨by omega,by simp[loopN_zero],by simpa using h3⟩ ?_;rintro⟨b,p⟩ ⟨h4,h5,h6⟩;simp;apply gw<;>intro f
  ·have hsb:=aM (b-(a+1)) o (fun j p=>aFC m a (a+1+j) p);rw[←h5,show b-(a+1)+1=b+1-(a+1) by omega,show a+1+(b-(a+1))=b by omega]at hsb;simp;refine ai ?_;refine wlt (Nat×List Tri) (fun(c,q)=>([(0,.val (cK m)),(3,.own (akP q)),(4,vI a),(5,vI b),(6,vI c)],m.length-c,(b<c/\c<=m.length)/\(q=loopN (c-(b+1)) p (fun j q=>TI m a b (b+1+j) q))/\(NU m (64*a+8*(b-(a+1))+(c-(b+1))) q))) ((b+1,p)) ⟨by omega,by simp[loopN_zero],by simpa using h6⟩ ?_;rintro⟨c,q⟩ ⟨h7,h8,h9⟩;simp;apply gw<;>intro g
   ·have hsc:=aM (c-(b+1)) p (fun j q=>TI m a b (b+1+j) q);rw[←h8,show c-(b+1)+1=c+1-(b+1) by omega,show b+1+(c-(b+1))=c by omega]at hsc;have hok:=ak9 hm (a:=a) (b:=b) (c:=c) h9;rw[show 64*a+8*(b-(a+1))+(c-(b+1))+1=64*a+8*(b-(a+1))+(c+1-(b+1)) by omega]at hok;have hq512:=h9.1;simp;refine ck (DX m a b c) ?_;simp;apply gw<;>intro k
    ·obtain⟨r,hr,hrb⟩:=lJ hm (i:=a) (k:=b);obtain⟨r',hr',hrc⟩:=lJ hm (i:=a) (k:=c);obtain rfl:r=r':=by rw[hr]at hr';exact k_Option_some_inj hr'
     obtain⟨s,hs',hsc'⟩:=lJ hm (i:=b) (k:=c);have v1:=iL hm a b;have v2:=iL hm a c;have v3:=iL hm b c;have hta:TI m a b c q=q++[⟨a,b,c,w3 m a b c⟩]:=if_pos k;have hw:min (BX (at2 m a b)) (min (BX (at2 m a c)) (BX (at2 m b c)))=w3 m a b c:=rfl;rw[hta]at hok;simp;refine wdf [(29,[36,37,38,63,64]),(30,[64,65]),(31,[35,65,66,3]),(32,[66,3])] [(0,.val (cK m)),(3,.own (akP q)),(4,vI a),(5,vI b),(6,vI c)] [] (by simp) ?_;simp[hr,hrb];refine cd (oQ (at2 m a b)) ?_;simp[hr,hrc];refine cd (oQ (at2 m a c)) ?_;simp[hs',hsc'];refine cd (oQ (at2 m b c)) ?_;simp[hw];refine nxb (c+1,q++[⟨a,b,c,w3 m a b c⟩]) ⟨by omega,by rw[hsc,hta],hok⟩
    ·have hta:TI m a b c q=q:=if_neg (by simp[k]);rw[hta]at hok;simp;refine nxa (c+1,q) ⟨by omega,by rw[hsc,hta],hok⟩
   ·simp at g;obtain rfl:c=m.length:=by omega
    have hok:=awU hm (a:=a) (b:=b) h6;simp;refine nxa (b+1,q) ⟨by omega,by rw[hsb,h8];rfl,by rw[h8];rw[show 64*a+8*(b+1-(a+1))=64*a+8*(b-(a+1))+8 by omega];exact hok⟩
  ·simp at f;obtain rfl:b=m.length:=by omega
   simp;refine nxa (a+1,p) ⟨by omega,by rw[hsz,h5];rfl,by rw[h5];exact awT hm h3⟩
 ·simp at az;have hiz:m.length=a:=by omega
  subst hiz;simp;simp[HV,←h2z]
def az0 (l:List Tri)(t:Tri)(x y:Int):BU (l++[t]) x y=if KH x y t=true then BU l x y+t.w else BU l x y:=by simp[BU,kG]
def az1 {i:Nat}{t:Tri}(h:l[i]?=some t)(x y:Int):BU (l.take (i+1)) x y=if KH x y t=true then BU (l.take i) x y+t.w else BU (l.take i) x y:=by rw[dE h,az0]
def AX (l:List Tri)(x y:Int)(hl:Qle l:=by first|omega|grind)(hw:∀t∈l, -1048576<=t.w/\t.w<=1048576:=by first|omega|grind):Fk 358 [J3 l,dI x,dI y] (vI (BU l x y)):=by
 refine fE [] ntmps358 fun _ _=> ?_;simp;refine wlt (Nat×Int) (fun(i,s)=>([(0,.val (J3 l)),(1,vI x),(2,vI y),(7,vI s),(8,vI i)],l.length-i,(i<=l.length)/\(s=BU (l.take i) x y)/\(-(1048576*i)<=s/\s<=1048576*i))) ((0,0)) ⟨by omega,rfl,by simp⟩ ?_;rintro⟨i,s⟩ ⟨h1,h2,h3⟩;simp;apply gw<;>intro a
 ·obtain⟨t,ht⟩:=aO a;have hwt:=hw t (LY ht);have hu:=az1 ht x y;simp[ht];apply gv<;>intro e
  ·have e':=e;simp[e];apply gv<;>intro f
   ·have f':=f;have hb:KH x y t:=by simp[KH,e,f]
    simp[f];refine nxb (i+1,s+t.w) ⟨by omega,by rw[hu,hb,if_pos rfl,h2],by omega⟩
   ·have f':=f;simp[f];apply gv<;>intro g
    ·have g':=g;have hb:KH x y t:=by simp[KH,e,g]
     simp[g];refine nxb (i+1,s+t.w) ⟨by omega,by rw[hu,hb,if_pos rfl,h2],by omega⟩
    ·have g':=g;simp[g];apply gv<;>intro k
     ·have k':=k;have hb:KH x y t=false:=by simp[KH,f,g]
      simp[g,k];refine nxa (i+1,s) ⟨by omega,by rw[hu,hb,if_neg (by simp),h2],by omega⟩
     ·have k':=k;have hb:KH x y t=false:=by simp[KH,f,g]
      simp[k];refine nxa (i+1,s) ⟨by omega,by rw[hu,hb,if_neg (by simp),h2],by omega⟩
  ·have e':=e;simp[e];apply gv<;>intro k
   ·have k':=k;simp[k];apply gw<;>intro n
    ·have hb:KH x y t:=by simp[KH,k,n]
     simp;refine nxb (i+1,s+t.w) ⟨by omega,by rw[hu,hb,if_pos rfl,h2],by omega⟩
    ·have hb:KH x y t=false:=by simp[KH,e,n]
     simp;refine nxa (i+1,s) ⟨by omega,by rw[hu,hb,if_neg (by simp),h2],by omega⟩
   ·have k':=k;have hb:KH x y t=false:=by simp[KH,e,k]
    simp[k];refine nxa (i+1,s) ⟨by omega,by rw[hu,hb,if_neg (by simp),h2],by omega⟩
 ·simp at a;obtain rfl:i=l.length:=by omega
  rw[bS]at h2;simp;omega
end Go.Proofs.YtebopbncplpdgaaGreatDoor
end
section
namespace Go.Proofs.YtebopbncplpdgaaGreatDoor
open Go.Dv Go.Pl
@[go_sem,simp] abbrev wE (x:List Tri):S:= .own (akP x)
end Go.Proofs.YtebopbncplpdgaaGreatDoor
end
section
namespace Go.Proofs.YtebopbncplpdgaaGreatDoor
open Go.Dv Go.Pl Go.Proofs.Tryz
def jN (l:L1)(x:Int)(hl:Qle l:=by first|omega|grind):Fk 197 [nInts l,dI x] (vI (ix (fun y=>decide (x=y)) l)):=by
 refine fE [] ntmps197 fun _ _=> ?_;simp;refine wlt Nat (fun i=>([(0,vN l),(1,vI x),(6,vN l),(7,vI l.length),(8,vI i)],l.length-i,(i<=l.length)/\((l.take i).any (fun y=>decide (x=y))=false))) (0) ⟨by omega,rfl⟩ ?_;rintro i ⟨h1,h2⟩;simp;apply gw<;>intro a
 ·obtain⟨c,hc⟩:=aO (l:=l) (i:=i);simp[hc];apply gw<;>intro b
  ·have hn:=DZ hc h2 (by simp[b]);simp[hn]
  ·simp;refine nxa (i+1) ⟨by omega,(kN hc h2 (by simp[b]))⟩
 ·simp at a;have hf:=pK h2 a;have hx:=sF hf;simp[hx]
def tQ (x:Int)(hx: -9000000000000000000<=x/\x<=9000000000000000000:=by omega):Fk 379 [dI x] (vI (BX x)):=by
 refine fE [] ntmps379 fun _ _=> ?_;have ha:max x (-x)=BX x:=by unfold BX;split<;>omega
 simp[ha];simp only[inI];omega
def oK (l:L1)(hl:1<=l.length/\Qle l):Fk 439 [nInts l] (vS l):=by
 refine fE [] ntmps439 fun _ _=> ?_;have hne:¬l=[]:=by rintro rfl;simp at hl
 have hle:l.length<=1073741824:=by omega
 simp[hne,hle]
def tO (l:L1)(hs:Qle l):Fk 288 [nInts l] (vS (canon l)):=by
 refine fE [] ntmps288 fun _ _=> ?_;simp;refine wlt (Nat×(L1×L1)) (fun(i,s)=>([(3,vS s.2),(4,vS s.1),(8,vN l),(9,vI l.length),(10,vI i)],l.length-i,(i<=l.length)/\(s=(l.take i).foldl jM ([],[]))/\(s.1.length<=i/\s.2.length<=i)/\(s.2.Nodup))) ((0,([],[]))) ⟨by omega,rfl,by simp,by simp⟩ ?_;rintro⟨i,s⟩ ⟨h1,h2,h3,h4⟩;simp;apply gw<;>intro a
 ·obtain⟨c,hc⟩:=aO (l:=l) (i:=i);have hm:=dK jM ([],[]) hc;rw[←h2]at hm;simp[hc];refine ck (jN s.2 c (by omega)) ?_;have hli:=akE c h4 s.2.length (k_Nat_le_refl _);rw[bS]at hli;simp;apply gw<;>intro b
  ·have hx:jM s c=(s.1++[(s.2.length:Int)],s.2++[c]):=if_pos (by rw[hli];exact b);have hni:c∉s.2:=fun hmem=>by have h9:s.2.any (fun y=>decide (c=y))=true:=cZ.2 ⟨c,hmem,by simp⟩;have:=jC.2 h9;omega
   simp;refine nxd (i+1,(s.1++[(s.2.length:Int)],s.2++[c])) ⟨by omega,by rw[hm,hx],by simp;omega,by simp[mU,h4];intro a ha e;exact hni (e▸ha)⟩
  ·simp at b;have hx:jM s c=(s.1++[ix (fun y=>decide (c=y)) s.2],s.2):=by rw[jM,if_neg (by (try unfold Qle);rw[hli];omega),hli]
   simp;refine nxb (i+1,(s.1++[ix (fun y=>decide (c=y)) s.2],s.2)) ⟨by omega,by rw[hm,hx],by simp;omega,h4⟩
 ·simp at a;rw[bJ a]at h2;simp;grind[canon]
end Go.Proofs.YtebopbncplpdgaaGreatDoor
end
section
namespace Go
def mF:= @List.replicate_succ'
end Go
end
section
namespace Go.Proofs.YtebopbncplpdgaaGreatDoor
open Go.Dv Go.Pl Go.Proofs.Tryz
def sqz (n i:Nat):L2:=List.replicate i (List.replicate n 0)++List.replicate (n-i) []
variable {n i:Nat}
def aKW (h:i<n):(sqz n i)[i]?=some []:=by
 obtain⟨k,rfl⟩:∃k,n=i+(k+1):=⟨n-i-1,by omega⟩;rw[sqz,aN (by simp),show i+(k+1)-i=k+1 by omega];simp
def aIC (h:i<n):(sqz n i).set i (List.replicate n 0)=sqz n (i+1):=by
 obtain⟨k,rfl⟩:∃k,n=i+(k+1):=⟨n-i-1,by omega⟩;rw[sqz,sqz,show i+(k+1)-i=k+1 by omega,show i+(k+1)-(i+1)=k by omega,gV _ _ (by simp),mF (n:=i),fU (n:=k)];simp
def tT (n:Nat)(hn:n<=1048576:=by omega):Fk 292 [dI n] (.own (nL (List.replicate n (List.replicate n 0)))):=by
 refine fE [] ntmps292 fun _ _=> ?_;have hz:(sqz n 0).map bV=List.replicate n (D.sl (some 3) []):=by simp[sqz]
 simp;refine ai ?_;refine wl (fun(i:Nat)=>[(0,vI n),(3,.own (nL (sqz n i))),(8,vI n),(9,vI i)]) (fun(i:Nat)=>n-i) (fun(i:Nat)=>(i<=n)) (0) (by omega) ?_ (h0:=by simp[hz]);rintro i h1;simp;apply gw<;>intro a
 ·have hat:=aKW a;have hset:=aIC a;have hset2:((sqz n i).map bV).set i (D.sl (some 3) (List.replicate n (dI 0)))=(sqz n (i+1)).map bV:=by rw[←hset,jB];simp[bV]
  simp[hat,hset2];refine nxb (i+1) (by omega)
 ·simp at a;obtain rfl:i=n:=by omega
  have hfin:sqz i i=List.replicate i (List.replicate i 0):=by simp[sqz]
  simp[hfin]
def iB (m:L2)(hm:Qle m)(hr:∀r∈m,Qle r):Fk 365 [cK m] (vB (bR m)):=by
 refine fE [] ntmps365 fun _ _=> ?_;rw[abR];simp;refine ck (bK m.length 1 8) ?_;simp;apply gw<;>intro b
 ·simp at b;simp;omega
 ·simp at b;simp;refine wlt Nat (fun i=>([(0,.val (cK m)),(11,.val (cK m)),(12,vI m.length),(13,vI i)],m.length-i,(i<=m.length)/\((List.range i).all (G7 m)=true))) (0) ⟨by omega,rfl⟩ ?_;rintro i ⟨h1,h2⟩;simp;apply gw<;>intro a
  ·obtain⟨r,hri⟩:=aO (l:=m) (i:=i);have hrl:=hr r (aA hri);have hgr:=CU hri;simp[hri];apply gv<;>intro e
   ·have e':=e;have hn:=nM a (P:=(G7 m)) (by unfold G7;rw[hgr];simp;omega);simp[e,hn]
   ·have e':=e;obtain⟨d,hd⟩:=aO (l:=r) (i:=i);have hdd:=QR hri hd;simp[e,hd];apply gw<;>intro d0
    ·have hn:=nM a (P:=(G7 m)) (by unfold G7;rw[hdd];simp[d0]);simp[hn]
    ·have hmin:min i r.length=i:=by omega
     simp[hmin,d0];refine ai ?_;refine wlt Nat (fun k=>([(0,.val (cK m)),(3,vI i),(11,.val (cK m)),(12,vI m.length),(13,vI i),(32,.val (.sl none ((r.map dI).take i))),(33,vI i),(34,vI k)],i-k,(k<=i)/\((List.range k).all (Z8 m i)=true))) (0) ⟨by omega,rfl⟩ ?_;rintro k ⟨h1k,h2k⟩;simp;apply gw<;>intro ak
     ·obtain⟨w,hw⟩:=aO (l:=r) (i:=k);have hww:=QR hri hw;have hw2:(List.take i (List.map dI r))[k]?=some (dI w):=by rw[bD,if_pos (by omega),aS,hw];rfl
      simp[hw2];refine ck (bK w (-1000) 1000) ?_;simp;apply gv<;>intro f
      ·have f':=f;simp at f';have hn:=nM a (P:=G7 m) (aqF ak (by unfold Z8;rw[hww];simp;omega));simp[f,hn]
      ·have f':=f;simp at f';obtain⟨q,hq⟩:=aO (l:=m) (i:=k);have hql:q.length=m.length:=by have:=aH.1 h2 k (bB.2 (by omega));simp only[G7,k_Bool_and_eq_true,decide_eq_true_eq]at this;rw[←CU hq];exact this.1.1
       obtain⟨z,hz⟩:=aO (l:=q) (i:=i);have hzz:=QR hq hz;simp[f,hq,hz];apply gw<;>intro g
       ·have hn:=nM a (P:=G7 m) (aqF ak (by unfold Z8;rw[hww,hzz];simp[g]));simp[hn]
       ·simp;refine nxa (k+1) ⟨by omega,(oZ h2k (by unfold Z8;rw[hww,hzz];simp[g];omega))⟩
     ·simp at ak;have hf:=NM (n:=i) h2k;simp;refine nxa (i+1) ⟨by omega,(oZ h2 (ayH (by (try unfold Qle);rw[hgr];omega) (by rw[hdd];exact d0) hf))⟩
  ·simp at a;have hf:=NM (n:=m.length) h2;simp[hf];refine ai ?_;omega
def alJ {α:Type}(p:α->Bool)(l:List α):(l.any fun c=> !p c)= !(l.all p):=by rw[List.not_all_eq_any_not]
def agG (l:List Con)(p:Con->Bool)(g:FuncId)(b:Nat)(d:D)(F:d.fz=d)(E:Dv.Enters prog g)(U:T (1000000+g)=⟨.no,0,.any 0⟩)(G:∀c∈l,fA prog g [aoG c,.bx false d] (fun r=>r=vB (p c)))(hl:Qle l):yX prog 480 [jO l,.one (.func (.func g) #[] #[.pointer (some ⟨b,0,none⟩)])] [(b,d)] (fun res'=>res'=vI (ix p l)):=by
 refine fB [] ntmps480 fun _ _=> ?_;simp;refine wlt Nat (fun i=>([(0,vE l),(1,.val (.one (.func (.func g) #[] #[.pointer (some ⟨b,0,none⟩)]))),(7,vI l.length),(8,vI i),(1000000+2*b,.rp (d))],l.length-i,(i<=l.length)/\((l.take i).any p=false))) (0) ⟨by omega,rfl⟩ ?_;rintro i ⟨h1,h2⟩;simp;apply gw<;>intro a
 ·obtain⟨c,hc⟩:=aO (l:=l) (i:=i);simp[E,U,F,hc];refine ck ((G c (aA hc))) ?_;simp;apply gw<;>intro e
  ·have hn:=DZ hc h2 (by simp[e]);simp[hn]
  ·simp;refine nxa (i+1) ⟨by omega,(kN hc h2 (by simp[e]))⟩
 ·simp at a;have hf:=pK h2 a;have hx:=sF hf;simp[hx]
def aj3 (l:List Con)(p:Con->Bool)(g:FuncId)(b:Nat)(d:D)(F:d.fz=d)(E:Dv.Enters prog g)(U:T (1000000+g)=⟨.no,0,.any 0⟩)(G:∀c∈l,fA prog g [aoG c,.bx false d] (fun r=>r=vB (p c)))(hl:Qle l):yX prog 431 [jO l,.one (.func (.func g) #[] #[.pointer (some ⟨b,0,none⟩)])] [(b,d)] (fun res'=>res'=vB (l.any p)):=by
 refine fB [] ntmps431 fun _ _=> ?_;have hq:decide (0<=ix p l)=l.any p:=by rw[bM,decide_eq_true_eq];exact jC
 simp[F];refine ckB (agG l p g b d F E U G hl) ?_;simp[hq]
def LM (c:Con)(n:Int)(hn: -1048576<=n/\n<=1048576):Fk 432 [aoG c,.bx false (dI n)] (vB (!PW n c)):=by
 refine fE [] ntmps432 fun _ _=> ?_;simp;refine ck (nY c.a n) ?_;simp;apply gv<;>intro e
 ·have e':=e;simp at e';simp[e];grind[PW]
 ·have e':=e;simp at e';simp[e];refine ck (nY c.b n) ?_;simp;apply gv<;>intro f
  ·have f':=f;simp at f';simp[f];grind[PW]
  ·have f':=f;simp at f';simp[f];grind[PW]
def uX (n:Int)(l:List Con)(hn: -1048576<=n/\n<=1048576:=by first|omega|grind)(hl:Qle l:=by first|omega|grind):Fk 367 [dI n,jO l] (vB (cO n l)):=by
 refine fE [] ntmps367 fun _ _=> ?_;simp;refine ck (bK n 1 8) ?_;simp;apply gv<;>intro e
 ·have e':=e;simp at e';simp[e];grind[cO]
 ·have e':=e;simp at e';simp[e];apply gw<;>intro f
  ·simp;grind[cO]
  ·simp at f;simp;intro b;refine ckB (aj3 l (fun c=> !PW n c) 432 b (dI n) rfl aLS aL6 (fun c _=>LM c n hn) hl) ?_;simp;grind[cO]
end Go.Proofs.YtebopbncplpdgaaGreatDoor
end
section
namespace Go
def uC:= @List.length_replicate
end Go
end
section
namespace Go.Proofs.YtebopbncplpdgaaGreatDoor
open Go.Dv Go.Pl Go.Proofs.Tryz
def NH (m:L2)(i k:Nat)(v:Int):(m.map bV).set i (D.sl (some 3) (((gat m i).map dI).set k (dI v)))=(set2 m i k v).map bV:=by rw[set2,jB];simp[bV,jB]
variable {m:L2}{i k:Nat}
def aB5 {j:Nat}(v:Int)(h:¬i=j):gat (set2 m i k v) j=gat m j:=by simp[gat,set2,aC,h]
def awV {v w:Int}(h:¬i=k):((m.map bV).set i (D.sl (some 3) (((gat m i).map dI).set k (dI v)))).set k (D.sl (some 3) (((gat m k).map dI).set i (dI w)))=(set2 (set2 m i k v) k i w).map bV:=by
 rw[NH,←aB5 v h,NH]
def WN (n:Nat)(l:List Con)(hn:1<=n/\n<=8:=by first|omega|grind)(hl:Qle l:=by first|omega|grind)(hc:∀c∈l,0<=c.a/\c.a<c.b/\c.b<(n:Int):=by first|omega|grind):Fk 436 [dI n,jO l] (.own (nL (SG n l))):=by
 refine fE [] ntmps436 fun _ _=> ?_;have hz:List.replicate n (bV (List.replicate n 0))=(zeros n).map bV:=by simp[zeros]
 simp;refine ck (tT n) ?_;simp[hz];refine wlt (Nat×L2) (fun(i,m)=>([(5,.own (nL m)),(10,vE l),(11,vI l.length),(12,vI i)],l.length-i,(i<=l.length)/\(m=(l.take i).foldl rU (zeros n))/\(sq2 n m))) ((0,zeros n)) ⟨by omega,by simp,(qL n)⟩ ?_ (h0:=by simp[hz]);rintro⟨i,m⟩ ⟨h1,h2,h3⟩;simp;apply gw<;>intro a
 ·obtain⟨c,hcc⟩:=aO (l:=l) (i:=i);have hb:=hc c (aA hcc);have hm:=dK rU (zeros n) hcc;rw[←h2]at hm;have ha0:0<=c.a:=hb.1;have hb0:0<=c.b:=by omega
  obtain⟨hA,hA2⟩:=tJ h3 (i:=c.a.toNat);obtain⟨hB,hB2⟩:=tJ h3 (i:=c.b.toNat);have hgA:=O6 h3 (i:=c.a.toNat) (k:=c.b.toNat);have hgB:=O6 h3 (i:=c.b.toNat) (k:=c.a.toNat);have hml:c.a.toNat<m.length:=by rw[h3.1];omega
  have hml2:c.b.toNat<m.length:=by rw[h3.1];omega
  have hne:¬c.a.toNat=c.b.toNat:=by omega
  simp[hcc];apply gw<;>intro e
  ·have hset:=awV (m:=m) (v:=1) (w:=1) hne;have hmm:rU m c=set2 (set2 m c.a.toNat c.b.toNat 1) c.b.toNat c.a.toNat 1:=if_pos e;rw[←hmm]at hset;simp;refine wdf [(15,[32,5,18,21,22,25,28,29]),(17,[33,5,18,21,22,25,28,29,32])] [(5,.own (nL m)),(7,.own (.bx true (aoG c))),(10,vE l),(11,vI l.length),(12,vI i)] [] (by simp) ?_;simp[ha0,hb0,hA,hB,hgA,hgB,hne,hset];refine nxa (i+1,rU m c) ⟨by omega,hm.symm,(aaC h3 hb)⟩
  ·have hmm:rU m c=m:=if_neg (by simp[e]);simp;refine nxa (i+1,m) ⟨by omega,by rw[hm,hmm],h3⟩
 ·simp at a;rw[bJ a]at h2;have hfin:SG n l=m:=h2.symm;simp[hfin]
abbrev abZ (b:Nat):Value:= .pointer (some ⟨b,0,none⟩)
abbrev au3 (bc bo bm bv:Nat):D:= .one (.func (.func 435) #[] #[abZ bc,abZ bo,abZ bm,abZ bv])
structure ar6 (a b c d:Nat):Prop where
 ab:¬a=b
 ac:¬a=c
 ad:¬a=d
 bc:¬b=c
 bd:¬b=d
 cd:¬c=d
 ba:¬b=a
 ca:¬c=a
 da:¬d=a
 cb:¬c=b
 db:¬d=b
 dc:¬d=c
def aw2 (n:Nat)(m:L2)(c:Int)(bc bo bm bv f:Nat):Prop:=∀(i:Nat) (o:L1),o.length=n->i<n->at1 o i<0->negs n o<=f->
 FnW prog 435 [dI i] [(bc,some (dI c)),(bo,none),(bm,some (cK m)),(bv,some (au3 bc bo bm bv))] [(bc,dI c),(bm,cK m),(bv,au3 bc bo bm bv)] [(bo,bV o)] (fun r ds'=>r= .tup []/\ds'=[bV (dfs n m c f i o)])
def dfs_keeps {n:Nat}{m:L2}{c:Int}(hc:0<=c):∀(f i:Nat) (o:L1),o.length=n->(dfs n m c f i o).length=n/\∀k,0<=at1 o k->0<=at1 (dfs n m c f i o) k
 |0,i,o,h=>⟨h,fun k hk=>hk⟩
 |f+1,i,o,h=>by
  rw[dfs];refine loopN_inv (fun _ (p:L1)=>p.length=n/\∀k,0<=at1 o k->0<=at1 p k) ⟨by simp[h],fun k hk=> ?_⟩ fun k p _ ⟨h1,h2⟩=> ?_
  ·by_cases hi:i<o.length
   ·rw[AR k hi];split<;>omega
   ·rw[rD (by omega)];exact hk
  ·split
   ·have:=dfs_keeps (m:=m) hc f k p h1;exact⟨this.1,fun k hk=>this.2 k (h2 k hk)⟩
   ·exact⟨h1,h2⟩
def vstep (n:Nat)(m:L2)(c:Int)(f i k:Nat)(o:L1):L1:=if 0<at2 m i k/\at1 o k<0 then dfs n m c f k o else o
variable {c:Int}
def ar4 {n:Nat}(hc:0<=c){f:Nat}{p:L1}(h:p.length=n):(vstep n m c f i k p).length=n/\negs n (vstep n m c f i k p)<=negs n p:=by
 unfold vstep;split
 ·have:=dfs_keeps (m:=m) hc f k p h;exact⟨this.1,akN fun k _ hk=>this.2 k hk⟩
 ·exact⟨h,k_Nat_le_refl _⟩
def axO (n:Nat)(m:L2)(c:Int)(f i:Nat)(o:L1):dfs n m c (f+1) i o=loopN n (o.set i c) (vstep n m c f i):=rfl
def aBV (n:Nat)(m:L2)(c:Int)(bc bo bm bv f:Nat)(hA:ar6 bc bo bm bv)(hm:bR m)(hn:m.length=n)(hc:0<=c/\c<=1048576)(IH:aw2 n m c bc bo bm bv f)(i:Nat)(o:L1)(hl:o.length=n)(hi:i<n)(h0:at1 o i<0)(hf:negs n o<=f+1):FnW prog 435 [dI i] [(bc,some (dI c)),(bo,none),(bm,some (cK m)),(bv,some (au3 bc bo bm bv))] [(bc,dI c),(bm,cK m),(bv,au3 bc bo bm bv)] [(bo,bV o)] (fun r ds'=>r= .tup []/\ds'=[bV (dfs n m c (f+1) i o)]):=by
 refine fW [] ntmps435 fun _ _=> ?_;obtain⟨a1,a2,a3,a4,a5,a6,a7,a8,a9,a10,a11,a12⟩:=hA;have hn8:=dM hm;obtain⟨r,hr⟩:=aO (l:=m) (i:=i);have hoi:=aY (l:=o) (i:=i);have hr2:=(ER hm (show i<m.length by omega));have hrl:r.length=n:=by obtain⟨r',e1,e2⟩:=hr2;rw[hr]at e1;obtain rfl:=k_Option_some_inj e1;omega
 have hng:=aaD hl hi h0 hc.1;simp[hr,hoi];refine wlt (Nat×L1) (fun(k,p)=>([(0,vI i),(1,.rp (dI c)),(2,.rf (1000000+2*bo) [0]),(3,.rp (cK m)),(4,.rp (au3 bc bo bm bv)),(15,vN r),(16,vI r.length),(17,vI k),(1000000+2*bc,.rp (dI c)),(1000000+2*bo,.own (.bx true (bV p))),(1000000+2*bm,.rp (cK m)),(1000000+2*bv,.rp (au3 bc bo bm bv))],n-k,(k<=n)/\(p=loopN k (o.set i c) (vstep n m c f i))/\p.length=n/\(negs n p<=f))) ((0,o.set i c)) ⟨by omega,rfl,by simp[hl],by omega⟩ ?_ (h0:=by simp[a1,a2,a3,a4,a5,a6,a7,a8,a9,a10,a11,a12,hr,hoi]);rintro⟨k,p⟩ ⟨h1,h2,h3,h4⟩;simp;apply gw<;>intro b
 ·obtain⟨w,hw⟩:=aO (l:=r) (i:=k);have hww:=QR hr hw;have hpk:=aY (l:=p) (i:=k);have hs:=aM k (o.set i c) (vstep n m c f i);rw[←h2]at hs;have hv:=ar4 (n:=n) (m:=m) (c:=c) hc.1 (f:=f) (i:=i) (k:=k) h3;simp[hw];apply gv<;>intro d
  ·have d':=d;simp[a7,hpk,d];apply gw<;>intro e
   ·have hst:vstep n m c f i k p=dfs n m c f k p:=if_pos ⟨by rw[hww];exact d,e⟩;simp;refine afM (IH k p h3 (by omega) e h4) rfl ?_;simp[a7,a8,a9,a10,a11,a12];refine nxa (k+1,dfs n m c f k p) ⟨by omega,by rw[hs,hst],by rw[←hst];exact hv.1,by rw[←hst];omega⟩ (h3:=by simp[a1,a2,a3,a4,a5,a6,a7,a8,a9,a10,a11,a12,hr,hoi,hw,hpk,d])
   ·simp at e;have hst:vstep n m c f i k p=p:=if_neg (by omega);simp;refine nxa (k+1,p) ⟨by omega,by rw[hs,hst],h3,h4⟩ (h3:=by simp[a1,a2,a3,a4,a5,a6,a7,a8,a9,a10,a11,a12,hr,hoi,hw,hpk,d])
  ·have d':=d;simp at d';have hst:vstep n m c f i k p=p:=if_neg (by omega);simp[d];refine nxa (k+1,p) ⟨by omega,by rw[hs,hst],h3,h4⟩ (h3:=by simp[a1,a2,a3,a4,a5,a6,a7,a8,a9,a10,a11,a12,hr,hoi,hw,hpk,d])
 ·simp at b;obtain rfl:k=n:=by omega
  rw[←axO]at h2;simp[a7,h2]
def aBU {n:Nat}{bc bo bm bv:Nat}(hA:ar6 bc bo bm bv)(hm:bR m)(hn:m.length=n)(hc:0<=c/\c<=1048576):∀f,aw2 n m c bc bo bm bv f
 |0=>fun i o hl hi h0 hf=>by have:=aaD hl hi h0 hc.1;omega
 |f+1=>fun i o hl hi h0 hf=>aBV n m c bc bo bm bv f hA hm hn hc (aBU hA hm hn hc f) i o hl hi h0 hf
def xX (h:bR m):∀r∈m,Qle r:=fun r hr=>by
 have h8:=dM h;simp only[bR,k_Bool_and_eq_true,aH,decide_eq_true_eq]at h;have:=h.1.1 r hr;omega
def pW (n i:Nat):L1:=List.replicate i (-1)++List.replicate (n-i) 0
def aKB {n:Nat}(h:i<n):(pW n i)[i]?=some 0:=by
 rw[pW,aN (by simp),uC,cB,fG,if_pos (by omega)]
def aHO {n:Nat}(h:i<n):(pW n i).set i (-1)=pW n (i+1):=by
 obtain⟨k,hk⟩:∃k,n-i=k+1:=⟨n-i-1,by omega⟩;rw[pW,pW,hk,show n-(i+1)=k by omega,gV _ _ (by simp),mF (n:=i),fU (n:=k)];simp
def qR (m:L2)(hm:bR m:=by first|omega|grind):Fk 369 [cK m] (vS (pX m)):=by
 refine fE [] ntmps369 fun _ _=> ?_;have hn8:=dM hm;have hz:pW m.length 0=List.replicate m.length 0:=by simp[pW]
 have hz2:List.replicate m.length (dI 0)=(pW m.length 0).map dI:=by rw[hz];simp
 have hnl:∀i≤m.length,(pW m.length i).length=m.length:=fun i hi=>by simp[pW];omega
 have hnl0:=hnl 0 (by omega);simp;refine ck (iB m (by omega) (xX hm)) ?_;simp[hm,hz2,hnl0];refine ai ?_;refine wl (fun(i:Nat)=>[(1,.own (.bx true (cK m))),(3,.own (.bx true (bV (pW m.length i)))),(15,vI m.length),(16,vI i)]) (fun(i:Nat)=>m.length-i) (fun(i:Nat)=>(i<=m.length)) (0) (by omega) ?_;rintro i h1;simp;apply gw<;>intro a
 ·have hat:=aKB a;have hset:((pW m.length i).map dI).set i (dI (-1))=(pW m.length (i+1)).map dI:=by rw[←aHO a,jB]
  simp[hat,hset];refine nxa (i+1) (by omega)
 ·simp at a;simp;refine ahI (kY (dI 0) (by simp) fun bc nc=> ?_);refine kY (bV (pW m.length i)) (by simp) fun bo no=> ?_;have d1:=oP.ne no (b':=bc) (o:=true) (d:=dI 0) (by simp);have e1:=d1.symm;refine kY (cK m) (by simp) fun bm nm=> ?_;have d2:=oP.ne nm (b':=bc) (o:=true) (d:=dI 0) (by simp[e1]);have d3:=oP.ne nm (b':=bo) (o:=true) (d:=bV (pW m.length i)) (by simp);have e2:=d2.symm;have e3:=d3.symm;refine kY (.one .nilFunc) (by simp) fun bv nv=> ?_;have d4:=oP.ne nv (b':=bc) (o:=true) (d:=dI 0) (by simp[e1,e2]);have d5:=oP.ne nv (b':=bo) (o:=true) (d:=bV (pW m.length i)) (by simp[e3]);have d6:=oP.ne nv (b':=bm) (o:=true) (d:=cK m) (by simp);have e4:=d4.symm;have e5:=d5.symm;have e6:=d6.symm;refine MK ?_;simp[e6];clear nc no nm nv;obtain rfl:i=m.length:=by omega
  have hA:ar6 bc bo bm bv:=⟨e1,e2,e4,e3,e5,e6,d1,d2,d4,d3,d5,d6⟩;have hng:pW m.length m.length=List.replicate m.length (-1):=by simp[pW]
  simp[hng];refine wlt (Nat×L1×Int) (fun(i,o,c)=>([(1,.rf (1000000+2*bm) [0]),(3,.rf (1000000+2*bo) [0]),(5,.rf (1000000+2*bc) [0]),(6,.rf (1000000+2*bv) [0]),(25,vI m.length),(26,vI i),(1000000+2*bc,.own (.bx true (dI c))),(1000000+2*bo,.own (.bx true (bV o))),(1000000+2*bm,.own (.bx true (cK m))),(1000000+2*bv,.own (.bx true (au3 bc bo bm bv)))],m.length-i,(i<=m.length)/\((o,c)=loopN i (List.replicate m.length (-1),0) (OA m.length m))/\o.length=m.length/\(0<=c/\c<=i))) ((0,List.replicate m.length (-1),0)) ⟨by omega,rfl,by simp,by omega⟩ ?_ (h0:=by simp[hm,hz2,hnl0,d1,e1,d2,e2,d3,e3,d4,e4,d5,e5,d6,e6,hng]);rintro⟨i,o,c⟩ ⟨h2,h3,h4,h5⟩;simp;apply gw<;>intro b
  ·have hoi:=aY (l:=o) (i:=i);have hs:=aM i (List.replicate m.length (-1),(0:Int)) (OA m.length m);rw[←h3]at hs;simp[d1,hoi];apply gw<;>intro f
   ·have hst:OA m.length m i (o,c)=(dfs m.length m c m.length i o,c+1):=if_pos f;simp[d4,d5,d6];refine afM (aBU (c:=c) hA hm rfl (by omega) m.length i o h4 b f (av9 _ _)) rfl ?_;simp[d1,e1,d2,d3,d4,d5,d6];refine nxb (i+1,dfs m.length m c m.length i o,c+1) ⟨by show i+1<=m.length;omega,by rw[hs,hst],((dfs_keeps (c:=c) (by omega) _ _ _ h4).1),(by show 0<=c+1/\c+1<=((i+1:Nat):Int);omega)⟩ (h3:=by simp[hm,hz2,hnl0,d1,e1,d2,e2,d3,e3,d4,e4,d5,e5,d6,e6,hng,hoi])
   ·simp at f;have hst:OA m.length m i (o,c)=(o,c):=if_neg (show¬at1 o i<0 by omega);simp;refine nxa (i+1,o,c) ⟨by omega,by rw[hs,hst],h4,by omega⟩ (h3:=by simp[hm,hz2,hnl0,d1,e1,d2,e2,d3,e3,d4,e4,d5,e5,d6,e6,hng,hoi])
  ·simp at b;obtain rfl:i=m.length:=by omega
   have hfin:pX m=o:=by rw[←aFT hm];exact congrArg Prod.fst h3.symm
   simp[d1,hfin];omega
def zH (n:Nat)(l:List Con)(hn:n<=1048576:=by first|omega|grind)(hl:Qle l:=by first|omega|grind)(hc:cO n l:=by first|omega|grind):Fk 370 [dI n,jO l] (vS (eH n l)):=by
 refine fE [] ntmps370 fun _ _=> ?_;simp;refine ck (uX n l) ?_;have hc2:=mQ hc;have hm:=acX hc;have hx:=at6 hc;simp[hc];refine ck (WN n l) ?_;simp;refine ck (qR _) ?_;simp;grind
def P7 (a b:L1)(ha:Qle a)(hb:Qle b):Fk 434 [nInts a,nInts b] (vB (mV a b)):=by
 refine fE [] ntmps434 fun _ _=> ?_;simp;refine ck (zG a ha) ?_;simp;apply gv<;>intro e
 ·have e':=e;simp[e];refine ck (zG b hb) ?_;simp;apply gv<;>intro f
  ·have f':=f;simp[f];grind[mV]
  ·have f':=f;simp[f];grind[mV]
 ·have e':=e;simp[e];grind[mV]
def aq3 {f:Nat->Nat->Bool}(h:f i k):set2 m i k 1=AZ f i k m:=by unfold AZ;rw[if_pos h]
def OH (p q:L1)(hp:Qle p)(hq:Qle q)(h:mV p q):Fk 368 [nInts p,nInts q] (vS (FZ p q)):=by
 refine fE [] ntmps368 fun _ _=> ?_;obtain⟨hpp,hqq,hlen⟩:=aaI h;have hpl:=isPart_len hpp;have hz:List.replicate p.length (bV (List.replicate p.length 0))=(zeros p.length).map bV:=by simp[zeros]
 have hmat:=acP (q:=q) hpl;have hlab:=atK (q:=q) hpl;simp;refine ck (P7 p q hp hq) ?_;simp[h];refine ck (tT p.length) ?_;simp[hz];refine wlt (Nat×L2) (fun(i,m)=>([(0,vN p),(1,vN q),(5,.own (nL m)),(16,vI p.length),(17,vI i)],p.length-i,(i<=p.length)/\(m=loopN i (zeros p.length) (abX p.length (D5 p q)))/\(sq2 p.length m))) ((0,zeros p.length)) ⟨by omega,rfl,(qL _)⟩ ?_ (h0:=by simp[h,hz]);rintro⟨i,m⟩ ⟨h1,h2,h3⟩;simp;apply gw<;>intro a
 ·have hs:=aM i (zeros p.length) (abX p.length (D5 p q));rw[←h2]at hs;have gp:=aY (l:=p) (i:=i);have gq:=aY (l:=q) (i:=i);simp;refine wlt (Nat×L2) (fun(k,w)=>([(0,vN p),(1,vN q),(5,.own (nL w)),(6,vI i),(16,vI p.length),(17,vI i),(21,vI p.length),(22,vI k)],p.length-k,(k<=p.length)/\(w=loopN k m (AZ (D5 p q) i))/\(sq2 p.length w))) ((0,m)) ⟨by omega,rfl,h3⟩ ?_;rintro⟨k,w⟩ ⟨h4,h5,h6⟩;simp;apply gw<;>intro b
  ·have hs2:=aM k m (AZ (D5 p q) i);rw[←h5]at hs2;have kp:=aY (l:=p) (i:=k);have kq:=aY (l:=q) (i:=k);have hrw:=(tJ h6 (i:=i)).1;have hgw:=O6 h6 (i:=i) (k:=k);have hset:=NH w i k 1;simp;refine wdr ?_;simp;apply gv<;>intro e
   ·have e':=e;simp[gp,kp,e];apply gv<;>intro f
    ·have f':=f;have ho:=aq3 (m:=w) (show D5 p q i k=true by simp only[D5,k_Bool_and_eq_true,bN,decide_eq_true_eq];exact⟨by omega,.inl f⟩);simp[hrw,hgw,hset,f];refine nxa (k+1,set2 w i k 1) ⟨by omega,by rw[hs2,ho],(yS h6 (by omega) 1)⟩
    ·have f':=f;simp[gq,kq,f];apply gw<;>intro g
     ·have ho:=aq3 (m:=w) (show D5 p q i k=true by simp only[D5,k_Bool_and_eq_true,bN,decide_eq_true_eq];exact⟨by omega,.inr g⟩);simp[hrw,hgw,hset];refine nxa (k+1,set2 w i k 1) ⟨by omega,by rw[hs2,ho],(yS h6 (by omega) 1)⟩
     ·have ho:AZ (D5 p q) i k w=w:=if_neg (by simp only[D5,k_Bool_and_eq_true,bN,decide_eq_true_eq];omega);simp;refine nxa (k+1,w) ⟨by omega,by rw[hs2,ho],h6⟩
   ·have e':=e;have ho:AZ (D5 p q) i k w=w:=if_neg (by simp only[D5,k_Bool_and_eq_true,bN,decide_eq_true_eq];omega);simp[e];refine nxa (k+1,w) ⟨by omega,by rw[hs2,ho],h6⟩ (h3:=by simp[h,hz,gp,gq,kp,kq,hrw,hgw,hset,e])
  ·simp at b;obtain rfl:k=p.length:=by omega
   simp;refine nxa (i+1,w) ⟨by omega,by rw[hs,h5];rfl,h6⟩
 ·simp at a;obtain rfl:i=p.length:=by omega
  have hfin:SA p q=m:=h2.symm;rw[hfin]at hmat hlab;simp;refine ck (qR m hmat) ?_;simp[hlab]
def UW (m:L2)(l:List Con)(hl:Qle l)(hm:bR m)(hc:cO m.length l):Fk 284 [cK m,jO l] (vS (dJ m l)):=by
 refine fE [] ntmps284 fun _ _=> ?_;have hn8:=dM hm;have hpl:=O1 hm;have hml:=oD hc;have hpp:=NF hpl hn8.1 hn8.2;have hmp:=NF hml hn8.1 hn8.2;have hpair:mV (pX m) (eH m.length l):=by simp only[mV,k_Bool_and_eq_true,decide_eq_true_eq];exact⟨⟨hpp,hmp⟩,by rw[hpl.1,hml.1]⟩
 have hx:=(LF hm hc).1;simp;refine ck (iB m (by omega) (xX hm)) ?_;simp[hm];refine ck (uX m.length l) ?_;simp[hc];refine ck (qR m hm) ?_;simp;refine ck (zH m.length l (by omega) hl hc) ?_;have q1:=hpl.1;have q2:=hml.1;simp;refine ck (OH (pX m) (eH m.length l) (by omega) (by omega) hpair) ?_;simp[hx]
def aA0 (h:bR m)(l:L1)(i k:Nat):0<=tL m l i k/\tL m l i k<=1000:=by
 have:=iL h i k;rw[ajS];split<;>omega
def kL (m:L2)(l:L1)(hm:bR m)(hl:l.length=m.length):Fk 289 [cK m,nInts l] (vI (dP m l)):=by
 refine fE [] ntmps289 fun _ _=> ?_;have hn8:=dM hm;simp;refine wlt (Nat×Int) (fun(i,s)=>([(0,.val (cK m)),(1,vN l),(5,vI s),(9,vI l.length),(10,vI i)],l.length-i,(i<=l.length)/\(s=loopN i 0 (AU m l))/\(0<=s/\s<=8000*i))) ((0,0)) ⟨by omega,rfl,by omega⟩ ?_;rintro⟨i,s⟩ ⟨h1,h2,h3⟩;simp;apply gw<;>intro a
 ·have hs:=aM i 0 (AU m l);rw[←h2]at hs;simp;refine wlt (Nat×Int) (fun(k,t)=>([(0,.val (cK m)),(1,vN l),(5,vI t),(6,vI i),(9,vI l.length),(10,vI i),(13,vI i),(14,vI k)],i-k,(k<=i)/\(t=loopN k s (fun k s=>s+tL m l i k))/\(s<=t/\t<=s+1000*k))) ((0,s)) ⟨by omega,rfl,by omega⟩ ?_;rintro⟨k,t⟩ ⟨h4,h5,h6⟩;simp;apply gw<;>intro b
  ·have hs2:=aM k s (fun k s=>s+tL m l i k);rw[←h5]at hs2;have gi:=aY (l:=l) (i:=i);have gk:=aY (l:=l) (i:=k);obtain⟨r,hr,hw⟩:=lJ hm (i:=i) (k:=k);have hc:=aA0 hm l i k;have hw2:=iL hm i k;have hcb:=ajS m l i k;simp;refine wdr ?_;simp[gi,gk];apply gw<;>intro e
   ·rw[if_pos e]at hcb;have hcs:=hcb.symm;simp[hr,hw,hcs];refine nxd (k+1,t+tL m l i k) ⟨by omega,hs2.symm,by omega⟩
   ·rw[if_neg e]at hcb;have hcs:=hcb.symm;simp[hr,hw,hcs];refine nxb (k+1,t+tL m l i k) ⟨by omega,hs2.symm,by omega⟩
  ·simp at b;obtain rfl:k=i:=by omega
   simp;refine nxa (k+1,t) ⟨by omega,by rw[hs,h5];rfl,by omega⟩
 ·simp at a;obtain rfl:i=l.length:=by omega
  have hfin:dP m l=s:=h2.symm;simp[hfin]
def ZQ (l:L1):(nInts l).fz=nInts l:=by simp[D.fz,D.JQ]
def OE (c:Con)(p:L1)(h0:0<=c.a/\c.a<c.b)(h1:c.b<(p.length:Int)):Fk 481 [aoG c,.bx false (nInts p)] (vB (IV p c)):=by
 refine fE [] ntmps481 fun _ _=> ?_;have ha:0<=c.a:=h0.1;have hb:0<=c.b:=by omega
 have q1:=aY (l:=p) (i:=c.a.toNat);have q2:=aY (l:=p) (i:=c.b.toNat);simp;refine wdt 16 ?_;simp;apply gv<;>intro g1
 ·have g1':=g1;simp at g1';simp[ha,hb,q1,q2,g1];grind[IV]
 ·have g1':=g1;simp at g1';simp[g1];grind[IV]
def Q7 (n:Nat)(l:List Con)(hn:n<=1048576:=by first|omega|grind)(hl:Qle l:=by first|omega|grind)(hc:cO n l:=by first|omega|grind):Fk 430 [dI n,jO l] (vI (xS n l)):=by
 refine fE [] ntmps430 fun _ _=> ?_;have hc2:=mQ hc;have hml:(eH n l).length=n:=(oD hc).1;have hne:¬eH n l=[]:=by intro e;rw[e]at hml;simp at hml;omega
 have hf:xS n l=ix (IV (eH n l)) l:=if_pos hc;simp;refine ck (zH n l) ?_;simp[hne,hf];intro b;refine ckB (agG l (IV (eH n l)) 481 b (nInts (eH n l)) (ZQ _) aLU aL8 (fun c hm=>OE c (eH n l) (by have:=hc2.2.2.2 c hm;omega) (by have:=hc2.2.2.2 c hm;omega)) hl) ?_;simp[hf]
def Q8 (n:Nat)(l:List Con)(hn:n<=1048576:=by first|omega|grind)(hl:Qle l:=by first|omega|grind):Fk 366 [dI n,jO l] (vB (eQ n l)):=by
 refine fE [] ntmps366 fun _ _=> ?_;simp;refine ck (uX n l) ?_;simp;apply gv<;>intro e
 ·have e':=e;simp[e];refine ck (Q7 n l) ?_;simp;grind[eQ]
 ·have e':=e;simp[e];grind[eQ]
def WL (m:L2)(l:List Con)(hm:Qle m)(hr:∀r∈m,Qle r)(hl:Qle l):Fk 283 [cK m,jO l] (vB (bR m&&eQ m.length l)):=by
 refine fE [] ntmps283 fun _ _=> ?_;simp;refine ck (iB m hm hr) ?_;simp;apply gv<;>intro e
 ·have e':=e;simp[e];refine ck (Q8 m.length l) ?_;simp[e]
 ·have e':=e;simp[e]
def DV (m:L2)(l:L1)(hm:bR m)(hl:Qle l):Fk 375 [cK m,nInts l] (vI (xL m l)):=by
 refine fE [] ntmps375 fun _ _=> ?_;simp;refine ck (iB m (by have:=dM hm;omega) (xX hm)) ?_;simp[hm];refine ck (zG l hl) ?_;simp;apply gv<;>intro e
 ·have e':=e;simp at e';have hp:xL m l= -1:=if_neg (by simp[e']);simp[e,hp]
 ·have e':=e;simp at e';simp[e];apply gw<;>intro f
  ·have hp:xL m l= -1:=if_neg (by omega);simp[hp]
  ·have hll:l.length=m.length:=by omega
   have hp:xL m l=dP m l:=if_pos ⟨hm,e',hll⟩;simp;refine ck (kL m l hm hll) ?_;simp[hp]
def adL (c:Con)(l:L1)(hl:Qle l):Fk 441 [aoG c,.bx false (nInts l)] (vB (!yZ l c)):=by
 refine fE [] ntmps441 fun _ _=> ?_;simp;refine wdt 30 ?_;simp;refine cd (nY c.a l.length) ?_;simp;apply gv<;>intro e
 ·have e':=e;simp at e';simp[e];grind[yZ]
 ·have e':=e;simp at e';simp[e];refine cd (nY c.b l.length) ?_;simp;apply gv<;>intro f
  ·have f':=f;simp at f';simp[f];grind[yZ]
  ·have f':=f;simp at f';have ha:0<=c.a:=by omega
   have hb:0<=c.b:=by omega
   have q1:=aY (l:=l) (i:=c.a.toNat);have q2:=aY (l:=l) (i:=c.b.toNat);simp[e',f',q1,q2];grind[yZ]
def FH (l:L1)(cs:List Con)(hl:Qle l:=by first|omega|grind)(hc:Qle cs:=by first|omega|grind):Fk 373 [nInts l,jO cs] (vB (nQ cs l)):=by
 refine fE [] ntmps373 fun _ _=> ?_;have hx:(!(cs.any fun c=> !yZ l c))=nQ cs l:=by rw[alJ];simp[nQ]
 simp;intro b;refine ckB (aj3 cs (fun c=> !yZ l c) 441 b (nInts l) (ZQ _) aLT aL7 (fun c _=>adL c l hl) hc) ?_;simp[hx]
def EP (n:Nat)(hn:n<=8:=by first|omega|grind):Fk 351 [dI n] (.own (XO (noLinks n))):=by
 refine fE [] ntmps351 fun _ _=> ?_;simp;refine wl (fun(i:Nat)=>[(0,vI n),(3,.own (XO (List.replicate i (List.replicate n false)))),(4,vI i)]) (fun(i:Nat)=>n-i) (fun(i:Nat)=>(i<=n)) (0) (by omega) ?_;rintro i h1;simp;apply gw<;>intro a
 ·have hx:=mF (n:=i) (a:=List.replicate n false);simp;refine nxd (i+1) (by first|omega|(simp;omega)|grind) (h3:=by simp[hx])
 ·simp at a;obtain rfl:n=i:=by omega
  simp;all_goals(simp[noLinks];done)
def CS (n:Nat)(M:List (List Bool))(hn:n<=8:=by first|omega|grind)(hM:sqB n M:=by first|omega|grind):Fk 352 [dI n,abV M] (.own (bV (apQ n M).1)):=by
 refine fE [] ntmps352 fun _ _=> ?_;simp;refine wl (fun(i:Nat)=>[(0,vI n),(1,.val (abV M)),(5,vS (List.replicate i (-1))),(6,vI i)]) (fun(i:Nat)=>n-i) (fun(i:Nat)=>(i<=n)) (0) (by omega) ?_;rintro i h1;simp;apply gw<;>intro a
 ·have hx:=mF (n:=i) (a:=(-1:Int));simp;refine nxb (i+1) (by first|omega|(simp;omega)|grind) (h3:=by simp[hx])
 ·simp at a;obtain rfl:n=i:=by omega
  simp;refine wlt (Nat×(L1×Int)) (fun(i,s)=>([(0,vI n),(1,.val (abV M)),(5,vS s.1),(7,vI s.2),(8,vI i)],n-i,(i<=n)/\(s=loopN i ((List.replicate n (-1),0)) (LA n M))/\(s.1.length=n/\0<=s.2/\s.2<=i))) ((0,(List.replicate n (-1),0))) ⟨by omega,rfl,by simp⟩ ?_;rintro⟨i,s⟩ ⟨h1,h2,h3⟩;simp;apply gw<;>intro a
  ·have hs:=aM i ((List.replicate n (-1),0)) (LA n M);rw[←h2]at hs;have hg:=aY (l:=s.1) (i:=i);simp[hg];apply gw<;>intro b
   ·have hx:LA n M i s=s:=if_pos b;simp;refine nxa (i+1,s) ⟨by omega,by rw[hs,hx],by omega⟩
   ·simp at b;have hx:LA n M i s=(spread n M s.2 (s.1.set i s.2),s.2+1):=if_neg (by omega);simp[hg];refine wlt (Nat×L1) (fun(a,o)=>([(0,vI n),(1,.val (abV M)),(5,vS o),(7,vI s.2),(8,vI i),(9,vI a)],n-a,(a<=n)/\(o=loopN a (s.1.set i s.2) (spS n M s.2))/\(o.length=n))) ((0,s.1.set i s.2)) ⟨by omega,rfl,by simp;omega⟩ ?_;rintro⟨a,o⟩ ⟨h1a,h2a,h3a⟩;simp;apply gw<;>intro aa
    ·have hsa:=aM a (s.1.set i s.2) (spS n M s.2);rw[←h2a]at hsa;simp;refine wlt (Nat×L1) (fun(b,p)=>([(0,vI n),(1,.val (abV M)),(5,vS p),(7,vI s.2),(8,vI i),(9,vI a),(10,vI b)],n-b,(b<=n)/\(p=loopN b (o) (spA n M s.2))/\(p.length=n))) ((0,o)) ⟨by omega,rfl,by omega⟩ ?_;rintro⟨b,p⟩ ⟨h1b,h2b,h3b⟩;simp;apply gw<;>intro ab
     ·have hsb:=aM b (o) (spA n M s.2);rw[←h2b]at hsb;simp;refine wlt (Nat×L1) (fun(c,q)=>([(0,vI n),(1,.val (abV M)),(5,vS q),(7,vI s.2),(8,vI i),(9,vI a),(10,vI b),(11,vI c)],n-c,(c<=n)/\(q=loopN c (p) (spB M s.2 b))/\(q.length=n))) ((0,p)) ⟨by omega,rfl,by omega⟩ ?_;rintro⟨c,q⟩ ⟨h1c,h2c,h3c⟩;simp;apply gw<;>intro ac
      ·have hsc:=aM c (p) (spB M s.2 b);rw[←h2c]at hsc;have hq:=aY (l:=q) (i:=b);obtain⟨r,hr,hrl⟩:=awK hM ab;obtain⟨y,hy⟩:=aO (l:=r) (i:=c);have ey:=aAL hr hy;have hqc:=aY (l:=q) (i:=c);simp[hq];apply gv<;>intro e
       ·have e':=e;simp[hr,hy,e];apply gw<;>intro f
        ·have hz:spB M s.2 b c q=q.set c s.2:=if_pos ⟨by simp_all,by simp_all⟩;simp[hqc];refine nxa (c+1,q.set c s.2) ⟨by omega,by rw[hsc,hz],by simp[h3c]⟩
        ·have hz:spB M s.2 b c q=q:=if_neg (by simp_all);simp;refine nxa (c+1,q) ⟨by omega,by rw[hsc,hz],h3c⟩
       ·have e':=e;have hz:spB M s.2 b c q=q:=if_neg (by simp_all);simp[e];refine nxa (c+1,q) ⟨by omega,by rw[hsc,hz],h3c⟩
      ·simp at ac;have hic:n=c:=by omega
       subst hic;simp;refine nxa (b+1,q) ⟨by omega,by rw[hsb,spA,h2c],h3c⟩
     ·simp at ab;have hib:n=b:=by omega
      subst hib;simp;refine nxa (a+1,p) ⟨by omega,by rw[hsa,spS,h2b],h3b⟩
    ·simp at aa;have hia:n=a:=by omega
     subst hia;simp;refine nxb (i+1,(o,s.2+1)) ⟨by omega,by rw[hs,hx,spread,h2a],by simp[h3a];omega⟩
  ·simp at a;have hi:n=i:=by omega
   subst hi;simp;subst h2;rfl
def zL (n:Int)(l:List Con)(hn: -1048576<=n/\n<=1048576:=by first|omega|grind)(hs:Qle l:=by first|omega|grind):Fk 264 [dI n,jO l] (vS (if cO n l=true then eH n.toNat l else[])):=by
 refine fE [] ntmps264 fun _ _=> ?_;simp;refine ck (uY _ _) ?_;simp;apply gw<;>intro e
 ·simp at e;simp;simp[e]
 ·simp at e;obtain⟨h1,h2,h3,h4⟩:=mQ e;obtain⟨n,rfl⟩:∃k:Nat,n=k:=⟨n.toNat,by omega⟩;simp;refine ck (EP n) ?_;simp;refine wlt (Nat×List (List Bool)) (fun(i,M)=>([(0,vI n),(1,vE l),(5,.own (XO M)),(6,vI i)],l.length-i,(i<=l.length)/\(M=(l.take i).foldl mustStep (noLinks n))/\(sqB n M))) ((0,(noLinks n))) ⟨by simp,rfl,(aiE n)⟩ ?_;rintro⟨i,M⟩ ⟨h1,h2,h3⟩;simp;apply gw<;>intro a
  ·obtain⟨c,hc⟩:=aO (l:=l) (i:=i);have hm:=dK mustStep (noLinks n) hc;rw[←h2]at hm;have hb:=h4 c (aA hc);simp[hc];apply gw<;>intro b
   ·obtain⟨r,hr,hrl,hrc⟩:=aaU (a:=c.a.toNat) (b:=c.b.toNat) h3;obtain⟨q,hq,hql,hqc⟩:=aaU (a:=c.b.toNat) (b:=c.a.toNat) h3;have hne:c.a.toNat≠c.b.toNat:=by omega
    have hne2:¬c.b.toNat=c.a.toNat:=by omega
    have hz1:=aaR (k:=c.b.toNat) (v:=true) hr;have hz2:=aaR (M:=M.set c.a.toNat (r.set c.b.toNat true)) (i:=c.b.toNat) (k:=c.a.toNat) (v:=true) (r:=q) (by simp[hne,hq]);simp;refine wdt 14 ?_;simp[hc,hr,hrc];iterate 2 refine ai ?_
    refine wdt 14 ?_;simp[hc,hq,hqc,hne];refine nxd (i+1,(M.set c.a.toNat (r.set c.b.toNat true)).set c.b.toNat (q.set c.a.toNat true)) ⟨by omega,by rw[hm,mustStep,if_pos b,hz1,hz2],by rw[←hz2,←hz1];exact sqB_set (sqB_set h3)⟩
   ·simp;refine nxa (i+1,M) ⟨by omega,by rw[hm,mustStep,if_neg (by simp[b])],h3⟩
  ·simp at a;rw[bJ a]at h2;subst h2;simp;refine ck (CS n _) ?_;simp;simp[e,eH,nR]
def JJ (m:L2)(hs:Qle m:=by first|omega|grind):Fk 347 [cK m] (vS (if bR m=true then pX m else[])):=by
 refine fE [] ntmps347 fun _ _=> ?_;simp;refine ck (eT _) ?_;simp;apply gw<;>intro e
 ·simp at e;simp;simp[e]
 ·simp at e;have hml:=dM e;simp;refine ck (EP m.length) ?_;simp;refine wlt (Nat×List (List Bool)) (fun(i,M)=>([(0,.val (cK m)),(3,.own (XO M)),(4,vI i)],m.length-i,(i<=m.length)/\(M=loopN i (noLinks m.length) ((fun i M=>loopN m.length M (posRow m i))))/\(sqB m.length M))) ((0,noLinks m.length)) ⟨by simp,rfl,(aiE _)⟩ ?_;rintro⟨i,M⟩ ⟨h1,h2,h3⟩;simp;apply gw<;>intro a
  ·have hs:=aM i (noLinks m.length) ((fun i M=>loopN m.length M (posRow m i)));rw[←h2]at hs;simp;refine wlt (Nat×List (List Bool)) (fun(k,L)=>([(0,.val (cK m)),(3,.own (XO L)),(4,vI i),(5,vI k)],m.length-k,(k<=m.length)/\(L=loopN k (M) (posRow m i))/\(sqB m.length L))) ((0,M)) ⟨by simp,rfl,h3⟩ ?_;rintro⟨k,L⟩ ⟨h1k,h2k,h3k⟩;simp;apply gw<;>intro ak
   ·have hsk:=aM k (M) (posRow m i);rw[←h2k]at hsk;obtain⟨r,hr,hrl,hrc⟩:=aaU (a:=i) (b:=k) h3k;obtain⟨q,hq,hqc⟩:=lJ e (i:=i) (k:=k);have hz1:=aaR (k:=k) (v:=decide (at2 m i k>0)) hr;have hsq:=sqB_set (i:=i) (k:=k) (v:=decide (at2 m i k>0)) h3k;rw[hz1]at hsq;simp;refine wdt 14 ?_;simp[hr,hrc,hq,hqc];refine nxa (k+1,L.set i (r.set k (decide (at2 m i k>0)))) ⟨by omega,by rw[hsk,posRow,hz1],hsq⟩
   ·simp at ak;have hik:m.length=k:=by omega
    subst hik;simp;refine nxa (i+1,L) ⟨by omega,by rw[hs];exact h2k,h3k⟩
  ·simp at a;have hi:m.length=i:=by omega
   subst hi;simp;refine ck (CS m.length _) ?_;simp;simp[e,pX,aaJ,←h2]
variable {n:Int}{l:List Con}{C:L1}
def an8 (hC:(if cO n l=true then eH n.toNat l else[])=C)(b:0<C.length):cO n l=true:=by
 cases h:cO n l with
 |true=>rfl
 |false=>subst hC;simp[h]at b
def alX (hC:(if cO n l=true then eH n.toNat l else[])=C)(b:¬0<C.length):¬cO n l=true:=by
 intro h;have:=mQ h;subst hC;rw[if_pos h,eH,SC]at b;omega
def anO (e:¬cO n l=true):¬cO n.toNat l=true:=by
 intro h;by_cases h0:0<=n
 ·rw[show(n.toNat:Int)=n by omega]at h;exact e h
 ·have:=mQ h;omega
def ai5 (hC:(if cO n l=true then eH n.toNat l else[])=C)(e:cO n.toNat l=true):eH n.toNat l=C:=by
 by_cases h0:0<=n
 ·rw[show(n.toNat:Int)=n by omega]at e;rw[if_pos e]at hC;exact hC
 ·have:=mQ e;omega
def RV (n:Int)(l:List Con)(hn: -1048576<=n/\n<=1048576:=by first|omega|grind)(hs:Qle l:=by first|omega|grind):Fk 345 [dI n,jO l] (vI (xS n.toNat l)):=by
 refine fE [] ntmps345 fun _ _=> ?_;simp;refine ck (zL n l) ?_;generalize hC:(if cO n l=true then eH n.toNat l else[])=C;have hCl:C.length<=8:=by subst hC;split;(next e=>rw[eH,SC];have:=mQ e;omega);simp
 simp;refine wlt Nat (fun i=>([(0,vI n),(1,vE l),(5,vS C),(6,vI i)],l.length-i,(i<=l.length)/\((l.take i).any (IV C)=false))) (0) ⟨by omega,rfl⟩ ?_;rintro i ⟨h1,h2⟩;simp;apply gv<;>intro a
 ·have a':=a;simp[a];apply gw<;>intro b
  ·have e:=an8 hC b;obtain⟨h3,h4,h5,h6⟩:=mQ e;rw[if_pos e]at hC;have hCn:C.length=n.toNat:=by subst hC;exact SC _ _
   obtain⟨c,hc⟩:=aO (l:=l) (i:=i);have hb:=h6 c (aA hc);have ha1:=aY (l:=C) (i:=c.a.toNat);have hb1:=aY (l:=C) (i:=c.b.toNat);simp;refine wdr ?_;simp[hc];apply gv<;>intro f
   ·have f':=f;simp at f';simp[hc,ha1,hb1,f];iterate 2 refine ai ?_
    apply gw<;>intro g
    ·have hx:ix (IV C) l=i:=DZ hc h2 (by simp[IV,g];simpa using f);simp;simp[xS,show(n.toNat:Int)=n by omega,e,hC,hx]
    ·simp;refine nxa (i+1) ⟨by omega,(kN hc h2 (by simp[IV,g]))⟩
   ·have f':=f;simp at f';simp[f];refine nxa (i+1) ⟨by omega,(kN hc h2 (by simp[IV];simp_all))⟩
  ·simp at b;have e:=alX hC (by simp[b]);have e2:=anO e;simp;rw[xS,if_neg e2]
 ·have a':=a;simp at a';have hx:=sF (pK h2 (by omega));simp[a];have h:=fun e=>ai5 hC e;unfold xS;split<;>simp_all
def FU (n:Int)(l:List Con)(hn: -1048576<=n/\n<=1048576:=by first|omega|grind)(hs:Qle l:=by first|omega|grind):Fk 257 [dI n,jO l] (vB (cO n l&&decide (xS n.toNat l<0))):=by
 refine fE [] ntmps257 fun _ _=> ?_;simp;refine ck (uY _ _) ?_;simp;apply gv<;>intro e
 ·have e':=e;simp[e];refine ck (RV _ _) ?_;simp[e]
 ·have e':=e;simp[e]
def ad2 (a b:L1)(ha:Qle a:=by first|omega|grind)(hb:Qle b:=by first|omega|grind):Fk 414 [nInts a,nInts b] (vB (mV a b)):=by
 refine fE [] ntmps414 fun _ _=> ?_;simp;refine ck (mR _) ?_;simp;apply gv<;>intro e
 ·have e':=e;simp[e];refine ck (mR _) ?_;simp;apply gv<;>intro f
  ·have f':=f;simp[f];grind[mV]
  ·have f':=f;simp[f];grind[mV]
 ·have e':=e;simp[e];grind[mV]
def OL (p q:L1)(ha:Qle p)(hb:Qle q):Fk 346 [nInts p,nInts q] (vS (apK p q)):=by
 refine fE [] ntmps346 fun _ _=> ?_;simp;refine ck (ad2 _ _) ?_;simp;apply gw<;>intro e
 ·simp at e;simp;simp[apK,e]
 ·simp at e;obtain⟨h1,h2,h3⟩:=aaI e;have h4:=isPart_len h1;simp;refine ck (EP p.length) ?_;simp;refine wlt (Nat×List (List Bool)) (fun(i,M)=>([(0,vN p),(1,vN q),(5,.own (XO M)),(6,vI i)],p.length-i,(i<=p.length)/\(M=loopN i (noLinks p.length) ((fun i M=>loopN p.length M (H7 p q i))))/\(sqB p.length M))) ((0,noLinks p.length)) ⟨by simp,rfl,(aiE _)⟩ ?_;rintro⟨i,M⟩ ⟨h1,h2,h3⟩;simp;apply gw<;>intro a
  ·have hs:=aM i (noLinks p.length) ((fun i M=>loopN p.length M (H7 p q i)));rw[←h2]at hs;simp;refine wlt (Nat×List (List Bool)) (fun(k,L)=>([(0,vN p),(1,vN q),(5,.own (XO L)),(6,vI i),(7,vI k)],p.length-k,(k<=p.length)/\(L=loopN k (M) (H7 p q i))/\(sqB p.length L))) ((0,M)) ⟨by simp,rfl,h3⟩ ?_;rintro⟨k,L⟩ ⟨h1k,h2k,h3k⟩;simp;apply gw<;>intro ak
   ·have hsk:=aM k (M) (H7 p q i);rw[←h2k]at hsk;obtain⟨r,hr,hrl,hrc⟩:=aaU (a:=i) (b:=k) h3k;have ha1:=aY (l:=p) (i:=i);have ha2:=aY (l:=p) (i:=k);have hb1:=aY (l:=q) (i:=i);have hb2:=aY (l:=q) (i:=k);have hz1:=fun v=>aaR (k:=k) (v:=v) hr;have hsq:=fun v=>sqB_set (i:=i) (k:=k) (v:=v) h3k;simp;refine wdt 26 ?_;simp[hr,ha1,ha2];apply gv<;>intro e
    ·have e':=e;have hj:H7 p q i k L=L.set i (r.set k true):=by rw[H7,hz1];simp[e]
     simp[hr,hrc,e];refine nxa (k+1,L.set i (r.set k true)) ⟨by omega,by rw[hsk,hj],by rw[←hz1];exact hsq _⟩
    ·have e':=e;have hj:H7 p q i k L=L.set i (r.set k (decide (at1 q i=at1 q k))):=by rw[H7,hz1];simp[e]
     simp[hr,hrc,hb1,hb2,e];refine nxa (k+1,L.set i (r.set k (decide (at1 q i=at1 q k)))) ⟨by omega,by rw[hsk,hj],by rw[←hz1];exact hsq _⟩
   ·simp at ak;have hik:p.length=k:=by omega
    subst hik;simp;refine nxa (i+1,L) ⟨by omega,by rw[hs];exact h2k,h3k⟩
  ·simp at a;have hi:p.length=i:=by omega
   subst hi;simp;refine ck (CS p.length _) ?_;simp;simp[apK,e,FZ,TZ,←h2]
def aq8 (m:L2):(pX m).length=m.length:=SC _ _
def amQ (n:Nat)(l:List Con):(eH n l).length=n:=SC _ _
def U8 (m:L2)(cs:List Con)(hm:Qle m)(hc:Qle cs):Fk 258 [cK m,jO cs] (vS (dJ m cs)):=by
 refine fE [] ntmps258 fun _ _=> ?_;simp;refine ck (eT _) ?_;simp;apply gv<;>intro e
 ·have e':=e;simp at e';simp[e];grind[dJ]
 ·have e':=e;simp at e';simp[e];refine ck (uY _ _) ?_;simp;apply gw<;>intro f
  ·simp at f;simp;grind[dJ]
  ·simp at f;have hml:=dM (m:=m) (by simpa using e);simp[e',f];refine ck (JJ _) ?_;simp[e'];refine ck (zL _ _) ?_;simp[f];refine ck (OL (pX m) (eH m.length cs) (by (try unfold Qle);rw[aq8];omega) (by (try unfold Qle);rw[amQ];omega)) ?_;simp;all_goals(simp only[dJ,e',f];simp)
def H5 (l:List Con)(items:L1)(hs:Qle l)(hi:Qle items):Fk 260 [jO l,nInts items] (wG (iK l items)):=by
 refine fE [] ntmps260 fun _ _=> ?_;simp;refine wlt (Nat×List Con) (fun(i,out)=>([(0,vE l),(1,vN items),(5,wG out),(6,vI i)],l.length-i,(i<=l.length)/\(out=(l.take i).filterMap (BG items))/\(out.length<=i))) ((0,[])) ⟨by omega,rfl,by simp⟩ ?_;rintro⟨i,out⟩ ⟨h1,h2,h3⟩;simp;apply gw<;>intro a
 ·obtain⟨c,hc⟩:=aO (l:=l) (i:=i);have hm:=lV (BG items) hc;rw[←h2]at hm;simp[hc];refine ck (mZ _ _) ?_;simp[hc];refine ck (mZ _ _) ?_;simp;apply gv<;>intro e
  ·have e':=e;simp[e];apply gw<;>intro b
   ·have hv:BG items c=some ⟨place items c.a,place items c.b,c.same⟩:=if_pos ⟨by unfold place;omega,by unfold place;omega⟩;simp[hc];refine nxb (i+1,out++[⟨place items c.a,place items c.b,c.same⟩]) ⟨by omega,by rw[hm,hv];rfl,by simp;omega⟩
   ·simp at b;have hv:BG items c=none:=if_neg (by rintro⟨h1,h2⟩;unfold place at h1 h2;omega);simp;refine nxa (i+1,out) ⟨by omega,by rw[hm,hv];simp,by omega⟩
  ·have e':=e;simp at e';have hv:BG items c=none:=if_neg (by rintro⟨h1,h2⟩;unfold place at h1 h2;omega);simp[e];refine nxa (i+1,out) ⟨by omega,by rw[hm,hv];simp,by omega⟩
 ·simp at a;rw[bJ a]at h2;simp;grind[iK]
def tY (l:L1)(hs:Qle l):Fk 266 [nInts l] (vS (canon l)):=by
 refine fE [] ntmps266 fun _ _=> ?_;simp;refine wlt (Nat×(L1×L1)) (fun(i,s)=>([(0,vN l),(3,vS s.1),(4,vS s.2),(5,vI i)],l.length-i,(i<=l.length)/\(s=(l.take i).foldl jM ([],[]))/\(s.1.length<=i/\s.2.length<=i))) ((0,([],[]))) ⟨by omega,rfl,by simp⟩ ?_;rintro⟨i,s⟩ ⟨h1,h2,h3⟩;simp;apply gw<;>intro a
 ·obtain⟨c,hc⟩:=aO (l:=l) (i:=i);have hm:=dK jM ([],[]) hc;rw[←h2]at hm;simp;refine wlt (Nat×Int) (fun(j,t)=>([(0,vN l),(3,vS s.1),(4,vS s.2),(5,vI i),(6,vI t),(7,vI j)],s.2.length-j,(j<=s.2.length)/\(t=loopN j (-1) ((fun j a=>if at1 s.2 j=c then(j:Int)else a)))/\(-1<=t/\t<=j))) ((0, -1)) ⟨by omega,rfl,by omega⟩ ?_;rintro⟨j,t⟩ ⟨h1j,h2j,h3j⟩;simp;apply gw<;>intro aj
  ·have hsj:=aM j (-1) ((fun j a=>if at1 s.2 j=c then(j:Int)else a));rw[←h2j]at hsj;have hj:=aY (l:=s.2) (i:=j);simp;refine wdr ?_;simp[hc,hj];apply gw<;>intro b
   ·simp;refine nxa (j+1,(j:Int)) ⟨by omega,by rw[hsj,if_pos b],by omega⟩
   ·simp;refine nxa (j+1,t) ⟨by omega,by rw[hsj,if_neg b],by omega⟩
  ·simp at aj;have hij:s.2.length=j:=by omega
   subst hij;simp;apply gw<;>intro b
   ·have hx:jM s c=(s.1++[(s.2.length:Int)],s.2++[c]):=if_pos (by rw[vJ,←h2j];exact b);simp[hc];refine nxd (i+1,(s.1++[(s.2.length:Int)],s.2++[c])) ⟨by omega,by rw[hm,hx],by simp;omega⟩
   ·simp at b;have hx:jM s c=(s.1++[t],s.2):=by rw[jM,if_neg (by (try unfold Qle);rw[vJ,←h2j];omega),vJ,←h2j]
    simp;refine nxb (i+1,(s.1++[t],s.2)) ⟨by omega,by rw[hm,hx],by simp;omega⟩
 ·simp at a;rw[bJ a]at h2;simp;grind[canon]
def EO (l:L1)(x y:Int)(hs:Qle l)(hx: -1048576<=x/\x<=1048576)(hy: -1048576<=y/\y<=1048576):Fk 354 [nInts l,dI x,dI y] (.tup [vS (sK l x y),vB (zU l x y)]):=by
 refine fE [] ntmps354 fun _ _=> ?_;simp;refine ai ?_;refine wlt (Nat×Int) (fun(i,t)=>([(0,vN l),(1,vI x),(2,vI y),(8,vS l),(9,vI t),(10,vI i)],l.length-i,(i<=l.length)/\(t=loopN i ((-1)) ((fun i t=>max t (at1 l i)))))) ((0,(-1))) ⟨by omega,rfl⟩ ?_;rintro⟨i,t⟩ ⟨h1,h2⟩;simp;apply gw<;>intro a
 ·have hs:=aM i ((-1)) ((fun i t=>max t (at1 l i)));rw[←h2]at hs;have hg:=aY a;simp[hg];refine nxa (i+1,max t (at1 l i)) ⟨(by first|omega|(simp;omega)|grind),(by first|omega|(simp;omega)|grind)⟩
 ·simp at a;have hi:l.length=i:=by omega
  subst hi;have ht:D7 l=t:=h2.symm;simp;refine ck (mR l hs) ?_;simp;apply gv<;>intro a
  ·have a':=a;simp at a';have ho:zU l x y=false:=by simp only[zU];rw[a'];simp
   simp[a];simp[sK,ho]
  ·have a':=a;simp at a';have htl:=ar0 a';simp[a];refine ai ?_;refine ck (bH _ _ _) ?_;simp;apply gv<;>intro b
   ·have b':=b;simp at b';have ho:zU l x y=false:=by simp only[zU];rw[show inR x 0 ((l.length:Int)-1)=false by simp at b|-;omega];simp
    simp[b];simp[sK,ho]
   ·have b':=b;simp at b';simp[b];refine ai ?_;refine ck (bH _ _ _) ?_;simp;apply gw<;>intro d
    ·simp at d;have ho:zU l x y=false:=by simp only[zU,ht];rw[show inR y 0 (t+1)=false by simp at d|-;omega];simp
     simp;simp[sK,ho]
    ·simp at d;have hxb:0<=x/\x<=(l.length:Int)-1:=by simp at b;omega
     have hyb:0<=y/\y<=t+1:=by omega
     have ho:zU l x y:=by simp only[zU,ht];rw[a'];simp;omega
     have hg:=aY (l:=l) (i:=x.toNat);have hx0:=hxb.1;simp[hg,hx0];refine ckz (tY (l.set x.toNat y) (by simp;omega)) ?_;simp;simp[sK,ho]
def abO (m:L2)(l:L1)(x y:Int)(hm:Qle m)(hs:Qle l)(hx: -1048576<=x/\x<=1048576)(hy: -1048576<=y/\y<=1048576):Fk 417 [cK m,nInts l,dI x,dI y] (vI (NB m l x y)):=by
 refine fE [] ntmps417 fun _ _=> ?_;have hml:=UE l x y;have hp1:=DD m l;have hp2:=DD m (sK l x y);have e1:(if bR m=true/\gD l=true/\l.length=m.length then dP m l else -1)=xL m l:=rfl;have e2:(if bR m=true/\gD (sK l x y)=true/\(sK l x y).length=m.length then dP m (sK l x y)else -1)=xL m (sK l x y):=rfl;simp;refine ck (EO l x y hs hx hy) ?_;simp;refine ck ((e1▸nI m l hm hs)) ?_;simp;apply gv<;>intro a
 ·have a':=a;simp at a';have hg:NB m l x y=0:=if_neg (by simp[a']);simp[a,hg]
 ·have a':=a;simp at a';simp[a];apply gw<;>intro b
  ·have hg:NB m l x y=0:=if_neg (by omega);simp[hg]
  ·simp at b;simp;refine ck ((e2▸nI m (sK l x y) hm)) ?_;have hg:NB m l x y=xL m l-xL m (sK l x y):=if_pos ⟨a',by omega⟩;simp[hg];simp only[inI];omega
abbrev YG (b:Mov):D:= .agg [dI b.item,dI b.block,dI b.gain]
def an1 (m:L2)(cs:List Con)(l:L1)(i k:Nat)(b:Mov)(h:0<=b.gain/\b.gain<=2000000):0<=(zC m cs l i k b).gain/\(zC m cs l i k b).gain<=2000000:=by
 have:=ao7 m l i k;unfold zC;split
 ·rename_i h2;simp only;omega
 ·exact h
def abM (m:L2)(cs:List Con)(l:L1)(hm:Qle m)(hcs:Qle cs)(hs:l.length<=1048575):Fk 353 [cK m,jO cs,nInts l] (.tup [.val (YG (nC m cs l)),vB (decide (0<(nC m cs l).gain))]):=by
 refine fE [] ntmps353 fun _ _=> ?_;have hp:=DD m l;have e1:(if bR m=true/\gD l=true/\l.length=m.length then dP m l else -1)=xL m l:=rfl;have hkp:(cs.all (yZ l)&&gD l)=keepP cs l:=rfl;have hcm:an6 m cs l=(decide (0<=xL m l)&&keepP cs l):=rfl;simp;refine ck ((e1▸nI m l hm)) ?_;simp;apply gv<;>intro a
 ·have a':=a;have hb:nC m cs l=⟨0,0,0⟩:=if_neg (by rw[hcm,decide_eq_false (by omega)];simp);simp[a,hb]
 ·have a':=a;simp at a';simp[a];refine ck ((hkp▸sN l cs (by omega) hcs)) ?_;simp;apply gw<;>intro d
  ·simp at d;have hb:nC m cs l=⟨0,0,0⟩:=if_neg (by rw[hcm,d];simp);simp[hb]
  ·simp at d;have hb:nC m cs l=loopN l.length ⟨0,0,0⟩ (afH m cs l):=if_pos (by rw[hcm,decide_eq_true (by omega),d];rfl);simp;refine wlt (Nat×Mov) (fun(i,b)=>([(0,.val (cK m)),(1,vE cs),(2,vN l),(6,.own (.bx true (YG ⟨0,0,0⟩))),(8,.own (.bx true (YG b))),(9,vI i)],l.length-i,(i<=l.length)/\(b=loopN i (⟨0,0,0⟩) (afH m cs l))/\(0<=b.gain/\b.gain<=2000000))) ((0,⟨0,0,0⟩)) ⟨by omega,rfl,by simp⟩ ?_;rintro⟨i,b⟩ ⟨h1,h2,h3⟩;simp;apply gw<;>intro a
   ·have hs:=aM i (⟨0,0,0⟩) (afH m cs l);rw[←h2]at hs;simp;refine wlt (Nat×Mov) (fun(k,c)=>([(0,.val (cK m)),(1,vE cs),(2,vN l),(6,.own (.bx true (YG ⟨0,0,0⟩))),(8,.own (.bx true (YG c))),(9,vI i),(10,vI k)],(l.length+1)-k,(k<=(l.length+1))/\(c=loopN k (b) (zC m cs l i))/\(0<=c.gain/\c.gain<=2000000))) ((0,b)) ⟨by omega,rfl,h3⟩ ?_;rintro⟨k,c⟩ ⟨h1k,h2k,h3k⟩;simp;apply gw<;>intro ak
    ·have hsk:=aM k (b) (zC m cs l i);rw[←h2k]at hsk;have hml:=UE l i k;have hgl:=ao7 m l i k;have hkp2:(cs.all (yZ (sK l i k))&&gD (sK l i k))=keepP cs (sK l i k):=rfl;have hst:=an1 m cs l i k c h3k;simp;refine ck (EO l i k (by omega) (by omega) (by omega)) ?_;simp;refine ck (abO m l i k hm (by omega) (by omega) (by omega)) ?_;simp;apply gv<;>intro e
     ·have e':=e;simp[e];apply gv<;>intro f
      ·have f':=f;simp[f];refine ck ((hkp2▸sN (sK l i k) cs (by omega) hcs)) ?_;simp;apply gw<;>intro g
       ·have hu:zC m cs l i k c=⟨i,k,NB m l i k⟩:=if_pos ⟨by simpa using e,by omega,by simpa using g⟩;rw[hu]at hst;simp;refine nxa (k+1,⟨i,k,NB m l i k⟩) ⟨by omega,by rw[hsk,hu],hst⟩
       ·have hu:zC m cs l i k c=c:=if_neg (by simp[g]);simp;refine nxa (k+1,c) ⟨by omega,by rw[hsk,hu],h3k⟩
      ·have f':=f;simp at f';have hu:zC m cs l i k c=c:=if_neg (by omega);simp[f];refine nxa (k+1,c) ⟨by omega,by rw[hsk,hu],h3k⟩
     ·have e':=e;have hu:zC m cs l i k c=c:=if_neg (by simp[e]);simp[e];refine nxa (k+1,c) ⟨by omega,by rw[hsk,hu],h3k⟩
    ·simp at ak;have hik:(l.length+1)=k:=by omega
     subst hik;simp;refine nxa (i+1,c) ⟨by omega,by rw[hs,afH,←h2k],h3k⟩
   ·simp at a;have hi:l.length=i:=by omega
    subst hi;have hbb:nC m cs l=b:=by rw[hb,h2]
    simp;refine jL [] (dQ 8) ?_;simp;refine wdf [(4,[6,66]),(5,[69,7])] [(6,.own (.bx true (YG ⟨0,0,0⟩))),(8,.val (.bx false (YG b)))] [] (by simp) ?_;simp[hbb]
def axA (m:L2)(cs:List Con)(l:L1):0<=(nC m cs l).item/\(nC m cs l).item<=l.length/\0<=(nC m cs l).block/\(nC m cs l).block<=l.length:=by
 unfold nC;split
 ·refine loopN_inv (n:=l.length) (fun _ (b:Mov)=>0<=b.item/\b.item<=l.length/\0<=b.block/\b.block<=l.length) (by simp) fun i b hi hb=> ?_;refine loopN_inv (n:=l.length+1) (fun _ (b:Mov)=>0<=b.item/\b.item<=l.length/\0<=b.block/\b.block<=l.length) hb fun k c hk hc=> ?_;unfold zC;split
  ·simp only;omega
  ·exact hc
 ·simp
def LQ (m:L2)(cs:List Con)(l:L1)(hm:Qle m)(hcs:Qle cs)(hs:l.length<=1048575):fA prog 265 [cK m,jO cs,nInts l] (fun r'=>∃k:Int,r'= .tup [vS (sD m cs 100 l),vI k]):=by
 refine fE [] ntmps265 fun _ _=> ?_;simp;refine ai ?_;refine wlt (Nat×L1) (fun(k,x)=>([(0,.val (cK m)),(1,vE cs),(8,vS x),(9,vI k)],100-k,(k<=100)/\x.length=l.length/\(sD m cs (100-k) x=sD m cs 100 l))) ((0,l)) ⟨by omega,rfl,rfl⟩ ?_;rintro⟨k,x⟩ ⟨h1,h2,h3⟩;simp;apply gw<;>intro a
 ·have hbl:=axA m cs x;have hml:=UE x (nC m cs x).item (nC m cs x).block;have hgo:sD m cs (100-k) x=if 0<(nC m cs x).gain then sD m cs (100-(k+1)) (sK x (nC m cs x).item (nC m cs x).block)else x:=by rw[show 100-k=(100-(k+1))+1 by omega,sD]
  simp;refine ck (abM m cs x hm hcs (by omega)) ?_;simp;apply gw<;>intro b
  ·simp at b;rw[if_neg (by simpa using b)]at hgo;simp;simp[←h3,hgo]
  ·rw[if_pos (by simpa using b)]at hgo;simp;refine ck (EO x (nC m cs x).item (nC m cs x).block (by omega) (by omega) (by omega)) ?_;simp;refine nxa (k+1,sK x (nC m cs x).item (nC m cs x).block) ⟨by omega,by omega,by rw[←hgo,h3]⟩
 ·simp at a;obtain rfl:k=100:=by omega
  have hgo:sD m cs (100-100) x=x:=rfl;simp;simp[←h3,hgo]
def VL (l:L1)(x y:Int)(hl:1<=l.length/\Qle l)(hx:0<=x/\x<(l.length:Int)):Fk 443 [nInts l,dI x,dI y] (vS (canon (l.set x.toNat y))):=by
 refine fE [] ntmps443 fun _ _=> ?_;have hg:=aY (l:=l) (i:=x.toNat);have hx0:=hx.1;simp;refine ck (oK l hl) ?_;simp[hg,hx0];refine ckz (tO (l.set x.toNat y) (by simp;omega)) ?_;simp
def azV {l:L1}(h:1<=l.length)(h0: -1<=at1 l 0):at1 l 0=loopN 1 (-1) (fun i t=>max t (at1 l i)):=by
 rw[aM,loopN_zero];omega
def P9 (l:L1)(hl:1<=l.length/\Qle l)(h0: -1<=at1 l 0):Fk 506 [nInts l] (vI (D7 l)):=by
 refine fE [] ntmps506 fun _ _=> ?_;have hg:=aY (l:=l) (i:=0);have hn:¬(l.length:Int)<1:=by omega
 have hb:=azV hl.1 h0;simp[hg,hn];refine wlt (Nat×Int) (fun(i,t)=>([(0,vN l),(3,vI t),(4,vI i)],l.length-i,(1<=i/\i<=l.length)/\(t=loopN i (-1) (fun i t=>max t (at1 l i))))) ((1,at1 l 0)) ⟨by omega,hb⟩ ?_;rintro⟨i,t⟩ ⟨h1,h2⟩;simp;apply gw<;>intro a
 ·have hgi:=aY (l:=l) (i:=i);have hs:=aM i (-1) (fun i t=>max t (at1 l i));rw[←h2]at hs;simp[hgi];refine nxa (i+1,max t (at1 l i)) ⟨by omega,hs.symm⟩
 ·simp at a;obtain rfl:i=l.length:=by omega
  have hfin:D7 l=t:=h2.symm;simp[hfin]
def WK (l:L1)(hp:gD l):Fk 486 [nInts l] (vI (D7 l+1)):=by
 refine fE [] ntmps486 fun _ _=> ?_;have hpl:=isPart_len hp;have ht:=ar0 hp;have h0:=(isPart_iff.1 hp).1 0 (by omega);simp;refine ck (P9 l ⟨by omega,by omega⟩ (by omega)) ?_;simp;simp only[inI];omega
def adI (m:L2)(cs:List Con)(l:L1)(hm:bR m)(hp:gD l)(hl:l.length=m.length)(hc:Qle cs):Fk 485 [cK m,jO cs,nInts l] (vB (nQ cs l)):=by
 refine fE [] ntmps485 fun _ _=> ?_;have hpc:=NL hm hp hl;have h0:=kU hm l;have hn8:=dM hm;simp;refine ck (DV m l hm (by omega)) ?_;simp[hpc,h0];refine ck (FH l cs) ?_;simp
def aMB {l:L1}(hm:bR m)(hp:gD l)(hl:l.length=m.length)(i k:Nat): -1000000<=mvGain m l i k/\mvGain m l i k<=1000000:=by
 have h1:=DD m l;have h3:=kU hm l;have h4:=kU hm (canon (l.set i k));have hc:(canon (l.set i k)).length=l.length:=by rw[qF];simp
 have h2:=DD m (canon (l.set i k));rw[NL hm hp hl]at h1;rw[NL hm (V6 (by simp;exact isPart_len hp)) (by omega)]at h2;unfold mvGain;omega
def aqQ {cs:List Con}{l:L1}{b:Mov}(hg:mvGain m l i k<=1000000)(h:0<=b.gain/\b.gain<=1000000):0<=(JZ m cs l i k b).gain/\(JZ m cs l i k b).gain<=1000000:=by
 unfold JZ;split
 ·next hh=>exact⟨by show 0<=mvGain m l i k;omega,hg⟩
 ·exact h
def abD (m:L2)(cs:List Con)(l:L1)(hm:bR m)(hp:gD l)(hl:l.length=m.length)(hk:nQ cs l)(hc:Qle cs):Fk 442 [cK m,jO cs,nInts l] (.tup [.val (YG (mvBest m cs l)),vB (decide (0<(mvBest m cs l).gain))]):=by
 refine fE [] ntmps442 fun _ _=> ?_;have hn8:=dM hm;have ht:=ar1 hp;simp;refine ck (adI m cs l hm hp hl hc) ?_;simp[hk];refine ck (kL m l hm hl) ?_;simp;refine wlt (Nat×Mov) (fun(i,b)=>([(0,.val (cK m)),(1,vE cs),(2,vN l),(6,.own (.bx true (YG ⟨0,0,0⟩))),(8,.own (.bx true (YG b))),(9,vI (dP m l)),(24,vI l.length),(25,vI i)],l.length-i,(i<=l.length)/\(b=loopN i (⟨0,0,0⟩) (av7 m cs l))/\(0<=b.gain/\b.gain<=1000000))) ((0,⟨0,0,0⟩)) ⟨by omega,rfl,by simp⟩ ?_;rintro⟨i,b⟩ ⟨h1,h2,h3⟩;simp;apply gw<;>intro a
 ·have hs:=aM i (⟨0,0,0⟩) (av7 m cs l);rw[←h2]at hs;simp;refine wlt (Nat×Mov) (fun(k,c)=>([(0,.val (cK m)),(1,vE cs),(2,vN l),(6,.own (.bx true (YG ⟨0,0,0⟩))),(8,.own (.bx true (YG c))),(9,vI (dP m l)),(10,vI i),(11,vI k),(24,vI l.length),(25,vI i)],(D7 l+2).toNat-k,(k<=(D7 l+2).toNat)/\(c=loopN k b (JZ m cs l i))/\(0<=c.gain/\c.gain<=1000000))) ((0,b)) ⟨by omega,rfl,h3⟩ ?_;rintro⟨k,c⟩ ⟨h4,h5,h6⟩;simp;refine ck (WK l hp) ?_;simp;apply gw<;>intro e
  ·have hs2:=aM k b (JZ m cs l i);rw[←h5]at hs2;have hcl:(canon (l.set i k)).length=l.length:=by rw[qF];simp
   have hgl:=aMB hm hp hl i k;have hst:=aqQ (cs:=cs) (k:=k) (i:=i) hgl.2 h6;have hmg:dP m l-dP m (canon (l.set i k))=mvGain m l i k:=rfl;simp;refine ck (VL l i k (by omega) (by omega)) ?_;simp;refine ck (kL m (canon (l.set i k)) hm (by omega)) ?_;simp[hmg];refine ai ?_;apply gv<;>intro f
   ·have f':=f;simp[f];refine ck (FH (canon (l.set i k)) cs (by omega) hc) ?_;simp;apply gw<;>intro g
    ·have hu:JZ m cs l i k c=⟨i,k,mvGain m l i k⟩:=if_pos ⟨f,g⟩;rw[hu]at hst;simp;refine nxa (k+1,⟨i,k,mvGain m l i k⟩) ⟨by omega,by rw[hs2,hu],hst⟩
    ·have hu:JZ m cs l i k c=c:=if_neg (by simp[g]);simp;refine nxa (k+1,c) ⟨by omega,by rw[hs2,hu],h6⟩
   ·have f':=f;simp at f';have hu:JZ m cs l i k c=c:=if_neg (by omega);simp[f];refine nxa (k+1,c) ⟨by omega,by rw[hs2,hu],h6⟩
  ·simp at e;obtain rfl:k=(D7 l+2).toNat:=by omega
   simp;refine nxa (i+1,c) ⟨by omega,by rw[hs,h5];rfl,h6⟩
 ·simp at a;have hi:l.length=i:=by omega
  subst hi;have hfin:mvBest m cs l=b:=h2.symm;simp;refine wdf [(4,[6,57]),(5,[60,7])] [(6,.own (.bx true (YG ⟨0,0,0⟩))),(8,.own (.bx true (YG b)))] [] (by simp) ?_;simp[hfin]
def LP (m:L2)(cs:List Con)(l:L1)(hm:bR m)(hp:gD l)(hl:l.length=m.length)(hk:nQ cs l)(hc:Qle cs):fA prog 374 [cK m,jO cs,nInts l] (fun r=>∃k:Int,r= .tup [vS (sD m cs 100 l),vI k]):=by
 refine fE [] ntmps374 fun _ _=> ?_;have hn8:=dM hm;simp;refine ck (oK l ⟨by omega,by omega⟩) ?_;simp;refine wlt (Nat×L1) (fun(i,o)=>([(0,.val (cK m)),(1,vE cs),(8,vS o),(14,vI i)],100-i,(i<=100)/\(sD m cs 100 l=sD m cs (100-i) o)/\(gD o=true)/\o.length=m.length/\(nQ cs o=true))) ((0,l)) ⟨by omega,rfl,hp,hl,hk⟩ ?_;rintro⟨i,o⟩ ⟨h1,h2,h3,h4,h5⟩;simp;apply gw<;>intro a
 ·have hst:=atH hm h3 h4 h5 (99-i);rw[show 99-i+1=100-i by omega]at hst;have hbo:=(akL (m:=m) (cs:=cs) (l:=o)).2;simp;refine ck (abD m cs o hm h3 h4 h5 hc) ?_;simp;apply gw<;>intro b
  ·simp at b;have hfin:sD m cs 100 l=o:=by rw[h2,hst];exact if_neg (by simpa using b)
   simp[hfin]
  ·have hb2:0<(mvBest m cs o).gain:=by simpa using b
   have hbb:=hbo hb2;rw[if_pos hb2]at hst;simp;refine ck (VL o (mvBest m cs o).item (mvBest m cs o).block ⟨by omega,by omega⟩ ⟨hbb.1,hbb.2.1⟩) ?_;simp;refine nxa (i+1,canon (o.set (mvBest m cs o).item.toNat (mvBest m cs o).block)) ⟨by omega,by rw[h2,hst,show 100-(i+1)=99-i by omega],(V6 (by simp;omega)),by rw[qF];simp;omega,hbb.2.2.2.2⟩
 ·simp at a;obtain rfl:i=100:=by omega
  have hfin:sD m cs 100 l=o:=by rw[h2];rfl
  simp[hfin]
def lY (l:L1)(x:Int)(hl:Qle l):Fk 114 [nInts l,dI x] (vB (l.any fun y=>decide (x=y))):=by
 refine fE [] ntmps114 fun _ _=> ?_;have hq:decide (0<=ix (fun y=>decide (x=y)) l)=l.any (fun y=>decide (x=y)):=by rw[bM,decide_eq_true_eq];exact jC
 simp;refine ck (jN l x) ?_;simp[hq]
def adF (n:Int)(l:L1)(hn:1<=n/\n<=8)(ho:JU n l)(hl:Qle l):Fk 483 [dI n,nInts l] (vB true):=by
 refine fE [] ntmps483 fun _ _=> ?_;have hon:=ho;simp only[JU,k_Bool_and_eq_true,aH,decide_eq_true_eq]at hon;obtain⟨⟨⟨o1,o2⟩,o3⟩,o4⟩:=hon;subst o4;have o5:=o3.1;have o6:=o3.2;simp;refine ck (bK l.length 1 8) ?_;simp[o5,o6];refine wl (fun(i:Nat)=>[(0,vI l.length),(1,vN l),(16,vN l),(17,vI l.length),(18,vI i)]) (fun(i:Nat)=>l.length-i) (fun(i:Nat)=>(i<=l.length)) (0) (by omega) ?_;rintro i h1;simp;apply gw<;>intro a
 ·obtain⟨c,hc⟩:=aO (l:=l) (i:=i);have hcn:=o1 c (aA hc);have hno:((l.take i).any fun y=>decide (c=y))=false:=by rw[gX];intro y hy;simp only[decide_eq_true_eq];rintro rfl;obtain⟨j,hj⟩:=dF hy;have hji:=dH hj;simp at hji;rw[bD,if_pos (by omega)]at hj;have e1:=aa5 hj;have e2:=aa5 hc;have:=alM o2 (i:=j) (k:=i) (by omega) (by omega) (by rw[e1,e2]);omega
  simp[hc];refine ck (nY c l.length) ?_;have htk:List.take i (List.map dI l)=(l.take i).map dI:=by rw[wF]
  have hmin:min i l.length=i:=by omega
  simp[hcn];refine ai ?_;refine ckz (lY (l.take i) c (by simp;omega)) ?_;simp[hno];refine nxa (i+1) (by omega)
 ·simp at a;simp
end Go.Proofs.YtebopbncplpdgaaGreatDoor
end
section
namespace Go.Proofs.YtebopbncplpdgaaGreatDoor
open Go.Dv Go.Pl Go.RowKit Go.Proofs.Tryz
def qQ (n k:Nat)(v:Int):List Value:=List.replicate k (.int .i64 v)++List.replicate (n-k) (.int .i64 0)
variable {n k:Nat}
def axS {v:Int}(h:k<=n):(qQ n k v).length=n:=by simp[qQ];omega
def axR (n:Nat)(v:Int):qQ n n v=List.replicate n (.int .i64 v):=by simp[qQ]
def YM {j:Nat}{v:Int}(h:k+j<=n):splice (qQ n k v) k (List.replicate j (.int .i64 v))=qQ n (k+j) v:=by
 have h1:(qQ n k v).take k=List.replicate k (.int .i64 v):=by unfold qQ;rw[List.take_left' (by simp)]
 have h2:(qQ n k v).drop (k+j)=List.replicate (n-(k+j)) (.int .i64 0):=by
  unfold qQ;rw[qZ,bX (by simp),iV,List.drop_replicate,uC];congr 1;omega
 rw[splice,h1,uC,h2,←List.append_assoc,List.replicate_append_replicate];rfl
def aC0 {z:Value}(n:Nat)(v:Int)(hz:z.cells= #[.int .i64 0]):madeCells z.cells (n*1)=(qQ n 0 v).toArray:=by
 rw[hz];apply bU.1;apply kF;intro i;by_cases hi:i<n<;>simp[madeCells,qQ,hi,Nat.mod_one]
def auK (v:Int)(n b off cap:Nat)(w:World)(hn:1<=n/\n<=8)(hc:w.cell? ⟨b,off,none⟩=some (.int .i64 v))(hb:b<w.heap.size):
  Calls prog 484 #[.slice (some ⟨b,off,none⟩) 1 cap,.int .i64 n] w fun e w'=>∃g,e= .returned (.slice (some ⟨g,0,none⟩) n n)/\w.heap.size<=g/\w'.heap[g]?=some (.cells (List.replicate n (Value.int .i64 v)).toArray 3 (0,0))/\Below w.heap.size w w':=by
 go_enter func484,ntmps484;have e1:(1*n/18446744073709551616:Nat)=0:=by omega
 have e2:(1*n % 18446744073709551616:Nat)=n:=by omega
 have hm:∀w,Calls prog 505 #[.int .u64 1,.int .u64 n] w fun e w'=>e= .returned (.tuple #[.int .u64 0,.int .u64 n])/\w'=w:=fun w=>by have:=Tryz.bits_Mul 1 n (by omega) (by omega) w;rw[e1,e2]at this;exact this
 obtain⟨hu,i,zv,hi,hsz,hz,hflat,_⟩:=(good 3).of (fun x h e=>by rw[e]at h;cases h);have hby:i.bytes<=4096:=by rename_i h;exact h.2.2.1
 have hzc:zv.cells= #[.int .i64 0]:=by
  have h9:some zv.cells.toList=some [Value.int .i64 0]:=hflat.symm;exact bU.1 (k_Option_some_inj h9)
 have hsz1:i.size=1:=hsz
 have hmk:∀w,(Instr.makeSlice 25 (.int .i64 (n:Int)) (.int .i64 (n:Int))).run prog w= .ok (.slice (some ⟨w.heap.size,0,none⟩) n n) (w.alloc (.cells (qQ n 0 v).toArray 3)):=fun w=>by
  have:=run_make (P:=prog) (w:=w) 25 3 i zv underlying25 hi hz .i64 .i64 n n (by omega) (by omega) (by have:(i.bytes:Int)<=4096:=(by omega);have h2:(i.bytes:Int)*n<=4096*n:=lZ this (by omega);omega) (by omega);rw[this,hsz1];simp only[iJ];rw[aC0 n v hzc]
 have g1:¬(9223372036854775807<(n:Int)):=by omega
 have g2:¬((n:Int)<0):=by omega
 have hinfo:(prog.info? 3).map (·.size)=some 1:=by rw[hi];simp[hsz1]
 have hinf:=hinfo;clear hinfo hi hz hflat hzc hsz hu hby
 have hn0:(w.alloc (.cells (qQ n 0 v).toArray 3)).heap[w.heap.size]?=some (.cells (qQ n 0 v).toArray 3 (0,0)):=heap_alloc_new w _
 have hc0:(w.alloc (.cells (qQ n 0 v).toArray 3)).cell? ⟨b,off,none⟩=some (.int .i64 v):=by
  have e:(w.alloc (.cells (qQ n 0 v).toArray 3)).heap[b]?=w.heap[b]?:=by show(w.heap.push _)[b]?=_;rw[Array.getElem?_push,if_neg (by omega)]
  simp only[World.cell?,e]at hc|-;exact hc
 have hsp0:(splice (qQ n 0 v) 0 [Value.int .i64 v])=qQ n 1 v:=by have:=YM (n:=n) (k:=0) (j:=1) (v:=v) (by omega);simpa using this
 obtain⟨wa,hwa⟩:∃wa,wa=(w.alloc (.cells (qQ n 0 v).toArray 3)):=⟨_,rfl⟩;have hBa:Below w.heap.size w wa:=hwa▸(Below.refl _ w).alloc (k_Nat_le_refl _) _;have hmk1:=hmk w;rw[←hwa]at hn0 hc0 hmk1
 have hcp:(Builtin.copy_ #[25,25] 3 #[.slice (some ⟨w.heap.size,0,none⟩) n n,.slice (some ⟨b,off,none⟩) 1 cap]).run prog wa= .ok (goInt 1) (wa.setRow w.heap.size (qQ n 1 v).toArray):=by
  have h:=run_copy_row (P:=prog) wa 25 25 3 3 w.heap.size 0 n n ⟨b,off,none⟩ 1 cap (qQ n 0 v).toArray 3 [.int .i64 v] underlying25 hinf hn0 (by simp[Nat.min_def];omega) (fun j u hj=> ?_) (by simp[qQ];omega) (by simp[Value.oneCell'])
  ·rw[←hsp0];exact h
  ·match j,hj with
   |0,hj=>
    obtain rfl:Value.int .i64 v=u:=by simpa using hj
    exact hc0
   |j+1,hj=>simp at hj
 obtain⟨w2,hw2⟩:∃w2,w2=(wa.setRow w.heap.size (qQ n 1 v).toArray):=⟨_,rfl⟩;have hB2:Below w.heap.size w w2:=hw2▸below_setRow hBa (k_Nat_le_refl _) _;have hg2:w2.heap[w.heap.size]?=some (.cells (qQ n 1 v).toArray 3 (0,0)):=by rw[hw2];exact setRow_heap _ _ _ _ _ _ hn0
 rw[←hw2]at hcp;clear hmk hn0 hc0 hBa hwa hw2 hsp0
 go_wp2_with (first|(go_at_call 505;refine(hm _).mono ?_;rintro e w1 ⟨rfl,hw1⟩;obtain rfl:=hw1.symm))
 go_loopw [8] (fun x w'=>∃k:Nat,x= .int .i64 k/\1<=k/\k<=n/\w'.heap[w.heap.size]?=some (.cells (qQ n k v).toArray 3 (0,0))/\Below w.heap.size w w') (fun x _=>match x with| .int _ i=>n-i.toNat|_=>0)
 case atStart=>exact⟨1,rfl,k_Nat_le_refl _,hn.1,hg2,hB2⟩
 case round=>
  obtain⟨k,rfl,hk1,hk2,hgk,hBk⟩:=hrel
  go_wp2
  ·obtain⟨cs,hcs⟩:∃cs,cs=List.replicate (min k (n-k)) (Value.int .i64 v):=⟨_,rfl⟩;have hl:cs.length=min k (n-k):=by simp[hcs]
   have hrow:∀j u,cs[j]?=some u->wr.cell? ((⟨w.heap.size,0,none⟩:Addr).add j)=some u:=by
    intro j u hj;have hlt:j<min k (n-k):=by rw[←hl];exact(aD.1 hj).1
    obtain rfl:Value.int .i64 v=u:=by rw[hcs]at hj;simpa[fG,hlt]using hj
    rcases lH j with rfl|hj0
    ·simp[World.cell?,Addr.add,hgk,qQ,mE,show 0<k by omega]
    ·simp[World.cell?,Addr.add,hgk,qQ,mE,show j<k by omega,show¬j=0 by omega]
   have hsp:splice (qQ n k v) k cs=qQ n (k+min k (n-k)) v:=by rw[hcs];exact YM (by omega)
   have h1c:∀x∈cs,x.oneCell':=by intro x hx;rw[hcs]at hx;obtain rfl:=(nZ.1 hx).2;rfl
   clear hcs
   go_region_law (refine step_copy_splice rfl (.tmp 41) (.tmp 44) 25 25 rfl 3 underlying25 hinf (some ⟨w.heap.size,k,none⟩) (some ⟨w.heap.size,0,none⟩) (n-k) (n-k) k n (by simp[Act.eval,Act.put,show¬n=k by omega]) (by simp[Act.eval,Act.put]) w.heap.size k (qQ n k v) 3 hgk cs hl (fun _=>⟨rfl,_,rfl,hrow⟩) (by (try unfold Qle);rw[hl,axS hk2];omega) h1c w.heap.size w hBk.drew (k_Nat_le_refl _) ?_;intro w4 hg4 hb4;replace hg4:=hg4.out;rw[hsp]at hg4)
   go_wp2
   have hw:IntKind.i64.wrap ((k:Int)+((min k (n-k):Nat):Int))=((k+min k (n-k):Nat):Int):=by simp[IntKind.wrap,IntKind.bits,IntKind.signed];omega
   rw[hw];refine⟨⟨k+min k (n-k),rfl,by omega,by omega,rfl⟩,?_⟩;simp only[iJ];omega
  ·obtain rfl:k=n:=by omega
   rw[axR]at hgk;refine bodyPost_ret (v:= .slice (some ⟨w.heap.size,0,none⟩) k k) ?_ rfl ⟨w.heap.size,rfl,k_Nat_le_refl _,hgk,hBk⟩;simp[results,Tryz.f484,loadVar]
variable {ow:Own}{u v:Value}
def NZ {w:World}(h:V prog w ow (D.fz (.one u)) [] v):v=u:=by
 simp only[D.fz,V,R]at h;simpa using h.1
variable {vs:Array Value}
def aa4 {w:World}(hs:vs.size=1)(h:∀(i:Nat) (d:D),[D.one u][i]?=some d->V prog w ow d.fz [] (vs.getD i undef)):vs= #[u]:=by
 have h0:=NZ (h 0 _ rfl);apply Array.ext
 ·simpa using hs
 ·intro i h1 h2;obtain rfl:i=0:=by simpa using h2
  simpa[aF,h1]using h0
def alK {w:World}{u':Value}(hs:vs.size=2)(h:∀(i:Nat) (d:D),[D.one u,D.one u'][i]?=some d->V prog w ow d.fz [] (vs.getD i undef)):vs= #[u,u']:=by
 have h0:=NZ (h 0 _ rfl);have h1:=NZ (h 1 _ rfl);apply Array.ext
 ·simpa using hs
 ·intro i hi h2;have:i=0\/i=1:=by simp at h2;omega
  rcases this with rfl|rfl
  ·simpa[aF,hi]using h0
  ·simpa[aF,hi]using h1
def aBT {f:FuncId}{ds:List D}{us:List Value}(hu:∀u∈us,u.oneCell')(h:∀(w:World) (ow:Own) (vs:Array Value),Laid w ow->vs.size=ds.length->(∀(i:Nat) (d:D),ds[i]?=some d->V prog w ow d.fz [] (vs.getD i undef))->Calls prog f vs w fun e w'=>e= .returned (.tuple us.toArray)/\Below w.heap.size w w'):
  fA prog f ds (fun r=>r= .tup (us.map fun u=> .val (.one u))):=by
 intro w ow vs t ht hL hnew hvs hargs;refine(h w ow vs hL hvs hargs).mono ?_;rintro e w' ⟨rfl,hB⟩;refine⟨_,fun b=>if b<w.heap.size then ow b else none,_,rfl,rfl,⟨hB.os,hB.tape,hB.output,hB.size,fun b hb=>⟨hB.block b hb,if_pos hb⟩,fun b hb=>if_neg (by have:=hB.size;omega)⟩,rfl,fun s a=> ?_⟩;refine⟨_,rfl,by simp,fun k x hx=> ?_⟩;rw[aS,aL]at hx;obtain⟨u,hu1,rfl⟩:=hx;have hv:us.toArray.getD k undef=u:=by simp[aF,hu1]
 rw[hv];simp only[D.fz,V,R];simpa using hu u (aA hu1)
def below_grow {w:World}{os:Array Obj}:Below w.heap.size w (Go.Sort.grow (w.drewN k) os):=(show Below w.heap.size w (w.drewN k)from⟨rfl,rfl,rfl,k_Nat_le_refl _,fun _ _=>rfl⟩).trans ⟨rfl,rfl,rfl,by simp[Go.Sort.grow],fun b hb=>by simp[Go.Sort.grow,Array.getElem?_append,hb]⟩
def aGW {w:World}{l:L1}(h:V prog w ow (D.fz (nInts l)) [] v):∃a cap,v= .slice a l.length cap/\l.length<=cap/\(l=[]\/∃b off,a=some ⟨b,off,none⟩/\b<w.heap.size/\∀(j:Nat) x,l[j]?=some x->w.cell? ⟨b,off+j,none⟩=some (.int .i64 x)):=by
 have hfz:D.fz (nInts l)=nInts l:=by simp[D.fz,D.JQ]
 rw[hfz]at h;simp only[V,R]at h;obtain⟨a,cap,h1,h2,h3,h4⟩:=h;have h1:v= .slice a (l.map dI).length cap:=by simpa using h1
 rw[aQ]at h1 h2;refine⟨a,cap,h1,h2,?_⟩;rcases h4 with h4|h4|⟨b,off,s,C,e,fz,ha,hh,hn,hs,hr⟩
 ·exact .inl (by simpa using h4.2.1)
 ·exact .inl (by simpa using h4.2)
 ·refine .inr ⟨b,off,ha,lt_of_heap hh,fun j x hx=> ?_⟩;have:=(Rs.iff hh).1 hr j (dI x) (by rw[aS,hx];rfl);obtain⟨hw,C',e',fz',cs,g1,g2,g3⟩:=this;have hs1:s=1:=hw.symm;subst hs1;rw[hh]at g1;obtain⟨rfl,rfl,rfl⟩:C=C'/\e=e'/\fz=fz':=by simpa using g1
  simp only[R]at g3;obtain⟨rfl,_⟩:=g3;rw[cell_of_row w b (off+j) C e fz hh];have:=g2 0 (by simp[D.w]);simpa using this
def aJ4 (v:Int)(n:Nat)(hn:1<=n/\n<=8):fA prog 484 [nInts [v],dI n] (fun r=>r=vS (List.replicate n v)):=by
 intro w ow vs t ht hL hnew hsz ha;have h0:=ha 0 _ rfl;have h1:=NZ (ha 1 _ rfl);obtain⟨a,cap,hv,hcap,hc⟩:=aGW h0
 obtain rfl:vs= #[.slice a 1 cap,.int .i64 n]:=by
  apply Array.ext
  ·simpa using hsz
  ·intro i hi h2;have:i=0\/i=1:=by simp at h2;omega
   rcases this with rfl|rfl
   ·simpa[aF,hi]using hv
   ·simpa[aF,hi]using h1
 rcases hc with hc|⟨b,off,rfl,hb,hcell⟩
 ·cases hc
 refine(auK v n b off cap w hn (hcell 0 v rfl) hb).mono ?_;rintro e w' ⟨g,rfl,hg,hrow,hB⟩;have hlt:g<w'.heap.size:=lt_of_heap hrow;refine⟨_,fun b=>if b=g then some [t]else if b<w.heap.size then ow b else none,_,rfl,rfl,⟨hB.os,hB.tape,hB.output,hB.size,fun b hb=>⟨?_,?_⟩,fun b hb=> ?_⟩,rfl,fun s' a=> ?_⟩
 ·exact hB.block b hb
 ·rw[if_neg (by omega),if_pos hb]
 ·have:=hB.size;rw[if_neg (by omega),if_neg (by omega)]
 ·simp only[SV,V,R];refine⟨some ⟨g,0,none⟩,n,by simp,by simp,by unfold maxLen;omega,.inr (.inr ⟨g,0,1,_,3,(0,0),rfl,hrow,(by intro h;cases h),fun t' ht'=> ?_,?_⟩)⟩
  ·obtain rfl:=k_Option_some_inj ht';obtain⟨_,i,zv,hi,hsz,_⟩:=(good 3).of (fun x h e=>by rw[e]at h;cases h);exact⟨by simp,rfl,unfz0 _,rfl,by simp,i,hi,hsz⟩
  ·rw[Rs.iff hrow];intro j x hx;rw[aS,aL]at hx;obtain⟨y,hy,rfl⟩:=hx
   obtain⟨hj,rfl⟩:j<n/\v=y:=by
    have h1:=(aD.1 hy).1;simp at h1;exact⟨h1,by simpa[fG,h1]using hy⟩
   refine⟨rfl,_,_,_,[.int .i64 v],hrow,fun k hk=> ?_,?_⟩
   ·obtain rfl:k=0:=by simpa[D.w]using hk
    simp[hj]
   ·simp[R,Value.oneCell']
def OO (s:Str)(hs:Qle s)(ht:s.all BS):fA prog 217 [dS s,dS [124,59]] (fun r=>r=vB (!s.all wR)):=
 FR (u:= .bool (!s.all wR)) rfl fun w ow vs hL hsz ha=>by
  obtain rfl:=alK hsz ha;rw[←QY];refine(Tryz.strings_ContainsAny_laid ⟨s.toArray⟩ ⟨[124,59].toArray⟩ w (by simp[ByteArray.size];omega) (by decide) (fun j b hb=> ?_) (fun j b hb=> ?_))
  ·have hb':s[j]?=some b:=hb;have:=aH.1 ht b (aA hb');simp[BS]at this;omega
  ·have hb':[124,59][j]?=some b:=hb;have:=aA hb';simp at this;rcases this with rfl|rfl<;>decide
def agE (s:Str)(hs:Qle s:=by first|omega|grind):Fk 216 [dS s] (vB (isText s)):=by
 refine fE [] ntmps216 fun _ _=> ?_;simp;refine wlt Nat (fun i=>([(0,wN s),(5,vI s.length),(6,vI i)],s.length-i,(i<=s.length)/\((s.take i).all BS=true))) (0) ⟨by omega,rfl⟩ ?_;rintro i ⟨h1,h2⟩;simp;apply gw<;>intro a
 ·obtain⟨c,hc⟩:=aO (l:=s) (i:=i);simp[hc];refine ck (bK c.toNat 32 126) ?_;simp;apply gw<;>intro b
  ·simp at b;have hn:=fV hc (P:=BS) (by simp[BS];omega);simp;grind[isText]
  ·simp at b;simp;refine nxa (i+1) ⟨by omega,(bW hc h2 (by simp[BS];omega))⟩
 ·simp at a;have hf:=iX h2 a;simp;grind[isText]
def atI {s:Str}(h:isText s):s.all BS=true:=by simp only[isText,k_Bool_and_eq_true]at h;exact h.1
def adK (s:Str)(hs:Qle s:=by first|omega|grind):Fk 145 [dS s] (vB (kS s)):=by
 refine fE [] ntmps145 fun _ _=> ?_;simp;refine ck (agE _) ?_;simp;apply gv<;>intro e
 ·have e':=e;simp[e];refine ck (OO s hs (atI e)) ?_;simp;simp[kS,e]
 ·have e':=e;simp[e];simp[kS,e]
def MU (s:Str)(hs:Qle s):Fk 144 [dS s] (vB (!kS s)):=by
 refine fE [] ntmps144 fun _ _=> ?_;simp;refine ck (adK _) ?_;simp
def as9 (l:List Str)(hl:Qle l)(hs:∀f∈l,ab2 f):Fk 215 [mH l,.one (.func (.func 144) #[] #[])] (vI (ix (fun f=> !kS f) l)):=by
 refine fE [] ntmps215 fun _ _=> ?_;simp;refine wlt Nat (fun i=>([(0,vT l),(1,.val (.one (.func (.func 144) #[] #[]))),(7,vI l.length),(8,vI i)],l.length-i,(i<=l.length)/\((l.take i).any (fun f=> !kS f)=false))) (0) ⟨by omega,rfl⟩ ?_;rintro i ⟨h1,h2⟩;simp;apply gw<;>intro a
 ·obtain⟨c,hc⟩:=aO (l:=l) (i:=i);simp[hc];refine ck (MU c (hs c (aA hc))) ?_;simp;apply gw<;>intro b
  ·simp at b;have hn:=DZ hc h2 (by simp[b]);simp[hn]
  ·simp at b;simp;refine nxa (i+1) ⟨by omega,(kN hc h2 (by simp[b]))⟩
 ·simp at a;have hf:=pK h2 a;have hx:=sF hf;simp[hx]
def axY (l:List Str)(hl:Qle l)(hs:∀f∈l,ab2 f):Fk 143 [mH l,.one (.func (.func 144) #[] #[])] (vB (l.any fun f=> !kS f)):=by
 refine fE [] ntmps143 fun _ _=> ?_;have hq:decide (0<=ix (fun f=> !kS f) l)=l.any fun f=> !kS f:=by rw[bM,decide_eq_true_eq];exact jC
 simp;refine ck (as9 l hl hs) ?_;simp[hq]
def wU (r:Rec)(hs:zW r:=by first|omega|grind):Fk 69 [nV r] (vB (aV r)):=by
 refine fE [] ntmps69 fun _ _=> ?_;simp;refine ck (bK _ _ _) ?_;simp;apply gv<;>intro e
 ·have e':=e;simp at e';simp[e];simp[aV];omega
 ·have e':=e;simp at e';simp[e];refine ck (bK _ _ _) ?_;simp;apply gv<;>intro f
  ·have f':=f;simp at f';simp[f];simp[aV];omega
  ·have f':=f;simp at f';simp[f];refine ck (bK _ _ _) ?_;simp;apply gw<;>intro g
   ·simp at g;simp;simp[aV];omega
   ·simp at g;simp;apply gv<;>intro k
    ·have k':=k;simp[k];refine ck (axY r.fields hs.1 hs.2) ?_;simp;have h4:r.fields.length=4:=by omega
     all_goals(simp[aV,h4,e',f',g];rw[List.not_all_eq_any_not])
    ·have k':=k;simp[k];have h4:¬r.fields.length=4:=by omega
     all_goals simp[aV,h4]
def amZ {r:Rec}(h:aV r):inI .i64 (jQ r)/\inI .i64 (100*r.source):=by
 simp only[aV,inR,k_Bool_and_eq_true,decide_eq_true_eq]at h;simp only[inI,jQ];omega
def RF (r:Rec)(hs:zW r):Fk 338 [nV r] (vB (!aV r)):=by
 refine fE [] ntmps338 fun _ _=> ?_;simp;refine ck (wU _) ?_;simp
def as7 (l:List Rec)(hl:Qle l)(hs:∀r∈l,zW r):Fk 413 [uR l,.one (.func (.func 338) #[] #[])] (vI (ix (fun r=> !aV r) l)):=by
 refine fE [] ntmps413 fun _ _=> ?_;simp;refine wlt Nat (fun i=>([(0,vR l),(1,.val (.one (.func (.func 338) #[] #[]))),(7,vI l.length),(8,vI i)],l.length-i,(i<=l.length)/\((l.take i).any (fun r=> !aV r)=false))) (0) ⟨by omega,rfl⟩ ?_;rintro i ⟨h1,h2⟩;simp;apply gw<;>intro a
 ·obtain⟨c,hc⟩:=aO (l:=l) (i:=i);simp[hc];refine ck (RF c (hs c (aA hc))) ?_;simp;apply gw<;>intro b
  ·simp at b;have hn:=DZ hc h2 (by simp[b]);simp[hn]
  ·simp at b;simp;refine nxa (i+1) ⟨by omega,(kN hc h2 (by simp[b]))⟩
 ·simp at a;have hf:=pK h2 a;have hx:=sF hf;simp[hx]
def axX (l:List Rec)(hl:Qle l)(hs:∀r∈l,zW r):Fk 337 [uR l,.one (.func (.func 338) #[] #[])] (vB (l.any fun r=> !aV r)):=by
 refine fE [] ntmps337 fun _ _=> ?_;have hq:decide (0<=ix (fun r=> !aV r) l)=l.any fun r=> !aV r:=by rw[bM,decide_eq_true_eq];exact jC
 simp;refine ck (as7 l hl hs) ?_;simp[hq]
def I7 (l:List Rec)(hl:Qle l)(hs:∀r∈l,zW r):Fk 240 [uR l] (vB (l.all aV)):=by
 refine fE [] ntmps240 fun _ _=> ?_;simp;refine ck (axX l hl hs) ?_;have hn:=alJ aV l;simp[hn]
def Q9 (s:Sto)(hs:Qle s.recs)(hr:∀r∈s.recs,zW r)(hv:Qle s.vers):Fk 105 [XM s] (vB (iW s)):=by
 refine fE [] ntmps105 fun _ _=> ?_;simp;refine wlt Nat (fun i=>([(1,.own (.bx true (XM s))),(6,vR s.recs),(7,vI s.recs.length),(8,vI i)],(s.recs).length-i,(i<=(s.recs).length)/\((s.recs.take i).all aV=true)/\(adj (fun a b=>decide (jQ a<jQ b)) (s.recs.take i)=true))) (0) ⟨by omega,rfl,rfl⟩ ?_;rintro i ⟨h1,h2,h3⟩;simp;apply gw<;>intro a
 ·obtain⟨c,hc⟩:=aO (l:=s.recs) (i:=i);simp[hc];refine wdr ?_;simp;refine cd (wU c (hr c (aA hc))) ?_;simp;apply gv<;>intro e
  ·have e':=e;simp at e';have hn:=fV hc (P:=aV) (by simpa using e);simp[e];grind[iW]
  ·have e':=e;simp at e';simp[e];apply gv<;>intro f
   ·have f':=f;obtain⟨p,hp⟩:=aO (l:=s.recs) (i:=i-1);have hi1:i-1+1=i:=by omega
    have hvp:aV p:=aH.1 h2 p (by apply aA (i:=i-1);rw[bD,if_pos (by omega)];exact hp);have hk1:inR p.source 0 3=true/\inR p.key 1 99:=by simp only[aV,k_Bool_and_eq_true]at hvp;exact⟨hvp.1.1.1.2,hvp.1.1.2⟩
    have hk2:inR c.source 0 3=true/\inR c.key 1 99:=by simp only[aV,k_Bool_and_eq_true]at e';exact⟨e'.1.1.1.2,e'.1.1.2⟩
    simp[f,hp];iterate 2 refine ai ?_
    refine cd (yK p (amZ hvp).1 (amZ hvp).2) ?_;simp;refine cd (yK c (amZ e').1 (amZ e').2) ?_;simp;apply gw<;>intro b
    ·have hn:=LJ hp (by rw[hi1];exact hc) (R:=fun a b=>decide (jQ a<jQ b)) (by simp;omega);simp;grind[iW]
    ·simp at b;simp;refine nxa (i+1) ⟨by omega,(bW hc h2 (by simpa using e)),by have:=zX (i:=i-1) (by rw[hi1];exact h3) hp (by rw[hi1];exact hc) (by simp;omega);rwa [hi1]at this⟩
   ·have f':=f;simp at f';simp[f];refine nxa (i+1) ⟨by omega,(bW hc h2 (by simpa using e)),(by obtain rfl:i=0:=(by omega);exact wO)⟩
 ·simp at a;have hf:=iX h2 a;rw[bJ a]at h3;simp;refine ck (bK _ _ _) ?_;simp;apply gv<;>intro g1
  ·have g1':=g1;simp at g1';simp[g1];apply gv<;>intro g2
   ·have g2':=g2;simp[g2];refine ck (GV _) ?_;simp;grind[iW]
   ·have g2':=g2;simp at g2';simp[g2];grind[iW]
  ·have g1':=g1;simp at g1';simp[g1];grind[iW]
end Go.Proofs.YtebopbncplpdgaaGreatDoor
end
section
namespace Go.Proofs.YtebopbncplpdgaaGreatDoor
open Go.Dv Go.Pl Go.Proofs.Tryz
variable {o:L2}{k:Nat}
def ah5 (h:k<o.length):o[k]?=some (gat o k):=by
 obtain⟨r,hr⟩:=aO h;rw[CU hr];exact hr
variable {l:L1}{i:Nat}
def avE (h:aiP l i o)(k:Nat):(gat o k).length<=i:=by
 by_cases hk:k<o.length
 ·rw[h.row k hk,aQ];exact k_Nat_le_trans (aZ _ _) (by simp)
 ·simp[gat,hk]
def ajL (h:aiP l i o)(k:Nat):(gat (blkIn l i o) k).length<=i:=by
 unfold blkIn;split
 ·by_cases hk:k<o.length
  ·have:gat (o++[[]]) k=gat o k:=by simp[gat,mE,hk]
   rw[this];exact avE h k
  ·have:gat (o++[[]]) k=[]:=by
    by_cases h2:k=o.length
    ·subst h2;simp[gat]
    ·have:(o++[[]]).length<=k:=by simp;omega
     simp[gat,k_List_getElem__eq_none this]
   rw[this];simp
 ·exact avE h k
def BK (l:L1)(hs:Qle l)(hp:l.length=0\/gD l):Fk 177 [nInts l] (.own (nL (blocksP l))):=by
 refine fE [200001] ntmps177 fun _ _=> ?_;have hrg:RG l:=by rcases hp with h|h;(intro k hk;omega);exact(isPart_iff.1 h).1
 have hl8:l.length<=8:=by rcases hp with h|h;omega;exact(isPart_len h).2
 simp;refine wlt (Nat×L2) (fun(i,o)=>([(0,vN l),(3,.own (nL o)),(4,vI i)],l.length-i,(i<=l.length)/\(o=loopN i [] (pM l)))) ((0,[])) ⟨by omega,rfl⟩ ?_;rintro⟨i,o⟩ ⟨h1,h2⟩;simp;apply gv<;>intro a
 ·have a':=a;simp[a];refine ck (mR l) ?_;have hpp:gD l:=hp.resolve_left (by omega);have hI:=blocksI hrg h1;rw[←h2]at hI;have hst:=(hI.step hrg a).1;have hle:=hI.le hrg a;have hol:=hI.len;have hlen:=ajL hI (at1 l i).toNat;have hs:=aM i [] (pM l);rw[←h2]at hs;have hg:=aY a;simp[hpp];refine QJ (fun(_:Unit)=>[(0,vN l),(3,.own (nL (blkIn l i o))),(4,vI i)]) (fun(_:Unit)=>True) ?_ ?_
  ·simp[hg];apply gw<;>intro b
   ·have hb:blkIn l i o=o++[[]]:=if_pos b;simp;refine ai ?_;refine jn (()) trivial (h3:=by simp[hpp,hg,hb])
   ·have hb:blkIn l i o=o:=if_neg b;simp;refine jn (()) trivial (h3:=by simp[hpp,hg,hb])
  rintro⟨⟩ -
  have hbs:pM l i o=(blkIn l i o).set (at1 l i).toNat (gat (blkIn l i o) (at1 l i).toNat++[(i:Int)]):=rfl;have hr:=ah5 hst;have hr2:(blkIn l i o)[(at1 l i).toNat]=gat (blkIn l i o) (at1 l i).toNat:=by rw[aB hst]at hr;exact k_Option_some_inj hr
  generalize blkIn l i o=q at hst hbs hr hr2 hlen|-
  have hset:(q.map bV).set (at1 l i).toNat (D.sl (some 3) ((gat q (at1 l i).toNat).map dI++[D.one (.int .i64 (i:Int))]))=(pM l i o).map bV:=by rw[hbs,jB];simp[bV,dI]
  simp;refine wdh [0] [(13,[39,40]),(14,[38,40,41,3,27,32,37]),(16,[42,41,3,27,32,37,38])] [(0,vN l),(3,.own (nL q)),(4,vI i),(27,.al 3 [])] [] ?_;simp[hg,hst,hr2,hset];iterate 4 refine ai ?_
  refine nx (i+1,pM l i o) ⟨by omega,hs.symm⟩
 ·have a':=a;simp at a';obtain rfl:i=l.length:=by omega
  have hbl:blocksP l=o:=h2.symm;simp[a,hbl]
variable {n:Nat}{items:L1}
def apI (h:QN n items)(hi:i<items.length):0<=at1 items i/\at1 items i<n:=h.1 _ (aA (aY hi))
def aCH (h:QN n items)(hi:i<k)(hk:k<items.length):at1 items i<at1 items k:=by
 have h1:=aY (l:=items) (i:=i);have h2:=aY hk;have:=dR.1 h.2 i k (by omega) hk hi;rw[aB (by omega)]at h1 h2;rw[k_Option_some_inj h1,k_Option_some_inj h2]at this;exact this
def aiH (m:L2)(items:L1)(x:Int):L1:=items.map fun y=>at2 m x.toNat y.toNat
def IJ (m:L2)(items:L1)(x:Int)(k:Nat):L1:=(items.take k).map fun y=>at2 m x.toNat y.toNat
def anC (m:L2)(items:L1)(x:Int):IJ m items x 0=[]:=rfl
variable {m:L2}
def anB {x:Int}(h:k<items.length):IJ m items x (k+1)=IJ m items x k++[at2 m x.toNat (at1 items k).toNat]:=uI _ (aY h)
def arS (m:L2)(items:L1)(x:Int):IJ m items x items.length=aiH m items x:=by simp[IJ,aiH]
def DJ (m:L2)(items:L1)(i:Nat):L2:=(items.take i).map (aiH m items)
def anA (m:L2)(items:L1):DJ m items 0=[]:=rfl
def am9 (h:i<items.length):DJ m items (i+1)=DJ m items i++[aiH m items (at1 items i)]:=uI _ (aY h)
def arQ (m:L2)(items:L1):DJ m items items.length=kQ m items:=by simp[DJ,kQ,aiH]
def arR (m:L2)(items:L1)(i:Nat):(DJ m items i).length<=items.length:=by simp[DJ];omega
def arT (m:L2)(items:L1)(x:Int)(i:Nat):(IJ m items x i).length<=items.length:=by simp[IJ];omega
def ZM (m:L2)(items:L1)(hm:bR m)(hi:QN m.length items)(hl:items.length<=8):Fk 259 [cK m,nInts items] (.own (nL (kQ m items))):=by
 refine fE [200001] ntmps259 fun _ _=> ?_;have hml:=dM hm;have hz:=anA m items;have hz2:=anC m items;have hall:=arQ m items;have hall2:=arS m items;simp;refine ck (eT m) ?_;simp[hm];refine wl (fun(i:Nat)=>[(0,.val (cK m)),(1,vN items),(5,.own (nL (DJ m items i))),(6,vI i)]) (fun(i:Nat)=>items.length-i) (fun(i:Nat)=>(i<=items.length)) (0) (by omega) ?_ (h0:=by simp[hm,hz,hz2]);rintro i h1;simp;apply gw<;>intro a
 ·have hx:=apI hi a;have hg:=aY a;have hms:=am9 (m:=m) a;have hml2:=arR m items i;obtain⟨r,hr,hrl⟩:=ER hm (a:=(at1 items i).toNat) (by omega);simp;refine QJ (fun(_:Unit)=>[(0,.val (cK m)),(1,vN items),(5,.own (nL (DJ m items i))),(6,vI i)]) (fun(_:Unit)=>True) ?_ ?_
  ·have hx1:=hx.1;have hx2:at1 items i<=(m.length:Int)-1:=by omega
   simp;refine wdr ?_;simp[hg];refine ai ?_;refine cd (bH (at1 items i) _ _) ?_;simp[hx1,hx2];apply gv<;>intro e
   ·have e':=e;have hlt:=aCH hi (i:=i-1) (k:=i) (by omega) a;have hlt2:¬at1 items i<=at1 items (i-1):=by omega
    have hg1:=aY (l:=items) (i:=i-1);have hi1:((i:Int)-1).toNat=i-1:=by omega
    simp[hg,e,hg1,hlt2];iterate 2 refine ai ?_
    refine jn (()) trivial
   ·have e':=e;simp at e';simp[e];refine jn (()) trivial
  rintro⟨⟩ -
  simp;refine wl (fun(k:Nat)=>[(0,.val (cK m)),(1,vN items),(5,.own (nL (DJ m items i))),(6,vI i),(7,vS (IJ m items (at1 items i) k)),(8,vI k)]) (fun(k:Nat)=>items.length-k) (fun(k:Nat)=>(k<=items.length)) (0) (by omega) ?_ (h0:=by simp[hz,hz2]);rintro k h2;simp;apply gw<;>intro b
  ·have hy:=apI hi b;have hk:=aY b;have hks:=anB (m:=m) (x:=at1 items i) b;have hkl2:=arT m items (at1 items i) k;have hy1:=hy.1;have hy2:at1 items k<=(m.length:Int)-1:=by omega
   obtain⟨q,hq,hqk⟩:=lJ hm (i:=(at1 items i).toNat) (k:=(at1 items k).toNat);simp[hk];refine ai ?_;refine ck (bH (at1 items k) _ _) ?_;simp[hy1,hy2];refine wdf [(14,[76,77]),(15,[63,77,78,7]),(16,[78,7])] [(0,.val (cK m)),(1,vN items),(5,.own (nL (DJ m items i))),(6,vI i),(7,vS (IJ m items (at1 items i) k)),(8,vI k)] [] (by simp) ?_;simp[hg,hk,hy1,hq,hqk];refine nxd (k+1) (by first|omega|(simp;omega)|grind) (h3:=by simp[hz,hz2,hks,hks,hg,hk,hy1,hy2,hq,hqk])
  ·simp at b;obtain rfl:k=items.length:=by omega
   simp[hall2];refine nxb (i+1) (by first|omega|(simp;omega)|grind) (h3:=by simp[hz,hz2,hms,hall2])
 ·simp at a;obtain rfl:i=items.length:=by omega
  simp[hall]
variable {α:Type}
def last_at (l:List α)(a:α)(h:l.length=k):(l++[a])[k]?=some a:=by subst h;simp
def ap0 (l:List α)(a b:α)(h:l.length=k):(l++[a]).set k b=l++[b]:=by subst h;simp
def RI (l:L1)(hs:Qle l)(hp:l.length=0\/gD l):Fk 190 [nInts l] (.own (nL (blocksP l))):=by
 refine fE [] ntmps190 fun _ _=> ?_;have hrg:RG l:=by rcases hp with h|h;(intro k hk;omega);exact(isPart_iff.1 h).1
 have hl8:l.length<=8:=by rcases hp with h|h;omega;exact(isPart_len h).2
 simp;refine wlt (Nat×L2) (fun(i,o)=>([(3,.own (nL o)),(6,vN l),(7,vI l.length),(8,vI i)],l.length-i,(i<=l.length)/\(o=loopN i [] (pM l)))) ((0,[])) ⟨by omega,rfl⟩ ?_;rintro⟨i,o⟩ ⟨h1,h2⟩;simp;apply gw<;>intro a
 ·have hI:=blocksI hrg h1;rw[←h2]at hI;have hst:=(hI.step hrg a).1;have hle:=hI.le hrg a;have hol:=hI.len;have hlen:=ajL hI (at1 l i).toNat;have hs:=aM i [] (pM l);rw[←h2]at hs;have hg:=aY a;have hbs:pM l i o=(blkIn l i o).set (at1 l i).toNat (gat (blkIn l i o) (at1 l i).toNat++[(i:Int)]):=rfl;simp[hg];apply gw<;>intro b
  ·have hb:blkIn l i o=o++[[]]:=if_pos b;rw[hb]at hbs;have hbn:(at1 l i).toNat=o.length:=by omega
   have hq:=last_at (o.map bV) (D.sl none []) (k:=o.length) (by simp);have hq2:=ap0 (o.map bV) (D.sl none []) (D.any 1) (k:=o.length) (by simp);have hq3:=last_at (o.map bV) (D.any 1) (k:=o.length) (by simp);have hq4:=ap0 (o.map bV) (D.any 1) (D.sl (some 3) [D.one (.int .i64 (i:Int))]) (k:=o.length) (by simp);have hgl:gat (o++[[]]) o.length=[]:=by simp[gat]
   have hnew:pM l i o=o++[[(i:Int)]]:=by rw[hbs,hbn,hgl];simp
   simp[b];refine nxb (i+1,pM l i o) ⟨by omega,hs.symm⟩ (h3:=by simp[hg,b,hq,hq2,hq3,hq4,hnew])
  ·have hb:blkIn l i o=o:=if_neg b;rw[hb]at hbs hst hlen;have hr:=ah5 hst;have hr2:o[(at1 l i).toNat]=gat o (at1 l i).toNat:=by rw[aB hst]at hr;exact k_Option_some_inj hr
   have hset:(o.map bV).set (at1 l i).toNat (D.sl (some 3) ((gat o (at1 l i).toNat).map dI++[D.one (.int .i64 (i:Int))]))=(pM l i o).map bV:=by rw[hbs,jB];simp[bV,dI]
   have ha0:=hle.1;simp[hst,hr2,ha0,hset];refine nxb (i+1,pM l i o) ⟨by omega,hs.symm⟩
 ·simp at a;obtain rfl:i=l.length:=by omega
  have hbl:blocksP l=o:=h2.symm;simp[hbl]
def Z4 (l:L1)(x:Int):ix (fun y=>decide (x=y)) l=place l x:=by
 unfold place;congr 1;funext y;simp[eq_comm]
def HZ (l:List Con)(items:L1)(hl:Qle l)(hi:Qle items):Fk 287 [jO l,nInts items] (wG (iK l items)):=by
 refine fE [] ntmps287 fun _ _=> ?_;simp;refine wlt (Nat×List Con) (fun(i,o)=>([(1,vN items),(5,wG o),(10,vE l),(11,vI l.length),(12,vI i)],l.length-i,(i<=l.length)/\(o=(l.take i).filterMap (BG items))/\(o.length<=i))) ((0,[])) ⟨by omega,by simp,by simp⟩ ?_;rintro⟨i,o⟩ ⟨h1,h2,h3⟩;simp;apply gw<;>intro a
 ·obtain⟨c,hc⟩:=aO (l:=l) (i:=i);have hm:=lV (BG items) hc;rw[←h2]at hm;have e1:=Z4 items c.a;have e2:=Z4 items c.b;have b1:=apJ (fun y=>decide (y=c.a)) items;have b2:=apJ (fun y=>decide (y=c.b)) items;simp[hc];refine wdt 8 ?_;simp;refine cd (jN items c.a) ?_;simp;refine cd (jN items c.b) ?_;simp[e1,e2];apply gv<;>intro e
  ·have e':=e;simp[e];apply gw<;>intro f
   ·have hr:BG items c=some ⟨place items c.a,place items c.b,c.same⟩:=if_pos ⟨e,f⟩;rw[hr]at hm;simp;refine nxb (i+1,o++[⟨place items c.a,place items c.b,c.same⟩]) ⟨by omega,by rw[hm];rfl,by simp;omega⟩
   ·simp at f;have hr:BG items c=none:=if_neg (by omega);rw[hr]at hm;simp;refine nxa (i+1,o) ⟨by omega,by rw[hm];simp,by omega⟩
  ·have e':=e;simp at e';have hr:BG items c=none:=if_neg (by omega);rw[hr]at hm;simp[e];refine nxa (i+1,o) ⟨by omega,by rw[hm];simp,by omega⟩
 ·simp at a;rw[bJ a]at h2;have hfin:iK l items=o:=h2.symm;simp[hfin]
def am8 (m:L2)(items:L1)(i k:Nat):Int:=at2 m (at1 items i).toNat (at1 items k).toNat
def YU (m:L2)(items:L1)(hm:bR m)(hs:QN m.length items)(hl:Qle items):Fk 286 [cK m,nInts items] (.own (nL (kQ m items))):=by
 refine fE [] ntmps286 fun _ _=> ?_;have hz:List.replicate items.length (bV (List.replicate items.length 0))=(zeros items.length).map bV:=by simp[zeros]
 simp;refine ck (tT items.length) ?_;simp[hz];refine wlt (Nat×L2) (fun(i,q)=>([(0,.val (cK m)),(1,vN items),(5,.own (nL q)),(13,vN items),(14,vI items.length),(15,vI i)],items.length-i,(i<=items.length)/\(q=loopN i (zeros items.length) (YN items.length (am8 m items)))/\(sq2 items.length q))) ((0,zeros items.length)) ⟨by omega,rfl,(qL _)⟩ ?_ (h0:=by simp[hz]);rintro⟨i,q⟩ ⟨h1,h2,h3⟩;simp;apply gw<;>intro a
 ·have hs1:=aM i (zeros items.length) (YN items.length (am8 m items));rw[←h2]at hs1;have gi:=aY (l:=items) (i:=i);have si:=hs.1 _ (aA gi);simp[gi];refine wlt (Nat×L2) (fun(k,w)=>([(0,.val (cK m)),(1,vN items),(5,.own (nL w)),(6,vI i),(7,vI (at1 items i)),(13,vN items),(14,vI items.length),(15,vI i),(20,vN items),(21,vI items.length),(22,vI k)],items.length-k,(k<=items.length)/\(w=loopN k q (OC (am8 m items) i))/\(sq2 items.length w))) ((0,q)) ⟨by omega,rfl,h3⟩ ?_;rintro⟨k,w⟩ ⟨h4,h5,h6⟩;simp;apply gw<;>intro b
  ·have hs2:=aM k q (OC (am8 m items) i);rw[←h5]at hs2;have gk:=aY (l:=items) (i:=k);have sk:=hs.1 _ (aA gk);have hrw:=(tJ h6 (i:=i)).1;have hgw:=O6 h6 (i:=i) (k:=k);obtain⟨r,hr,hv⟩:=lJ hm (i:=(at1 items i).toNat) (k:=(at1 items k).toNat);have hv2:r[(at1 items k).toNat]?=some (am8 m items i k):=hv;have hset:(w.map bV).set i (D.sl (some 3) (((gat w i).map dI).set k (dI (am8 m items i k))))=(OC (am8 m items) i k w).map bV:=NH w i k (am8 m items i k);have p1:=si.1;have p2:=sk.1;simp[gk];refine wdt 13 ?_;simp[hrw,hgw,hr,hv2,hset,p1,p2];refine nxa (k+1,OC (am8 m items) i k w) ⟨by omega,hs2.symm,(yS h6 (by omega) _)⟩
  ·simp at b;obtain rfl:k=items.length:=by omega
   simp;refine nxa (i+1,w) ⟨by omega,by rw[hs1,h5];rfl,h6⟩
 ·simp at a;obtain rfl:i=items.length:=by omega
  have hfin:kQ m items=q:=by rw[←aEZ,h2];rfl
  simp[hfin]
end Go.Proofs.YtebopbncplpdgaaGreatDoor
end
section
namespace Go
def rQ:= @Int.eq_ofNat_of_zero_le
end Go
end
section
namespace Go.Proofs.YtebopbncplpdgaaGreatDoor
open Go.Dv Go.Pl Go.RowKit Go.Proofs.Tryz
abbrev aoH (t:Tri):D:= .agg [.agg [dI t.a,dI t.b],.agg [dI t.a,dI t.c],.agg [dI t.b,dI t.c]]
structure MF (n:Nat) (t:Tri):Prop where
 a:0<=t.a
 b:t.a<t.b
 c:t.b<t.c
 n:t.c<(n:Int)
def aeX {t:Tri}{n i:Nat}(h:MF n t)(hi:i<3):∃x y:Nat,x<n/\y<n/\[D.agg [dI t.a,dI t.b],D.agg [dI t.a,dI t.c],D.agg [dI t.b,dI t.c]][i]?=some (D.agg [dI x,dI y]):=by
 obtain⟨h1,h2,h3,h4⟩:=h;obtain⟨a,ha⟩:=rQ h1;obtain⟨b,hb⟩:=rQ (show 0<=t.b by omega);obtain⟨c,hc⟩:=rQ (show 0<=t.c by omega);rw[ha,hb,hc];have:i=0\/i=1\/i=2:=by omega
 rcases this with rfl|rfl|rfl
 ·exact⟨a,b,by omega,by omega,rfl⟩
 ·exact⟨a,c,by omega,by omega,rfl⟩
 ·exact⟨b,c,by omega,by omega,rfl⟩
def aIK (a b c d:Int)(w:World):Calls prog 378 #[.agg #[.int .i64 a,.int .i64 b,.int .i64 c,.int .i64 d]] w fun e w'=>e= .returned (.agg #[.int .i64 a,.int .i64 b,.int .i64 a,.int .i64 c,.int .i64 b,.int .i64 c])/\Below w.heap.size w w':=by
 go_enter func378,ntmps378
 go_wp2
 refine bodyPost_ret (v:= .agg #[.int .i64 a,.int .i64 b,.int .i64 a,.int .i64 c,.int .i64 b,.int .i64 c]) ?_ rfl ⟨rfl,((Below.refl _ w).alloc (k_Nat_le_refl _) _).alloc (by simp) _⟩;have z:=Tryz.sizeOf229;have g:=Tryz.isAgg229;simp[results,Tryz.f378,loadVar,asAddr]
 go_simp
def H6 (t:Tri):fA prog 378 [aoI t] (fun r=>r= .val (aoH t)):=by
 intro w ow vs tt ht hL hnew hvs hargs;have h0:=hargs 0 _ rfl
 have hv:vs= #[.agg #[.int .i64 t.a,.int .i64 t.b,.int .i64 t.c,.int .i64 t.w]]:=by
  simp only[D.fz,D.fzs,V]at h0;obtain⟨cs,h1,h2⟩:=h0;have h3:=R.KO (cs':=[.int .i64 t.a,.int .i64 t.b,.int .i64 t.c,.int .i64 t.w]) rfl h2;apply Array.ext
  ·simpa using hvs
  ·intro i h4 h5;obtain rfl:i=0:=by simpa using h5
   simp[aF,h4]at h1;simp[h1];apply bU.1;exact h3
 subst hv;refine(aIK t.a t.b t.c t.w w).mono ?_;rintro e w' ⟨rfl,hB⟩;refine⟨_,fun b=>if b<w.heap.size then ow b else none,_,rfl,rfl,⟨hB.os,hB.tape,hB.output,hB.size,fun b hb=>⟨hB.block b hb,if_pos hb⟩,fun b hb=>if_neg (by have:=hB.size;omega)⟩,rfl,fun s a=> ?_⟩;exact⟨_,rfl,R.flat rfl⟩
def agT (t:Tri)(m:L2)(hm:bR m)(ht:MF m.length t):fA prog 446 [aoI t,cK m] (fun r=>∃b:Bool,r=vB b):=by
 refine fE [] ntmps446 fun _ _=> ?_;simp;refine ck (H6 t) ?_;simp;refine wlt (Nat×Int×Int) (fun(i,p,q)=>([(1,.val (cK m)),(5,vI p),(6,vI q),(11,.val (aoH t)),(12,vI i)],3-i,(i<=3)/\(0<=p/\p<=i)/\(0<=q/\q<=i))) ((0,0,0)) ⟨by omega,by omega,by omega⟩ ?_;rintro⟨i,p,q⟩ ⟨h1,h2,h3⟩;simp;apply gw<;>intro a
 ·obtain⟨x,y,hx,hy,hp⟩:=aeX ht (show i<3 by omega);obtain⟨r,hr,hw⟩:=lJ hm hx hy;simp[hp];refine ai ?_;refine wdt 9 ?_;simp[hr,hw];apply gw<;>intro b
  ·simp;refine nxb (i+1,p+1,q) ⟨(by first|omega|(simp;omega)|grind),(by first|omega|(simp;omega)|grind),(by first|omega|(simp;omega)|grind)⟩
  ·simp at b;simp;apply gw<;>intro c
   ·simp;refine nxb (i+1,p,q+1) ⟨(by first|omega|(simp;omega)|grind),(by first|omega|(simp;omega)|grind),(by first|omega|(simp;omega)|grind)⟩
   ·simp at c;simp;refine nxa (i+1,p,q) ⟨(by first|omega|(simp;omega)|grind),(by first|omega|(simp;omega)|grind),(by first|omega|(simp;omega)|grind)⟩
 ·simp at a;simp;apply gv<;>intro g1
  ·have g1':=g1;simp[g1]
  ·have g1':=g1;simp[g1]
def ax6 (t:Tri)(n:Nat)(hn:n<=1048576):fA prog 487 [aoI t,dI n] (fun r=>∃b:Bool,r=vB b):=by
 refine fE [] ntmps487 fun _ _=> ?_;simp;refine ck (nY t.a n) ?_;simp;apply gv<;>intro e
 ·have e':=e;simp at e';simp[e];refine ck (nY t.b n) ?_;simp;apply gv<;>intro f
  ·have f':=f;simp at f';simp[f];refine ck (nY t.c n) ?_;simp;apply gv<;>intro g
   ·have g':=g;simp at g';simp[g];apply gv<;>intro h
    ·have h':=h;simp[h]
    ·have h':=h;simp at h';simp[h]
   ·have g':=g;simp at g';simp[g]
  ·have f':=f;simp at f';simp[f]
 ·have e':=e;simp at e';simp[e]
end Go.Proofs.YtebopbncplpdgaaGreatDoor
end
