/- Lemmas and walks that the law leans on, part V1. No condition. -/
import Derived.WalkKit
import Derived.ProofKit
import Derived.Below
import Derived.IntWalk
import Derived.Deep.MidRow
import Derived.Laws.CopyRow
import Derived.Great.BuildSlice
import Derived.Laws.MakeOwn
import Derived.Laws.AppendOwn
import Derived.Laws.OwnMore
set_option linter.unusedVariables false
set_option linter.defProp false
set_option linter.unusedSimpArgs false
set_option linter.unusedSectionVars false
set_option maxRecDepth 10000
set_option maxHeartbeats 1000000
namespace Go
abbrev L1:=List Int
abbrev L2:=List (List Int)
end Go
abbrev Qle{α:Type}(l:List α):Prop:=l.length<=1048576
section
namespace Go
def bO:= @Array.getElem?_eq_some_iff
def k_List_mem_append:= @List.mem_append
end Go
end
section
namespace Go.Dv
open Go.RowKit
inductive D where
 |one (v:Value)
 |sl (o:Option TypeId) (xs:List D)
 |agg (xs:List D)
 |bx (o:Bool) (x:D)
 |any (n:Nat)
mutual
def D.w:D->Nat
 | .one _=>1
 | .sl _ _=>1
 | .agg xs=>D.ws xs
 | .bx _ _=>1
 | .any n=>n
def D.ws:List D->Nat
 |[]=>0
 |x::xs=>x.w+D.ws xs
end
def alH (fz:Nat×Nat)(n:Nat):Prop:=∀j,j<n->¬(fz.1<=j/\j<fz.2)
def unfz0 (n:Nat):alH (0,0) n:=fun j _ h=>absurd h.2 (by simp)
abbrev Own:=Nat->Option (List Nat)
mutual
def R (P:Program)(w:World)(ow:Own):D->List Nat->List Value->Prop
 | .one v,_,cs=>cs=[v]/\v.oneCell'=true
 | .sl o xs,l,cs=>∃a cap,cs=[.slice a xs.length cap]/\xs.length<=cap/\cap<=maxLen/\
   ((a=none/\xs=[]/\cap=0)\/(o=none/\xs=[])\/
    ∃b off s C e fz,a=some ⟨b,off,none⟩/\w.heap[b]?=some (.cells C e fz)/\(o=none->ow b=none)/\
     (∀t,o=some t->ow b=some l/\t=e/\alH fz C.size/\off=0/\C.size=cap*s/\∃i,P.info? t=some i/\i.size=s)/\Rs P w ow xs l 0 C off s)
 | .agg xs,l,cs=>Ra P w ow xs l 0 cs
 | .bx o x,l,cs=>∃b off C e fz cs',cs=[.pointer (some ⟨b,off,none⟩)]/\w.heap[b]?=some (.cells C e fz)/\(o=false->ow b=none)/\
   (o=true->ow b=some l/\alH fz C.size/\off=0/\C.size=x.w)/\cs'.length=x.w/\(∀j,j<cs'.length->C[off+j]?=cs'[j]?)/\R P w ow x (0::l) cs'
 | .any n,_,cs=>cs.length=n/\∀v∈cs,v.oneCell'=true
def Rs (P:Program)(w:World)(ow:Own):List D->List Nat->Nat->Array Value->Nat->Nat->Prop
 |[],_,_,_,_,_=>True
 |x::xs,l,i,C,off,s=>∃cs,x.w=s/\cs.length=s/\(∀j,j<s->C[off+j]?=cs[j]?)/\R P w ow x (i::l) cs/\Rs P w ow xs l (i+1) C (off+s) s
def Ra (P:Program)(w:World)(ow:Own):List D->List Nat->Nat->List Value->Prop
 |[],_,_,cs=>cs=[]
 |x::xs,l,i,cs=>∃c1 c2,cs=c1++c2/\c1.length=x.w/\R P w ow x (i::l) c1/\Ra P w ow xs l (i+1) c2
end
mutual
def R.len {P:Program}{w:World}{ow:Own}:∀{d:D}{l:List Nat}{cs:List Value},R P w ow d l cs->cs.length=d.w
 | .one v,l,cs,h=>by simp only[R]at h;simp[h.1,D.w]
 | .sl o xs,l,cs,h=>by simp only[R]at h;obtain⟨a,cap,rfl,_⟩:=h;simp[D.w]
 | .agg xs,l,cs,h=>by simp only[R]at h;simpa[D.w]using Ra.len h
 | .bx o x,l,cs,h=>by simp only[R]at h;obtain⟨b,off,C,e,fz,cs',rfl,_⟩:=h;simp[D.w]
 | .any n,l,cs,h=>by simp only[R]at h;simpa only[D.w]using h.1
def Ra.len {P:Program}{w:World}{ow:Own}:∀{xs:List D}{l:List Nat}{i:Nat}{cs:List Value},Ra P w ow xs l i cs->cs.length=D.ws xs
 |[],l,i,cs,h=>by simp only[Ra]at h;simp[h,D.ws]
 |x::xs,l,i,cs,h=>by
  simp only[Ra]at h;obtain⟨c1,c2,rfl,h1,_,h3⟩:=h;simp[D.ws,h1,Ra.len h3]
end
mutual
def R.QW {P:Program}{w:World}{ow:Own}:∀{d:D}{l:List Nat}{cs:List Value},R P w ow d l cs->∀v∈cs,v.oneCell'=true
 | .one v,l,cs,h=>by simp only[R]at h;obtain⟨rfl,h⟩:=h;simpa using h
 | .sl o xs,l,cs,h=>by simp only[R]at h;obtain⟨a,cap,rfl,_⟩:=h;simp[Value.oneCell']
 | .agg xs,l,cs,h=>by simp only[R]at h;exact Ra.QW h
 | .bx o x,l,cs,h=>by simp only[R]at h;obtain⟨b,off,C,e,fz,cs',rfl,_⟩:=h;simp[Value.oneCell']
 | .any n,l,cs,h=>by simp only[R]at h;exact h.2
def Ra.QW {P:Program}{w:World}{ow:Own}:∀{xs:List D}{l:List Nat}{i:Nat}{cs:List Value},Ra P w ow xs l i cs->∀v∈cs,v.oneCell'=true
 |[],l,i,cs,h=>by simp only[Ra]at h;simp[h]
 |x::xs,l,i,cs,h=>by
  simp only[Ra]at h;obtain⟨c1,c2,rfl,h1,h2,h3⟩:=h;intro v hv;rcases k_List_mem_append.1 hv with hv|hv
  ·exact R.QW h2 v hv
  ·exact Ra.QW h3 v hv
end
def Keeps (w:World)(ow:Own)(l:List Nat)(w':World)(ow':Own)(l2:List Nat):Prop:=
 ∀b,b<w.heap.size->(ow b=none->w'.heap[b]?=w.heap[b]?/\ow' b=none)/\(∀q,ow b=some (q++l)->w'.heap[b]?=w.heap[b]?/\ow' b=some (q++l2))
variable {ow:Own}{l:List Nat}{ow':Own}
def Keeps.child {w:World}{w':World}{l2:List Nat}(h:Keeps w ow l w' ow' l2)(i:Nat):Keeps w ow (i::l) w' ow' (i::l2):=by
 intro b hb;refine⟨(h b hb).1,fun q hq=> ?_⟩;have:=(h b hb).2 (q++[i]) (by simpa using hq);simpa using this
def lt_of_heap {w:World}{b:Nat}{o:Obj}(h:w.heap[b]?=some o):b<w.heap.size:=(bO.1 h).1
mutual
def R.tr {P:Program}{w w':World}{ow ow':Own}:∀{d:D}{l l2:List Nat}{cs:List Value},Keeps w ow l w' ow' l2->R P w ow d l cs->R P w' ow' d l2 cs
 | .one v,l,l2,cs,_,h=>by simpa only[R]using h
 | .sl o xs,l,l2,cs,hk,h=>by
  simp only[R]at h|-
  obtain⟨a,cap,h1,h2,h3,h4⟩:=h;refine⟨a,cap,h1,h2,h3,?_⟩;rcases h4 with h4|h4|⟨b,off,s,C,e,fz,ha,hh,hn,hs,hr⟩
  ·exact .inl h4
  ·exact .inr (.inl h4)
  ·refine .inr (.inr ⟨b,off,s,C,e,fz,ha,?_,?_,?_,Rs.tr hk hr⟩)
   ·cases o with
    |none=>rw[((hk b (lt_of_heap hh)).1 (hn rfl)).1];exact hh
    |some t=>rw[((hk b (lt_of_heap hh)).2 [] (hs t rfl).1).1];exact hh
   ·exact fun ho=>((hk b (lt_of_heap hh)).1 (hn ho)).2
   ·exact fun t ht=>⟨by simpa using((hk b (lt_of_heap hh)).2 [] (hs t ht).1).2,(hs t ht).2⟩
 | .agg xs,l,l2,cs,hk,h=>by simp only[R]at h|-;exact Ra.tr hk h
 | .bx o x,l,l2,cs,hk,h=>by
  simp only[R]at h|-
  obtain⟨b,off,C,e,fz,cs',h1,hh,hn,hs,hl,hc,hr⟩:=h;refine⟨b,off,C,e,fz,cs',h1,?_,?_,?_,hl,hc,R.tr (hk.child 0) hr⟩
  ·cases o with
   |false=>rw[((hk b (lt_of_heap hh)).1 (hn rfl)).1];exact hh
   |true=>rw[((hk b (lt_of_heap hh)).2 [] (hs rfl).1).1];exact hh
  ·exact fun ho=>((hk b (lt_of_heap hh)).1 (hn ho)).2
  ·exact fun ho=>⟨by simpa using((hk b (lt_of_heap hh)).2 [] (hs ho).1).2,(hs ho).2⟩
 | .any n,l,l2,cs,_,h=>by simpa only[R]using h
def Rs.tr {P:Program}{w w':World}{ow ow':Own}:∀{xs:List D}{l l2:List Nat}{i:Nat}{C:Array Value}{off s:Nat},Keeps w ow l w' ow' l2->Rs P w ow xs l i C off s->Rs P w' ow' xs l2 i C off s
 |[],_,_,_,_,_,_,_,_=>by simp only[Rs]
 |x::xs,l,l2,i,C,off,s,hk,h=>by
  simp only[Rs]at h|-
  obtain⟨cs,h1,h2,h3,h4,h5⟩:=h;exact⟨cs,h1,h2,h3,R.tr (hk.child i) h4,Rs.tr hk h5⟩
def Ra.tr {P:Program}{w w':World}{ow ow':Own}:∀{xs:List D}{l l2:List Nat}{i:Nat}{cs:List Value},Keeps w ow l w' ow' l2->Ra P w ow xs l i cs->Ra P w' ow' xs l2 i cs
 |[],_,_,_,_,_,h=>by simpa only[Ra]using h
 |x::xs,l,l2,i,cs,hk,h=>by
  simp only[Ra]at h|-
  obtain⟨c1,c2,h1,h2,h3,h4⟩:=h;exact⟨c1,c2,h1,h2,R.tr (hk.child i) h3,Ra.tr hk h4⟩
end
mutual
def D.fz:D->D
 | .one v=> .one v
 | .sl _ xs=> .sl none (D.fzs xs)
 | .agg xs=> .agg (D.fzs xs)
 | .bx _ x=> .bx false x.fz
 | .any n=> .any n
def D.fzs:List D->List D
 |[]=>[]
 |x::xs=>x.fz::D.fzs xs
end
mutual
def D.amA:∀d:D,d.fz.w=d.w
 | .one v=>rfl
 | .sl _ xs=>rfl
 | .agg xs=>by simp only[D.fz,D.w];exact D.atF xs
 | .bx _ x=>rfl
 | .any n=>rfl
def D.atF:∀xs:List D,D.ws (D.fzs xs)=D.ws xs
 |[]=>rfl
 |x::xs=>by simp only[D.fzs,D.ws,D.amA x,D.atF xs]
end
def D.jS:∀xs:List D,D.fzs xs=xs.map D.fz
 |[]=>rfl
 |x::xs=>by simp[D.fzs,D.jS xs]
def QK (w:World)(ow:Own)(l:List Nat)(ow':Own):Prop:=
 ∀b,b<w.heap.size->(ow b=none->ow' b=none)/\(∀q,ow b=some (q++l)->ow' b=none)
def QK.child {w:World}(h:QK w ow l ow')(i:Nat):QK w ow (i::l) ow':=by
 intro b hb;refine⟨(h b hb).1,fun q hq=> ?_⟩;exact(h b hb).2 (q++[i]) (by simpa using hq)
def QK.none (w:World)(ow:Own)(l:List Nat):QK w ow l (fun _=>none):=fun _ _=>⟨fun _=>rfl,fun _ _=>rfl⟩
mutual
def R.fz {P:Program}{w:World}{ow ow':Own}:∀{d:D}{l l2:List Nat}{cs:List Value},QK w ow l ow'->R P w ow d l cs->R P w ow' d.fz l2 cs
 | .one v,l,l2,cs,_,h=>by simpa only[R,D.fz]using h
 | .sl o xs,l,l2,cs,hk,h=>by
  simp only[R,D.fz]at h|-
  obtain⟨a,cap,h1,h2,h3,h4⟩:=h;have hl:(D.fzs xs).length=xs.length:=by rw[D.jS];simp
  refine⟨a,cap,by rw[hl];exact h1,by rw[hl];exact h2,h3,?_⟩;rcases h4 with⟨h4,h5,h6⟩|⟨h4,h5⟩|⟨b,off,s,C,e,fz,ha,hh,hn,hs,hr⟩
  ·exact .inl ⟨h4,by rw[h5];rfl,h6⟩
  ·exact .inr (.inl ⟨trivial,by rw[h5];rfl⟩)
  ·refine .inr (.inr ⟨b,off,s,C,e,fz,ha,hh,?_,?_,Rs.fz hk hr⟩)
   ·intro _;cases o with
    |none=>exact(hk b (lt_of_heap hh)).1 (hn rfl)
    |some t=>exact(hk b (lt_of_heap hh)).2 [] (hs t rfl).1
   ·intro t ht;cases ht
 | .agg xs,l,l2,cs,hk,h=>by simp only[R,D.fz]at h|-;exact Ra.fz hk h
 | .bx o x,l,l2,cs,hk,h=>by
  simp only[R,D.fz]at h|-
  obtain⟨b,off,C,e,fz,cs',h1,hh,hn,hs,hl,hc,hr⟩:=h;refine⟨b,off,C,e,fz,cs',h1,hh,?_,?_,by rw[D.amA];exact hl,hc,R.fz (hk.child 0) hr⟩
  ·intro _;cases o with
   |false=>exact(hk b (lt_of_heap hh)).1 (hn rfl)
   |true=>exact(hk b (lt_of_heap hh)).2 [] (hs rfl).1
  ·intro ho;cases ho
 | .any n,l,l2,cs,_,h=>by simpa only[R,D.fz]using h
def Rs.fz {P:Program}{w:World}{ow ow':Own}:∀{xs:List D}{l l2:List Nat}{i:Nat}{C:Array Value}{off s:Nat},QK w ow l ow'->Rs P w ow xs l i C off s->Rs P w ow' (D.fzs xs) l2 i C off s
 |[],_,_,_,_,_,_,_,_=>by simp only[Rs,D.fzs]
 |x::xs,l,l2,i,C,off,s,hk,h=>by
  simp only[Rs,D.fzs]at h|-
  obtain⟨cs,h1,h2,h3,h4,h5⟩:=h;exact⟨cs,by rw[D.amA];exact h1,h2,h3,R.fz (hk.child i) h4,Rs.fz hk h5⟩
def Ra.fz {P:Program}{w:World}{ow ow':Own}:∀{xs:List D}{l l2:List Nat}{i:Nat}{cs:List Value},QK w ow l ow'->Ra P w ow xs l i cs->Ra P w ow' (D.fzs xs) l2 i cs
 |[],_,_,_,_,_,h=>by simpa only[Ra,D.fzs]using h
 |x::xs,l,l2,i,cs,hk,h=>by
  simp only[Ra,D.fzs]at h|-
  obtain⟨c1,c2,h1,h2,h3,h4⟩:=h;exact⟨c1,c2,h1,by rw[D.amA];exact h2,R.fz (hk.child i) h3,Ra.fz hk h4⟩
end
end Go.Dv
end
section
namespace Go
def qY:= @List.append_cancel_right
def bA:= @List.getElem?_append_left
def aN:= @List.getElem?_append_right
def eP:= @List.length_eq_one_iff
def jG:= @List.take_succ_cons
def oW:= @Nat.add_assoc
def k_Nat_add_mul:= @Nat.add_mul
def aL:= @Option.map_eq_some_iff
end Go
end
section
namespace Go.Dv
open Go.RowKit
def gZ (P:Program)(w:World)(ow:Own)(d:D)(l:List Nat)(b off:Nat):Prop:=
 ∃C e fz cs,w.heap[b]?=some (.cells C e fz)/\(∀j,j<d.w->C[off+j]?=cs[j]?)/\R P w ow d l cs
variable {P:Program}{ow:Own}{C:Array Value}{b:Nat}{e:TypeId}
def Rs.iff {w:World}{s:Nat}{fz:Nat×Nat}(hb:w.heap[b]?=some (.cells C e fz)):
  ∀{xs:List D}{l:List Nat}{i off:Nat},Rs P w ow xs l i C off s↔∀j x,xs[j]?=some x->x.w=s/\gZ P w ow x ((i+j)::l) b (off+j*s)
 |[],l,i,off=>by simp[Rs]
 |x::xs,l,i,off=>by
  simp only[Rs];constructor
  ·rintro⟨cs,h1,h2,h3,h4,h5⟩ j y hj;cases j with
   |zero=>
    simp at hj;subst hj;exact⟨h1,C,e,fz,cs,hb,by rw[h1];simpa using h3,by simpa using h4⟩
   |succ j=>
    have:=(Rs.iff hb).1 h5 j y (by simpa using hj);rw[show i+1+j=i+(j+1)from by omega,show off+s+j*s=off+(j+1)*s from by rw[k_Nat_add_mul];omega]at this;exact this
  ·intro h;obtain⟨h1,C',e',fz',cs,hb',h3,h4⟩:=h 0 x (by simp);rw[hb]at hb';obtain⟨rfl,rfl,rfl⟩:C=C'/\e=e'/\fz=fz':=by simpa using hb'
   have hl:=h4.len;refine⟨cs,h1,by rw[hl,h1],by rw[h1]at h3;simpa using h3,by simpa using h4,(Rs.iff hb).2 fun j y hj=> ?_⟩;have:=h (j+1) y (by simpa using hj);rw[show i+1+j=i+(j+1)from by omega,show off+s+j*s=off+(j+1)*s from by rw[k_Nat_add_mul];omega];exact this
def ae3:∀(xs:List D) (j:Nat) (x:D),xs[j]?=some x->D.ws (xs.take j)+x.w<=D.ws xs
 |[],j,x,h=>by simp at h
 |y::xs,0,x,h=>by simp at h;subst h;simp[D.ws]
 |y::xs,j+1,x,h=>by
  have:=ae3 xs j x (by simpa using h);simp[D.ws];omega
def Ra.iff {P:Program}{w:World}{ow:Own}{C:Array Value}{b:Nat}{e:TypeId}{fz:Nat×Nat}(hb:w.heap[b]?=some (.cells C e fz)):
  ∀{xs:List D}{l:List Nat}{i off:Nat},(off+D.ws xs<=C.size/\∀j x,xs[j]?=some x->gZ P w ow x ((i+j)::l) b (off+D.ws (xs.take j)))->
   ∃cs,(∀j,j<D.ws xs->C[off+j]?=cs[j]?)/\Ra P w ow xs l i cs
 |[],l,i,off,_=>⟨[],by simp[D.ws],by simp[Ra]⟩
 |x::xs,l,i,off,⟨hs,h⟩=>by
  obtain⟨C',e',fz',c1,hb',h3,h4⟩:=h 0 x (by simp);rw[hb]at hb';obtain⟨rfl,rfl,rfl⟩:C=C'/\e=e'/\fz=fz':=by simpa using hb'
  have hl:=h4.len;simp only[D.ws]at hs
  obtain⟨c2,h5,h6⟩:=Ra.iff (P:=P) (ow:=ow) hb (xs:=xs) (l:=l) (i:=i+1) (off:=off+x.w) ⟨by omega,fun j y hj=>by
   have:=h (j+1) y (by simpa using hj);simp only[jG,D.ws]at this;rw[show i+1+j=i+(j+1)from by omega,oW];exact this⟩
  refine⟨c1++c2,?_,?_⟩
  ·intro j hj;by_cases hjx:j<x.w
   ·rw[bA (by omega)];have:=h3 j hjx;simpa[D.ws]using this
   ·rw[aN (by omega),hl];have:=h5 (j-x.w) (by simp[D.ws]at hj;omega);rw[show off+x.w+(j-x.w)=off+j from by omega]at this;exact this
  ·simp only[Ra];exact⟨c1,c2,rfl,hl,by simpa using h4,h6⟩
def Ra.kids {w:World}{fz:Nat×Nat}(hb:w.heap[b]?=some (.cells C e fz)):
  ∀{xs:List D}{l:List Nat}{i off:Nat}{cs:List Value},(∀j,j<D.ws xs->C[off+j]?=cs[j]?)->Ra P w ow xs l i cs->
   ∀j x,xs[j]?=some x->gZ P w ow x ((i+j)::l) b (off+D.ws (xs.take j))
 |[],_,_,_,_,_,_,j,x,h=>by simp at h
 |y::xs,l,i,off,cs,hc,h,j,x,hj=>by
  simp only[Ra]at h;obtain⟨c1,c2,rfl,h1,h2,h3⟩:=h;cases j with
  |zero=>
   simp at hj;subst hj;refine⟨C,e,fz,c1,hb,fun k hk=> ?_,by simpa using h2⟩;have:=hc k (by simp[D.ws];omega);rw[bA (by omega)]at this;simpa[D.ws]using this
  |succ j=>
   have:=Ra.kids hb (off:=off+y.w) (fun k hk=>by
    have:=hc (y.w+k) (by simp[D.ws];omega);rw[aN (by omega),h1,show y.w+k-y.w=k from by omega]at this;rw[oW];exact this) h3 j x (by simpa using hj)
   simp only[jG,D.ws];rw[show i+(j+1)=i+1+j from by omega,←Nat.add_assoc];exact this
def D.kid:D->Nat->Option D
 | .sl _ xs,i=>xs[i]?
 | .agg xs,i=>xs[i]?
 | .bx _ x,i=>if i=0 then some x else none
 |_,_=>none
def D.gB:D->Nat->D->D
 | .sl o xs,i,x=> .sl o (xs.set i x)
 | .agg xs,i,x=> .agg (xs.set i x)
 | .bx o _,_,x=> .bx o x
 |d,_,_=>d
def D.sub:List Nat->D->Option D
 |[],d=>some d
 |i::p,d=>match d.kid i with
  |some x=>D.sub p x
  |none=>none
def D.upd:List Nat->D->D->D
 |[],_,n=>n
 |i::p,d,n=>match d.kid i with
  |some x=>d.gB i (D.upd p x n)
  |none=>d
def D.free:List Nat->D->Bool
 |[],_=>true
 |i::p,d=>(match d with| .sl o _=>o.isSome| .bx o _=>o|_=>true)&&match d.kid i with
  |some x=>D.free p x
  |none=>false
def into:D->Nat->Value->Option (D×Nat×Nat)
 | .sl _ xs,i,.slice (some ⟨b,off,none⟩) _ _=>xs[i]?.map fun x=>(x,b,off+i*x.w)
 | .bx _ x,i,.pointer (some ⟨b,off,none⟩)=>if i=0 then some (x,b,off)else none
 |_,_,_=>none
def eX (w:World):List Nat->D->Nat->Nat->Option (Nat×Nat)
 |[],_,b,off=>some (b,off)
 |i::p,.agg xs,b,off=>match xs[i]? with
  |some x=>eX w p x b (off+D.ws (xs.take i))
  |none=>none
 |i::p,d,b,off=>match w.cell? ⟨b,off,none⟩with
  |some v=>match into d i v with
   |some (x,b',off')=>eX w p x b' off'
   |none=>none
  |none=>none
def loc (w:World):List Nat->D->Value->Option (Nat×Nat)
 |[],_,_=>none
 |i::p,d,v=>match into d i v with
  |some (x,b,off)=>eX w p x b off
  |none=>none
def aiO:∀(xs:List D) (i:Nat) (x y:D),xs[i]?=some x->y.w=x.w->D.ws (xs.set i y)=D.ws xs
 |[],_,_,_,h,_=>by simp at h
 |z::xs,0,x,y,h,hw=>by simp at h;subst h;simp[D.ws,hw]
 |z::xs,i+1,x,y,h,hw=>by simp[D.ws,aiO xs i x y (by simpa using h) hw]
def D.GH:∀(p:List Nat) (d n m:D),D.sub p d=some m->n.w=m.w->(D.upd p d n).w=d.w
 |[],d,n,m,h,hw=>by simp[D.sub]at h;subst h;simpa[D.upd]using hw
 |i::p,d,n,m,h,hw=>by
  simp only[D.sub]at h;simp only[D.upd];cases hk:d.kid i with
  |none=>rfl
  |some x=>
   rw[hk]at h;have ih:=D.GH p x n m h hw;cases d with
   |one v=>cases hk
   |any k=>cases hk
   |sl o xs=>rfl
   |bx o y=>rfl
   |agg xs=>simp only[D.kid]at hk;simp only[D.gB,D.w];exact aiO xs i x _ hk ih
structure Wr (w w':World) (b off n:Nat):Prop where
 other:∀k,k≠b->w'.heap[k]?=w.heap[k]?
 this:∃C C' e fz,w.heap[b]?=some (.cells C e fz)/\w'.heap[b]?=some (.cells C' e fz)/\C'.size=C.size/\∀k,(k<off\/off+n<=k)->C'[k]?=C[k]?
variable {w':World}{off n b1 o1:Nat}
def Wr.cell {w:World}(h:Wr w w' b off n)(hd:b1≠b\/o1<off\/off+n<=o1):w'.cell? ⟨b1,o1,none⟩=w.cell? ⟨b1,o1,none⟩:=by
 by_cases hb:b1=b
 ·subst hb;obtain⟨C,C',e,fz,h1,h2,_,h4⟩:=h.this;rw[cell_of_row w b1 o1 C e fz h1,cell_of_row w' b1 o1 C' e fz h2];exact h4 o1 (by omega)
 ·simp[World.cell?,h.other b1 hb]
variable {l:List Nat}{i:Nat}{q:List Nat}
def suffix_absurd (h:l=q++i::l):False:=by
 have:=congrArg List.length h;simp at this;omega
def suffix_inj {j:Nat}{q':List Nat}(h:q++i::l=q'++j::l):i=j:=by
 have h2:(q++[i])++l=(q'++[j])++l:=by simpa using h
 have h3:=qY h2;have:=congrArg List.getLast? h3;simpa using this
def Off (ow:Own)(l:List Nat)(b1:Nat):Prop:=ow b1≠none/\∀q,ow b1≠some (q++l)
def Off.child (h:Off ow l b1)(i:Nat):Off ow (i::l) b1:=⟨h.1,fun q hq=>h.2 (q++[i]) (by simpa using hq)⟩
def Off.keeps {w:World}(hw:Wr w w' b1 o1 n)(h:Off ow l b1):Keeps w ow l w' ow l:=by
 intro b hb;refine⟨fun h0=>⟨hw.other b fun e=> ?_,h0⟩,fun q hq=>⟨hw.other b fun e=> ?_,hq⟩⟩
 ·subst e;exact h.1 h0
 ·subst e;exact h.2 q hq
variable {d:D}
def gZ.frame {w:World}(h:gZ P w ow d l b off) (hw:Wr w w' b1 o1 n) (ho:Off ow l b1)
  (hd:b≠b1\/o1+n<=off\/off+d.w<=o1):gZ P w' ow d l b off:=by
 obtain⟨C,e,fz,cs,hb,hc,hr⟩:=h;by_cases he:b=b1
 ·subst he;obtain⟨C1,C',e',fz',h1,h2,h3,h4⟩:=hw.this;rw[hb]at h1;obtain⟨rfl,rfl,rfl⟩:C=C1/\e=e'/\fz=fz':=by simpa using h1
  refine⟨C',e,fz,cs,h2,fun j hj=> ?_,R.tr (ho.keeps hw) hr⟩;rw[h4 _ (by omega)];exact hc j hj
 ·exact⟨C,e,fz,cs,by rw[hw.other b he];exact hb,hc,R.tr (ho.keeps hw) hr⟩
def gZ.cell {w:World}(h:gZ P w ow d l b off)(hd:d.w=1):∃v,w.cell? ⟨b,off,none⟩=some v/\R P w ow d l [v]:=by
 obtain⟨C,e,fz,cs,hb,hc,hr⟩:=h;have hl:=hr.len;rw[hd]at hl hc;obtain⟨v,rfl⟩:=eP.1 hl;refine⟨v,?_,hr⟩;rw[cell_of_row w b off C e fz hb];simpa using hc 0 (by omega)
def R.into {w:World}{v:Value}{x:D}(h:R P w ow d l [v])(hi:into d i v=some (x,b,off)):
  d.kid i=some x/\gZ P w ow x (i::l) b off/\(ow b=none\/ow b=some l)/\(D.free [i] d=true->ow b=some l):=by
 cases d with
 |one u=>simp[Dv.into]at hi
 |any k=>simp[Dv.into]at hi
 |agg xs=>simp[Dv.into]at hi
 |sl o xs=>
  simp only[R]at h;obtain⟨a,cap,hv,_,_,h4⟩:=h;obtain rfl:v= .slice a xs.length cap:=by simpa using hv
  rcases h4 with⟨rfl,_⟩|⟨rfl,rfl⟩|⟨b',off',s,C,e,fz,rfl,hh,hn,hs,hr⟩
  ·simp[Dv.into]at hi
  ·cases a with
   |none=>simp[Dv.into]at hi
   |some a=>obtain⟨ab,ao,as⟩:=a;cases as<;>simp[Dv.into]at hi
  ·simp only[Dv.into,aL]at hi;obtain⟨y,hy,he⟩:=hi;obtain⟨rfl,rfl,rfl⟩:y=x/\b'=b/\off'+i*y.w=off:=by simpa using he
   obtain⟨hw,hL⟩:=(Rs.iff hh).1 hr i y hy;refine⟨by simpa[D.kid]using hy,by rw[hw];simpa using hL,?_,?_⟩
   ·cases o with
    |none=>exact .inl (hn rfl)
    |some t=>exact .inr (hs t rfl).1
   ·intro hf;cases o with
    |none=>simp[D.free]at hf
    |some t=>exact(hs t rfl).1
 |bx o y=>
  simp only[R]at h;obtain⟨b',off',C,e,fz,cs',hv,hh,hn,hs,hl,hc,hr⟩:=h;obtain rfl:v= .pointer (some ⟨b',off',none⟩):=by simpa using hv
  simp only[Dv.into]at hi;split at hi
  ·rename_i h0;subst h0;obtain⟨rfl,rfl,rfl⟩:y=x/\b'=b/\off'=off:=by simpa using hi
   refine⟨rfl,⟨C,e,fz,cs',hh,by rw[←hl];exact hc,hr⟩,?_,?_⟩
   ·cases o with
    |false=>exact .inl (hn rfl)
    |true=>exact .inr (hs rfl).1
   ·intro hf;cases o with
    |false=>simp[D.free]at hf
    |true=>exact(hs rfl).1
  ·cases hi
end Go.Dv
end
section
namespace Go
def k_Bool_and_eq_true:= @Bool.and_eq_true
def fD:= @Bool.true_and
def bE:= @List.eq_nil_of_length_eq_zero
def aD:= @List.getElem?_eq_some_iff
def bI:= @List.getElem?_set_ne
def bG:= @List.getElem?_set_self
def lH:= @Nat.eq_zero_or_pos
def k_Nat_le_refl:= @Nat.le_refl
def sH:= @Nat.lt_or_gt_of_ne
def aX:= @Nat.mul_le_mul_right
def bT:= @Nat.zero_add
def dA:= @Option.map_some
def aJ:= @Option.some.injEq
def bZ:= @Prod.mk.injEq
end Go
end
section
namespace Go.Dv
open Go.RowKit
variable {b off n:Nat}
def avH {w:World}{C:Array Value}{e:TypeId}{fz:Nat×Nat}{cs:List Value}(_hb:w.heap[b]?=some (.cells C e fz))(hc:∀j,j<n->C[off+j]?=cs[j]?)(hl:cs.length=n):n=0\/off+n<=C.size:=by
 rcases lH n with h|h
 ·exact .inl h
 ·right;have:=hc (n-1) (by omega);have h2:cs[n-1]?≠none:=by simp;omega
  rw[←this]at h2;have:=(bO.1 (Option.ne_none_iff_exists'.1 h2).choose_spec).1;omega
variable {P:Program}{ow:Own}{l:List Nat}{i:Nat}{x:D}
def gZ.xE {w:World}{xs:List D}(h:gZ P w ow (.agg xs) l b off)(hi:xs[i]?=some x):gZ P w ow x (i::l) b (off+D.ws (xs.take i)):=by
 obtain⟨C,e,fz,cs,hb,hc,hr⟩:=h;simp only[R]at hr;have:=Ra.kids hb (off:=off) (by simpa[D.w]using hc) hr i x hi;simpa using this
variable {w':World}
def gZ.aAF {w:World}{ow':Own}{xs ys:List D}(h:gZ P w ow (.agg xs) l b off) (hw:D.ws ys=D.ws xs)
  (hb':∀C e fz,w.heap[b]?=some (.cells C e fz)->∃C',w'.heap[b]?=some (.cells C' e fz)/\C'.size=C.size)
  (hk:∀i y,ys[i]?=some y->gZ P w' ow' y (i::l) b (off+D.ws (ys.take i))):gZ P w' ow' (.agg ys) l b off:=by
 obtain⟨C,e,fz,cs,hb,hc,hr⟩:=h;obtain⟨C',h1,h2⟩:=hb' C e fz hb;have hl:=hr.len;simp only[D.w]at hl hc;rcases avH hb hc hl with h0|h0
 ·-- nothing there
  have hy:D.ws ys=0:=by omega
  have:∀(ys:List D) (i:Nat),D.ws ys=0->(∀j y,ys[j]?=some y->∃cs,R P w' ow' y ((i+j)::l) cs/\cs.length=y.w)->Ra P w' ow' ys l i []:=by
   intro ys
   induction ys with
   |nil=>intro i _ _;simp[Ra]
   |cons y ys ih=>
    intro i h0 hh;simp only[D.ws]at h0;obtain⟨c,hc1,hc2⟩:=hh 0 y (by simp);have:c=[]:=bE (by omega);subst this;simp only[Ra];refine⟨[],[],rfl,hc2,by simpa using hc1,ih (i+1) (by omega) fun j z hj=> ?_⟩;have:=hh (j+1) z (by simpa using hj)
    rwa [show i+1+j=i+(j+1)from by omega]
  refine⟨C',e,fz,[],h1,by intro j hj;simp only[D.w]at hj;omega,?_⟩;simp only[R];refine this ys 0 hy fun j y hj=> ?_;obtain⟨_,_,_,c,_,_,hc2⟩:=hk j y hj;exact⟨c,by simpa using hc2,hc2.len⟩
 ·obtain⟨cs',h3,h4⟩:=Ra.iff (P:=P) (ow:=ow') h1 (xs:=ys) (l:=l) (i:=0) (off:=off) ⟨by omega,fun j y hj=>by simpa using hk j y hj⟩;exact⟨C',e,fz,cs',h1,by simpa[D.w]using h3,by simpa only[R]using h4⟩
variable {d:D}
def gZ.lt {w:World}(h:gZ P w ow d l b off):b<w.heap.size:=by
 obtain⟨C,e,fz,cs,hb,_⟩:=h;exact lt_of_heap hb
variable {p:List Nat}{b1 o1:Nat}
def uH {w:World}(hd:∀xs,d≠ .agg xs)(h:eX w (i::p) d b off=some (b1,o1)):
  ∃v x b' off',w.cell? ⟨b,off,none⟩=some v/\into d i v=some (x,b',off')/\eX w p x b' off'=some (b1,o1):=by
 have:eX w (i::p) d b off=(match w.cell? ⟨b,off,none⟩with
  |some v=>match into d i v with
   |some (x,b',off')=>eX w p x b' off'
   |none=>none
  |none=>none):=by
  cases d with
  |agg xs=>exact absurd rfl (hd xs)
  |one _=>rfl
  |sl _ _=>rfl
  |bx _ _=>rfl
  |any _=>rfl
 rw[this]at h;cases hv:w.cell? ⟨b,off,none⟩with
 |none=>rw[hv]at h;cases h
 |some v=>
  rw[hv]at h;simp only at h;cases hx:into d i v with
  |none=>rw[hx]at h;cases h
  |some r=>
   obtain⟨x,b',off'⟩:=r;rw[hx]at h;exact⟨v,x,b',off',rfl,hx,h⟩
variable {off':Nat}{v:Value}
def sJ {w:World}{b':Nat}(hd:∀xs,d≠ .agg xs)(hv:w.cell? ⟨b,off,none⟩=some v)(hx:into d i v=some (x,b',off')):
  eX w (i::p) d b off=eX w p x b' off':=by
 cases d with
 |agg xs=>exact absurd rfl (hd xs)
 |one _=>simp[Dv.into]at hx
 |sl _ _=>simp only[eX,hv,hx]
 |bx _ _=>simp only[eX,hv,hx]
 |any _=>simp[Dv.into]at hx
def EQ (h:into d i v=some (x,b,off)):d.w=1/\∀xs,d≠ .agg xs:=by
 cases d with
 |agg xs=>simp[Dv.into]at h
 |one _=>simp[Dv.into]at h
 |any _=>simp[Dv.into]at h
 |sl _ _=>exact⟨rfl,fun xs h=>by cases h⟩
 |bx _ _=>exact⟨rfl,fun xs h=>by cases h⟩
def gZ.at {w:World}:∀(p:List Nat) {d n:D}{l:List Nat}{b off b1 o1:Nat},gZ P w ow d l b off->eX w p d b off=some (b1,o1)->D.sub p d=some n->
  gZ P w ow n (p.reverse++l) b1 o1/\((b1=b/\off<=o1/\o1+n.w<=off+d.w)\/ow b1=none\/∃q,ow b1=some (q++l))/\
   (D.free p d=true->(b1=b/\off<=o1/\o1+n.w<=off+d.w)\/∃q,ow b1=some (q++l))
 |[],d,n,l,b,off,b1,o1,h,hl,hs=>by
  simp only[eX,aJ,bZ]at hl;simp only[D.sub,aJ]at hs;obtain⟨rfl,rfl⟩:=hl;subst hs;exact⟨by simpa using h,.inl ⟨rfl,k_Nat_le_refl _,k_Nat_le_refl _⟩,fun _=> .inl ⟨rfl,k_Nat_le_refl _,k_Nat_le_refl _⟩⟩
 |i::p,d,n,l,b,off,b1,o1,h,hl,hs=>by
  by_cases hagg:∃xs,d= .agg xs
  ·obtain⟨xs,rfl⟩:=hagg;simp only[eX]at hl;simp only[D.sub,D.kid]at hs;cases hx:xs[i]? with
   |none=>rw[hx]at hl;cases hl
   |some x=>
    rw[hx]at hl hs;have hk:=h.xE hx;obtain⟨h1,h2,h3⟩:=gZ.at p hk hl hs;have hle:=ae3 xs i x hx;refine⟨by simpa using h1,?_,?_⟩
    ·rcases h2 with⟨e1,e2,e3⟩|h2|⟨q,h2⟩
     ·exact .inl ⟨e1,by omega,by simp only[D.w];omega⟩
     ·exact .inr (.inl h2)
     ·exact .inr (.inr ⟨q++[i],by simpa using h2⟩)
    ·intro hf;simp only[D.free,D.kid,hx,fD]at hf;rcases h3 hf with⟨e1,e2,e3⟩|⟨q,h2⟩
     ·exact .inl ⟨e1,by omega,by simp only[D.w];omega⟩
     ·exact .inr ⟨q++[i],by simpa using h2⟩
  ·have hd:∀xs,d≠ .agg xs:=fun xs e=>hagg ⟨xs,e⟩;obtain⟨v,x,b',off',hv,hx,hl'⟩:=uH hd hl;obtain⟨v',hv',hr⟩:=h.cell (EQ hx).1;rw[hv]at hv';obtain rfl:v=v':=by simpa using hv'
   obtain⟨hkid,hL,ho,hfr⟩:=hr.into hx;simp only[D.sub,hkid]at hs;obtain⟨h1,h2,h3⟩:=gZ.at p hL hl' hs;refine⟨by simpa using h1,?_,?_⟩
   ·rcases h2 with⟨rfl,_,_⟩|h2|⟨q,h2⟩
    ·rcases ho with ho|ho
     ·exact .inr (.inl ho)
     ·exact .inr (.inr ⟨[],by simpa using ho⟩)
    ·exact .inr (.inl h2)
    ·exact .inr (.inr ⟨q++[i],by simpa using h2⟩)
   ·intro hf
    have hf1:D.free [i] d=true:=by
     simp only[D.free,hkid]at hf|-
     simp only[k_Bool_and_eq_true]at hf;simp[hf.1]
    have hf2:D.free p x=true:=by
     simp only[D.free,hkid,k_Bool_and_eq_true]at hf;exact hf.2
    rcases h3 hf2 with⟨rfl,_,_⟩|⟨q,h2⟩
    ·exact .inr ⟨[],by simpa using hfr hf1⟩
    ·exact .inr ⟨q++[i],by simpa using h2⟩
def GI:∀(xs:List D) (i:Nat) (x y:D),xs[i]?=some x->y.w=x.w->∀j,D.ws ((xs.set i y).take j)=D.ws (xs.take j)
 |[],_,_,_,h,_,_=>by simp at h
 |z::xs,0,x,y,h,hw,j=>by
  simp at h;subst h;cases j<;>simp[D.ws,hw]
 |z::xs,i+1,x,y,h,hw,j=>by
  cases j with
  |zero=>simp[D.ws]
  |succ j=>simp[D.ws,GI xs i x y (by simpa using h) hw j]
def TK:∀(xs:List D) (i j:Nat) (x y:D),xs[i]?=some x->xs[j]?=some y->i≠j->D.ws (xs.take i)+x.w<=D.ws (xs.take j)\/D.ws (xs.take j)+y.w<=D.ws (xs.take i)
 |[],i,j,x,y,h,_,_=>by simp at h
 |z::xs,0,0,x,y,_,_,hne=>absurd rfl hne
 |z::xs,0,j+1,x,y,h,_,_=>by simp at h;subst h;left;simp[D.ws]
 |z::xs,i+1,0,x,y,_,h,_=>by simp at h;subst h;right;simp[D.ws]
 |z::xs,i+1,j+1,x,y,h,h2,hne=>by
  have:=TK xs i j x y (by simpa using h) (by simpa using h2) (by omega);simp only[jG,D.ws];omega
def Wr.XT {w:World}(h:Wr w w' b1 o1 n)(b:Nat):∀C e fz,w.heap[b]?=some (.cells C e fz)->∃C',w'.heap[b]?=some (.cells C' e fz)/\C'.size=C.size:=by
 intro C e fz hb;by_cases he:b=b1
 ·subst he;obtain⟨C1,C',e',fz',h1,h2,h3,h4⟩:=h.this;rw[hb]at h1;obtain⟨rfl,rfl,rfl⟩:C=C1/\e=e'/\fz=fz':=by simpa using h1
  exact⟨C',h2,h3⟩
 ·exact⟨C,by rw[h.other b he];exact hb,rfl⟩
variable {n':D}
def R.awW {w:World}{b':Nat}{n:D}(hr:R P w ow d l [v]) (hx:Dv.into d i v=some (x,b',off')) (hf:D.free (i::p) d=true)
  (hl':eX w p x b' off'=some (b1,o1)) (hs:D.sub p x=some n) (hw:Wr w w' b1 o1 n.w) (hnw:n'.w=n.w) (hup:gZ P w' ow (D.upd p x n') (i::l) b' off'):R P w' ow (D.upd (i::p) d n') l [v]:=by
 have hd:=(EQ hx).2;obtain⟨hkid,hL,_,hfr⟩:=hr.into hx
 have hf1:D.free [i] d=true:=by
  simp only[D.free,hkid]at hf|-
  simp only[k_Bool_and_eq_true]at hf;simp[hf.1]
 have hf2:D.free p x=true:=by
  simp only[D.free,hkid,k_Bool_and_eq_true]at hf;exact hf.2
 have hob:=hfr hf1;obtain⟨_,_,hat⟩:=gZ.at p hL hl' hs;have hxw:=D.GH p x n' n hs hnw
 have hkidoff:∀(j:Nat),j≠i->b1≠b'->Off ow (j::l) b1:=by
  intro j hij hbb;rcases hat hf2 with⟨rfl,_,_⟩|⟨q,hq⟩
  ·exact absurd rfl hbb
  ·exact⟨by rw[hq];simp,fun q' hq'=>hij (suffix_inj (by rw[hq]at hq';simpa using hq'.symm))⟩
 have hoff':∀(j:Nat),b1=b'->Off ow (j::l) b1:=by
  intro j e;refine⟨by rw[e,hob];simp,fun q' hq'=> ?_⟩;rw[e,hob]at hq';exact suffix_absurd (by simpa using hq')
 cases d with
 |agg xs=>exact absurd rfl (hd xs)
 |one _=>simp[Dv.into]at hx
 |any _=>simp[Dv.into]at hx
 |sl o xs=>
  simp only[R]at hr;obtain⟨a,cap,hva,hcap,hmax,h4⟩:=hr;obtain rfl:v= .slice a xs.length cap:=by simpa using hva
  have hix:xs[i]?=some x:=by simpa[D.kid]using hkid
  simp only[D.upd,D.kid,hix,D.gB,R];refine⟨a,cap,by simp,by simpa using hcap,hmax,?_⟩;rcases h4 with⟨_,h4,_⟩|⟨_,h4⟩|⟨b2,off2,s,C,e,fz,rfl,hh,hn0,hs0,hr0⟩
  ·rw[h4]at hix;simp at hix
  ·rw[h4]at hix;simp at hix
  ·right;right;simp only[Dv.into,hix,dA,aJ,bZ]at hx;obtain⟨_,rfl,rfl⟩:=hx;obtain⟨C',hC',hsz⟩:=hw.XT b2 C e fz hh;refine⟨b2,off2,s,C',e,fz,rfl,hC',hn0,fun t ht=> ?_,?_⟩
   ·obtain⟨g1,g2,g3,g4,g5,g6⟩:=hs0 t ht;exact⟨g1,g2,by rw[hsz];exact g3,g4,by rw[hsz];exact g5,g6⟩
   ·refine(Rs.iff hC').2 fun j y hj=> ?_;have hall:=(Rs.iff hh).1 hr0;by_cases hij:j=i
    ·subst hij;obtain⟨g1,g2⟩:=hall j x hix;have hlt:=(aD.1 hix).1;rw[bG hlt]at hj;obtain rfl:D.upd p x n'=y:=by simpa using hj
     exact⟨by rw[hxw];exact g1,by rw[g1]at hup;simpa using hup⟩
    ·rw[bI (by omega)]at hj;obtain⟨g1,g2⟩:=hall j y hj;obtain⟨gx,_⟩:=hall i x hix;refine⟨g1,g2.frame hw ?_ ?_⟩
     ·rw[bT];by_cases hbb:b1=b2
      ·exact hoff' j hbb
      ·exact hkidoff j hij hbb
     ·by_cases hbb:b2=b1
      ·right;rcases hat hf2 with⟨_,h5,h6⟩|⟨q,hq⟩
       ·rw[gx]at h5 h6;rw[g1];rcases sH hij with h7|h7
        ·right;have:j*s+s<=i*s:=by rw[←Nat.succ_mul];exact aX _ h7
         omega
        ·left;have:i*s+s<=j*s:=by rw[←Nat.succ_mul];exact aX _ h7
         omega
       ·rw[←hbb,hob]at hq;exact(suffix_absurd (by simpa using hq)).elim
      ·exact .inl hbb
 |bx o y=>
  simp only[R]at hr;obtain⟨b2,off2,C,e,fz,cs',hva,hh,hn0,hs0,hl0,hc0,hr0⟩:=hr;obtain rfl:v= .pointer (some ⟨b2,off2,none⟩):=by simpa using hva
  simp only[Dv.into]at hx;split at hx
  ·rename_i h0;subst h0;obtain⟨rfl,rfl,rfl⟩:y=x/\b2=b'/\off2=off':=by simpa using hx
   simp only[D.upd,D.kid,if_true,D.gB,R];obtain⟨C',hC',hsz⟩:=hw.XT b2 C e fz hh;obtain⟨C2,e2,fz2,cs2,g1,g2,g3⟩:=hup;rw[hC']at g1;obtain⟨rfl,rfl,rfl⟩:C'=C2/\e=e2/\fz=fz2:=by simpa using g1
   have hl2:=g3.len;refine⟨b2,off2,C',e,fz,cs2,rfl,hC',hn0,fun ho=> ?_,hl2,by rw[hl2];exact g2,g3⟩;obtain⟨k1,k2,k3,k4⟩:=hs0 ho;exact⟨k1,by rw[hsz];exact k2,k3,by rw[hsz,hxw];exact k4⟩
  ·cases hx
def gZ.upd {w:World}:∀(p:List Nat) {d n n':D}{l:List Nat}{b off b1 o1:Nat},gZ P w ow d l b off->eX w p d b off=some (b1,o1)->D.sub p d=some n->
  D.free p d=true->Wr w w' b1 o1 n.w->n'.w=n.w->gZ P w' ow n' (p.reverse++l) b1 o1->(∀q,ow b≠some (q++l))->ow b≠none->
  gZ P w' ow (D.upd p d n') l b off
 |[],d,n,n',l,b,off,b1,o1,h,hl,hs,hf,hw,hnw,hn,hb1,hb2=>by
  simp only[eX,aJ,bZ]at hl;obtain⟨rfl,rfl⟩:=hl;simpa[D.upd]using hn
 |i::p,d,n,n',l,b,off,b1,o1,h,hl,hs,hf,hw,hnw,hn,hb1,hb2=>by
  by_cases hagg:∃xs,d= .agg xs
  ·obtain⟨xs,rfl⟩:=hagg;simp only[eX]at hl;simp only[D.sub,D.kid]at hs;simp only[D.free,D.kid,fD]at hf;cases hx:xs[i]? with
   |none=>rw[hx]at hl;cases hl
   |some x=>
    rw[hx]at hl hs hf;have hk:=h.xE hx;have hup:=gZ.upd p (n':=n') hk hl hs hf hw hnw (by simpa using hn) (fun q hq=>hb1 (q++[i]) (by simpa using hq)) hb2;obtain⟨_,_,hat⟩:=gZ.at p hk hl hs;have hxw:=D.GH p x n' n hs hnw;simp only[D.upd,D.kid,hx,D.gB];refine h.aAF (aiO xs i x _ hx hxw) (hw.XT b) ?_;intro j y hj;rw[GI xs i x _ hx hxw];by_cases hij:j=i
    ·subst hij
     have:y=D.upd p x n':=by
      have hlt:=(aD.1 hx).1;rw[bG hlt]at hj;simpa using hj.symm
     subst this;exact hup
    ·rw[bI (by omega)]at hj;refine(h.xE hj).frame hw ?_ ?_
     ·rcases hat hf with⟨rfl,_,_⟩|⟨q,hq⟩
      ·exact⟨hb2,fun q hq=>hb1 (q++[j]) (by simpa using hq)⟩
      ·refine⟨by rw[hq];simp,fun q' hq'=> ?_⟩;rw[hq]at hq';exact hij (suffix_inj (by simpa using hq'.symm))
     ·rcases hat hf with⟨rfl,h5,h6⟩|⟨q,hq⟩
      ·right;have:=TK xs i j x y hx hj (by omega);omega
      ·left;intro e;subst e;exact hb1 (q++[i]) (by simpa using hq)
  ·have hd:∀xs,d≠ .agg xs:=fun xs e=>hagg ⟨xs,e⟩;obtain⟨v,x,b',off',hv,hx,hl'⟩:=uH hd hl;obtain⟨v',hv',hr⟩:=h.cell (EQ hx).1;rw[hv]at hv';obtain rfl:v=v':=by simpa using hv'
   obtain⟨hkid,hL,_,hfr⟩:=hr.into hx;simp only[D.sub,hkid]at hs
   have hf1:D.free [i] d=true:=by
    simp only[D.free,hkid]at hf|-
    simp only[k_Bool_and_eq_true]at hf;simp[hf.1]
   have hf2:D.free p x=true:=by
    simp only[D.free,hkid,k_Bool_and_eq_true]at hf;exact hf.2
   have hob:=hfr hf1;have hup:=gZ.upd p (n':=n') hL hl' hs hf2 hw hnw (by simpa using hn) (fun q hq=>by rw[hob]at hq;exact suffix_absurd (by simpa using hq)) (by rw[hob];simp);obtain⟨_,_,hat⟩:=gZ.at p hL hl' hs;have hxw:=D.GH p x n' n hs hnw
   have hb1own:∃q,ow b1=some (q++l):=by
    rcases hat hf2 with⟨rfl,_,_⟩|⟨q,hq⟩
    ·exact⟨[],by simpa using hob⟩
    ·exact⟨q++[i],by simpa using hq⟩
   have hne:b≠b1:=by
    rintro rfl;obtain⟨q,hq⟩:=hb1own;exact hb1 q hq
   have hcell:w'.cell? ⟨b,off,none⟩=some v:=by rw[hw.cell (.inl hne)];exact hv
   have key:R P w' ow (D.upd (i::p) d n') l [v]:=hr.awW hx hf hl' hs hw hnw hup
   have hw1:(D.upd (i::p) d n').w=1:=by
    have:=D.GH (i::p) d n' n (by simp only[D.sub,hkid];exact hs) hnw;rw[this];exact(EQ hx).1
   obtain⟨C,e,fz,cs,hb,hc,_⟩:=h;refine⟨C,e,fz,[v],by rw[hw.other b hne];exact hb,?_,key⟩;intro j hj;rw[hw1]at hj;obtain rfl:j=0:=by omega
   rw[cell_of_row w b off C e fz hb]at hv;simpa using hv
def R.upd {w:World}{n:D}(h:R P w ow d l [v]) (hl:loc w p d v=some (b1,o1)) (hs:D.sub p d=some n)
  (hf:D.free p d=true) (hw:Wr w w' b1 o1 n.w) (hnw:n'.w=n.w) (hn:gZ P w' ow n' (p.reverse++l) b1 o1):R P w' ow (D.upd p d n') l [v]:=by
 cases p with
 |nil=>simp[loc]at hl
 |cons i p=>
  simp only[loc]at hl;cases hx:Dv.into d i v with
  |none=>rw[hx]at hl;cases hl
  |some r=>
   obtain⟨x,b',off'⟩:=r;rw[hx]at hl;obtain⟨hk,hL,_,hfr⟩:=h.into hx;simp only[D.sub,hk]at hs
   have hf1:D.free [i] d=true:=by
    simp only[D.free,hk]at hf|-
    simp only[k_Bool_and_eq_true]at hf;simp[hf.1]
   have hf2:D.free p x=true:=by
    simp only[D.free,hk,k_Bool_and_eq_true]at hf;exact hf.2
   have hob:=hfr hf1;exact h.awW hx hf hl hs hw hnw (gZ.upd p hL hl hs hf2 hw hnw (by simpa using hn) (fun q hq=>by rw[hob]at hq;exact suffix_absurd (by simpa using hq)) (by rw[hob];simp))
end Go.Dv
end
section
namespace Go
def aB:= @List.getElem?_eq_getElem
def k_List_getElem__eq_none:= @List.getElem?_eq_none
def aS:= @List.getElem?_map
def dD:= @List.length_take
def fP:= @Nat.min_eq_left
end Go
end
section
namespace Go.Dv
open Go.RowKit
variable {i:Nat}{p:List Nat}{b off:Nat}
def yP {w:World}{xs:List D}:eX w (i::p) (.agg xs) b off=(match xs[i]? with
  |some x=>eX w p x b (off+D.ws (xs.take i))
  |none=>none):=rfl
variable {d:D}
def vK {w:World}(hd:∀xs,d≠ .agg xs)(h:∀v x b' off',w.cell? ⟨b,off,none⟩=some v->into d i v≠some (x,b',off')):eX w (i::p) d b off=none:=by
 cases hh:eX w (i::p) d b off with
 |none=>rfl
 |some r=>
  obtain⟨b1,o1⟩:=r;obtain⟨v,x,b',off',hv,hx,_⟩:=uH hd hh;exact absurd hx (h v x b' off' hv)
variable {P:Program}{w':World}{ow:Own}{b1 o1:Nat}
def LB {w:World}{n:Nat}(hw:Wr w w' b1 o1 n):∀(r:List Nat) {d:D}{l:List Nat}{b off:Nat},gZ P w ow d l b off->Off ow l b1->(b≠b1\/o1+n<=off\/off+d.w<=o1)->
  eX w' r d b off=eX w r d b off
 |[],_,_,_,_,_,_,_=>by simp[eX]
 |i::r,d,l,b,off,h,ho,hdj=>by
  by_cases hagg:∃xs,d= .agg xs
  ·obtain⟨xs,rfl⟩:=hagg;simp only[yP];cases hx:xs[i]? with
   |none=>rfl
   |some x=>
    have:=ae3 xs i x hx;simp only[D.w]at hdj;exact LB hw r (h.xE hx) (ho.child i) (by omega)
  ·have hd:∀xs,d≠ .agg xs:=fun xs e=>hagg ⟨xs,e⟩;by_cases hex:∃v x b' off',w.cell? ⟨b,off,none⟩=some v/\into d i v=some (x,b',off')
   ·obtain⟨v,x,b',off',hv,hx⟩:=hex
    have hcell:w'.cell? ⟨b,off,none⟩=some v:=by
     rw[hw.cell (by have:=(EQ hx).1;omega)];exact hv
    rw[sJ hd hv hx,sJ hd hcell hx];obtain⟨v',hv',hr⟩:=h.cell (EQ hx).1;rw[hv]at hv';obtain rfl:v=v':=by simpa using hv'
    obtain⟨_,hL,hob,_⟩:=hr.into hx;refine LB hw r hL (ho.child i) (.inl ?_);rintro rfl;rcases hob with hob|hob
    ·exact ho.1 hob
    ·exact ho.2 [] (by simpa using hob)
   ·have hno:∀v x b' off',w.cell? ⟨b,off,none⟩=some v->into d i v≠some (x,b',off'):=fun v x b' off' hv hx=>hex ⟨v,x,b',off',hv,hx⟩;rw[vK hd hno];cases hd1:d with
    |agg xs=>exact absurd hd1 (hd xs)
    |one u=>exact vK (fun xs e=>by cases e) (fun v x b' off' _ hx=>by simp[Dv.into]at hx)
    |any k=>exact vK (fun xs e=>by cases e) (fun v x b' off' _ hx=>by simp[Dv.into]at hx)
    |sl o xs=>
     subst hd1;refine vK hd fun v x b' off' hv hx=>hno v x b' off' ?_ hx;rw[hw.cell (by simp only[D.w]at hdj;omega)]at hv;exact hv
    |bx o y=>
     subst hd1;refine vK hd fun v x b' off' hv hx=>hno v x b' off' ?_ hx;rw[hw.cell (by simp only[D.w]at hdj;omega)]at hv;exact hv
variable {v:Value}{x:D}
def R9 {y:D}{j:Nat}(hk:d.kid i=some x)(hy:y.w=x.w):
  (into (d.gB i y) j v)=(into d j v).map fun r=>(if j=i then y else r.1,r.2.1,r.2.2):=by
 cases d with
 |one _=>cases hk
 |any _=>cases hk
 |agg xs=>cases v<;>rfl
 |sl o xs=>
  simp only[D.kid]at hk;simp only[D.gB];cases v with
  |slice a n cap=>
   cases a with
   |none=>rfl
   |some a=>
    obtain⟨ab,ao,as⟩:=a;cases as with
    |some _=>rfl
    |none=>
     simp only[Dv.into,Option.map_map];by_cases hij:j=i
     ·subst hij;have hlt:=(aD.1 hk).1;rw[bG hlt,hk];simp[hy]
     ·rw[bI (by omega)];cases xs[j]?<;>simp[hij]
  |_=>rfl
 |bx o z=>
  simp only[D.kid]at hk;split at hk
  ·rename_i h0;subst h0;simp only[D.gB];cases v with
   |pointer a=>
    cases a with
    |none=>rfl
    |some a=>
     obtain⟨ab,ao,as⟩:=a;cases as with
     |some _=>rfl
     |none=>
      simp only[Dv.into];by_cases hj:j=0<;>simp[hj]
   |_=>rfl
  ·cases hk
def akG {w:World}(hd:∀xs,d≠ .agg xs)(hv:w.cell? ⟨b,off,none⟩=some v):eX w (i::p) d b off=loc w (i::p) d v:=by
 cases d with
 |agg xs=>exact absurd rfl (hd xs)
 |one _=>simp only[eX,hv,loc]
 |sl _ _=>simp only[eX,hv,loc]
 |bx _ _=>simp only[eX,hv,loc]
 |any _=>simp only[eX,hv,loc]
def D.oU (hk:d.kid i=some x)(hf:D.free (i::p) d=true):D.free [i] d=true/\D.free p x=true:=by
 simp only[D.free,hk,k_Bool_and_eq_true]at hf|-
 exact⟨⟨hf.1,trivial⟩,hf.2⟩
def Alike (m n:D):Prop:=(∃u u',m= .one u/\n= .one u')\/∃us us':List Value,m= .agg (us.map D.one)/\n= .agg (us'.map D.one)/\us.length=us'.length
def anG:∀us:List Value,D.ws (us.map D.one)=us.length
 |[]=>by simp[D.ws]
 |u::us=>by simp[D.ws,D.w,anG us];omega
variable {m n:D}
def Alike.wd (h:Alike m n):n.w=m.w:=by
 rcases h with⟨u,u',rfl,rfl⟩|⟨us,us',rfl,rfl,hl⟩
 ·rfl
 ·simp[D.w,anG,hl]
def awD {w:World}{u u':Value}(r:List Nat)(b o:Nat):eX w' r (.one u') b o=eX w r (.one u) b o:=by
 cases r with
 |nil=>simp[eX]
 |cons j r=>rw[vK (fun xs e=>by cases e) (fun v x b' off' _ hx=>by simp[Dv.into]at hx),vK (fun xs e=>by cases e) (fun v x b' off' _ hx=>by simp[Dv.into]at hx)]
def Alike.loc {w:World}(h:Alike m n)(r:List Nat)(b o:Nat):eX w' r n b o=eX w r m b o:=by
 rcases h with⟨u,u',rfl,rfl⟩|⟨us,us',rfl,rfl,hl⟩
 ·exact awD r b o
 ·cases r with
  |nil=>simp[eX]
  |cons j r=>
   simp only[yP,aS,←List.map_take,anG];by_cases hj:j<us.length
   ·have hj':j<us'.length:=by omega
    rw[aB hj,aB hj'];simp only[dA,dD];rw[fP (by omega),fP (by omega)];exact awD r _ _
   ·rw[k_List_getElem__eq_none (by omega),k_List_getElem__eq_none (by omega)];rfl
variable {m0 n0:D}{l:List Nat}
def R.adC {w:World}(hA:Alike m0 n0) {b' off':Nat}(hr:R P w ow d l [v]) (hx:Dv.into d i v=some (x,b',off')) (hf:D.free (i::p) d=true)
  (hl':eX w p x b' off'=some (b1,o1)) (hs:D.sub p x=some m0) (hw:Wr w w' b1 o1 m0.w) (ih:∀r,eX w' r (D.upd p x n0) b' off'=eX w r x b' off') (j:Nat) (r:List Nat):
  loc w' (j::r) (D.upd (i::p) d n0) v=loc w (j::r) d v:=by
 obtain⟨hkid,hL,_,hfr⟩:=hr.into hx;obtain⟨hf1,hf2⟩:=D.oU hkid hf;have hob:=hfr hf1;obtain⟨_,_,hat⟩:=gZ.at p hL hl' hs;have hxw:=D.GH p x n0 m0 hs hA.wd;have hupd:D.upd (i::p) d n0=d.gB i (D.upd p x n0):=by simp only[D.upd,hkid]
 simp only[loc];rw[hupd,R9 hkid hxw];cases hj:Dv.into d j v with
 |none=>rfl
 |some res=>
  obtain⟨y,b2,o2⟩:=res;simp only[dA];by_cases hij:j=i
  ·subst hij;rw[hx]at hj;obtain⟨rfl,rfl,rfl⟩:x=y/\b'=b2/\off'=o2:=by simpa using hj
   rw[if_pos rfl];exact ih r
  ·rw[if_neg hij];obtain⟨hkj,hLj,hoj,_⟩:=hr.into hj
   have hb2:b2=b':=by
    cases d with
    |agg xs=>simp[Dv.into]at hx
    |one _=>cases hkid
    |any _=>cases hkid
    |sl o xs=>
     cases v with
     |slice a n cap=>
      cases a with
      |none=>simp[Dv.into]at hx
      |some a=>
       obtain⟨ab,ao,as⟩:=a;cases as with
       |some _=>simp[Dv.into]at hx
       |none=>
        simp only[Dv.into,aL,bZ]at hx hj;obtain⟨_,_,_,rfl,_⟩:=hx;obtain⟨_,_,_,rfl,_⟩:=hj;rfl
     |_=>simp[Dv.into]at hx
    |bx o z=>
     simp only[D.kid]at hkid hkj;split at hkid
     ·split at hkj
      ·omega
      ·cases hkj
     ·cases hkid
   subst hb2;refine LB hw r hLj ?_ ?_
   ·rcases hat hf2 with⟨rfl,_,_⟩|⟨q,hq⟩
    ·exact⟨by rw[hob];simp,fun q' hq'=>by rw[hob]at hq';exact suffix_absurd (by simpa using hq')⟩
    ·exact⟨by rw[hq];simp,fun q' hq'=>hij (suffix_inj (by rw[hq]at hq';simpa using hq'.symm))⟩
   ·rcases hat hf2 with⟨rfl,h5,h6⟩|⟨q,hq⟩
    ·right;cases d with
     |agg xs=>simp[Dv.into]at hx
     |one _=>cases hkid
     |any _=>cases hkid
     |bx o z=>
      simp only[D.kid]at hkid hkj;split at hkid
      ·split at hkj
       ·omega
       ·cases hkj
      ·cases hkid
     |sl o xs=>
      simp only[R]at hr;obtain⟨a,cap,hva,_,_,h4⟩:=hr;obtain rfl:v= .slice a xs.length cap:=by simpa using hva
      simp only[D.kid]at hkid hkj;rcases h4 with⟨_,h4,_⟩|⟨_,h4⟩|⟨b3,off3,s,C,e,fz,rfl,hh,_,_,hr0⟩
      ·rw[h4]at hkid;simp at hkid
      ·rw[h4]at hkid;simp at hkid
      ·have hall:=(Rs.iff hh).1 hr0;obtain⟨gx,_⟩:=hall i x hkid;obtain⟨gy,_⟩:=hall j y hkj;simp only[Dv.into,hkid,hkj,dA,aJ,bZ]at hx hj;obtain⟨_,_,rfl⟩:=hx;obtain⟨_,_,rfl⟩:=hj;try simp only[D.w]at h6
       rw[gx]at h5 h6;rw[gy];rcases sH hij with h7|h7
       ·right;have:j*s+s<=i*s:=by rw[←Nat.succ_mul];exact aX _ h7
        omega
       ·left;have:i*s+s<=j*s:=by rw[←Nat.succ_mul];exact aX _ h7
        omega
    ·left;intro e;rw[←e,hob]at hq;exact suffix_absurd (by simpa using hq)
def E8 (hd:∀xs,d≠ .agg xs):∀xs,D.upd (i::p) d n≠ .agg xs:=by
 intro xs;simp only[D.upd];cases hk:d.kid i with
 |none=>exact hd xs
 |some x=>
  cases d with
  |agg ys=>exact absurd rfl (hd ys)
  |one _=>cases hk
  |any _=>cases hk
  |sl _ _=>simp[D.gB]
  |bx _ _=>simp[D.gB]
def gZ.UM {w:World}(hA:Alike m0 n0):∀(p r:List Nat) {d:D}{l:List Nat}{b off b1 o1:Nat},gZ P w ow d l b off->eX w p d b off=some (b1,o1)->D.sub p d=some m0->
  D.free p d=true->Wr w w' b1 o1 m0.w->(∀q,ow b≠some (q++l))->ow b≠none->
  eX w' r (D.upd p d n0) b off=eX w r d b off
 |p,[],d,l,b,off,b1,o1,h,hl,hs,hf,hw,hb1,hb2=>by simp[eX]
 |[],j::r,d,l,b,off,b1,o1,h,hl,hs,hf,hw,hb1,hb2=>by
  simp only[D.sub,aJ]at hs;subst hs;simp only[D.upd];exact hA.loc (j::r) b off
 |i::p,j::r,d,l,b,off,b1,o1,h,hl,hs,hf,hw,hb1,hb2=>by
  by_cases hagg:∃xs,d= .agg xs
  ·obtain⟨xs,rfl⟩:=hagg;simp only[eX]at hl;simp only[D.sub,D.kid]at hs;simp only[D.free,D.kid,fD]at hf;cases hx:xs[i]? with
   |none=>rw[hx]at hl;cases hl
   |some x=>
    rw[hx]at hl hs hf;have hk:=h.xE hx;obtain⟨_,_,hat⟩:=gZ.at p hk hl hs;have hxw:=D.GH p x n0 m0 hs hA.wd;simp only[D.upd,D.kid,hx,D.gB,yP];rw[GI xs i x _ hx hxw];by_cases hij:j=i
    ·subst hij;have hlt:=(aD.1 hx).1;rw[bG hlt,hx];exact gZ.UM hA p r hk hl hs hf hw (fun q hq=>hb1 (q++[j]) (by simpa using hq)) hb2
    ·rw[bI (by omega)];cases hy:xs[j]? with
     |none=>rfl
     |some y=>
      simp only;refine LB hw r (h.xE hy) ?_ ?_
      ·rcases hat hf with⟨rfl,_,_⟩|⟨q,hq⟩
       ·exact⟨hb2,fun q hq=>hb1 (q++[j]) (by simpa using hq)⟩
       ·refine⟨by rw[hq];simp,fun q' hq'=> ?_⟩;rw[hq]at hq';exact hij (suffix_inj (by simpa using hq'.symm))
      ·rcases hat hf with⟨rfl,h5,h6⟩|⟨q,hq⟩
       ·right;have:=TK xs i j x y hx hy (by omega);try simp only[D.w]at h6
        omega
       ·left;intro e;subst e;exact hb1 (q++[i]) (by simpa using hq)
  ·have hd:∀xs,d≠ .agg xs:=fun xs e=>hagg ⟨xs,e⟩;obtain⟨v,x,b',off',hv,hx,hl'⟩:=uH hd hl;obtain⟨v',hv',hr⟩:=h.cell (EQ hx).1;rw[hv]at hv';obtain rfl:v=v':=by simpa using hv'
   obtain⟨hkid,hL,_,hfr⟩:=hr.into hx;simp only[D.sub,hkid]at hs;obtain⟨hf1,hf2⟩:=D.oU hkid hf;have hob:=hfr hf1;obtain⟨_,_,hat⟩:=gZ.at p hL hl' hs
   have hne:b≠b1:=by
    rintro rfl;rcases hat hf2 with⟨rfl,_,_⟩|⟨q,hq⟩
    ·exact hb1 [] (by simpa using hob)
    ·exact hb1 (q++[i]) (by simpa using hq)
   have hcell:w'.cell? ⟨b,off,none⟩=some v:=by rw[hw.cell (.inl hne)];exact hv
   rw[akG hd hv,akG (E8 hd) hcell];exact hr.adC hA hx hf hl' hs hw (fun r=>gZ.UM hA p r hL hl' hs hf2 hw (fun q hq=>by rw[hob]at hq;exact suffix_absurd (by simpa using hq)) (by rw[hob];simp)) j r
def R.UM {w:World}(hA:Alike m0 n0) (hr:R P w ow d l [v]) (hl:loc w p d v=some (b1,o1)) (hs:D.sub p d=some m0)
  (hf:D.free p d=true) (hw:Wr w w' b1 o1 m0.w) (r:List Nat):loc w' r (D.upd p d n0) v=loc w r d v:=by
 cases r with
 |nil=>rfl
 |cons j r=>
  cases p with
  |nil=>simp[loc]at hl
  |cons i p=>
   simp only[loc]at hl;cases hx:Dv.into d i v with
   |none=>rw[hx]at hl;cases hl
   |some res=>
    obtain⟨x,b',off'⟩:=res;rw[hx]at hl;obtain⟨hk,hL,_,hfr⟩:=hr.into hx;simp only[D.sub,hk]at hs;obtain⟨hf1,hf2⟩:=D.oU hk hf;have hob:=hfr hf1;exact hr.adC hA hx hf hl hs hw (fun r=>gZ.UM hA p r hL hl hs hf2 hw (fun q hq=>by rw[hob]at hq;exact suffix_absurd (by simpa using hq)) (by rw[hob];simp)) j r
def Same (w:World)(ow:Own)(l:List Nat)(w':World):Prop:=
 ∀b,b<w.heap.size->(ow b=none\/∃q,ow b=some (q++l))->w'.heap[b]?=w.heap[b]?
def Same.child {w:World}(h:Same w ow l w')(i:Nat):Same w ow (i::l) w':=fun b hb ho=>h b hb (ho.imp id fun⟨q,hq⟩=>⟨q++[i],by simpa using hq⟩)
def Keeps.same {w:World}{ow':Own}{l2:List Nat}(h:Keeps w ow l w' ow' l2):Same w ow l w':=fun b hb ho=>by
 rcases ho with ho|⟨q,hq⟩
 ·exact((h b hb).1 ho).1
 ·exact((h b hb).2 q hq).1
def aa8 {w:World}{o:Nat}(h:w'.heap[b]?=w.heap[b]?):w'.cell? ⟨b,o,none⟩=w.cell? ⟨b,o,none⟩:=by simp[World.cell?,h]
def XG {w:World}:∀(r:List Nat) {d:D}{l:List Nat}{b off:Nat},gZ P w ow d l b off->Same w ow l w'->w'.heap[b]?=w.heap[b]?->eX w' r d b off=eX w r d b off
 |[],_,_,_,_,_,_,_=>by simp[eX]
 |i::r,d,l,b,off,h,hs,hb=>by
  by_cases hagg:∃xs,d= .agg xs
  ·obtain⟨xs,rfl⟩:=hagg;simp only[yP];cases hx:xs[i]? with
   |none=>rfl
   |some x=>exact XG r (h.xE hx) (hs.child i) hb
  ·have hd:∀xs,d≠ .agg xs:=fun xs e=>hagg ⟨xs,e⟩;by_cases hex:∃v x b' off',w.cell? ⟨b,off,none⟩=some v/\into d i v=some (x,b',off')
   ·obtain⟨v,x,b',off',hv,hx⟩:=hex;have hcell:w'.cell? ⟨b,off,none⟩=some v:=by rw[aa8 hb];exact hv
    rw[sJ hd hv hx,sJ hd hcell hx];obtain⟨v',hv',hr⟩:=h.cell (EQ hx).1;rw[hv]at hv';obtain rfl:v=v':=by simpa using hv'
    obtain⟨_,hL,hob,_⟩:=hr.into hx;refine XG r hL (hs.child i) (hs _ hL.lt ?_);rcases hob with hob|hob
    ·exact .inl hob
    ·exact .inr ⟨[],by simpa using hob⟩
   ·rw[vK hd fun v x b' off' hv hx=>hex ⟨v,x,b',off',hv,hx⟩,vK hd fun v x b' off' hv hx=>hex ⟨v,x,b',off',by rw[aa8 hb]at hv;exact hv,hx⟩]
def aqE {w:World}(h:R P w ow d l [v])(hs:Same w ow l w'):loc w' p d v=loc w p d v:=by
 cases p with
 |nil=>rfl
 |cons i p=>
  simp only[loc];cases hx:Dv.into d i v with
  |none=>rfl
  |some r=>
   obtain⟨x,b,off⟩:=r;obtain⟨_,hL,hob,_⟩:=h.into hx;refine XG p hL (hs.child i) (hs _ hL.lt ?_);rcases hob with hob|hob
   ·exact .inl hob
   ·exact .inr ⟨[],by simpa using hob⟩
def R.at {w:World}(h:R P w ow d l [v])(hl:loc w p d v=some (b1,o1))(hs:D.sub p d=some n):
  gZ P w ow n (p.reverse++l) b1 o1/\(ow b1=none\/∃q,ow b1=some (q++l))/\(D.free p d=true->∃q,ow b1=some (q++l)):=by
 cases p with
 |nil=>simp[loc]at hl
 |cons i p=>
  simp only[loc]at hl;cases hx:Dv.into d i v with
  |none=>rw[hx]at hl;cases hl
  |some r=>
   obtain⟨x,b,off⟩:=r;rw[hx]at hl;obtain⟨hk,hL,hob,hfr⟩:=h.into hx;simp only[D.sub,hk]at hs;obtain⟨h1,h2,h3⟩:=gZ.at p hL hl hs;refine⟨by simpa using h1,?_,?_⟩
   ·rcases h2 with⟨rfl,_,_⟩|h2|⟨q,hq⟩
    ·rcases hob with hob|hob
     ·exact .inl hob
     ·exact .inr ⟨[],by simpa using hob⟩
    ·exact .inl h2
    ·exact .inr ⟨q++[i],by simpa using hq⟩
   ·intro hf
    have hf1:D.free [i] d=true:=by
     simp only[D.free,hk]at hf|-
     simp only[k_Bool_and_eq_true]at hf;simp[hf.1]
    have hf2:D.free p x=true:=by
     simp only[D.free,hk,k_Bool_and_eq_true]at hf;exact hf.2
    rcases h3 hf2 with⟨rfl,_,_⟩|⟨q,hq⟩
    ·exact⟨[],by simpa using hfr hf1⟩
    ·exact⟨q++[i],by simpa using hq⟩
end Go.Dv
end
section
namespace Go
def aF:= @Array.getD_eq_getD_getElem?
def dV:= @Bool.false_eq_true
def k_Ne_symm:= @Ne.symm
end Go
end
section
namespace Go.Dv
open Go.RowKit
inductive S where
 |un
 |val (d:D)
 |rp (d:D)
 |own (d:D)
 |al (t:Nat) (p:List Nat)
 |rf (t:Nat) (p:List Nat)
 |ag (t:Nat) (p:List Nat)
 |tup (l:List S)
abbrev St:=Nat->S
def D.isAgg:D->Bool
 | .agg _=>true
 |_=>false
def D.JS:D->Bool
 | .sl _ _=>true
 | .bx _ _=>true
 |_=>false
def S.fJ:S->Bool
 | .own _=>true
 |_=>false
def S.root:S->Option Nat
 | .al t _=>some t
 | .rf t _=>some t
 | .ag t _=>some t
 |_=>none
def S.drop (t:Nat)(x:S):S:=if x.root=some t then .un else x
def St.put (s:St)(t:Nat)(x:S):St:=fun j=>if j=t then x else s j
def St.kill (s:St)(t:Nat):St:=fun j=>if j=t then .un else(s j).drop t
def aval (a:Act)(i:Nat):Value:=if i<1000000 then a.tmps.getD i undef else .pointer (some ⟨(i-1000000)/2,0,none⟩)
def V (P:Program)(w:World)(ow:Own)(d:D)(l:List Nat)(v:Value):Prop:=
 match d with
 | .agg xs=>∃cs:Array Value,v= .agg cs/\R P w ow (.agg xs) l cs.toList
 |d=>R P w ow d l [v]
variable {P:Program}{w':World}{ow ow':Own}{d:D}{l l2:List Nat}{v:Value}
def V.tr {w:World}(hk:Keeps w ow l w' ow' l2)(h:V P w ow d l v):V P w' ow' d l2 v:=by
 cases d<;>simp only[V]at h|-
 case agg xs=>obtain⟨cs,h1,h2⟩:=h;exact⟨cs,h1,h2.tr hk⟩
 all_goals exact R.tr hk h
def V.fz {w:World}(hk:QK w ow l ow')(h:V P w ow d l v):V P w ow' d.fz l2 v:=by
 cases d<;>simp only[V,D.fz]at h|-
 case agg xs=>obtain⟨cs,h1,h2⟩:=h;exact⟨cs,h1,by simpa only[D.fz]using R.fz hk h2⟩
 all_goals exact(by simpa only[D.fz]using R.fz hk h)
def Quiet (w:World)(ow:Own)(w':World)(ow':Own):Prop:=∀b,b<w.heap.size->ow b=none->w'.heap[b]?=w.heap[b]?/\ow' b=none
mutual
def R.trf {P:Program}{w w':World}{ow ow':Own}:∀{d:D}{l l2:List Nat}{cs:List Value},Quiet w ow w' ow'->R P w ow d.fz l cs->R P w' ow' d.fz l2 cs
 | .one v,l,l2,cs,_,h=>by simpa only[R,D.fz]using h
 | .sl o xs,l,l2,cs,hk,h=>by
  simp only[R,D.fz]at h|-
  obtain⟨a,cap,h1,h2,h3,h4⟩:=h;refine⟨a,cap,h1,h2,h3,?_⟩;rcases h4 with h4|h4|⟨b,off,s,C,e,fz,ha,hh,hn,hs,hr⟩
  ·exact .inl h4
  ·exact .inr (.inl h4)
  ·refine .inr (.inr ⟨b,off,s,C,e,fz,ha,?_,?_,?_,Rs.trf hk hr⟩)
   ·rw[(hk b (lt_of_heap hh) (hn trivial)).1];exact hh
   ·exact fun ho=>(hk b (lt_of_heap hh) (hn ho)).2
   ·intro t ht;cases ht
 | .agg xs,l,l2,cs,hk,h=>by simp only[R,D.fz]at h|-;exact Ra.trf hk h
 | .bx o x,l,l2,cs,hk,h=>by
  simp only[R,D.fz]at h|-
  obtain⟨b,off,C,e,fz,cs',h1,hh,hn,hs,hl,hc,hr⟩:=h;refine⟨b,off,C,e,fz,cs',h1,?_,?_,?_,hl,hc,R.trf hk hr⟩
  ·rw[(hk b (lt_of_heap hh) (hn trivial)).1];exact hh
  ·exact fun ho=>(hk b (lt_of_heap hh) (hn ho)).2
  ·intro ho;cases ho
 | .any n,l,l2,cs,_,h=>by simpa only[R,D.fz]using h
def Rs.trf {P:Program}{w w':World}{ow ow':Own}:∀{xs:List D}{l l2:List Nat}{i:Nat}{C:Array Value}{off s:Nat},Quiet w ow w' ow'->Rs P w ow (D.fzs xs) l i C off s->Rs P w' ow' (D.fzs xs) l2 i C off s
 |[],_,_,_,_,_,_,_,_=>by simp only[Rs,D.fzs]
 |x::xs,l,l2,i,C,off,s,hk,h=>by
  simp only[Rs,D.fzs]at h|-
  obtain⟨cs,h1,h2,h3,h4,h5⟩:=h;exact⟨cs,h1,h2,h3,R.trf hk h4,Rs.trf hk h5⟩
def Ra.trf {P:Program}{w w':World}{ow ow':Own}:∀{xs:List D}{l l2:List Nat}{i:Nat}{cs:List Value},Quiet w ow w' ow'->Ra P w ow (D.fzs xs) l i cs->Ra P w' ow' (D.fzs xs) l2 i cs
 |[],_,_,_,_,_,h=>by simpa only[Ra,D.fzs]using h
 |x::xs,l,l2,i,cs,hk,h=>by
  simp only[Ra,D.fzs]at h|-
  obtain⟨c1,c2,h1,h2,h3,h4⟩:=h;exact⟨c1,c2,h1,h2,R.trf hk h3,Ra.trf hk h4⟩
end
def V.trf {P:Program}{w w':World}{ow ow':Own}{d:D}{l l2:List Nat}{v:Value}(hk:Quiet w ow w' ow')(h:V P w ow d.fz l v):V P w' ow' d.fz l2 v:=by
 cases d<;>simp only[V,D.fz]at h|-
 case agg xs=>obtain⟨cs,h1,h2⟩:=h;exact⟨cs,h1,by have:=R.trf (d:= .agg xs) (l2:=l2) hk (by simpa only[D.fz]using h2);simpa only[D.fz]using this⟩
 case one v=>exact h
 case any n=>exact h
 case sl o xs=>have:=R.trf (d:= .sl o xs) (l2:=l2) hk (by simpa only[D.fz]using h);simpa only[D.fz]using this
 case bx o x=>have:=R.trf (d:= .bx o x) (l2:=l2) hk (by simpa only[D.fz]using h);simpa only[D.fz]using this
def gZ.trf {w:World}{b off:Nat}(hk:Quiet w ow w' ow')(hb:ow b=none)(h:gZ P w ow d.fz l b off):gZ P w' ow' d.fz l2 b off:=by
 obtain⟨C,e,fz,cs,h1,h2,h3⟩:=h;exact⟨C,e,fz,cs,by rw[(hk b (lt_of_heap h1) hb).1];exact h1,h2,h3.trf hk⟩
def SV (P:Program)(w:World)(ow:Own)(s:St)(a:Act)(i:Nat)(x:S)(v:Value):Prop:=
 match x with
 | .un=>True
 | .val d=>V P w ow d.fz [] v
 | .rp d=>∃b off,v= .pointer (some ⟨b,off,none⟩)/\ow b=none/\gZ P w ow d.fz [] b off
 | .own d=>V P w ow d [i] v
 | .al t p=>∃d n,s t= .own d/\D.sub p d=some n/\(n.w=1/\n.isAgg=false/\(p=[]\/n.JS=true))/\((p=[]/\v=aval a t)\/∃b off,loc w p d (aval a t)=some (b,off)/\w.cell? ⟨b,off,none⟩=some v)
 | .rf t p=>∃d n b off,s t= .own d/\D.sub p d=some n/\loc w p d (aval a t)=some (b,off)/\v= .pointer (some ⟨b,off,none⟩)
 | .ag t p=>∃d n,s t= .own d/\D.sub p d=some n/\n.isAgg=true/\V P w ow n (p.reverse++[t]) v
 | .tup l=>∃vs:Array Value,v= .tuple vs/\vs.size=l.length/\∀k x,l[k]?=some x->(match x with|S.val d=>V P w ow d.fz [] (vs.getD k undef)|S.own d=>V P w ow d [k,i] (vs.getD k undef)|_=>True)
structure Bel (w0:World) (ow0:Own) (w:World):Prop where
 os:w.os=w0.os
 tape:w.tape=w0.tape
 output:w.output=w0.output
 size:w0.heap.size<=w.heap.size
 block:∀b,b<w0.heap.size->ow0 b=none->w.heap[b]?=w0.heap[b]?
def far0:Nat:=3000001
class lL where
 ok:List (Nat×Obj)->Prop
variable [lL]
def Laid (w:World)(ow:Own):Prop:=∃gl,lL.ok gl/\∀p∈gl,w.heap[p.1]?=some p.2/\ow p.1=none
def Laid.mono {w:World}(h:Laid w ow)(hw:∀b o,w.heap[b]?=some o->ow b=none->w'.heap[b]?=some o/\ow' b=none):Laid w' ow':=by
 obtain⟨gl,h1,h2⟩:=h;exact⟨gl,h1,fun p hp=>hw _ _ (h2 p hp).1 (h2 p hp).2⟩
structure Fits (P:Program) (n:Nat) (w0:World) (ow0:Own) (ow:Own) (s:St) (a:Act) (w:World):Prop where
 nodef:a.defers=[]
 size:a.tmps.size=n
 small:n<=1000000
 laid:Laid w0 ow0
 bel:Bel w0 ow0 w
 own:∀b,b<w0.heap.size->ow0 b=none->ow b=none
 new:∀b,w.heap.size<=b->ow b=none
 far:s far0= .un
 keep:∀b,b<w0.heap.size->∀q,ow0 b=some (q++[far0])->w.heap[b]?=w0.heap[b]?/\ow b=some (q++[far0])
 slot:∀i,SV P w ow s a i (s i) (aval a i)
variable {n:Nat}{w0:World}{ow0:Own}{s:St}{a:Act}
def Fits.OU {w:World}(h:Fits P n w0 ow0 ow s a w):Laid w ow:=h.laid.mono fun b o h1 h2=>by
 have hlt:=lt_of_heap h1;exact⟨(h.bel.block b hlt h2).trans h1,h.own b hlt h2⟩
def Rel (P:Program)(n:Nat)(w0:World)(ow0:Own)(s:St)(a:Act)(w:World):Prop:=∃ow,Fits P n w0 ow0 ow s a w
variable {t i:Nat}
def CB (hs:a.tmps.size=n)(hn:n<=1000000)(ht:t<n):aval (a.put (some t) v) i=if i=t then v else aval a i:=by
 unfold aval Act.put;by_cases hi:i<1000000
 ·rw[if_pos hi];simp only[if_pos hi];by_cases h:i=t
  ·subst h;simp[hs,ht]
  ·rw[if_neg h];simp[aF,k_Ne_symm h]
 ·rw[if_neg hi,if_neg (by omega),if_neg hi]
variable {x:S}
def SV.put {w:World}{y:S}{u:Value}(hs:a.tmps.size=n)(hn:n<=1000000)(ht:t<n)(ho:(s t).fJ=false)(h:SV P w ow s a i y u):
  SV P w ow (s.put t x) (a.put (some t) v) i y u:=by
 cases y with
 |al r p=>
  obtain⟨d,m,h1,h2,h3,h4⟩:=h;have hrt:r≠t:=by rintro rfl;rw[h1]at ho;cases ho
  exact⟨d,m,by simpa[St.put,hrt]using h1,h2,h3,by rw[CB hs hn ht,if_neg hrt];exact h4⟩
 |rf r p=>
  obtain⟨d,m,b,off,h1,h2,h3,h4⟩:=h;have hrt:r≠t:=by rintro rfl;rw[h1]at ho;cases ho
  exact⟨d,m,b,off,by simpa[St.put,hrt]using h1,h2,by rw[CB hs hn ht,if_neg hrt];exact h3,h4⟩
 |ag r p=>
  obtain⟨d,m,h1,h2⟩:=h;have hrt:r≠t:=by rintro rfl;rw[h1]at ho;cases ho
  exact⟨d,m,by simpa[St.put,hrt]using h1,h2⟩
 |un=>trivial
 |val d=>exact h
 |rp d=>exact h
 |own d=>exact h
 |tup l=>exact h
def Fits.put {w:World}(h:Fits P n w0 ow0 ow s a w)(ht:t<n)(ho:(s t).fJ=false)(hx:SV P w ow s a t x v):
  Fits P n w0 ow0 ow (s.put t x) (a.put (some t) v) w:=by
 refine⟨h.nodef,by simp[Act.put,h.size],h.small,h.laid,h.bel,h.own,h.new,?_,h.keep,fun i=> ?_⟩
 ·have:far0≠t:=by have:=h.small;unfold far0;omega
  simp only[St.put,if_neg this,h.far]
 rw[CB h.size h.small ht];by_cases hi:i=t
 ·subst hi;simp only[St.put,if_true];exact SV.put h.size h.small ht ho hx
 ·rw[if_neg hi];have:(s.put t x) i=s i:=by simp[St.put,hi]
  rw[this];exact SV.put h.size h.small ht ho (h.slot i)
def vH (s:St)(t i:Nat):(s.kill t) i= .un\/((s.kill t) i=s i/\i≠t/\(s i).root≠some t):=by
 by_cases hi:i=t
 ·left;simp[St.kill,hi]
 ·by_cases hr:(s i).root=some t
  ·left;simp[St.kill,hi,S.drop,hr]
  ·right;exact⟨by simp[St.kill,hi,S.drop,hr],hi,hr⟩
variable {s':St}{a':Act}
def SV.alZ {w:World}(h:SV P w ow s a i x v)(hr:∀j,x.root=some j->s' j=s j/\aval a' j=aval a j):SV P w ow s' a' i x v:=by
 cases x with
 |al r p=>
  obtain⟨d,m,h1,h2⟩:=h;obtain⟨g1,g2⟩:=hr r rfl;exact⟨d,m,by rw[g1];exact h1,by rw[g2];exact h2⟩
 |rf r p=>
  obtain⟨d,m,b,off,h1,h2⟩:=h;obtain⟨g1,g2⟩:=hr r rfl;exact⟨d,m,b,off,by rw[g1];exact h1,by rw[g2];exact h2⟩
 |ag r p=>
  obtain⟨d,m,h1,h2⟩:=h;obtain⟨g1,g2⟩:=hr r rfl;exact⟨d,m,by rw[g1];exact h1,h2⟩
 |un=>trivial
 |val d=>exact h
 |rp d=>exact h
 |own d=>exact h
 |tup l=>exact h
def SV.root {w:World}{j:Nat}(h:SV P w ow s a i x v)(hx:x.root=some j):(s j).fJ=true:=by
 cases x with
 |al r p=>obtain⟨d,m,h1,_⟩:=h;obtain rfl:r=j:=by simpa[S.root]using hx
          rw[h1];rfl
 |rf r p=>obtain⟨d,m,b,off,h1,_⟩:=h;obtain rfl:r=j:=by simpa[S.root]using hx
          rw[h1];rfl
 |ag r p=>obtain⟨d,m,h1,_⟩:=h;obtain rfl:r=j:=by simpa[S.root]using hx
          rw[h1];rfl
 |_=>cases hx
def own_root (h:x.fJ=true):x.root=none:=by cases x<;>first|rfl|cases h
def Fits.kill {w:World}(h:Fits P n w0 ow0 ow s a w)(t:Nat):Fits P n w0 ow0 ow (s.kill t) a w:=by
 refine⟨h.nodef,h.size,h.small,h.laid,h.bel,h.own,h.new,?_,h.keep,fun i=> ?_⟩
 ·rcases vH s t far0 with h1|⟨h1,_⟩
  ·exact h1
  ·rw[h1,h.far]
 rcases vH s t i with h1|⟨h1,_,h2⟩
 ·rw[h1];trivial
 ·rw[h1];refine(h.slot i).alZ fun j hj=>⟨?_,rfl⟩;have ho:=(h.slot i).root hj;rcases vH s t j with h3|⟨h3,_⟩
  ·exfalso;have hjt:j≠t:=by rintro rfl;exact h2 hj
   simp[St.kill,hjt,S.drop,own_root ho]at h3;rw[h3]at ho;cases ho
  ·exact h3
def St.free (s:St)(t:Nat):St:=if(s t).fJ then s.kill t else s
def Fits.free {w:World}(h:Fits P n w0 ow0 ow s a w)(t:Nat):Fits P n w0 ow0 ow (s.free t) a w/\((s.free t) t).fJ=false:=by
 by_cases ho:(s t).fJ=true
 ·simp only[St.free,ho,if_true];exact⟨h.kill t,by simp[St.kill,S.fJ]⟩
 ·have ho':(s t).fJ=false:=by simpa using ho
  simp only[St.free,ho',dV,if_false];exact⟨h,trivial⟩
def V.one {w:World}{p:List Nat}{r:Nat×Nat}(h:V P w ow d l v)(hl:loc w (i::p) d v=some r):R P w ow d l [v]:=by
 cases d with
 |agg xs=>simp[loc,Dv.into]at hl
 |one _=>exact h
 |sl _ _=>exact h
 |bx _ _=>exact h
 |any _=>exact h
def SV.keep {w:World}(h:SV P w ow s a i x v) (hq:Quiet w ow w' ow')
  (ho:x.fJ=true\/(∃l,x= .tup l)->∀b,b<w.heap.size->∀q,ow b=some (q++[i])->w'.heap[b]?=w.heap[b]?/\ow' b=some (q++[i]))
  (hr:∀j,x.root=some j->∀d,s j= .own d->V P w ow d [j] (aval a j)->s' j= .own d/\aval a' j=aval a j/\(∀b,b<w.heap.size->∀q,ow b=some (q++[j])->w'.heap[b]?=w.heap[b]?/\ow' b=some (q++[j])))
  (hv:∀j d,s j= .own d->V P w ow d [j] (aval a j)):SV P w' ow' s' a' i x v:=by
 cases x with
 |un=>trivial
 |val d=>exact V.trf hq h
 |rp d=>
  obtain⟨b,off,h1,h2,h3⟩:=h;exact⟨b,off,h1,(hq b h3.lt h2).2,h3.trf hq h2⟩
 |own d=>
  refine V.tr (fun b hb=>⟨hq b hb,fun q hq'=> ?_⟩) h;exact ho (.inl rfl) b hb q hq'
 |al j p=>
  obtain⟨d,n,h1,h2,h3,h4⟩:=h;obtain⟨g1,g2,g3⟩:=hr j rfl d h1 (hv j d h1);refine⟨d,n,g1,h2,h3,?_⟩;rw[g2];rcases h4 with h4|⟨b,off,h4,h5⟩
  ·exact .inl h4
  ·right;cases p with
   |nil=>simp[loc]at h4
   |cons k p=>
    have hR:=(hv j d h1).one h4
    have hs:Same w ow [j] w':=fun b hb ho=>by
     rcases ho with ho|⟨q,hq'⟩
     ·exact(hq b hb ho).1
     ·exact(g3 b hb q hq').1
    obtain⟨hL,hob,_⟩:=hR.at h4 h2;refine⟨b,off,by rw[aqE hR hs];exact h4,?_⟩;rw[aa8 (hs b hL.lt hob)];exact h5
 |rf j p=>
  obtain⟨d,n,b,off,h1,h2,h4,h5⟩:=h;obtain⟨g1,g2,g3⟩:=hr j rfl d h1 (hv j d h1);refine⟨d,n,b,off,g1,h2,?_,h5⟩;rw[g2];cases p with
  |nil=>simp[loc]at h4
  |cons k p=>
   have hR:=(hv j d h1).one h4
   have hs:Same w ow [j] w':=fun b hb ho=>by
    rcases ho with ho|⟨q,hq'⟩
    ·exact(hq b hb ho).1
    ·exact(g3 b hb q hq').1
   rw[aqE hR hs];exact h4
 |ag j p=>
  obtain⟨d,n,h1,h2,h3,h4⟩:=h;obtain⟨g1,g2,g3⟩:=hr j rfl d h1 (hv j d h1);refine⟨d,n,g1,h2,h3,V.tr (fun b hb=>⟨hq b hb,fun q hq'=> ?_⟩) h4⟩;have:=g3 b hb (q++p.reverse) (by simpa using hq');simpa using this
 |tup l=>
  obtain⟨vs,h1,h2,h3⟩:=h;refine⟨vs,h1,h2,fun k x hk=> ?_⟩;have:=h3 k x hk;cases x with
  |val d=>exact V.trf hq this
  |own d=>
   refine V.tr (fun b hb=>⟨hq b hb,fun q hq'=> ?_⟩) this;have:=ho (.inr ⟨l,rfl⟩) b hb (q++[k]) (by simpa using hq');simpa using this
  |_=>trivial
end Go.Dv
end
section
namespace Go
def k_Nat_le_trans:= @Nat.le_trans
def dZ:= @Nat.lt_of_lt_of_le
end Go
end
section
namespace Go.Dv
open Go.RowKit
variable [lL]
variable {P:Program}{n:Nat}{w0:World}{ow0 ow ow':Own}{s:St}{a a':Act}
def Fits.change {w w':World}{s':St}(h:Fits P n w0 ow0 ow s a w) (nd:a'.defers=[]) (sz:a'.tmps.size=n)
  (hos:w'.os=w.os) (htape:w'.tape=w.tape) (hout:w'.output=w.output) (hsz:w.heap.size<=w'.heap.size) (hq:Quiet w ow w' ow') (hnew:∀b,w'.heap.size<=b->ow' b=none) (T:Nat->Prop)
  (hT:∀j,¬T j->∀b,b<w.heap.size->∀q,ow b=some (q++[j])->w'.heap[b]?=w.heap[b]?/\ow' b=some (q++[j]))
  (hs:∀i,¬T i->aval a' i=aval a i/\(s' i= .un\/(s' i=s i/\∀j,(s i).root=some j->¬T j/\s' j=s j)))
  (hx:∀i,T i->SV P w' ow' s' a' i (s' i) (aval a' i)) (hJ:¬T far0):Fits P n w0 ow0 ow' s' a' w':=by
 refine⟨nd,sz,h.small,h.laid,⟨hos.trans h.bel.os,htape.trans h.bel.tape,hout.trans h.bel.output,k_Nat_le_trans h.bel.size hsz,fun b hb ho=> ?_⟩,fun b hb ho=> ?_,hnew,?_,fun b hb q ho=> ?_,fun i=> ?_⟩
 ·rw[(hq b (dZ hb h.bel.size) (h.own b hb ho)).1];exact h.bel.block b hb ho
 ·exact(hq b (dZ hb h.bel.size) (h.own b hb ho)).2
 ·rcases(hs _ hJ).2 with h1|⟨h1,_⟩
  ·exact h1
  ·rw[h1,h.far]
 ·obtain⟨h1,h2⟩:=h.keep b hb q ho;obtain⟨h3,h4⟩:=hT _ hJ b (dZ hb h.bel.size) q h2;exact⟨h3.trans h1,h4⟩
 ·by_cases hi:T i
  ·exact hx i hi
  ·obtain⟨h1,h2⟩:=hs i hi;rw[h1];rcases h2 with h2|⟨h2,h3⟩
   ·rw[h2];trivial
   ·rw[h2];refine(h.slot i).keep hq (fun _ b hb q hq'=>hT i hi b hb q hq') (fun j hj d hd _=> ?_) (fun j d hd=>by have:=h.slot j;rw[hd]at this;exact this);obtain⟨g1,g2⟩:=h3 j hj;exact⟨by rw[g2];exact hd,(hs j g1).1,fun b hb q hq'=>hT j g1 b hb q hq'⟩
def Fits.grown {w w':World}(h:Fits P n w0 ow0 ow s a w)
  (hos:w'.os=w.os) (htape:w'.tape=w.tape) (hout:w'.output=w.output) (hsz:w.heap.size<=w'.heap.size) (hb:∀b,b<w.heap.size->w'.heap[b]?=w.heap[b]?/\ow' b=ow b) (hnew:∀b,w'.heap.size<=b->ow' b=none):Fits P n w0 ow0 ow' s a w':=
 h.change h.nodef h.size hos htape hout hsz (fun b hlt ho=>⟨(hb b hlt).1,by rw[(hb b hlt).2];exact ho⟩) hnew (fun _=>False) (fun j _ b hlt q hq=>⟨(hb b hlt).1,by rw[(hb b hlt).2];exact hq⟩)
  (fun i _=>⟨rfl,.inr ⟨rfl,fun j _=>⟨id,rfl⟩⟩⟩) (fun i hi=>hi.elim) id
def Fits.drew {w:World}(h:Fits P n w0 ow0 ow s a w):Fits P n w0 ow0 ow s a {w with drawn:=w.drawn+1}:=
 h.grown rfl rfl rfl (k_Nat_le_refl _) (fun _ _=>⟨rfl,rfl⟩) h.new
def St.set (s:St)(t:Nat)(x:S):St:=(s.free t).put t x
def St.jR (s:St)(t:Option Nat)(x:S):St:=match t with
 |some t=>s.set t x
 |none=>s
variable {t:Nat}{v:Value}
def Fits.set {w:World}{x:S}(h:Fits P n w0 ow0 ow s a w)(ht:t<n)(hx:SV P w ow (s.free t) a t x v):
  Fits P n w0 ow0 ow (s.set t x) (a.put (some t) v) w:=by
 obtain⟨h1,h2⟩:=h.free t;exact h1.put ht h2 hx
def evS (s:St):Operand->S
 | .tmp t=>if t<1000000 then s t else .un
 | .const v=>if v.oneCell' then .val (.one v)else .un
 | .global g=>s (1000000+2*g)
 | .func f=> .val (.one (.func (.func f) #[] #[]))
def slotOf:Operand->Nat
 | .tmp t=>t
 | .global g=>1000000+2*g
 |_=>2000001
def Fits.eval {w:World}(h:Fits P n w0 ow0 ow s a w)(x:Operand):SV P w ow s a (slotOf x) (evS s x) (a.eval x):=by
 cases x with
 |tmp t=>
  simp only[evS,slotOf,Act.eval];by_cases ht:t<1000000
  ·rw[if_pos ht];have:=h.slot t;unfold aval at this;rw[if_pos ht]at this;exact this
  ·rw[if_neg ht];trivial
 |const v=>
  simp only[evS,Act.eval];split
  ·rename_i hv;simp only[SV,V,D.fz,R];exact⟨trivial,hv⟩
  ·trivial
 |global g=>
  simp only[evS,slotOf,Act.eval];have:=h.slot (1000000+2*g);unfold aval at this;rw[if_neg (by omega)]at this;simpa using this
 |func f=>
  simp only[evS,Act.eval,SV,V,D.fz,R];exact⟨trivial,rfl⟩
variable {x:Operand}
def Fits.one {w:World}(h:Fits P n w0 ow0 ow s a w){u:Value}(hx:evS s x= .val (.one u)):a.eval x=u/\u.oneCell'=true:=by
 have:=h.eval x;rw[hx]at this;simp only[SV,V,D.fz,R]at this;exact⟨by simpa using this.1,by have h2:=this.1;have h3:=this.2;simp at h2;exact h3⟩
def Ok (P:Program)(n:Nat)(w0:World)(ow0:Own)(o:Oper)(s:St)(K:St->Prop):Prop:=
 ∀a w,Rel P n w0 ow0 s a w->∀(next:Act->World->Prop) (Q:Exit->Act->World->Prop),(∀s' a' w',K s'->Rel P n w0 ow0 s' a' w'->next a' w')->o.wp P a w next Q
variable {o:Oper}{K:St->Prop}
def iI 
  (h:∀a w ow,Fits P n w0 ow0 ow s a w->∃v w',(execOp a.eval o).run P w= .ok (.value v) w'/\∃s',K s'/\Rel P n w0 ow0 s' (a.put o.dst v) w'):Ok P n w0 ow0 o s K:=by
 intro a w ⟨ow,hf⟩ next Q hn
 obtain⟨v,w',hr,s',hK,hR⟩:=h a w ow hf;unfold Oper.wp;rw[hr];exact hn s' _ w' hK hR
def aH4 
  (h:∀a w ow,Fits P n w0 ow0 ow s a w->∃w',(execOp a.eval o).run P w= .ok .skip w'/\∃s',K s'/\Rel P n w0 ow0 s' (a.put o.dst undef) w'):Ok P n w0 ow0 o s K:=by
 intro a w ⟨ow,hf⟩ next Q hn
 obtain⟨w',hr,s',hK,hR⟩:=h a w ow hf;unfold Oper.wp;rw[hr];exact hn s' _ w' hK hR
def dstOk (n:Nat)(o:Oper):Bool:=match o.dst with
 |some t=>t<n
 |none=>true
variable {i:Nat}
def SV.A8 {w:World}{u:Value}(h:u.oneCell'=true):SV P w ow s a i (.val (.one u)) u:=by
 simp only[SV,V,D.fz,R];exact⟨trivial,h⟩
def yQ {u:Value}(hd:dstOk n o=true) (hu:u.oneCell'=true)
  (h:∀(a:Act) w,(∀x u,evS s x= .val (.one u)->a.eval x=u)->(execOp a.eval o).run P w= .ok (.value u) w) (hK:K (s.jR o.dst (.val (.one u)))):Ok P n w0 ow0 o s K:=by
 refine iI fun a w ow hf=>⟨u,w,h a w fun x u hx=>(hf.one hx).1,_,hK,ow,?_⟩;cases ho:o.dst with
 |none=>exact hf
 |some t=>
  have ht:t<n:=by simpa[dstOk,ho]using hd
  exact hf.set ht (SV.A8 hu)
def free_at (s:St)(t i:Nat):(s.free t) i= .un\/((s.free t) i=s i/\((s i).root≠some t\/(s t).fJ=false)):=by
 by_cases ho:(s t).fJ=true
 ·simp only[St.free,ho,if_true];rcases vH s t i with h|⟨h1,_,h2⟩
  ·exact .inl h
  ·exact .inr ⟨h1,.inl h2⟩
 ·have ho':(s t).fJ=false:=by simpa using ho
  simp only[St.free,ho',dV,if_false];exact .inr ⟨trivial,.inr trivial⟩
def uF (h:(s i).fJ=true)(hi:i≠t):(s.kill t) i=s i:=by simp[St.kill,hi,S.drop,own_root h]
def free_own (h:(s i).fJ=true)(hi:i≠t):(s.free t) i=s i:=by
 unfold St.free;split
 ·exact uF h hi
 ·rfl
def aMA {w:World}(h:Fits P n w0 ow0 ow s a w)(t u:Nat)(x:S)(i:Nat)(hi:i≠u):
  ((s.kill t).set u x) i= .un\/(((s.kill t).set u x) i=s i/\i≠t/\(s i).root≠some t/\(s i).root≠some u):=by
 have h1:((s.kill t).set u x) i=((s.kill t).free u) i:=by simp[St.set,St.put,hi]
 rw[h1];rcases free_at (s.kill t) u i with h2|⟨h2,h3⟩
 ·exact .inl h2
 ·rw[h2];rcases vH s t i with h4|⟨h4,h5,h6⟩
  ·exact .inl h4
  ·right;refine⟨h4,h5,h6,fun hj=> ?_⟩;rw[h4]at h3;rcases h3 with h7|h7
   ·exact h7 hj
   ·have hr:=((h.kill t).slot i).root (j:=u) (by rw[h4];exact hj);rw[hr]at h7;cases h7
variable {u:Nat}
def aJ9 {j:Nat}{x:S}(h:(s j).fJ=true)(ht:j≠t)(hu:j≠u):((s.kill t).set u x) j=s j:=by
 have h1:((s.kill t).set u x) j=((s.kill t).free u) j:=by simp[St.set,St.put,hu]
 rw[h1,free_own (by rw[uF h ht];exact h) hu,uF h ht]
def aDM {x:S}(hne:u≠t):((s.kill t).set u x) t= .un:=by
 have h1:((s.kill t).set u x) t=((s.kill t).free u) t:=by simp[St.set,St.put,k_Ne_symm hne]
 rw[h1];rcases free_at (s.kill t) u t with h2|⟨h2,_⟩
 ·exact h2
 ·rw[h2];simp[St.kill]
def PS (t u:Nat)(ow:Own):Own:=fun b=>match ow b with
 |some l=>if l.getLast?=some t then some (l.dropLast++[u])else some l
 |none=>none
variable {b:Nat}
def BF (h:ow b=none):PS t u ow b=none:=by simp[PS,h]
variable {q:List Nat}
def ah2 {j:Nat}(h:ow b=some (q++[j]))(hj:j≠t):PS t u ow b=some (q++[j]):=by
 simp[PS,h,hj]
def arA (h:ow b=some (q++[t])):PS t u ow b=some (q++[u]):=by
 simp[PS,h]
def Fits.mvG {w:World}(h:Fits P n w0 ow0 ow s a w)(hu:u<n)(hne:u≠t)(hfar:s t≠ .un)(y:S)(hy:∀s'' a'',SV P w (PS t u ow) s'' a'' u y (aval a t)):
  Fits P n w0 ow0 (PS t u ow) ((s.kill t).set u y) (a.put (some u) (aval a t)) w:=by
 refine h.change (by exact h.nodef) (by simp[Act.put,h.size]) rfl rfl rfl (k_Nat_le_refl _) (fun b _ ho=>⟨rfl,BF ho⟩) (fun b hb=>BF (h.new b hb)) (fun j=>j=t\/j=u) ?_ ?_ ?_ (fun e=>e.elim (fun e=>hfar (e▸h.far)) (fun e=>by have:=h.small;unfold far0 at e;omega))
 ·intro j hj b hb q hq;exact⟨rfl,ah2 hq (fun e=>hj (.inl e))⟩
 ·intro i hi;have hiu:i≠u:=fun e=>hi (.inr e);refine⟨by rw[CB h.size h.small hu,if_neg hiu],?_⟩;rcases aMA h t u y i hiu with h1|⟨h1,h2,h3,h4⟩
  ·exact .inl h1
  ·right;refine⟨h1,fun j hj=> ?_⟩;have hjt:j≠t:=fun e=>h3 (e▸hj);have hju:j≠u:=fun e=>h4 (e▸hj);exact⟨fun e=>e.elim hjt hju,aJ9 ((h.slot i).root hj) hjt hju⟩
 ·rintro i (rfl|rfl)
  ·rw[aDM hne];trivial
  ·have:((s.kill t).set i y) i=y:=by simp[St.set,St.put]
   rw[this,CB h.size h.small hu,if_pos rfl];exact hy _ _
variable {l:List Nat}
def acR {w:World}:Keeps w ow (l++[t]) w (PS t u ow) (l++[u]):=fun b _=>⟨fun ho=>⟨rfl,BF ho⟩,fun q hq=>⟨rfl,by
 have:=arA (u:=u) (q:=q++l) (t:=t) (ow:=ow) (b:=b) (by simpa using hq);simpa using this⟩⟩
variable {d:D}
def Fits.mv {w:World}(h:Fits P n w0 ow0 ow s a w)(ht:s t= .own d)(hu:u<n)(hne:u≠t):
  Fits P n w0 ow0 (PS t u ow) ((s.kill t).set u (.own d)) (a.put (some u) (aval a t)) w:=by
 refine h.mvG hu hne (by rw[ht];exact S.noConfusion) _ fun s'' a''=> ?_;have hV:V P w ow d [t] (aval a t):=by have:=h.slot t;rw[ht]at this;exact this
 exact V.tr (acR (l:=[])) hV
def Fits.aL9 {w:World}(h:Fits P n w0 ow0 ow s a w){l:List S}(ht:s t= .tup l)(hu:u<n)(hne:u≠t):
  Fits P n w0 ow0 (PS t u ow) ((s.kill t).set u (.tup l)) (a.put (some u) (aval a t)) w:=by
 refine h.mvG hu hne (by rw[ht];exact S.noConfusion) _ fun s'' a''=> ?_;have hV:=h.slot t;rw[ht]at hV;obtain⟨vs,h1,h2,h3⟩:=hV;refine⟨vs,h1,h2,fun k x hk=> ?_⟩;have h4:=h3 k x hk;cases x with
 |val d=>exact V.trf (fun b _ ho=>⟨rfl,BF ho⟩) h4
 |own d=>exact V.tr (acR (l:=[k])) h4
 |_=>trivial
def Fits.alZ {w:World}(h:Fits P n w0 ow0 ow s a w)(nd:a'.defers=[])(sz:a'.tmps.size=n)(hv:∀i,aval a' i=aval a i):Fits P n w0 ow0 ow s a' w:=
 h.change nd sz rfl rfl rfl (k_Nat_le_refl _) (fun _ _ ho=>⟨rfl,ho⟩) h.new (fun _=>False) (fun j _ b _ q hq=>⟨rfl,hq⟩) (fun i _=>⟨hv i,.inr ⟨rfl,fun j _=>⟨id,rfl⟩⟩⟩) (fun i hi=>hi.elim) id
def D.aMK {w:World}(h:V P w ow d l v)(hd:d.isAgg=false):d.w=1:=by
 cases d with
 |agg xs=>cases hd
 |any k=>simp only[V,R]at h;simp only[D.w];simpa using h.1.symm
 |_=>rfl
def vU (u:Nat)(x:Operand)(s:St)(K:St->Prop):Prop:=
 match evS s x with
 | .un=>False
 | .val d=>K (s.set u (.val d))
 | .rp d=>K (s.set u (.rp d))
 | .al r p=>u≠r/\K (s.set u (.al r p))
 | .rf r p=>u≠r/\K (s.set u (.rf r p))
 | .ag r p=>u≠r/\K (s.set u (.ag r p))
 | .own d=>u≠slotOf x/\match d with
  | .agg xs=>K ((s.kill (slotOf x)).set u (.own (.agg xs)))
  |_=>K (s.set u (.al (slotOf x) []))
 | .tup l=>u≠slotOf x/\K ((s.kill (slotOf x)).set u (.tup l))
variable {y:S}
def pE (h:evS s x=y)(hy:y.fJ=true\/∃l,y= .tup l):s (slotOf x)=y:=by
 cases x with
 |tmp t=>
  simp only[evS]at h;split at h
  ·exact h
  ·subst h;rcases hy with hy|⟨l,hy⟩<;>cases hy
 |const v=>
  simp only[evS]at h;split at h<;>subst h<;>rcases hy with hy|⟨l,hy⟩<;>cases hy
 |global g=>exact h
 |func f=>simp only[evS]at h;subst h;rcases hy with hy|⟨l,hy⟩<;>cases hy
def vO (hsz:a.tmps.size=n)(hn:n<=1000000)(h:evS s x=y)(hy:y.fJ=true\/∃l,y= .tup l):a.eval x=aval a (slotOf x):=by
 cases x with
 |tmp t=>
  simp only[evS]at h;split at h
  ·rename_i ht;simp[Act.eval,slotOf,aval,ht]
  ·subst h;rcases hy with hy|⟨l,hy⟩<;>cases hy
 |const v=>
  simp only[evS]at h;split at h<;>subst h<;>rcases hy with hy|⟨l,hy⟩<;>cases hy
 |global g=>simp[Act.eval,slotOf,aval];intro h;omega
 |func f=>simp only[evS]at h;subst h;rcases hy with hy|⟨l,hy⟩<;>cases hy
def xR {w:World}(h:Fits P n w0 ow0 ow s a w)(hu:u<n)(hd:vU u x s K):
  ∃s',K s'/\Rel P n w0 ow0 s' (a.put (some u) (a.eval x)) w:=by
 have hv:=h.eval x;unfold vU at hd;cases hx:evS s x with
 |un=>rw[hx]at hd;exact hd.elim
 |val d=>
  rw[hx]at hd hv;exact⟨_,hd,ow,h.set hu hv⟩
 |rp d=>
  rw[hx]at hd hv;exact⟨_,hd,ow,h.set hu hv⟩
 |al r p=>
  rw[hx]at hd hv;obtain⟨hne,hK⟩:=hd;refine⟨_,hK,ow,h.set hu (hv.alZ fun j hj=>⟨?_,rfl⟩)⟩;obtain rfl:r=j:=by simpa[S.root]using hj
  exact free_own (hv.root rfl) (k_Ne_symm hne)
 |rf r p=>
  rw[hx]at hd hv;obtain⟨hne,hK⟩:=hd;refine⟨_,hK,ow,h.set hu (hv.alZ fun j hj=>⟨?_,rfl⟩)⟩;obtain rfl:r=j:=by simpa[S.root]using hj
  exact free_own (hv.root rfl) (k_Ne_symm hne)
 |ag r p=>
  rw[hx]at hd hv;obtain⟨hne,hK⟩:=hd;refine⟨_,hK,ow,h.set hu (hv.alZ fun j hj=>⟨?_,rfl⟩)⟩;obtain rfl:r=j:=by simpa[S.root]using hj
  exact free_own (hv.root rfl) (k_Ne_symm hne)
 |own d=>
  rw[hx]at hd;obtain⟨hne,hK⟩:=hd;have hs:=pE hx (.inl rfl);have he:=vO h.size h.small hx (.inl rfl);rw[he];have hV:=h.slot (slotOf x);rw[hs]at hV;by_cases hagg:d.isAgg=true
  ·cases d with
   |agg xs=>exact⟨_,hK,_,h.mv hs hu hne⟩
   |_=>cases hagg
  ·have hagg':d.isAgg=false:=by simpa using hagg
   have hK':K (s.set u (.al (slotOf x) [])):=by
    cases d with
    |agg xs=>cases hagg'
    |_=>exact hK
   refine⟨_,hK',ow,h.set hu ?_⟩;refine⟨d,d,?_,rfl,⟨D.aMK hV hagg',hagg',.inl rfl⟩,.inl ⟨rfl,rfl⟩⟩;rw[free_own (by rw[hs];rfl) (k_Ne_symm hne)];exact hs
 |tup l=>
  rw[hx]at hd;obtain⟨hne,hK⟩:=hd;have hs:=pE hx (.inr ⟨l,rfl⟩);have he:=vO h.size h.small hx (.inr ⟨l,rfl⟩);rw[he];exact⟨_,hK,_,h.aL9 hs hu hne⟩
def Fits.tell {w:World}{x:S}(h:Fits P n w0 ow0 ow s a w)(ht:t≠far0)(ho:(s t).fJ=false)(hx:SV P w ow s a t x (aval a t)):Fits P n w0 ow0 ow (s.put t x) a w:=by
 have keep:∀i y v,SV P w ow s a i y v->SV P w ow (s.put t x) a i y v:=by
  intro i y v hy;refine hy.alZ fun j hj=>⟨?_,rfl⟩;have hr:=hy.root hj;have:j≠t:=by rintro rfl;rw[hr]at ho;cases ho
  simp[St.put,this]
 refine⟨h.nodef,h.size,h.small,h.laid,h.bel,h.own,h.new,?_,h.keep,fun i=> ?_⟩
 ·simp only[St.put,if_neg (k_Ne_symm ht),h.far]
 by_cases hi:i=t
 ·subst hi;simp only[St.put,if_true];exact keep _ _ _ hx
 ·have:(s.put t x) i=s i:=by simp[St.put,hi]
  rw[this];exact keep _ _ _ (h.slot i)
def FB (u:Nat)(x:Operand)(s:St)(K:St->Prop):Prop:=
 match evS s x with
 | .own d=>u≠slotOf x/\K ((s.kill (slotOf x)).set u (.own d))
 | .al r []=>if u=r then K s else match s r with
  | .own d=>K (((s.kill r).set u (.own d)).put r (.al u []))
  |_=>False
 |_=>vU u x s K
def asR {w:World}(h:Fits P n w0 ow0 ow s a w)(hu:u<n)(hd:FB u x s K):
  ∃s',K s'/\Rel P n w0 ow0 s' (a.put (some u) (a.eval x)) w:=by
 unfold FB at hd;cases hx:evS s x with
 |own d=>
  rw[hx]at hd;obtain⟨hne,hK⟩:=hd;have hs:=pE hx (.inl rfl);rw[vO h.size h.small hx (.inl rfl)];exact⟨_,hK,_,h.mv hs hu hne⟩
 |al r p=>
  cases p with
  |nil=>
   rw[hx]at hd;simp only at hd;have hv:=h.eval x;rw[hx]at hv;obtain⟨d,m,h1,h2,h3,h4⟩:=hv
   have hval:a.eval x=aval a r:=by
    rcases h4 with⟨_,h4⟩|⟨b,off,h4,_⟩
    ·exact h4
    ·simp[loc]at h4
   rw[hval];by_cases hur:u=r
   ·rw[if_pos hur]at hd;refine⟨s,hd,ow,h.alZ h.nodef (by simp[Act.put,h.size]) fun i=> ?_⟩;rw[CB h.size h.small hu];split
    ·subst hur;rename_i hi;rw[hi]
    ·rfl
   ·rw[if_neg hur,h1]at hd;have hf:=h.mv h1 hu hur;refine⟨_,hd,_,hf.tell (fun e=>by rw[e,h.far]at h1;cases h1) ?_ ?_⟩
    ·rw[aDM hur];rfl
    ·simp only[D.sub,aJ]at h2;subst h2;refine⟨d,d,by simp[St.set,St.put],rfl,h3,.inl ⟨rfl,?_⟩⟩;rw[CB h.size h.small hu,CB h.size h.small hu,if_pos rfl,if_neg (k_Ne_symm hur)]
  |cons i p=>rw[hx]at hd;exact xR h hu hd
 |un=>rw[hx]at hd;exact xR h hu hd
 |val d=>rw[hx]at hd;exact xR h hu hd
 |rp d=>rw[hx]at hd;exact xR h hu hd
 |rf r p=>rw[hx]at hd;exact xR h hu hd
 |ag r p=>rw[hx]at hd;exact xR h hu hd
 |tup l=>rw[hx]at hd;exact xR h hu hd
def azI {w:World}(h:o.op= .move x):(execOp a.eval o).run P w= .ok (.value (a.eval x)) w:=by
 unfold execOp;rw[h];rfl
def arE {w:World}(h:o.op= .assign x):(execOp a.eval o).run P w= .ok (.value (a.eval x)) w:=by
 unfold execOp;rw[h];rfl
def aH0 (ho:o.op= .move x)(hd:o.dst=some u)(hu:u<n)(h:vU u x s K):Ok P n w0 ow0 o s K:=by
 refine iI fun a w ow hf=>⟨_,w,azI ho,?_⟩;rw[hd];exact xR hf hu h
def ayY (ho:o.op= .assign x)(hd:o.dst=some u)(hu:u<n)(h:FB u x s K):Ok P n w0 ow0 o s K:=by
 refine iI fun a w ow hf=>⟨_,w,arE ho,?_⟩;rw[hd];exact asR hf hu h
def oneK (x:S)(K:Value->Prop):Prop:=match x with
 | .val (.one v)=>K v
 |_=>False
def eY {x:S}{K:Value->Prop}(h:oneK x K):∃v,x= .val (.one v)/\K v:=by
 unfold oneK at h;split at h
 ·exact⟨_,rfl,h⟩
 ·exact h.elim
def ajT (u:Nat)(c x y:Operand)(s:St)(K:St->Prop):Prop:=
 oneK (evS s c) fun v=>match v with
  | .bool true=>vU u x s K
  | .bool false=>vU u y s K
  |_=>False
def aH3 {c y:Operand}(ho:o.op= .pick c x y)(hd:o.dst=some u)(hu:u<n)(h:ajT u c x y s K):Ok P n w0 ow0 o s K:=by
 refine iI fun a w ow hf=> ?_;obtain⟨v,hv,h2⟩:=eY h;have he:=(hf.one hv).1;cases v with
 |bool t=>
  cases t with
  |true=>
   refine⟨a.eval x,w,?_,by rw[hd];exact xR hf hu h2⟩;unfold execOp;rw[ho];simp only[he];rfl
  |false=>
   refine⟨a.eval y,w,?_,by rw[hd];exact xR hf hu h2⟩;unfold execOp;rw[ho];simp only[he];rfl
 |_=>exact h2.elim
end Go.Dv
end
section
namespace Go
def bU:= @Array.toList_inj
def bM:= @Bool.eq_iff_iff
def aG:= @Result.andThen_ok
def aI:= @Sem.run_bind
end Go
end
section
namespace Go.Dv
open Go.RowKit
variable [lL]
def inI:IntKind->Int->Prop
 | .i64,n=> -9223372036854775808<=n/\n<=9223372036854775807
 | .u8,n=>0<=n/\n<=255
 | .i32,n=> -2147483648<=n/\n<=2147483647
 |k,n=>k.wrap n=n
variable {k:IntKind}
def inI.wrap {n:Int}(h:inI k n):k.wrap n=n:=by
 cases k<;>simp only[inI]at h<;>first|exact h|(simp[IntKind.wrap,IntKind.bits,IntKind.signed];omega)
def ak8 (a b:ByteArray):Bool:=Op.bytesLess a.toList b.toList
def acA (op:BinOp)(k:IntKind)(x y:Int):Int:=
 let a:=BitVec.ofInt k.bits x
 let b:=BitVec.ofInt k.bits y
 k.wrap (match op with
  | .and=>(a&&&b).toNat
  | .or=>(a|||b).toNat
  | .xor=>(a^^^b).toNat
  |_=>(a&&& ~~~b).toNat)
def arithK (op:BinOp)(k:IntKind)(x y:Int)(K:Value->Prop):Prop:=
 match op with
 | .add=>inI k (x+y)/\K (.int k (x+y))
 | .sub=>inI k (x-y)/\K (.int k (x-y))
 | .mul=>inI k (x*y)/\K (.int k (x*y))
 | .quo=>y≠0/\inI k (x.tdiv y)/\K (.int k (x.tdiv y))
 | .rem=>y≠0/\K (.int k (x.tmod y))
 | .and=>K (.int k (acA .and k x y))
 | .or=>K (.int k (acA .or k x y))
 | .xor=>K (.int k (acA .xor k x y))
 | .andNot=>K (.int k (acA .andNot k x y))
 | .eql=>K (.bool (x==y))
 | .neq=>K (.bool (x !=y))
 | .lss=>K (.bool (decide (x<y)))
 | .leq=>K (.bool (decide (x<=y)))
 | .gtr=>K (.bool (decide (x>y)))
 | .geq=>K (.bool (decide (x>=y)))
 |_=>False
def strK (op:BinOp)(x y:ByteArray)(K:Value->Prop):Prop:=
 match op with
 | .add=>x.size+y.size<=9223372036854775807/\K (.string (x++y))
 | .eql=>K (.bool (decide (x=y)))
 | .neq=>K (.bool (!decide (x=y)))
 | .lss=>K (.bool (ak8 x y))
 | .leq=>K (.bool (ak8 x y||decide (x=y)))
 | .gtr=>K (.bool (!(ak8 x y||decide (x=y))))
 | .geq=>K (.bool (!ak8 x y))
 |_=>False
def binV (op:BinOp)(x y:Value)(K:Value->Prop):Prop:=
 match x,y with
 | .int k a,.int k' b=>match op with
  | .shl=>0<=b/\K (.int k (k.wrap (a*2^(min b.toNat k.bits))))
  | .shr=>0<=b/\K (.int k (a.fdiv (2^(min b.toNat k.bits))))
  |op=>k=k'/\arithK op k a b K
 | .string a,.string b=>strK op a b K
 |_,_=>False
variable {y:ByteArray}
def toList_eq {x:ByteArray}:(x.toList==y.toList)=decide (x=y):=by
 rw[bM];simp only[beq_iff_eq,decide_eq_true_eq];constructor
 ·intro h;have h2:x.data.toList=y.data.toList:=by simpa[ByteArray.toList_eq]using h
  ext1
  exact bU.1 h2
 ·rintro rfl;rfl
variable {P:Program}{op:BinOp}{K:Value->Prop}{t:TypeId}
def asG {w:World}{x y:Int}(hs:op≠ .shl)(hs2:op≠ .shr)(h:arithK op k x y K):∃v,(binOp op t (.int k x) (.int k y)).run P w= .ok v w/\v.oneCell'=true/\K v:=by
 cases op<;>simp only[arithK]at h<;>first|exact absurd rfl hs|exact absurd rfl hs2|skip
 case add=>exact⟨_,by simp only[binOp,Op.intArith,ne_eq,not_true_eq_false,if_false,h.1.wrap];rfl,rfl,h.2⟩
 case sub=>exact⟨_,by simp only[binOp,Op.intArith,ne_eq,not_true_eq_false,if_false,h.1.wrap];rfl,rfl,h.2⟩
 case mul=>exact⟨_,by simp only[binOp,Op.intArith,ne_eq,not_true_eq_false,if_false,h.1.wrap];rfl,rfl,h.2⟩
 case quo=>exact⟨_,by simp only[binOp,Op.intDiv,ne_eq,not_true_eq_false,if_false,h.1,h.2.1.wrap];rfl,rfl,h.2.2⟩
 case rem=>exact⟨_,by simp only[binOp,Op.intDiv,ne_eq,not_true_eq_false,if_false,h.1];rfl,rfl,h.2⟩
 case and=>exact⟨_,by simp only[binOp,Op.intBits,ne_eq,not_true_eq_false,if_false];rfl,rfl,h⟩
 case or=>exact⟨_,by simp only[binOp,Op.intBits,ne_eq,not_true_eq_false,if_false];rfl,rfl,h⟩
 case xor=>exact⟨_,by simp only[binOp,Op.intBits,ne_eq,not_true_eq_false,if_false];rfl,rfl,h⟩
 case andNot=>exact⟨_,by simp only[binOp,Op.intBits,ne_eq,not_true_eq_false,if_false];rfl,rfl,h⟩
 all_goals exact⟨_,by simp only[binOp,Op.intCmp,ne_eq,not_true_eq_false,if_false];rfl,rfl,h⟩
def aEW {w:World}{x:ByteArray}(h:strK op x y K):∃v,(binOp op t (.string x) (.string y)).run P w= .ok v w/\v.oneCell'=true/\K v:=by
 cases op<;>simp only[strK]at h
 case add=>
  refine⟨.string (x++y),?_,rfl,h.2⟩;have:¬((x.size+y.size:Nat):Int)>IntKind.i64.max:=by have:=h.1;simp only[IntKind.max,IntKind.signed,IntKind.bits];omega
  simp only[binOp,Op.stringOp];rw[if_neg this];rfl
 case eql=>exact⟨_,by simp only[binOp,Op.stringOp,toList_eq];rfl,rfl,h⟩
 case neq=>exact⟨_,by simp only[binOp,Op.stringOp,toList_eq];rfl,rfl,h⟩
 case lss=>exact⟨_,by simp only[binOp,Op.stringOp];rfl,rfl,h⟩
 case leq=>exact⟨_,by simp only[binOp,Op.stringOp,toList_eq];rfl,rfl,h⟩
 case gtr=>exact⟨_,by simp only[binOp,Op.stringOp,toList_eq];rfl,rfl,h⟩
 case geq=>exact⟨_,by simp only[binOp,Op.stringOp];rfl,rfl,h⟩
 all_goals exact h.elim
def ak3 {w:World}{k':IntKind}{x y:Int}(hy:0<=y):(Op.shift .shl k x k' y).run P w= .ok (.int k (k.wrap (x*2^(min y.toNat k.bits)))) w/\(Op.shift .shr k x k' y).run P w= .ok (.int k (x.fdiv (2^(min y.toNat k.bits)))) w:=by
 have:¬y<0:=by omega
 constructor
 ·simp only[Op.shift];rw[if_neg this];rfl
 ·simp only[Op.shift];rw[if_neg this];rfl
def aAQ {w:World}{x y:Value}(h:binV op x y K):∃v,(binOp op t x y).run P w= .ok v w/\v.oneCell'=true/\K v:=by
 unfold binV at h;split at h
 ·rename_i k a k' b;split at h
  ·exact⟨_,(ak3 (k':=k') h.1).1,rfl,h.2⟩
  ·exact⟨_,(ak3 (k':=k') h.1).2,rfl,h.2⟩
  ·rename_i op' h1 h2;obtain⟨rfl,h⟩:=h;exact asG (fun e=>h1 e) (fun e=>h2 e) h
 ·exact aEW h
 ·exact h.elim
variable {x:Operand}
def aoR {w:World}{y:Operand}{u v:Value}(h:binV op u v K):(eqGuard op t x y u v).run P w= .ok () w:=by
 unfold eqGuard;unfold binV at h;split at h<;>cases op<;>first|rfl|exact h.elim
def dbin (op:BinOp)(x y:S)(K:Value->Prop):Prop:=oneK x fun u=>oneK y fun v=>binV op u v K
variable {n:Nat}{w0:World}{ow0:Own}{o:Oper}{s:St}
def aKH {K:St->Prop}{t':TypeId}{y:Operand}(ho:o.op= .binOp op t x y t') (hd:dstOk n o=true)
  (h:dbin op (evS s x) (evS s y) fun r=>K (s.jR o.dst (.val (.one r)))):Ok P n w0 ow0 o s K:=by
 obtain⟨u,hu,h⟩:=eY h;obtain⟨v,hv,h⟩:=eY h;refine iI fun a w ow hf=> ?_;obtain⟨r,h1,h2,h3⟩:=aAQ (P:=P) (w:=w) (t:=t) h;have hg:=aoR (P:=P) (w:=w) (t:=t) (x:=x) (y:=y) h;refine⟨r,w,?_,_,h3,ow,?_⟩
 ·unfold execOp;rw[ho];simp only[(hf.one hu).1,(hf.one hv).1];simp only[aI,hg,aG,h1];rfl
 ·cases hod:o.dst with
  |none=>exact hf
  |some t=>
   have ht:t<n:=by simpa[dstOk,hod]using hd
   exact hf.set ht (SV.A8 h2)
def unV (op:UnOp)(x:Value)(K:Value->Prop):Prop:=
 match op,x with
 | .not,.bool b=>K (.bool (!b))
 | .neg,.int k n=>inI k (0-n)/\K (.int k (0-n))
 |_,_=>False
def aMD {K:St->Prop}{op:UnOp}(ho:o.op= .unOp op t x) (hd:dstOk n o=true)
  (h:oneK (evS s x) fun u=>unV op u fun r=>K (s.jR o.dst (.val (.one r)))):Ok P n w0 ow0 o s K:=by
 obtain⟨u,hu,h⟩:=eY h;unfold unV at h;split at h
 ·refine yQ hd (u:= .bool (!_)) rfl (fun a w he=> ?_) h;unfold execOp;rw[ho];simp only[he _ _ hu];rfl
 ·refine yQ hd (u:= .int _ _) rfl (fun a w he=> ?_) h.2;unfold execOp;rw[ho];simp only[he _ _ hu,Op.unary,Op.intArith,h.1.wrap];rfl
 ·exact h.elim
def dconvI (k:IntKind)(x:S)(K:Value->Prop):Prop:=oneK x fun u=>match u with
 | .int _ n=>K (.int k (k.wrap n))
 |_=>False
def aD4 {K:St->Prop}{src dst:TypeId}{d0:TypeDesc}(ho:o.op= .convert src dst x) (hsrc:P.underlying src=some d0) (hk:P.underlying dst=some (.int k)) (hd:dstOk n o=true)
  (h:dconvI k (evS s x) fun r=>K (s.jR o.dst (.val (.one r)))):Ok P n w0 ow0 o s K:=by
 obtain⟨u,hu,h⟩:=eY h;split at h
 ·refine yQ hd (u:= .int _ _) rfl (fun a w he=> ?_) h;unfold execOp;rw[ho];simp only[he _ _ hu,convert,aI,run_underlying hsrc,run_underlying hk,aG,Conv.intToInt];cases d0<;>rfl
 ·exact h.elim
end Go.Dv
end
section
namespace Go
def gF:= @Bool.not_eq_true'
def aU:= @Sem.run_pure
end Go
end
section
namespace Go.Dv
open Go.RowKit
variable [lL]
inductive Ty where
 |no
 |bool
 |int (k:IntKind)
 |str
 |ptr
 |ifc
 |fn
 |sl (e:TypeId)
 |agg (fs:List (Nat×TypeId))
 |arr (n:Nat) (e:TypeId)
structure TyE where
 ty:Ty
 w:Nat
 z:D
def Ty.isAgg:Ty->Bool
 | .agg _=>true
 | .arr _ _=>true
 |_=>false
mutual
def D.flat:D->Option (List Value)
 | .one v=>if v.oneCell' then some [v]else none
 | .agg xs=>D.yY xs
 |_=>none
def D.yY:List D->Option (List Value)
 |[]=>some []
 |x::xs=>match x.flat,D.yY xs with
  |some a,some b=>some (a++b)
  |_,_=>none
end
mutual
def D.zf:D->Option (List Value)
 | .one v=>if v.oneCell' then some [v]else none
 | .agg xs=>D.zfs xs
 | .sl (some _) []=>some [.slice none 0 0]
 |_=>none
def D.zfs:List D->Option (List Value)
 |[]=>some []
 |x::xs=>match x.zf,D.zfs xs with
  |some a,some b=>some (a++b)
  |_,_=>none
end
mutual
def R.zf {P:Program}{w:World}{ow:Own}:∀{d:D}{l:List Nat}{cs:List Value},d.zf=some cs->R P w ow d l cs
 | .one v,l,cs,h=>by
  simp only[D.zf]at h;split at h
  ·simp only[R];rename_i hv;exact⟨by simpa using h.symm,hv⟩
  ·cases h
 | .sl none xs,l,cs,h=>by simp only[D.zf]at h;cases h
 | .sl (some e) (x::xs),l,cs,h=>by simp only[D.zf]at h;cases h
 | .sl (some e) [],l,cs,h=>by
  simp only[D.zf,aJ]at h;simp only[R];exact⟨none,0,h.symm,k_Nat_le_refl _,by unfold maxLen;omega,.inl (by simp)⟩
 | .bx o xs,l,cs,h=>by simp only[D.zf]at h;cases h
 | .any n,l,cs,h=>by simp only[D.zf]at h;cases h
 | .agg xs,l,cs,h=>by simp only[D.zf]at h;simp only[R];exact Ra.zf h
def Ra.zf {P:Program}{w:World}{ow:Own}:∀{xs:List D}{l:List Nat}{i:Nat}{cs:List Value},D.zfs xs=some cs->Ra P w ow xs l i cs
 |[],l,i,cs,h=>by simp only[D.zfs]at h;simp only[Ra];simpa using h.symm
 |x::xs,l,i,cs,h=>by
  simp only[D.zfs]at h;split at h
  ·rename_i a b ha hb;have hx:=R.zf (P:=P) (w:=w) (ow:=ow) (l:=i::l) ha;simp only[Ra];exact⟨a,b,by simpa using h.symm,hx.len,hx,Ra.zf hb⟩
  ·cases h
end
mutual
def R.flat {P:Program}{w:World}{ow:Own}:∀{d:D}{l:List Nat}{cs:List Value},d.flat=some cs->R P w ow d l cs
 | .one v,l,cs,h=>by
  simp only[D.flat]at h;split at h
  ·simp only[R];rename_i hv;exact⟨by simpa using h.symm,hv⟩
  ·cases h
 | .sl o xs,l,cs,h=>by simp only[D.flat]at h;cases h
 | .bx o xs,l,cs,h=>by simp only[D.flat]at h;cases h
 | .any n,l,cs,h=>by simp only[D.flat]at h;cases h
 | .agg xs,l,cs,h=>by simp only[D.flat]at h;simp only[R];exact Ra.flat h
def Ra.flat {P:Program}{w:World}{ow:Own}:∀{xs:List D}{l:List Nat}{i:Nat}{cs:List Value},D.yY xs=some cs->Ra P w ow xs l i cs
 |[],l,i,cs,h=>by simp only[D.yY]at h;simp only[Ra];simpa using h.symm
 |x::xs,l,i,cs,h=>by
  simp only[D.yY]at h;split at h
  ·rename_i a b ha hb;have hx:=R.flat (P:=P) (w:=w) (ow:=ow) (l:=i::l) ha;simp only[Ra];exact⟨a,b,by simpa using h.symm,hx.len,hx,Ra.flat hb⟩
  ·cases h
end
def Ty.desc (P:Program)(t:TypeId):Ty->Prop
 | .no=>False
 | .bool=>P.underlying t=some .bool
 | .int k=>P.underlying t=some (.int k)
 | .str=>P.underlying t=some .string
 | .ptr=>∃e,P.underlying t=some (.pointer e)
 | .ifc=>∃ms,P.underlying t=some (.interface ms)
 | .fn=>∃a b c,P.underlying t=some (.func a b c)
 | .sl e=>P.underlying t=some (.slice e)
 | .agg fs=>∃fields,P.underlying t=some (.struct fields)/\fields.toList.map (fun f=>(f.offset,f.type))=fs/\(∀f∈fields.toList,f.name≠ "_" /\∃i,P.info? f.type=some i/\0<i.size)/\P.stoodInHeld t=false
 | .arr n e=>P.underlying t=some (.array n e)
def Good (P:Program)(T:TypeId->TyE)(t:TypeId):Prop:=
 (match(T t).ty with| .no=>True|_=>False)\/
  ((T t).ty.desc P t/\∃i zv,P.info? t=some i/\i.size=(T t).w/\i.zero=some zv/\D.zf (T t).z=some zv.cells.toList/\(T t).z.isAgg=(T t).ty.isAgg/\(∃cs,zv= .agg cs)=((T t).ty.isAgg=true)/\i.bytes<=4096/\(T t).z.w=(T t).w)
variable {P:Program}{t:TypeId}
def Good.of {T:TypeId->TyE}(h:Good P T t)(hn:∀x,(T t).ty=x->x≠ .no):(T t).ty.desc P t/\∃i zv,P.info? t=some i/\i.size=(T t).w/\i.zero=some zv/\D.zf (T t).z=some zv.cells.toList/\(T t).z.isAgg=(T t).ty.isAgg/\(∃cs,zv= .agg cs)=((T t).ty.isAgg=true)/\i.bytes<=4096/\(T t).z.w=(T t).w:=by
 rcases h with h|h
 ·split at h
  ·rename_i h1;exact absurd rfl (hn _ h1)
  ·exact h.elim
 ·exact h
def ak1 {T:TypeId->TyE}{w:World}(h:(T t).ty.desc P t):(isAgg t).run P w= .ok (T t).ty.isAgg w:=by
 unfold isAgg;cases hty:(T t).ty with
 |no=>rw[hty]at h;exact h.elim
 |bool=>rw[hty]at h;simp only[Ty.desc]at h;rw[aI,run_underlying h w];rfl
 |int k=>rw[hty]at h;simp only[Ty.desc]at h;rw[aI,run_underlying h w];rfl
 |str=>rw[hty]at h;simp only[Ty.desc]at h;rw[aI,run_underlying h w];rfl
 |ptr=>rw[hty]at h;simp only[Ty.desc]at h;obtain⟨e,h⟩:=h;rw[aI,run_underlying h w];rfl
 |ifc=>rw[hty]at h;simp only[Ty.desc]at h;obtain⟨e,h⟩:=h;rw[aI,run_underlying h w];rfl
 |fn=>rw[hty]at h;simp only[Ty.desc]at h;obtain⟨_,_,_,h⟩:=h;rw[aI,run_underlying h w];rfl
 |sl e=>rw[hty]at h;simp only[Ty.desc]at h;rw[aI,run_underlying h w];rfl
 |agg fs=>rw[hty]at h;simp only[Ty.desc]at h;obtain⟨f,h,_⟩:=h;rw[aI,run_underlying h w];rfl
 |arr n e=>rw[hty]at h;simp only[Ty.desc]at h;rw[aI,run_underlying h w];rfl
variable {ow:Own}{d:D}{l:List Nat}{b off:Nat}
def gZ.range {w:World}(h:gZ P w ow d l b off):∃cs,cs.length=d.w/\w.rangeAt b off cs/\R P w ow d l cs:=by
 obtain⟨C,e,fz,cs,hb,hc,hr⟩:=h;refine⟨cs,hr.len,fun j v hj=> ?_,hr⟩;have hlt:=(aD.1 hj).1;rw[cell_of_row w b (off+j) C e fz hb,hc j (by rw[←hr.len];exact hlt)];exact hj
def V.of {w:World}{cs:List Value}(h:R P w ow d l cs):(d.isAgg=true->V P w ow d l (.agg cs.toArray))/\(d.isAgg=false->cs.length=1->∃v,cs=[v]/\V P w ow d l v):=by
 constructor
 ·intro hd;cases d with
  |agg xs=>exact⟨cs.toArray,rfl,by simpa using h⟩
  |_=>cases hd
 ·intro hd hl;obtain⟨v,rfl⟩:=eP.1 hl;refine⟨v,rfl,?_⟩;cases d with
  |agg xs=>cases hd
  |_=>exact h
mutual
def D.frz:D->Bool
 | .one _=>true
 | .sl o xs=>o.isNone&&D.xU xs
 | .agg xs=>D.xU xs
 | .bx o x=> !o&&x.frz
 | .any _=>true
def D.xU:List D->Bool
 |[]=>true
 |x::xs=>x.frz&&D.xU xs
end
def D.agW {α:Type}(f:α->D):∀l:List α,D.xU (l.map f)=l.all fun x=>(f x).frz
 |[]=>rfl
 |x::l=>by simp[D.xU,D.agW f l]
mutual
def D.WZ:∀{d:D},d.frz=true->d.fz=d
 | .one v,_=>rfl
 | .sl o xs,h=>by
  simp only[D.frz,k_Bool_and_eq_true]at h;obtain⟨h1,h2⟩:=h;cases o with
  |some t=>cases h1
  |none=>simp only[D.fz,D.R6 h2]
 | .agg xs,h=>by simp only[D.frz]at h;simp only[D.fz,D.R6 h]
 | .bx o x,h=>by
  simp only[D.frz,k_Bool_and_eq_true]at h;obtain⟨h1,h2⟩:=h;cases o with
  |true=>cases h1
  |false=>simp only[D.fz,D.WZ h2]
 | .any n,_=>rfl
def D.R6:∀{xs:List D},D.xU xs=true->D.fzs xs=xs
 |[],_=>rfl
 |x::xs,h=>by
  simp only[D.xU,k_Bool_and_eq_true]at h;simp only[D.fzs,D.WZ h.1,D.R6 h.2]
end
def V.frz {w:World}{l2:List Nat}{v:Value}(h:V P w ow d l v)(hf:d.frz=true):V P w ow d.fz l2 v:=by
 rw[←D.WZ hf]at h;exact V.trf (fun b _ hb=>⟨rfl,hb⟩) h
def D.acN:D->Bool
 | .any _=>true
 |_=>false
def D.ahP (d:D)(e:TyE):Bool:= !d.acN&&(d.isAgg==e.ty.isAgg)&&(d.w==e.w)&&(match e.ty with| .no=>false|_=>true)
variable {e:TyE}
def auB (h:d.ahP e=true):(∀k,d≠ .any k)/\d.isAgg=e.ty.isAgg/\d.w=e.w/\∀x,e.ty=x->x≠ .no:=by
 simp only[D.ahP,k_Bool_and_eq_true,beq_iff_eq,gF]at h;obtain⟨⟨⟨h1,h2⟩,h3⟩,h4⟩:=h;refine⟨?_,h2,h3,fun x hx e=> ?_⟩
 ·rintro k rfl;cases h1
 rw[hx,e]at h4;cases h4
def run_load {T:TypeId->TyE}{w:World}(hg:Good P T t)(hk:d.ahP (T t)=true)(h:gZ P w ow d l b off):
  ∃v,(Instr.loadAt t (.pointer (some ⟨b,off,none⟩))).run P w= .ok v w/\V P w ow d l v/\(d.isAgg=false->w.cell? ⟨b,off,none⟩=some v):=by
 obtain⟨hany,ha,hw,hn⟩:=auB hk;obtain⟨hdesc,i,zv,hi,hsz,_⟩:=hg.of hn;obtain⟨cs,hl,hrange,hr⟩:=h.range;by_cases hagg:d.isAgg=true
 ·refine⟨.agg cs.toArray,?_,(V.of hr).1 hagg,fun h=>by rw[hagg]at h;cases h⟩
  have hrow:∃ds,P.underlying t=some ds/\ds.isRow=true:=by
   cases hty:(T t).ty with
   |agg fs=>rw[hty]at hdesc;obtain⟨f,hd,_⟩:=hdesc;exact⟨_,hd,rfl⟩
   |arr n e=>rw[hty]at hdesc;exact⟨_,hdesc,rfl⟩
   |_=>rw[hty]at ha;rw[ha]at hagg;cases hagg
  obtain⟨ds,hd1,hd2⟩:=hrow;exact run_loadAt_mid w b off t cs ds hrange hd1 hd2 (by rw[hi];simp[hsz,hl,hw])
 ·have hagg':d.isAgg=false:=by simpa using hagg
  have h1:cs.length=1:=by
   rw[hl];cases d with
   |agg xs=>cases hagg'
   |any k=>exact absurd rfl (hany k)
   |_=>rfl
  obtain⟨v,hv,hV⟩:=(V.of hr).2 hagg' h1;subst hv;have hc:=hrange 0 v (by simp);refine⟨v,?_,hV,fun _=>by simpa using hc⟩;simp only[Instr.loadAt,Instr.sureAddr,aI,aU,aG,loadVar,ak1 hdesc];rw[←ha,hagg'];simp only[dV,if_false];simp only[load,Sem.run];rw[show w.cell? ⟨b,off,none⟩=some v by simpa using hc]
def FN (e:TyE)(u:Nat)(x:S)(s:St)(K:St->Prop):Prop:=
 match x with
 | .rp d=>d.ahP e=true/\K (s.set u (.val d))
 | .rf r p=>match s r with
  | .own d=>match D.sub p d with
   |some n=>n.ahP e=true/\match n with
    | .one v=>K (s.set u (.val (.one v)))
    | .agg xs=>if D.xU xs then K (s.set u (.val (.agg xs)))else u≠r/\K (s.set u (.ag r p))
    | .sl none xs=>if D.xU xs then K (s.set u (.val (.sl none xs)))else u≠r/\K (s.set u (.al r p))
    | .sl (some e) xs=>u≠r/\K (s.set u (.al r p))
    | .bx o x=>u≠r/\K (s.set u (.al r p))
    | .any _=>False
   |none=>False
  |_=>False
 |_=>False
def aHS (h:d.ahP e=true):d.fz.ahP e=true:=by
 have h1:d.fz.acN=d.acN:=by cases d<;>rfl
 have h2:d.fz.isAgg=d.isAgg:=by cases d<;>rfl
 simp only[D.ahP,h1,h2,D.amA]at h|-
 exact h
def aHY {T:TypeId->TyE}{n:Nat}{w0:World}{ow0:Own}{o:Oper}{s:St}{K:St->Prop}{x:Operand}{u:Nat}(hg:Good P T t) (ho:o.op= .load t x) (hd:o.dst=some u) (hu:u<n) (y:S) (hy:∀{ow a w},Fits P n w0 ow0 ow s a w->SV P w ow s a (slotOf x) y (a.eval x))
  (h:FN (T t) u y s K):Ok P n w0 ow0 o s K:=by
 refine iI fun a w ow hf=> ?_;have hv:=hy hf;unfold FN at h;split at h
 ·-- data of nobody
  rename_i d;obtain⟨b,off,hv,hb,hL⟩:=hv;obtain⟨v,h1,h2,_⟩:=run_load hg (aHS h.1) hL;refine⟨v,w,?_,_,h.2,ow,?_⟩
  ·unfold execOp;rw[ho];simp only[hv,aI,h1,aG];rfl
  ·rw[hd];exact hf.set hu h2
 ·rename_i r p;obtain⟨d,m,b,off,hs,hm,hl,hv⟩:=hv;rw[hs]at h;simp only[hm]at h;have hV:=hf.slot r;rw[hs]at hV
  have hR:R P w ow d [r] [aval a r]:=by
   cases p with
   |nil=>simp[loc]at hl
   |cons k p=>exact V.one hV hl
  obtain⟨hL,hob,_⟩:=hR.at hl hm;obtain⟨v,h1,h2,h3⟩:=run_load hg h.1 hL;refine⟨v,w,?_,?_⟩
  ·unfold execOp;rw[ho];simp only[hv,aI,h1,aG];rfl
  ·rw[hd]
   have hal:m.isAgg=false->m.w=1->m.JS=true->u≠r->SV P w ow (s.free u) a u (.al r p) v:=fun ha hw hh hne=>
    ⟨d,m,by rw[free_own (by rw[hs];rfl) (k_Ne_symm hne)];exact hs,hm,⟨hw,ha,.inr hh⟩,.inr ⟨b,off,hl,h3 ha⟩⟩
   have h4:=h.2;cases m with
   |one y=>
    simp only at h4;refine⟨_,h4,ow,hf.set hu ?_⟩;exact V.frz (l2:=[]) h2 rfl
   |any k=>exact h4.elim
   |bx o y=>exact⟨_,h4.2,ow,hf.set hu (hal rfl rfl rfl h4.1)⟩
   |agg xs=>
    simp only at h4;by_cases hfr:D.xU xs=true
    ·rw[if_pos hfr]at h4;exact⟨_,h4,ow,hf.set hu (V.frz h2 hfr)⟩
    ·rw[if_neg hfr]at h4;exact⟨_,h4.2,ow,hf.set hu ⟨d,.agg xs,by rw[free_own (by rw[hs];rfl) (k_Ne_symm h4.1)];exact hs,hm,rfl,h2⟩⟩
   |sl o xs=>
    cases o with
    |some e=>exact⟨_,h4.2,ow,hf.set hu (hal rfl rfl rfl h4.1)⟩
    |none=>
     simp only at h4;by_cases hfr:D.xU xs=true
     ·rw[if_pos hfr]at h4;exact⟨_,h4,ow,hf.set hu (V.frz h2 (by simpa[D.frz]using hfr))⟩
     ·rw[if_neg hfr]at h4;exact⟨_,h4.2,ow,hf.set hu (hal rfl rfl rfl h4.1)⟩
 ·exact h.elim
end Go.Dv
end
section
namespace Go
def fZ:= @List.cons_append
end Go
end
section
namespace Go.Dv
open Go.RowKit
variable [lL]
def oF (s:St)(i:Nat)(x:S):S:=
 match x with
 | .own (.bx _ _)=> .rf i [0]
 | .al r p=>match s r with
  | .own d=>match D.sub p d with
   |some (.bx _ _)=> .rf r (p++[0])
   |_=> .un
  |_=> .un
 | .val (.bx _ d)=> .rp d
 | .rp d=> .rp d
 | .rf r p=> .rf r p
 |_=> .un
variable {d:D}{v:Value}
def ag7 {x:D}{i b off:Nat}(hx:into d i v=some (x,b,off)):d.kid i=some x:=by
 cases d with
 |agg xs=>simp[Dv.into]at hx
 |one _=>simp[Dv.into]at hx
 |any _=>simp[Dv.into]at hx
 |sl o xs=>
  cases v with
  |slice a n cap=>
   cases a with
   |none=>simp[Dv.into]at hx
   |some a=>
    obtain⟨ab,ao,as⟩:=a;cases as with
    |some _=>simp[Dv.into]at hx
    |none=>
     simp only[Dv.into,aL,bZ]at hx;obtain⟨_,h1,rfl,_⟩:=hx;exact h1
  |_=>simp[Dv.into]at hx
 |bx o y=>
  cases v with
  |pointer a=>
   cases a with
   |none=>simp[Dv.into]at hx
   |some a=>
    obtain⟨ab,ao,as⟩:=a;cases as with
    |some _=>simp[Dv.into]at hx
    |none=>
     simp only[Dv.into]at hx;split at hx
     ·rename_i h0;subst h0;simp only[aJ,bZ]at hx;obtain⟨rfl,_⟩:=hx;rfl
     ·cases hx
  |_=>simp[Dv.into]at hx
def D.O7:∀(p q:List Nat) (d:D),D.sub (p++q) d=(D.sub p d).bind (D.sub q)
 |[],q,d=>rfl
 |i::p,q,d=>by
  simp only[fZ,D.sub];cases d.kid i with
  |none=>rfl
  |some x=>exact D.O7 p q x
def OX {w:World}:∀(p q:List Nat) (d n:D) (b off b1 o1:Nat),eX w p d b off=some (b1,o1)->D.sub p d=some n->eX w (p++q) d b off=eX w q n b1 o1
 |[],q,d,n,b,off,b1,o1,h,hs=>by
  simp only[eX,aJ,bZ]at h;simp only[D.sub,aJ]at hs;obtain⟨rfl,rfl⟩:=h;subst hs;rfl
 |i::p,q,d,n,b,off,b1,o1,h,hs=>by
  by_cases hagg:∃xs,d= .agg xs
  ·obtain⟨xs,rfl⟩:=hagg;simp only[fZ,yP]at h|-
   simp only[D.sub,D.kid]at hs;cases hx:xs[i]? with
   |none=>rw[hx]at h;cases h
   |some x=>rw[hx]at h hs;exact OX p q x n _ _ b1 o1 h hs
  ·have hd:∀xs,d≠ .agg xs:=fun xs e=>hagg ⟨xs,e⟩;obtain⟨v,x,b',off',hv,hx,hl⟩:=uH hd h;rw[fZ,sJ hd hv hx];have hk:=ag7 hx;simp only[D.sub,hk]at hs;exact OX p q x n b' off' b1 o1 hl hs
def XH {w:World}{p q:List Nat}{n:D}{b1 o1:Nat}(h:loc w p d v=some (b1,o1))(hs:D.sub p d=some n):loc w (p++q) d v=eX w q n b1 o1:=by
 cases p with
 |nil=>simp[loc]at h
 |cons i p=>
  simp only[fZ,loc]at h|-
  cases hx:Dv.into d i v with
  |none=>rw[hx]at h;cases h
  |some r=>
   obtain⟨x,b,off⟩:=r;rw[hx]at h;simp only at h|-
   have hk:d.kid i=some x:=by
    cases d with
    |agg xs=>simp[Dv.into]at hx
    |one _=>simp[Dv.into]at hx
    |any _=>simp[Dv.into]at hx
    |sl o xs=>
     cases v with
     |slice a n cap=>
      cases a with
      |none=>simp[Dv.into]at hx
      |some a=>
       obtain⟨ab,ao,as⟩:=a;cases as with
       |some _=>simp[Dv.into]at hx
       |none=>
        simp only[Dv.into,aL,bZ]at hx;obtain⟨_,h1,rfl,_⟩:=hx;exact h1
     |_=>simp[Dv.into]at hx
    |bx o y=>
     cases v with
     |pointer a=>
      cases a with
      |none=>simp[Dv.into]at hx
      |some a=>
       obtain⟨ab,ao,as⟩:=a;cases as with
       |some _=>simp[Dv.into]at hx
       |none=>
        simp only[Dv.into]at hx;split at hx
        ·rename_i h0;subst h0;simp only[aJ,bZ]at hx;obtain⟨rfl,_⟩:=hx;rfl
        ·cases hx
     |_=>simp[Dv.into]at hx
   simp only[D.sub,hk]at hs;exact OX p q x n b off b1 o1 h hs
variable {P:Program}{ow:Own}{o:Bool}{y:D}{l:List Nat}
def R.alS {w:World}(h:R P w ow (.bx o y) l [v]):∃b off,v= .pointer (some ⟨b,off,none⟩)/\Dv.into (.bx o y) 0 v=some (y,b,off):=by
 simp only[R]at h;obtain⟨b,off,C,e,fz,cs',hv,_⟩:=h;obtain rfl:v= .pointer (some ⟨b,off,none⟩):=by simpa using hv
 exact⟨b,off,rfl,by simp[Dv.into]⟩
def an3 {w:World}(h:R P w ow (.bx o y) l [v]):∃b off,v= .pointer (some ⟨b,off,none⟩)/\into (.bx o y) 0 v=some (y,b,off)/\loc w [0] (.bx o y) v=some (b,off):=by
 obtain⟨b,off,h1,h2⟩:=h.alS;exact⟨b,off,h1,h2,by simp only[loc,h2,eX]⟩
def Fits.asPtr {n:Nat}{w0 w:World}{ow0:Own}{s:St}{a:Act}(h:Fits P n w0 ow0 ow s a w)(x:Operand):SV P w ow s a (slotOf x) (Dv.oF s (slotOf x) (evS s x)) (a.eval x):=by
 have hv:=h.eval x;cases hx:evS s x with
 |un=>trivial
 |val d=>
  rw[hx]at hv;cases d with
  |bx o y=>
   simp only[SV,V,D.fz]at hv;obtain⟨b,off,h1,h2⟩:=hv.alS;obtain⟨_,h3,h4,_⟩:=hv.into h2;refine⟨b,off,h1,?_,?_⟩
   ·rcases h4 with h4|h4
    ·exact h4
    ·exfalso;simp only[R]at hv;obtain⟨b',off',C,e,fz,cs',hv',_,hn,_⟩:=hv;rw[h1]at hv';obtain⟨rfl,rfl⟩:b=b'/\off=off':=by simpa using hv'
     rw[hn trivial]at h4;cases h4
   ·obtain⟨C,e,fz,cs,g1,g2,g3⟩:=h3;exact⟨C,e,fz,cs,g1,g2,R.trf (fun b _ hb=>⟨rfl,hb⟩) g3⟩
  |_=>trivial
 |rp d=>rw[hx]at hv;exact hv
 |rf r p=>rw[hx]at hv;exact hv
 |ag r p=>trivial
 |tup l=>trivial
 |own d=>
  cases d with
  |bx o y=>
   have hs:=pE hx (.inl rfl);have he:=vO h.size h.small hx (.inl rfl);have hV:=h.slot (slotOf x);rw[hs]at hV;simp only[SV,V]at hV;obtain⟨b,off,h1,h2,h3⟩:=an3 hV;exact⟨.bx o y,y,b,off,hs,rfl,h3,by rw[he];exact h1⟩
  |_=>trivial
 |al r p=>
  rw[hx]at hv;obtain⟨d,m,hs,hm,hw,h4⟩:=hv;simp only[Dv.oF,hs,hm];cases m with
  |bx o y=>
   simp only;have hV:=h.slot r;rw[hs]at hV;rcases h4 with⟨rfl,h4⟩|⟨b,off,hl,hc⟩
   ·simp only[D.sub,aJ]at hm;subst hm;simp only[SV,V]at hV;obtain⟨b,off,h1,h2,h3⟩:=an3 hV;exact⟨.bx o y,y,b,off,hs,rfl,h3,by rw[h4];exact h1⟩
   ·have hR:R P w ow d [r] [aval a r]:=by
     cases p with
     |nil=>simp[loc]at hl
     |cons k p=>exact V.one hV hl
    obtain⟨hL,_,_⟩:=hR.at hl hm;obtain⟨v',hv',hr⟩:=hL.cell rfl;rw[hc]at hv';obtain rfl:a.eval x=v':=by simpa using hv'
    obtain⟨b2,o2,h1,h2⟩:=hr.alS;refine⟨d,y,b2,o2,hs,by rw[D.O7,hm];rfl,?_,h1⟩;rw[XH hl hm,sJ (d:= .bx o y) (fun xs e=>by cases e) hc h2];rfl
  |_=>trivial
end Go.Dv
end
section
namespace Go
def xZ:= @Addr.add_mid
def aQ:= @List.length_map
def iV:= @List.nil_append
end Go
end
section
namespace Go.Dv
open Go.RowKit
variable [lL]
inductive SLv where
 |fr (xs:List D)
 |nd (r:Nat) (p:List Nat) (xs:List D)
 |no
def SLv.xs:SLv->List D
 | .fr xs=>xs
 | .nd _ _ xs=>xs
 | .no=>[]
def asSl (s:St)(i:Nat)(x:S):SLv:=
 match x with
 | .val (.sl _ xs)=> .fr xs
 | .val (.one (.slice none 0 0))=> .fr []
 | .own (.sl _ xs)=> .nd i [] xs
 | .own (.one (.slice none 0 0))=> .fr []
 | .al r p=>match s r with
  | .own d=>match D.sub p d with
   |some (.sl _ xs)=> .nd r p xs
   |some (.one (.slice none 0 0))=> .fr []
   |_=> .no
  |_=> .no
 |_=> .no
variable {P:Program}{ow:Own}{l:List Nat}
def aAA {w:World}:R P w ow (.sl none []) l [.slice none 0 0]:=by
 simp only[R];exact⟨none,0,rfl,k_Nat_le_refl _,by simp[maxLen],.inr (.inl ⟨trivial,trivial⟩)⟩
def BV (P:Program)(w:World)(ow:Own)(s:St)(a:Act)(v:Value):SLv->Prop
 | .fr xs=>R P w ow (.sl none (D.fzs xs)) [] [v]
 | .nd r p xs=>∃d o,s r= .own d/\D.sub p d=some (.sl o xs)/\R P w ow (.sl o xs) (p.reverse++[r]) [v]/\((p=[]/\v=aval a r)\/∃b off,loc w p d (aval a r)=some (b,off)/\w.cell? ⟨b,off,none⟩=some v)
 | .no=>True
variable {n:Nat}{w0:World}{ow0:Own}{s:St}{a:Act}
def Fits.asSl {w:World}(h:Fits P n w0 ow0 ow s a w)(x:Operand):BV P w ow s a (a.eval x) (Dv.asSl s (slotOf x) (evS s x)):=by
 have hv:=h.eval x;unfold Dv.asSl;split
 ·rename_i o xs hx;rw[hx]at hv;simpa only[BV,SV,V,D.fz]using hv
 ·rename_i hx;rw[hx]at hv;simp only[SV,V,D.fz,R]at hv;have:a.eval x= .slice none 0 0:=by simpa using hv.1
  rw[this];exact aAA
 ·rename_i o xs hx;have hs:=pE hx (.inl rfl);have he:=vO h.size h.small hx (.inl rfl);have hV:=h.slot (slotOf x);rw[hs]at hV;simp only[SV,V]at hV;exact⟨_,o,hs,rfl,by rw[he];simpa using hV,.inl ⟨rfl,he⟩⟩
 ·rename_i hx;rw[hx]at hv;simp only[SV,V,R]at hv;have:a.eval x= .slice none 0 0:=by simpa using hv.1
  rw[this];exact aAA
 ·rename_i r p hx;rw[hx]at hv;obtain⟨d,m,hs,hm,hw,h4⟩:=hv;simp only[hs];have hV:=h.slot r;rw[hs]at hV
  have hcell:R P w ow m (p.reverse++[r]) [a.eval x]:=by
   rcases h4 with⟨rfl,h4⟩|⟨b,off,hl,hc⟩
   ·simp only[D.sub,aJ]at hm;subst hm;rw[h4];cases d with
    |agg xs=>exact absurd hw.2.1 (by simp[D.isAgg])
    |one _=>exact hV
    |sl _ _=>exact hV
    |bx _ _=>exact hV
    |any _=>exact hV
   ·have hR:R P w ow d [r] [aval a r]:=by
     cases p with
     |nil=>simp[loc]at hl
     |cons k p=>exact V.one hV hl
    obtain⟨hL,_,_⟩:=hR.at hl hm;obtain⟨v',hv',hr⟩:=hL.cell hw.1;rw[hc]at hv';obtain rfl:a.eval x=v':=by simpa using hv'
    exact hr
  split
  ·rename_i o xs heq;rw[hm]at heq;obtain rfl:m= .sl o xs:=by simpa using heq
   exact⟨d,o,hs,hm,hcell,h4⟩
  ·rename_i heq;rw[hm]at heq;obtain rfl:m= .one (.slice none 0 0):=by simpa using heq
   simp only[R]at hcell;have:a.eval x= .slice none 0 0:=by simpa using hcell.1
   rw[this];exact aAA
  ·trivial
 ·trivial
variable {o:Option TypeId}{v:Value}{i:Nat}{y:D}
def R.elem {w:World}{xs:List D}(h:R P w ow (.sl o xs) l [v])(hi:xs[i]?=some y):
  ∃b off cap,v= .slice (some ⟨b,off,none⟩) xs.length cap/\Dv.into (.sl o xs) i v=some (y,b,off+i*y.w):=by
 simp only[R]at h;obtain⟨a,cap,hv,_,_,h4⟩:=h;obtain rfl:v= .slice a xs.length cap:=by simpa using hv
 rcases h4 with⟨_,h4,_⟩|⟨_,h4⟩|⟨b,off,s,C,e,fz,rfl,_⟩
 ·rw[h4]at hi;simp at hi
 ·rw[h4]at hi;simp at hi
 ·exact⟨b,off,cap,rfl,by simp[Dv.into,hi]⟩
def R.hdr {w:World}{xs:List D}(h:R P w ow (.sl o xs) l [v]):∃a cap,v= .slice a xs.length cap/\xs.length<=cap/\cap<=maxLen:=by
 simp only[R]at h;obtain⟨a,cap,hv,h1,h2,_⟩:=h;exact⟨a,cap,by simpa using hv,h1,h2⟩
variable {d:D}{b off:Nat}
def aKA {w:World}{r:Nat}{p:List Nat}{xs:List D}(hm:D.sub p d=some (.sl o xs))
  (hx:into (.sl o xs) i v=some (y,b,off)) (h4:(p=[]/\v=aval a r)\/∃b off,loc w p d (aval a r)=some (b,off)/\w.cell? ⟨b,off,none⟩=some v):loc w (p++[i]) d (aval a r)=some (b,off)/\D.sub (p++[i]) d=some y:=by
 have hk:=ag7 hx;refine⟨?_,by rw[D.O7,hm];simp[D.sub,hk]⟩;rcases h4 with⟨rfl,rfl⟩|⟨b1,o1,hl,hc⟩
 ·simp only[D.sub,aJ]at hm;subst hm;simp only[iV,loc,hx,eX]
 ·rw[XH hl hm,sJ (d:= .sl o xs) (fun xs e=>by cases e) hc hx];rfl
def R.aGV {w:World}{xs:List D}(h:R P w ow (.sl none xs) l [v])(hi:Dv.into (.sl none xs) i v=some (y,b,off)):ow b=none:=by
 simp only[R]at h;obtain⟨a,cap,hv,_,_,h4⟩:=h;obtain rfl:v= .slice a xs.length cap:=by simpa using hv
 rcases h4 with⟨rfl,_⟩|⟨_,rfl⟩|⟨b',off',s,C,e,fz,rfl,hh,hn,hs,hr⟩
 ·simp[Dv.into]at hi
 ·cases a with
  |none=>simp[Dv.into]at hi
  |some a=>obtain⟨ab,ao,as⟩:=a;cases as<;>simp[Dv.into]at hi
 ·simp only[Dv.into,aL,bZ]at hi;obtain⟨_,_,_,rfl,_⟩:=hi;exact hn trivial
def gZ.fz0 {w:World}{l2:List Nat}(h:gZ P w ow d.fz l b off):gZ P w ow d.fz l2 b off:=by
 obtain⟨C,e,fz,cs,h1,h2,h3⟩:=h;exact⟨C,e,fz,cs,h1,h2,R.trf (fun b _ hb=>⟨rfl,hb⟩) h3⟩
variable {e:TypeId}
def F9 {i:TypeInfo}(hi:P.info? e=some i)(w:World):(sizeOf e).run P w= .ok i.size w:=by simp[sizeOf,typeInfo,hi]
def GM (ew:Nat)(u:Nat)(x:SLv)(i:Nat)(s:St)(K:St->Prop):Prop:=
 match x with
 | .fr xs=>match xs[i]? with
  |some y=>y.w=ew/\K (s.set u (.rp y))
  |none=>False
 | .nd r p xs=>match xs[i]? with
  |some y=>y.w=ew/\u≠r/\K (s.set u (.rf r (p++[i])))
  |none=>False
 | .no=>False
def amC {xs:List D}(h:xs[i]?=some y):(D.fzs xs)[i]?=some y.fz:=by rw[D.jS];simp[h]
variable {K:St->Prop}{t:TypeId}{x:Operand}{k:IntKind}{j:Int}
def aD6 {T:TypeId->TyE}{o:Oper}{y:Operand}{u:Nat}(hg:Good P T e) (hge:∀x,(T e).ty=x->x≠ .no) (ht:P.underlying t=some (.slice e)) (ho:o.op= .indexAddr t x y) (hd:o.dst=some u) (hu:u<n)
  (hy:evS s y= .val (.one (.int k j))) (hj:0<=j) (h:GM (T e).w u (asSl s (slotOf x) (evS s x)) j.toNat s K):Ok P n w0 ow0 o s K:=by
 refine iI fun a w ow hf=> ?_;have hv:=hf.asSl x;have hyv:=(hf.one hy).1;obtain⟨_,i,zv,hi,hsz,_⟩:=hg.of hge
 have run:∀b off cap len,j.toNat<len->a.eval x= .slice (some ⟨b,off,none⟩) len cap->(execOp a.eval o).run P w= .ok (.value (.pointer (some ⟨b,off+j.toNat*(T e).w,none⟩))) w:=by
  intro b off cap len hlt hx;unfold execOp;rw[ho];simp only[hyv,hx,Instr.indexAt,asIntOf,aI,aU,aG,run_underlying ht];have h1:0<=j/\j<(len:Int):=⟨hj,by omega⟩;simp only[aI,aU,aG,if_pos h1,F9 hi,hsz,xZ]
 generalize Dv.asSl s (slotOf x) (evS s x)=z at h hv;cases z with
 |no=>exact h.elim
 |fr xs=>
  simp only[GM]at h;simp only[BV]at hv;cases hx:xs[j.toNat]? with
  |none=>rw[hx]at h;exact h.elim
  |some z=>
   rw[hx]at h;obtain⟨hw,hK⟩:=h;obtain⟨b,off,cap,h1,h2⟩:=hv.elem (amC hx);have hob:=hv.aGV h2;obtain⟨_,hL,_,_⟩:=hv.into h2;have hlt:j.toNat<(D.fzs xs).length:=(aD.1 (amC hx)).1;refine⟨_,w,run b off cap _ hlt h1,_,hK,ow,?_⟩;rw[hd];rw[D.amA,hw]at hL;exact hf.set hu ⟨b,_,rfl,hob,hL.fz0⟩
 |nd r p xs=>
  simp only[GM]at h;obtain⟨d,o',hs,hm,hR,h4⟩:=hv;cases hx:xs[j.toNat]? with
  |none=>rw[hx]at h;exact h.elim
  |some z=>
   rw[hx]at h;obtain⟨hw,hne,hK⟩:=h;obtain⟨b,off,cap,h1,h2⟩:=hR.elem hx;have hlt:j.toNat<xs.length:=(aD.1 hx).1;obtain⟨h5,h6⟩:=aKA hm h2 h4;refine⟨_,w,run b off cap _ hlt h1,_,hK,ow,?_⟩;rw[hd];refine hf.set hu ⟨d,z,b,_,by rw[free_own (by rw[hs];rfl) (k_Ne_symm hne)];exact hs,h6,h5,by rw[hw]⟩
def aHW {o:Oper}(ht:P.underlying t=some (.slice e)) (ho:o.op= .call {callee:= .builtin .len,args:= #[x],argTypes:= #[t]}) (hd:dstOk n o=true)
  (h:match asSl s (slotOf x) (evS s x)with| .no=>False|z=>K (s.jR o.dst (.val (.one (.int .i64 z.xs.length))))):Ok P n w0 ow0 o s K:=by
 refine iI fun a w ow hf=> ?_;have hv:=hf.asSl x
 have key:∀len:Nat,(∃b cap,a.eval x= .slice b len cap)->K (s.jR o.dst (.val (.one (.int .i64 len))))->∃v w',(execOp a.eval o).run P w= .ok (.value v) w'/\∃s',K s'/\Rel P n w0 ow0 s' (a.put o.dst v) w':=by
  rintro len ⟨b,cap,hx⟩ hK;refine⟨.int .i64 len,w,?_,_,hK,ow,?_⟩
  ·unfold execOp;rw[ho];simp[resolve,invoke,builtin,hx,Builtin.len_,run_underlying ht,goInt]
  ·cases hod:o.dst with
   |none=>exact hf
   |some u=>exact hf.set (by simpa[dstOk,hod]using hd) (SV.A8 rfl)
 generalize Dv.asSl s (slotOf x) (evS s x)=z at h hv;cases z with
 |no=>exact h.elim
 |fr xs=>
  obtain⟨b,cap,h1,_⟩:=hv.hdr;exact key _ ⟨b,cap,h1⟩ (by rw[D.jS,aQ];exact h)
 |nd r p xs=>
  obtain⟨d,o',_,_,hR,_⟩:=hv;obtain⟨b,cap,h1,_⟩:=hR.hdr;exact key _ ⟨b,cap,h1⟩ h
def aHX {o:Oper}(ht:P.underlying t=some .string) (ho:o.op= .call {callee:= .builtin .len,args:= #[x],argTypes:= #[t]}) (hd:dstOk n o=true)
  (h:oneK (evS s x) fun v=>match v with| .string z=>K (s.jR o.dst (.val (.one (.int .i64 z.size))))|_=>False):Ok P n w0 ow0 o s K:=by
 obtain⟨v,hx,h⟩:=eY h;split at h
 ·refine yQ hd (u:= .int .i64 _) rfl (fun a w he=> ?_) h;unfold execOp;rw[ho];simp[resolve,invoke,builtin,he _ _ hx,Builtin.len_,run_underlying ht,goInt]
 ·exact h.elim
def aHT {o:Oper}{y:Operand}{z:ByteArray}{c:UInt8}(ht:P.underlying t=some .string) (ho:o.op= .index t x y) (hd:dstOk n o=true)
  (hx:evS s x= .val (.one (.string z))) (hy:evS s y= .val (.one (.int k j))) (hj:0<=j) (hc:z[j.toNat]?=some c) (h:K (s.jR o.dst (.val (.one (.int .u8 c.toNat))))):Ok P n w0 ow0 o s K:=by
 refine yQ hd (u:= .int .u8 _) rfl (fun a w he=> ?_) h;unfold execOp;rw[ho];simp[he _ _ hx,he _ _ hy,Instr.index,asIntOf,run_underlying ht,hj,hc]
end Go.Dv
end
section
namespace Go
def uA:= @Array.getElem?_modify
def jF:= @Array.length_toList
def lC:= @Bool.and_eq_false_iff
def dW:= @List.append_nil
def mE:= @List.getElem?_append
def dX:= @List.getElem?_drop
def bD:= @List.getElem?_take
def lD:= @List.getElem?_toArray
def aR:= @List.length_append
def jI:= @List.length_nil
def dL:= @List.take_append_drop
def kP:= @Nat.add_zero
def k_Option_some_inj:= @Option.some.inj
end Go
end
section
namespace Go.Dv
open Go.RowKit
variable [lL]
variable {P:Program}{ow:Own}{d:D}{l:List Nat}{v:Value}{i b:Nat}{x:D}
def R.aI2 {w:World}{off:Nat}(h:R P w ow d l [v])(hi:Dv.into d i v=some (x,b,off))(hf:D.free [i] d=true):∃C e fz,w.heap[b]?=some (.cells C e fz)/\alH fz C.size:=by
 cases d with
 |one u=>simp[Dv.into]at hi
 |any k=>simp[Dv.into]at hi
 |agg xs=>simp[Dv.into]at hi
 |sl o xs=>
  simp only[R]at h;obtain⟨a,cap,hv,_,_,h4⟩:=h;obtain rfl:v= .slice a xs.length cap:=by simpa using hv
  rcases h4 with⟨rfl,_⟩|⟨rfl,rfl⟩|⟨b',off',s,C,e,fz,rfl,hh,hn,hs,hr⟩
  ·simp[Dv.into]at hi
  ·simp[D.free]at hf
  ·simp only[Dv.into,aL,bZ]at hi;obtain⟨_,_,_,rfl,_⟩:=hi;cases o with
   |none=>simp[D.free]at hf
   |some t=>obtain⟨_,_,hfz,_⟩:=hs t rfl;exact⟨C,e,fz,hh,hfz⟩
 |bx o y=>
  simp only[R]at h;obtain⟨b',off',C,e,fz,cs',hv,hh,hn,hs,hl,hc,hr⟩:=h;obtain rfl:v= .pointer (some ⟨b',off',none⟩):=by simpa using hv
  simp only[Dv.into]at hi;split at hi
  ·obtain⟨rfl,rfl,rfl⟩:y=x/\b'=b/\off'=off:=by simpa using hi
   cases o with
   |false=>simp[D.free]at hf
   |true=>obtain⟨_,hfz,_⟩:=hs rfl;exact⟨C,e,fz,hh,hfz⟩
  ·cases hi
def gZ.at0 {w:World}:∀(p:List Nat) {d n:D}{l:List Nat}{b off b1 o1:Nat},gZ P w ow d l b off->eX w p d b off=some (b1,o1)->D.sub p d=some n->D.free p d=true->
  b1=b\/((∃q,ow b1=some (q++l)/\q.length<p.length)/\∃C e fz,w.heap[b1]?=some (.cells C e fz)/\alH fz C.size)
 |[],d,n,l,b,off,b1,o1,h,hl,hs,hf=>by
  simp only[eX,aJ,bZ]at hl;exact .inl hl.1.symm
 |i::p,d,n,l,b,off,b1,o1,h,hl,hs,hf=>by
  by_cases hagg:∃xs,d= .agg xs
  ·obtain⟨xs,rfl⟩:=hagg;simp only[eX]at hl;simp only[D.sub,D.kid]at hs;simp only[D.free,D.kid,fD]at hf;cases hx:xs[i]? with
   |none=>rw[hx]at hl;cases hl
   |some x=>
    rw[hx]at hl hs hf;rcases gZ.at0 p (h.xE hx) hl hs hf with h1|⟨⟨q,h1,h2⟩,h3⟩
    ·exact .inl h1
    ·exact .inr ⟨⟨q++[i],by simpa using h1,by simp;exact h2⟩,h3⟩
  ·have hd:∀xs,d≠ .agg xs:=fun xs e=>hagg ⟨xs,e⟩;obtain⟨v,x,b',off',hv,hx,hl'⟩:=uH hd hl;obtain⟨v',hv',hr⟩:=h.cell (EQ hx).1;rw[hv]at hv';obtain rfl:v=v':=by simpa using hv'
   obtain⟨hkid,hL,_,hfr⟩:=hr.into hx;simp only[D.sub,hkid]at hs;obtain⟨hf1,hf2⟩:=D.oU hkid hf;have hob:=hfr hf1;rcases gZ.at0 p hL hl' hs hf2 with rfl|⟨⟨q,h1,h2⟩,h3⟩
   ·exact .inr ⟨⟨[],by simpa using hob,by simp⟩,hr.aI2 hx hf1⟩
   ·exact .inr ⟨⟨q++[i],by simpa using h1,by simp;exact h2⟩,h3⟩
variable {p:List Nat}{n:D}{b1 o1:Nat}
def R.at0 {w:World}(h:R P w ow d l [v])(hl:loc w p d v=some (b1,o1))(hs:D.sub p d=some n)(hf:D.free p d=true):
  (∃q,ow b1=some (q++l)/\q.length<p.length)/\∃C e fz,w.heap[b1]?=some (.cells C e fz)/\alH fz C.size:=by
 cases p with
 |nil=>simp[loc]at hl
 |cons i p=>
  simp only[loc]at hl;cases hx:Dv.into d i v with
  |none=>rw[hx]at hl;cases hl
  |some r=>
   obtain⟨x,b,off⟩:=r;rw[hx]at hl;obtain⟨hk,hL,_,hfr⟩:=h.into hx;simp only[D.sub,hk]at hs;obtain⟨hf1,hf2⟩:=D.oU hk hf;have hob:=hfr hf1;rcases gZ.at0 p hL hl hs hf2 with rfl|⟨⟨q,h1,h2⟩,h3⟩
   ·exact⟨⟨[],by simpa using hob,by simp⟩,h.aI2 hx hf1⟩
   ·exact⟨⟨q++[i],by simpa using h1,by simp;exact h2⟩,h3⟩
def yR (P:Program)(g o:Nat)(t:TypeId)(fz:Nat×Nat):∀(vs:List Value) (i:Nat) (cur:Array Value) (w:World),w.heap[g]?=some (.cells cur t fz)->alH fz cur.size->o+i+vs.length<=cur.size->(∀v∈vs,v.oneCell'=true)->
  (storeCells ⟨g,o,none⟩ vs i).run P w= .ok () (w.setRow g (cur.toList.take (o+i)++vs++cur.toList.drop (o+i+vs.length)).toArray)
 |[],i,cur,w,hg,_,_,_=>by
  simp only[storeCells,dW,jI,kP,dL,Array.toArray_toList];rw[setRow_self w g cur t fz hg];rfl
 |v::rest,i,cur,w,hg,hu,hl,h1=>by
  have hi:o+i<cur.size:=by simp at hl;omega
  have hadd:(⟨g,o,none⟩:Addr).add i=⟨g,o+i,none⟩:=by unfold Addr.add;split<;>simp_all
  have hcell:w.cell? ⟨g,o+i,none⟩=some cur[o+i]:=by simp[World.cell?,hg,hi]
  have hfro:w.frozen? ⟨g,o+i,none⟩=false:=by
   have:=hu (o+i) hi;obtain⟨lo,hi'⟩:=fz;simp only[World.frozen?,hg];simp only[lC,decide_eq_false_iff_not];simp only at this;omega
  have hst:(store ((⟨g,o,none⟩:Addr).add i) v).run P w= .ok () (w.setRow g (cur.setIfInBounds (o+i) v)):=by
   rw[hadd,run_store P w _ v _ (h1 v (by simp)),hcell];simp[hfro,setCell_eq_setRow w g (o+i) cur t fz v hg]
  have ih:=yR P g o t fz rest (i+1) (cur.setIfInBounds (o+i) v) (w.setRow g (cur.setIfInBounds (o+i) v)) (setRow_heap w g cur _ t _ hg) (by simpa using hu) (by simp at hl|-;omega) (fun x hx=>h1 x (by simp[hx]));simp only[storeCells,aI,hst,aG,ih,setRow_setRow];congr 3;have e:=list_seg_step cur.toList (o+i) v rest (by simp at hl|-;omega);simpa[Array.toList_setIfInBounds,oW]using e
variable {C:Array Value}
def Wr.setRow {w:World}{o:Nat}{e:TypeId}{fz:Nat×Nat}{vs:List Value}(hb:w.heap[b]?=some (.cells C e fz))(hfit:o+vs.length<=C.size):
  Wr w (w.setRow b (C.toList.take o++vs++C.toList.drop (o+vs.length)).toArray) b o vs.length/\
   (w.setRow b (C.toList.take o++vs++C.toList.drop (o+vs.length)).toArray).heap[b]?=some (.cells (C.toList.take o++vs++C.toList.drop (o+vs.length)).toArray e fz)/\
   ∀j,j<vs.length->(C.toList.take o++vs++C.toList.drop (o+vs.length)).toArray[o+j]?=vs[j]?:=by
 have hnew:=setRow_heap w b C (C.toList.take o++vs++C.toList.drop (o+vs.length)).toArray e fz hb;refine⟨⟨fun k hk=> ?_,C,_,e,fz,hb,hnew,?_,fun k hk=> ?_⟩,hnew,fun j hj=> ?_⟩
 ·unfold World.setRow;simp only[uA];rw[if_neg (by omega)]
 ·simp;omega
 ·simp only[lD,mE,aR,dD,jF,bD,dX];rcases hk with hk|hk
  ·have h1:k<min o C.size+vs.length:=by omega
   have h2:k<min o C.size:=by omega
   simp[h1,h2,hk]
  ·have h1:¬k<min o C.size+vs.length:=by omega
   simp only[if_neg h1];rw[show o+vs.length+(k-(min o C.size+vs.length))=k from by omega];simp
 ·simp only[lD,mE,aR,dD,jF];have h1:o+j<min o C.size+vs.length:=by omega
  have h2:¬o+j<min o C.size:=by omega
  simp only[if_pos h1,if_neg h2];rw[show o+j-min o C.size=j from by omega]
def V.cells {w:World}(h:V P w ow d l v):R P w ow d l v.cells.toList:=by
 cases d with
 |agg xs=>obtain⟨cs,rfl,h2⟩:=h;exact h2
 |one u=>
  simp only[V,R]at h|-
  obtain⟨h1,h2⟩:=h;obtain rfl:v=u:=by simpa using h1
  cases v<;>first|exact⟨rfl,h2⟩|cases h2
 |sl o xs=>
  simp only[V,R]at h|-
  obtain⟨a,cap,h1,h2⟩:=h;obtain rfl:v= .slice a xs.length cap:=by simpa using h1
  exact⟨a,cap,rfl,h2⟩
 |bx o x=>
  simp only[V,R]at h|-
  obtain⟨b,off,C,e,fz,cs',h1,h2⟩:=h;obtain rfl:v= .pointer (some ⟨b,off,none⟩):=by simpa using h1
  exact⟨b,off,C,e,fz,cs',rfl,h2⟩
 |any k=>
  simp only[V,R]at h|-
  have h1:=h.2 v (by simp);cases v<;>first|exact h|cases h1
def St.OB (s:St)(r:Nat):St:=fun j=>match s j with
 | .ag t p=>if t=r then .un else .ag t p
 |x=>x
def St.SB (s:St)(r:Nat):St:=fun j=>match s j with
 | .al t []=> .al t []
 |x=>x.drop r
def arJ {w:World}:(w.setRow b C).os=w.os/\(w.setRow b C).tape=w.tape/\(w.setRow b C).output=w.output/\(w.setRow b C).heap.size=w.heap.size:=by simp[World.setRow]
def LW {o:Bool}{z:D}(h:(D.bx o z).kid i=some x):i=0:=by
 simp only[D.kid]at h;split at h
 ·assumption
 ·cases h
variable {m:D}
def Alike.hd (h:Alike m n):m.JS=false/\n.JS=false:=by
 rcases h with⟨u,u',rfl,rfl⟩|⟨us,us',rfl,rfl,_⟩<;>exact⟨rfl,rfl⟩
def Alike.ag (h:Alike m n):n.isAgg=m.isAgg:=by
 rcases h with⟨u,u',rfl,rfl⟩|⟨us,us',rfl,rfl,_⟩<;>rfl
variable {r:List Nat}
def Alike.kid {j:Nat}(h:Alike m n)(hx:D.sub (j::r) m=some x):∃y,D.sub (j::r) n=some y/\y.JS=x.JS/\y.isAgg=x.isAgg/\y.w=x.w/\x.JS=false:=by
 rcases h with⟨u,u',rfl,rfl⟩|⟨us,us',rfl,rfl,hl⟩
 ·simp[D.sub,D.kid]at hx
 ·simp only[D.sub,D.kid,aS]at hx|-
  cases hu:us[j]? with
  |none=>rw[hu]at hx;simp at hx
  |some u=>
   rw[hu]at hx;have hj:j<us'.length:=by have:=(aD.1 hu).1;omega
   rw[aB hj];cases r with
   |nil=>
    simp only[dA,D.sub,aJ]at hx|-
    subst hx;exact⟨_,rfl,rfl,rfl,rfl,rfl⟩
   |cons k r=>simp[D.sub,D.kid]at hx
variable {w':World}{m0 n0:D}
def gZ.UL {w:World}(hA:Alike m0 n0):∀(p r:List Nat) {d m:D}{l:List Nat}{b off b1 o1:Nat},gZ P w ow d l b off->eX w p d b off=some (b1,o1)->D.sub p d=some m0->
  D.free p d=true->Wr w w' b1 o1 m0.w->(∀q,ow b≠some (q++l))->ow b≠none->D.sub r d=some m->
  (∃m',D.sub r (D.upd p d n0)=some m'/\m'.JS=m.JS/\m'.isAgg=m.isAgg/\m'.w=m.w)/\(m.JS=true->∀b2 o2,eX w r d b off=some (b2,o2)->w'.cell? ⟨b2,o2,none⟩=w.cell? ⟨b2,o2,none⟩)
 |[],[],d,m,l,b,off,b1,o1,h,hl,hs,hf,hw,hb1,hb2,hr=>by
  simp only[D.sub,aJ]at hs hr;subst hs;subst hr;exact⟨⟨n0,rfl,by rw[hA.hd.1,hA.hd.2],hA.ag,hA.wd⟩,fun h=>by rw[hA.hd.1]at h;cases h⟩
 |[],j::r,d,m,l,b,off,b1,o1,h,hl,hs,hf,hw,hb1,hb2,hr=>by
  simp only[D.sub,aJ]at hs;subst hs;obtain⟨m',k1,k2,k3,k4,k5⟩:=hA.kid hr;exact⟨⟨m',k1,k2,k3,k4⟩,fun h=>by rw[k5]at h;cases h⟩
 |i::p,[],d,m,l,b,off,b1,o1,h,hl,hs,hf,hw,hb1,hb2,hr=>by
  simp only[D.sub,aJ]at hr;subst hr
  have hk:∃x,d.kid i=some x:=by
   simp only[D.sub]at hs;cases hk:d.kid i with
   |none=>rw[hk]at hs;cases hs
   |some x=>exact⟨x,rfl⟩
  obtain⟨x,hk⟩:=hk;have hup:D.upd (i::p) d n0=d.gB i (D.upd p x n0):=by simp only[D.upd,hk]
  refine⟨⟨_,rfl,?_,?_,D.GH _ _ _ _ hs hA.wd⟩,?_⟩
  ·rw[hup];cases d<;>rfl
  ·rw[hup];cases d<;>rfl
  ·intro hh b2 o2 hl2;simp only[eX,aJ,bZ]at hl2;obtain⟨rfl,rfl⟩:=hl2;have hd:∀xs,d≠ .agg xs:=by rintro xs rfl;cases hh
   obtain⟨v,x',b',off',hv,hx,hl'⟩:=uH hd hl;obtain⟨v',hv',hr⟩:=h.cell (EQ hx).1;rw[hv]at hv';obtain rfl:v=v':=by simpa using hv'
   obtain⟨hkid,hL,_,hfr⟩:=hr.into hx;simp only[D.sub,hkid]at hs;obtain⟨hf1,hf2⟩:=D.oU hkid hf;have hob:=hfr hf1;obtain⟨_,_,hat⟩:=gZ.at p hL hl' hs;refine hw.cell (.inl ?_);rintro rfl;rcases hat hf2 with⟨rfl,_,_⟩|⟨q,hq⟩
   ·exact hb1 [] (by simpa using hob)
   ·exact hb1 (q++[i]) (by simpa using hq)
 |i::p,j::r,d,m,l,b,off,b1,o1,h,hl,hs,hf,hw,hb1,hb2,hr=>by
  have hki:∃x,d.kid i=some x:=by
   simp only[D.sub]at hs;cases hk:d.kid i with
   |none=>rw[hk]at hs;cases hs
   |some x=>exact⟨x,rfl⟩
  have hkj:∃y,d.kid j=some y:=by
   simp only[D.sub]at hr;cases hk:d.kid j with
   |none=>rw[hk]at hr;cases hr
   |some x=>exact⟨x,rfl⟩
  obtain⟨x,hki⟩:=hki;obtain⟨y,hkj⟩:=hkj;have hs':D.sub p x=some m0:=by simpa only[D.sub,hki]using hs
  have hr':D.sub r y=some m:=by simpa only[D.sub,hkj]using hr
  have hup:D.upd (i::p) d n0=d.gB i (D.upd p x n0):=by simp only[D.upd,hki]
  obtain⟨hf1,hf2⟩:=D.oU hki hf
  have hkid':j≠i->(d.gB i (D.upd p x n0)).kid j=some y:=by
   intro hij;cases d with
   |sl o xs=>simp only[D.kid]at hkj;simp only[D.gB,D.kid];rw[bI (k_Ne_symm hij)];exact hkj
   |agg xs=>simp only[D.kid]at hkj;simp only[D.gB,D.kid];rw[bI (k_Ne_symm hij)];exact hkj
   |bx o z=>have:=LW hki;have:=LW hkj;omega
   |one _=>cases hki
   |any _=>cases hki
  have hkidi:(d.gB i (D.upd p x n0)).kid i=some (D.upd p x n0):=by
   cases d with
   |sl o xs=>simp only[D.kid]at hki;simp only[D.gB,D.kid];exact bG (aD.1 hki).1
   |agg xs=>simp only[D.kid]at hki;simp only[D.gB,D.kid];exact bG (aD.1 hki).1
   |bx o z=>simp only[D.kid]at hki;split at hki
            ·rename_i h0;subst h0;rfl
            ·cases hki
   |one _=>cases hki
   |any _=>cases hki
  have main:∀(bx ox by_ oy:Nat),gZ P w ow x (i::l) bx ox->eX w p x bx ox=some (b1,o1)->(∀q,ow bx≠some (q++(i::l)))->ow bx≠none->gZ P w ow y (j::l) by_ oy->
    (j=i->by_=bx/\oy=ox)->(j≠i->Off ow (j::l) b1/\(by_≠b1\/o1+m0.w<=oy\/oy+y.w<=o1))->
    (∃m',D.sub (j::r) (D.upd (i::p) d n0)=some m'/\m'.JS=m.JS/\m'.isAgg=m.isAgg/\m'.w=m.w)/\(m.JS=true->∀b2 o2,eX w r y by_ oy=some (b2,o2)->w'.cell? ⟨b2,o2,none⟩=w.cell? ⟨b2,o2,none⟩):=by
   intro bx ox by_ oy hLx hlx hbx1 hbx2 hLy hsame hdiff;by_cases hij:j=i
   ·subst hij;rw[hki]at hkj;obtain rfl:x=y:=by simpa using hkj
    obtain⟨rfl,rfl⟩:=hsame rfl;obtain⟨h1,h2⟩:=gZ.UL hA p r hLx hlx hs' hf2 hw hbx1 hbx2 hr';refine⟨?_,h2⟩;rw[hup];simpa only[D.sub,hkidi]using h1
   ·refine⟨⟨m,?_,rfl,rfl,rfl⟩,fun hh b2 o2 hl2=> ?_⟩
    ·rw[hup];simpa only[D.sub,hkid' hij]using hr'
    ·obtain⟨hoff,hdis⟩:=hdiff hij;obtain⟨hLm,hpl,_⟩:=gZ.at r hLy hl2 hr';refine hw.cell ?_;rcases hpl with⟨rfl,h5,h6⟩|h5|⟨q,h5⟩
     ·have:m.w=1:=by cases m<;>first|rfl|cases hh
      omega
     ·left;rintro rfl;exact hoff.1 h5
     ·left;rintro rfl;exact hoff.2 q h5
  by_cases hagg:∃xs,d= .agg xs
  ·obtain⟨xs,rfl⟩:=hagg;simp only[D.kid]at hki hkj;simp only[yP,hki]at hl;simp only[yP,hkj];have hLx:=h.xE hki;obtain⟨_,_,hat⟩:=gZ.at p hLx hl hs';refine main _ _ _ _ hLx hl (fun q hq=>hb1 (q++[i]) (by simpa using hq)) hb2 (h.xE hkj) (fun e=>by subst e;exact⟨rfl,rfl⟩) fun hij=> ?_;rcases hat hf2 with⟨rfl,h5,h6⟩|⟨q,hq⟩
   ·refine⟨⟨hb2,fun q hq=>hb1 (q++[j]) (by simpa using hq)⟩,.inr ?_⟩;have:=TK xs i j x y hki hkj (fun e=>hij e.symm);try simp only[D.w]at h6
    omega
   ·refine⟨⟨by rw[hq];simp,fun q' hq'=>hij (suffix_inj (by rw[hq]at hq';simpa using hq'.symm))⟩,.inl ?_⟩;rintro rfl;exact hb1 (q++[i]) (by simpa using hq)
  ·have hd:∀xs,d≠ .agg xs:=fun xs e=>hagg ⟨xs,e⟩;obtain⟨v,x',b',off',hv,hx,hl'⟩:=uH hd hl;obtain⟨v',hv',hR⟩:=h.cell (EQ hx).1;rw[hv]at hv';obtain rfl:v=v':=by simpa using hv'
   obtain⟨hkid,hLx,_,hfr⟩:=hR.into hx;rw[hki]at hkid;obtain rfl:x=x':=by simpa using hkid
   have hob:=hfr hf1;obtain⟨_,_,hat⟩:=gZ.at p hLx hl' hs';by_cases hnil:∃b2 o2,into d j v=some (y,b2,o2)
   ·obtain⟨b2,o2,hy⟩:=hnil;rw[sJ hd hv hy];obtain⟨_,hLy,_,_⟩:=hR.into hy;refine main _ _ _ _ hLx hl' (fun q hq=>by rw[hob]at hq;exact suffix_absurd (by simpa using hq)) (by rw[hob];simp) hLy (fun e=> ?_) fun hij=> ?_
    ·subst e;rw[hx]at hy;simp at hy;omega
    ·-- two kids of one row
     have hsl:∃o xs,d= .sl o xs:=by
      cases d with
      |agg xs=>exact absurd rfl (hd xs)
      |one _=>cases hki
      |any _=>cases hki
      |sl o xs=>exact⟨o,xs,rfl⟩
      |bx o z=>have:=LW hki;have:=LW hkj;omega
     obtain⟨o,xs,rfl⟩:=hsl;simp only[D.kid]at hki hkj;simp only[R]at hR;obtain⟨a,cap,hva,_,_,h4⟩:=hR;obtain rfl:v= .slice a xs.length cap:=by simpa using hva
     rcases h4 with⟨_,h4,_⟩|⟨_,h4⟩|⟨b3,off3,s,C,e,fz,rfl,hh,_,_,hr0⟩
     ·rw[h4]at hki;simp at hki
     ·rw[h4]at hki;simp at hki
     ·have hall:=(Rs.iff hh).1 hr0;obtain⟨gx,_⟩:=hall i x hki;obtain⟨gy,_⟩:=hall j y hkj;simp only[Dv.into,hki,hkj,dA,aJ,bZ]at hx hy;obtain⟨_,rfl,rfl⟩:=hx;obtain⟨_,rfl,rfl⟩:=hy;rcases hat hf2 with⟨rfl,h5,h6⟩|⟨q,hq⟩
      ·refine⟨⟨by rw[hob];simp,fun q' hq'=>by rw[hob]at hq';exact suffix_absurd (by simpa using hq')⟩,.inr ?_⟩;try simp only[D.w]at h6
       rw[gx]at h5 h6;rw[gy];rcases sH hij with h7|h7
       ·right;have:j*s+s<=i*s:=by rw[←Nat.succ_mul];exact aX _ h7
        omega
       ·left;have:i*s+s<=j*s:=by rw[←Nat.succ_mul];exact aX _ h7
        omega
      ·refine⟨⟨by rw[hq];simp,fun q' hq'=>hij (suffix_inj (by rw[hq]at hq';simpa using hq'.symm))⟩,.inl ?_⟩;intro e;rw[←e,hob]at hq;exact suffix_absurd (by simpa using hq)
   ·-- no place:only the shape is asked
    refine⟨?_,fun _ b2 o2 hl2=> ?_⟩
    ·by_cases hij:j=i
     ·subst hij;rw[hki]at hkj;obtain rfl:x=y:=by simpa using hkj
      obtain⟨h1,_⟩:=gZ.UL hA p r hLx hl' hs' hf2 hw (fun q hq=>by rw[hob]at hq;exact suffix_absurd (by simpa using hq)) (by rw[hob];simp) hr';rw[hup];simpa only[D.sub,hkidi]using h1
     ·exact⟨m,by rw[hup];simpa only[D.sub,hkid' hij]using hr',rfl,rfl,rfl⟩
    ·obtain⟨v2,y2,b3,o3,h1,h2,_⟩:=uH hd hl2;rw[hv]at h1;obtain rfl:v=v2:=by simpa using h1
     have:=ag7 h2;rw[hkj]at this;obtain rfl:y=y2:=by simpa using this
     exact absurd ⟨b3,o3,h2⟩ hnil
def R.UL {w:World}(hA:Alike m0 n0) (h:R P w ow d l [v]) (hl:loc w p d v=some (b1,o1)) (hs:D.sub p d=some m0) (hf:D.free p d=true) (hw:Wr w w' b1 o1 m0.w)
  (hr:D.sub r d=some m) (hne:r≠[]):
  (∃m',D.sub r (D.upd p d n0)=some m'/\m'.JS=m.JS/\m'.isAgg=m.isAgg/\m'.w=m.w)/\(m.JS=true->∀b2 o2,loc w r d v=some (b2,o2)->w'.cell? ⟨b2,o2,none⟩=w.cell? ⟨b2,o2,none⟩):=by
 cases p with
 |nil=>simp[loc]at hl
 |cons i p=>
  cases r with
  |nil=>exact absurd rfl hne
  |cons j r=>
   simp only[loc]at hl;cases hx:Dv.into d i v with
   |none=>rw[hx]at hl;cases hl
   |some res=>
    obtain⟨x,b',off'⟩:=res;rw[hx]at hl;obtain⟨hk,hLx,_,hfr⟩:=h.into hx;obtain⟨hf1,hf2⟩:=D.oU hk hf;have hob:=hfr hf1;have hs':D.sub p x=some m0:=by simpa only[D.sub,hk]using hs
    have hup:D.upd (i::p) d n0=d.gB i (D.upd p x n0):=by simp only[D.upd,hk]
    have hkj:∃y,d.kid j=some y:=by
     simp only[D.sub]at hr;cases hk:d.kid j with
     |none=>rw[hk]at hr;cases hr
     |some x=>exact⟨x,rfl⟩
    obtain⟨y,hkj⟩:=hkj;have hr':D.sub r y=some m:=by simpa only[D.sub,hkj]using hr
    obtain⟨_,_,hat⟩:=gZ.at p hLx hl hs';by_cases hij:j=i
    ·subst hij;rw[hk]at hkj;obtain rfl:x=y:=by simpa using hkj
     obtain⟨h1,h2⟩:=gZ.UL hA p r hLx hl hs' hf2 hw (fun q hq=>by rw[hob]at hq;exact suffix_absurd (by simpa using hq)) (by rw[hob];simp) hr'
     have hkidi:(d.gB j (D.upd p x n0)).kid j=some (D.upd p x n0):=by
      cases d with
      |sl o xs=>simp only[D.kid]at hk;simp only[D.gB,D.kid];exact bG (aD.1 hk).1
      |agg xs=>simp only[D.kid]at hk;simp only[D.gB,D.kid];exact bG (aD.1 hk).1
      |bx o z=>have:=LW hk;subst this;rfl
      |one _=>cases hk
      |any _=>cases hk
     refine⟨by rw[hup];simpa only[D.sub,hkidi]using h1,fun hh b2 o2 hl2=> ?_⟩;simp only[loc,hx]at hl2;exact h2 hh b2 o2 hl2
    ·have hkid':(d.gB i (D.upd p x n0)).kid j=some y:=by
      cases d with
      |sl o xs=>simp only[D.kid]at hkj;simp only[D.gB,D.kid];rw[bI (k_Ne_symm hij)];exact hkj
      |agg xs=>simp only[D.kid]at hkj;simp only[D.gB,D.kid];rw[bI (k_Ne_symm hij)];exact hkj
      |bx o z=>have:=LW hk;have:=LW hkj;omega
      |one _=>cases hk
      |any _=>cases hk
     refine⟨⟨m,by rw[hup];simpa only[D.sub,hkid']using hr',rfl,rfl,rfl⟩,fun hh b2 o2 hl2=> ?_⟩;simp only[loc]at hl2;cases hy:Dv.into d j v with
     |none=>rw[hy]at hl2;cases hl2
     |some res2=>
      obtain⟨y2,b3,o3⟩:=res2;rw[hy]at hl2;obtain⟨hk2,hLy,hoy,_⟩:=h.into hy;rw[hkj]at hk2;obtain rfl:y=y2:=by simpa using hk2
      obtain⟨hLm,hpl,_⟩:=gZ.at r hLy hl2 hr';have hmw:m.w=1:=by cases m<;>first|rfl|cases hh
      refine hw.cell ?_
      have hsl:∃o xs,d= .sl o xs:=by
       cases d with
       |agg xs=>simp[Dv.into]at hx
       |one _=>cases hk
       |any _=>cases hk
       |sl o xs=>exact⟨o,xs,rfl⟩
       |bx o z=>have:=LW hk;have:=LW hkj;omega
      obtain⟨o,xs,rfl⟩:=hsl;simp only[D.kid]at hk hkj;simp only[R]at h;obtain⟨a,cap,hva,_,_,h4⟩:=h;obtain rfl:v= .slice a xs.length cap:=by simpa using hva
      rcases h4 with⟨_,h4,_⟩|⟨_,h4⟩|⟨b4,off4,s,C,e,fz,rfl,hh2,_,_,hr0⟩
      ·rw[h4]at hk;simp at hk
      ·rw[h4]at hk;simp at hk
      ·have hall:=(Rs.iff hh2).1 hr0;obtain⟨gx,_⟩:=hall i x hk;obtain⟨gy,_⟩:=hall j y hkj;simp only[Dv.into,hk,hkj,dA,aJ,bZ]at hx hy;obtain⟨_,rfl,rfl⟩:=hx;obtain⟨_,rfl,rfl⟩:=hy;rcases hat hf2 with⟨rfl,h5,h6⟩|⟨q,hq⟩
       ·rcases hpl with⟨_,h7,h8⟩|h7|⟨q,h7⟩
        ·right;try simp only[D.w]at h6
         rw[gx]at h5 h6;rw[gy]at h7 h8;rcases sH hij with h9|h9
         ·left;have:j*s+s<=i*s:=by rw[←Nat.succ_mul];exact aX _ h9
          omega
         ·right;have:i*s+s<=j*s:=by rw[←Nat.succ_mul];exact aX _ h9
          omega
        ·left;rintro rfl;rw[hob]at h7;cases h7
        ·left;rintro rfl;rw[hob]at h7;exact suffix_absurd (by simpa using h7)
       ·rcases hpl with⟨rfl,h7,h8⟩|h7|⟨q2,h7⟩
        ·left;intro e;rw[←e,hob]at hq;exact suffix_absurd (by simpa using hq)
        ·left;rintro rfl;rw[h7]at hq;cases hq
        ·left;rintro rfl;rw[h7]at hq;exact hij (suffix_inj (by simpa using hq))
def Fits.store {n:Nat}{w0 w:World}{ow0:Own}{s:St}{a:Act}{r:Nat}{n':D}(h:Fits P n w0 ow0 ow s a w) (hs:s r= .own d) (hl:loc w p d (aval a r)=some (b1,o1)) (hm:D.sub p d=some m)
  (hf:D.free p d=true) (hn:V P w ow n' (p.reverse++[r]) v) (hw:n'.w=m.w) (hpos:0<m.w):
  ∃w',(storeCells ⟨b1,o1,none⟩ v.cells.toList).run P w= .ok () w'/\Fits P n w0 ow0 ow ((s.kill r).put r (.own (D.upd p d n'))) a w'/\
   (Alike m n'->Fits P n w0 ow0 ow ((s.OB r).put r (.own (D.upd p d n'))) a w')/\Fits P n w0 ow0 ow ((s.SB r).put r (.own (D.upd p d n'))) a w':=by
 have hV:=h.slot r;rw[hs]at hV
 have hR:R P w ow d [r] [aval a r]:=by
  cases p with
  |nil=>simp[loc]at hl
  |cons k p=>exact V.one hV hl
 obtain⟨⟨q,hq,hql⟩,C,e,fz,hC,hfz⟩:=hR.at0 hl hm hf;obtain⟨hL,_,_⟩:=hR.at hl hm;have hcs:=hn.cells;have hlen:=hcs.len
 have hfit:o1+v.cells.toList.length<=C.size\/m.w=0:=by
  obtain⟨C',e',fz',cs,g1,g2,g3⟩:=hL;rw[hC]at g1;obtain⟨rfl,_⟩:C=C'/\_:=by simpa using g1
  rcases avH hC g2 g3.len with h0|h0
  ·exact .inr h0
  ·left;rw[hlen,hw];exact h0
 ·have hfit':o1+v.cells.toList.length<=C.size:=hfit.resolve_right (by omega);obtain⟨hwr,hnew,hcells⟩:=Wr.setRow (w:=w) hC hfit';have hrun:=yR P b1 o1 e fz v.cells.toList 0 C w hC hfz (by simpa using hfit') (R.QW hcs);simp only[kP]at hrun;generalize hw':w.setRow b1 (C.toList.take o1++v.cells.toList++C.toList.drop (o1+v.cells.toList.length)).toArray=w' at hrun hwr hnew;have hos:w'.os=w.os/\w'.tape=w.tape/\w'.output=w.output/\w'.heap.size=w.heap.size:=by rw[←hw'];exact arJ
  have hb1:ow b1≠none:=by rw[hq];simp
  have hquiet:Quiet w ow w' ow:=fun b _ hb=>⟨hwr.other b (fun e=>hb1 (e▸hb)),hb⟩
  have hother:∀j,j≠r->∀b,b<w.heap.size->∀q',ow b=some (q'++[j])->w'.heap[b]?=w.heap[b]?/\ow b=some (q'++[j]):=by
   intro j hj b _ q' hq';refine⟨hwr.other b ?_,hq'⟩;rintro rfl;rw[hq]at hq';have:=congrArg List.getLast? (k_Option_some_inj hq');simp at this;exact hj this.symm
  have hkeep:Keeps w ow (p.reverse++[r]) w' ow (p.reverse++[r]):=by
   intro b hb;refine⟨fun h0=>hquiet b hb h0,fun q' hq'=>⟨hwr.other b ?_,hq'⟩⟩;rintro rfl;rw[hq]at hq';have:=congrArg List.length (k_Option_some_inj hq');simp at this;omega
  have hn':gZ P w' ow n' (p.reverse++[r]) b1 o1:=by
   refine⟨_,e,fz,v.cells.toList,hnew,fun j hj=>hcells j (by rw[hlen];exact hj),hcs.tr hkeep⟩
  have hwr':Wr w w' b1 o1 m.w:=by rw[←hw,←hlen];exact hwr
  have hup:=hR.upd hl hm hf hwr' hw hn'
  have hroot:∀(d':D),D.upd p d n'=d'->V P w' ow d' [r] (aval a r):=by
   rintro d' rfl;cases p with
   |nil=>simp[loc]at hl
   |cons k p=>
    have hda:∀xs,d≠ .agg xs:=by rintro xs rfl;simp[loc,Dv.into]at hl
    have:=E8 (i:=k) (p:=p) (n:=n') hda;cases hd:D.upd (k::p) d n' with
    |agg ys=>exact absurd hd (this ys)
    |one _=>rw[hd]at hup;exact hup
    |sl _ _=>rw[hd]at hup;exact hup
    |bx _ _=>rw[hd]at hup;exact hup
    |any _=>rw[hd]at hup;exact hup
  refine⟨w',hrun,?_,?_,?_⟩
  ·refine h.change h.nodef h.size hos.1 hos.2.1 hos.2.2.1 (by rw[hos.2.2.2];exact k_Nat_le_refl _) hquiet (fun b hb=>h.new b (by rw[hos.2.2.2]at hb;exact hb)) (fun j=>j=r) hother ?_ ?_ (fun e=>by have h9:=h.far;rw[show far0=r from e,hs]at h9;cases h9)
   ·intro i hi;refine⟨rfl,?_⟩;have hp:((s.kill r).put r (.own (D.upd p d n'))) i=(s.kill r) i:=by simp[St.put,show i≠r from hi]
    rw[hp];rcases vH s r i with h1|⟨h1,_,h2⟩
    ·exact .inl h1
    ·right;refine⟨h1,fun j hj=> ?_⟩;have hjr:j≠r:=by rintro rfl;exact h2 hj
     exact⟨hjr,by simp[St.put,hjr,uF ((h.slot i).root hj) hjr]⟩
   ·rintro i rfl;simp only[St.put,if_true,SV];exact hroot _ rfl
  ·intro hA;have hwr1:Wr w w' b1 o1 m.w:=hwr';refine h.change h.nodef h.size hos.1 hos.2.1 hos.2.2.1 (by rw[hos.2.2.2];exact k_Nat_le_refl _) hquiet (fun b hb=>h.new b (by rw[hos.2.2.2]at hb;exact hb)) (fun j=>j=r\/(s j).root=some r) (fun j hj=>hother j (fun e=>hj (.inl e))) ?_ ?_ (fun e=>e.elim (fun e=>by have h9:=h.far;rw[show far0=r from e,hs]at h9;cases h9) (fun e=>by rw[h.far]at e;cases e))
   ·intro i hi;have hir:i≠r:=fun e=>hi (.inl e);have hiroot:(s i).root≠some r:=fun e=>hi (.inr e)
    have hsame:∀j,j≠r->(s j).root≠some r->((s.OB r).put r (.own (D.upd p d n'))) j=s j:=by
     intro j hj hjr;simp only[St.put,if_neg hj,St.OB];cases hsj:s j with
     |ag t2 p2=>
      rw[hsj]at hjr;have:t2≠r:=fun e=>hjr (by simp[S.root,e]);simp[this]
     |_=>rfl
    refine⟨rfl,.inr ⟨hsame i hir hiroot,fun j hj=> ?_⟩⟩;have hjr:j≠r:=fun e=>hiroot (e▸hj);have ho:=(h.slot i).root hj;exact⟨fun e=>e.elim hjr (fun e=>by rw[own_root ho]at e;cases e),hsame j hjr (by rw[own_root ho];simp)⟩
   ·intro i hi;by_cases hir:i=r
    ·subst hir;simp only[St.put,if_true,SV];exact hroot _ rfl
    ·have hiroot:(s i).root=some r:=hi.resolve_left hir;have hsi:=h.slot i;simp only[St.put,if_neg hir,St.OB];have hd':((s.OB r).put r (.own (D.upd p d n'))) r= .own (D.upd p d n'):=by simp[St.put]
     cases hx:s i with
     |al r2 p2=>
      rw[hx]at hsi hiroot;obtain rfl:r2=r:=by simpa[S.root]using hiroot
      obtain⟨d2,m2,g1,g2,⟨g3,g4,g5⟩,g6⟩:=hsi;rw[hs]at g1;obtain rfl:d=d2:=by simpa using g1
      by_cases hp2:p2=[]
      ·subst hp2;refine⟨_,D.upd p d n',hd',rfl,⟨?_,?_,.inl rfl⟩,.inl ⟨rfl,?_⟩⟩
       ·rw[D.GH p d n' m hm hw];simp only[D.sub,aJ]at g2;rw[g2];exact g3
       ·cases p with
        |nil=>simp[loc]at hl
        |cons k p=>
         have hda:∀xs,d≠ .agg xs:=by rintro xs rfl;simp[loc,Dv.into]at hl
         have:=E8 (i:=k) (p:=p) (n:=n') hda;cases hd:D.upd (k::p) d n' with
         |agg ys=>exact absurd hd (this ys)
         |_=>rfl
       ·rcases g6 with⟨_,g6⟩|⟨b,off,g6,_⟩
        ·exact g6
        ·simp[loc]at g6
      ·obtain⟨⟨m3,k1,k2,k3,k4⟩,k5⟩:=hR.UL hA hl hm hf hwr1 g2 hp2;have hhd:m2.JS=true:=g5.resolve_left hp2;rcases g6 with⟨g6,_⟩|⟨b,off,g6,g7⟩
       ·exact absurd g6 hp2
       ·refine⟨_,m3,hd',k1,⟨by rw[k4];exact g3,by rw[k3];exact g4,.inr (by rw[k2];exact hhd)⟩,.inr ⟨b,off,?_,?_⟩⟩
        ·rw[hR.UM hA hl hm hf hwr1];exact g6
        ·rw[k5 hhd b off g6];exact g7
     |rf r2 p2=>
      rw[hx]at hsi hiroot;obtain rfl:r2=r:=by simpa[S.root]using hiroot
      obtain⟨d2,m2,b,off,g1,g2,g3,g4⟩:=hsi;rw[hs]at g1;obtain rfl:d=d2:=by simpa using g1
      have hp2:p2≠[]:=by rintro rfl;simp[loc]at g3
      obtain⟨⟨m3,k1,_⟩,_⟩:=hR.UL hA hl hm hf hwr1 g2 hp2;exact⟨_,m3,b,off,hd',k1,by rw[hR.UM hA hl hm hf hwr1];exact g3,g4⟩
     |ag r2 p2=>
      rw[hx]at hiroot;obtain rfl:r2=r:=by simpa[S.root]using hiroot
      simp[SV]
     |un=>rw[hx]at hiroot;cases hiroot
     |val _=>rw[hx]at hiroot;cases hiroot
     |rp _=>rw[hx]at hiroot;cases hiroot
     |own _=>rw[hx]at hiroot;cases hiroot
     |tup _=>rw[hx]at hiroot;cases hiroot
  ·refine h.change h.nodef h.size hos.1 hos.2.1 hos.2.2.1 (by rw[hos.2.2.2];exact k_Nat_le_refl _) hquiet (fun b hb=>h.new b (by rw[hos.2.2.2]at hb;exact hb)) (fun j=>j=r\/(s j).root=some r) (fun j hj=>hother j (fun e=>hj (.inl e))) ?_ ?_ (fun e=>e.elim (fun e=>by have h9:=h.far;rw[show far0=r from e,hs]at h9;cases h9) (fun e=>by rw[h.far]at e;cases e))
   ·intro i hi;have hir:i≠r:=fun e=>hi (.inl e);have hiroot:(s i).root≠some r:=fun e=>hi (.inr e)
    have hsame:∀j,j≠r->(s j).root≠some r->((s.SB r).put r (.own (D.upd p d n'))) j=s j:=by
     intro j hj hjr;simp only[St.put,if_neg hj,St.SB];split
     ·rename_i h1;exact h1.symm
     ·exact if_neg hjr
    refine⟨rfl,.inr ⟨hsame i hir hiroot,fun j hj=> ?_⟩⟩;have hjr:j≠r:=fun e=>hiroot (e▸hj);have ho:=(h.slot i).root hj;exact⟨fun e=>e.elim hjr (fun e=>by rw[own_root ho]at e;cases e),hsame j hjr (by rw[own_root ho];simp)⟩
   ·intro i hi;by_cases hir:i=r
    ·subst hir;simp only[St.put,if_true,SV];exact hroot _ rfl
    ·have hiroot:(s i).root=some r:=hi.resolve_left hir;have hsi:=h.slot i;simp only[St.put,if_neg hir,St.SB];have hd':((s.SB r).put r (.own (D.upd p d n'))) r= .own (D.upd p d n'):=by simp[St.put]
     split
     ·rename_i t hx;rw[hx]at hsi hiroot;obtain rfl:t=r:=by simpa[S.root]using hiroot
      obtain⟨d2,m2,g1,g2,⟨g3,g4,g5⟩,g6⟩:=hsi;rw[hs]at g1;obtain rfl:d=d2:=by simpa using g1
      refine⟨_,D.upd p d n',hd',rfl,⟨?_,?_,.inl rfl⟩,.inl ⟨rfl,?_⟩⟩
      ·rw[D.GH p d n' m hm hw];simp only[D.sub,aJ]at g2;rw[g2];exact g3
      ·cases p with
       |nil=>simp[loc]at hl
       |cons k p=>
        have hda:∀xs,d≠ .agg xs:=by rintro xs rfl;simp[loc,Dv.into]at hl
        have:=E8 (i:=k) (p:=p) (n:=n') hda;cases hd:D.upd (k::p) d n' with
        |agg ys=>exact absurd hd (this ys)
        |_=>rfl
      ·rcases g6 with⟨_,g6⟩|⟨b,off,g6,_⟩
       ·exact g6
       ·simp[loc]at g6
     ·rw[S.drop,if_pos hiroot];trivial
end Go.Dv
end
section
namespace Go
def eG:= @List.set_cons_zero
def rD:= @List.set_eq_of_length_le
end Go
end
section
namespace Go.Dv
open Go.RowKit
variable [lL]
def relabS (l1 l2:List Nat)(ow:Own):Own:=fun b=>match ow b with
 |some l=>if l.drop (l.length-l1.length)=l1 then some (l.take (l.length-l1.length)++l2)else some l
 |none=>none
variable {l1 l2:List Nat}{ow:Own}{b:Nat}
def qE (h:ow b=none):relabS l1 l2 ow b=none:=by simp[relabS,h]
def auJ {q:List Nat}(h:ow b=some (q++l1)):relabS l1 l2 ow b=some (q++l2):=by
 simp[relabS,h]
variable {l:List Nat}
def F8 (h:ow b=some l)(hm:∀q,l≠q++l1):relabS l1 l2 ow b=some l:=by
 simp only[relabS,h];rw[if_neg];intro he;refine hm (l.take (l.length-l1.length)) ?_;have:=dL (l.length-l1.length) l;rw[he]at this;exact this.symm
def Keeps.relabS {w:World}:Keeps w ow l1 w (relabS l1 l2 ow) l2:=fun b _=>⟨fun ho=>⟨rfl,qE ho⟩,fun q hq=>⟨rfl,auJ hq⟩⟩
def Keeps.ah1 {w:World}(h:∀q q',q++l≠q'++l1):Keeps w ow l w (Dv.relabS l1 l2 ow) l:=fun b _=>⟨fun ho=>⟨rfl,qE ho⟩,fun q hq=>⟨rfl,F8 hq fun q'=>h q q'⟩⟩
variable {i:Nat}
def arU {q q':List Nat}{j:Nat}(h:q++[i]=q'++(l++[j])):i=j:=by
 have:=congrArg List.getLast? h;simpa[←List.append_assoc]using this
variable {P:Program}{ow':Own}
def R.ag0 {w:World}:∀(p:List Nat) {d n:D}{l:List Nat}{cs:List Value},D.sub p d=some n->
  (∀b,b<w.heap.size->(∀q,ow b≠some (q++(p.reverse++l)))->ow' b=ow b)->R P w ow d l cs->R P w ow' (D.upd p d (.any n.w)) l cs
 |[],d,n,l,cs,hs,hk,h=>by
  simp only[D.sub,aJ]at hs;subst hs;simp only[D.upd,R];exact⟨h.len,h.QW⟩
 |i::p,d,n,l,cs,hs,hk,h=>by
  simp only[D.sub]at hs;cases hki:d.kid i with
  |none=>rw[hki]at hs;cases hs
  |some x=>
   rw[hki]at hs;have hxw:=D.GH p x (.any n.w) n hs rfl
   have hkeepj:∀j,j≠i->Keeps w ow (j::l) w ow' (j::l):=by
    intro j hj b hb;refine⟨fun h0=>⟨rfl,by rw[hk b hb (fun q hq=>by rw[h0]at hq;cases hq)];exact h0⟩,fun q hq=>⟨rfl,?_⟩⟩;rw[hk b hb (fun q' hq'=> ?_)]
    ·exact hq
    ·rw[hq]at hq';have:q++j::l=(q'++p.reverse)++i::l:=by simpa using hq'
     exact hj (suffix_inj this)
   have hnone:∀b,b<w.heap.size->ow b=none->ow' b=none:=fun b hb h0=>by rw[hk b hb (fun q hq=>by rw[h0]at hq;cases hq)];exact h0
   have hself:∀b,b<w.heap.size->ow b=some l->ow' b=some l:=fun b hb h0=>by
    rw[hk b hb (fun q hq=> ?_)]
    ·exact h0
    ·rw[h0]at hq;have:=congrArg List.length (k_Option_some_inj hq);simp at this;omega
   have ih:∀cs,R P w ow x (i::l) cs->R P w ow' (D.upd p x (.any n.w)) (i::l) cs:=fun cs hx=>R.ag0 p hs (fun b hb hq=>hk b hb (fun q hq'=>hq q (by simpa using hq'))) hx;simp only[D.upd,hki];cases d with
   |one _=>cases hki
   |any _=>cases hki
   |bx o y=>
    have hi0:=LW hki;subst hi0;simp only[D.kid,if_true,aJ]at hki;subst hki;simp only[R,D.gB]at h|-
    obtain⟨b,off,C,e,fz,cs',h1,hh,hn,hs',hl,hc,hr⟩:=h;exact⟨b,off,C,e,fz,cs',h1,hh,fun ho=>hnone b (lt_of_heap hh) (hn ho),fun ho=>⟨hself b (lt_of_heap hh) (hs' ho).1,by rw[hxw];exact(hs' ho).2⟩,by rw[hxw];exact hl,hc,ih _ hr⟩
   |sl o xs=>
    simp only[D.kid]at hki;simp only[R,D.gB]at h|-
    obtain⟨a,cap,h1,h2,h3,h4⟩:=h;refine⟨a,cap,by simpa using h1,by simpa using h2,h3,?_⟩;rcases h4 with⟨_,h4,_⟩|⟨_,h4⟩|⟨b,off,s,C,e,fz,ha,hh,hn,hs',hr⟩
    ·rw[h4]at hki;simp at hki
    ·rw[h4]at hki;simp at hki
    ·refine .inr (.inr ⟨b,off,s,C,e,fz,ha,hh,fun ho=>hnone b (lt_of_heap hh) (hn ho),fun t ht=>⟨hself b (lt_of_heap hh) (hs' t ht).1,(hs' t ht).2⟩,?_⟩);refine(Rs.iff hh).2 fun j y hj=> ?_;have hall:=(Rs.iff hh).1 hr;by_cases hij:j=i
     ·subst hij;obtain⟨g1,C2,e2,fz2,cs2,g2,g3,g4⟩:=hall j x hki;rw[bG (aD.1 hki).1]at hj;obtain rfl:D.upd p x (.any n.w)=y:=by simpa using hj
      refine⟨by rw[hxw];exact g1,C2,e2,fz2,cs2,g2,by rw[hxw];exact g3,?_⟩;rw[bT]at g4|-
      exact ih _ g4
     ·rw[bI (k_Ne_symm hij)]at hj;obtain⟨g1,C2,e2,fz2,cs2,g2,g3,g4⟩:=hall j y hj;rw[bT]at g4;refine⟨g1,C2,e2,fz2,cs2,g2,g3,?_⟩;rw[bT];exact g4.tr (hkeepj j hij)
   |agg xs=>
    simp only[D.kid]at hki;simp only[R,D.gB]at h|-
    have key:∀(xs:List D) (k i':Nat) (cs:List Value),xs[i']?=some x->k+i'=i->Ra P w ow xs l k cs->Ra P w ow' (xs.set i' (D.upd p x (.any n.w))) l k cs:=by
     intro xs
     induction xs with
     |nil=>intro k i' cs h;simp at h
     |cons z xs ihx=>
      intro k i' cs hi' hki' hra;simp only[Ra]at hra;obtain⟨c1,c2,hcs,g1,g2,g3⟩:=hra;cases i' with
      |zero=>
       simp at hi';subst hi';obtain rfl:k=i:=by omega
       simp only[eG,Ra];refine⟨c1,c2,hcs,by rw[hxw];exact g1,ih _ g2,?_⟩
       have rest:∀(xs:List D) (k2:Nat) (cs:List Value),k<k2->Ra P w ow xs l k2 cs->Ra P w ow' xs l k2 cs:=by
        intro xs
        induction xs with
        |nil=>intro k2 cs _ h;simpa only[Ra]using h
        |cons z xs ih2=>
         intro k2 cs hlt h;simp only[Ra]at h|-
         obtain⟨c1,c2,q1,q2,q3,q4⟩:=h;exact⟨c1,c2,q1,q2,q3.tr (hkeepj k2 (by omega)),ih2 (k2+1) c2 (by omega) q4⟩
       exact rest xs (k+1) c2 (by omega) g3
      |succ i'=>
       simp only[List.set_cons_succ,Ra];exact⟨c1,c2,hcs,g1,g2.tr (hkeepj k (by omega)),ihx (k+1) i' c2 (by simpa using hi') (by omega) g3⟩
    exact key xs 0 i cs hki (by omega) h
variable {p:List Nat}{d m:D}{v:Value}
def V.gone {w:World}(h:V P w ow d l v)(hm:D.sub p d=some m)(hp:p≠[])(hk:∀b,b<w.heap.size->(∀q,ow b≠some (q++(p.reverse++l)))->ow' b=ow b):
  V P w ow' (D.upd p d (.any m.w)) l v:=by
 cases p with
 |nil=>exact absurd rfl hp
 |cons k p=>
  by_cases hda:∃xs,d= .agg xs
  ·obtain⟨xs,rfl⟩:=hda;obtain⟨cs,h1,h2⟩:=h;have:=R.ag0 (k::p) hm hk h2;cases hx:xs[k]? with
   |none=>simp[D.sub,D.kid,hx]at hm
   |some x=>
    have hup:D.upd (k::p) (.agg xs) (.any m.w)= .agg (xs.set k (D.upd p x (.any m.w))):=by simp only[D.upd,D.kid,hx,D.gB]
    rw[hup]at this|-
    exact⟨cs,h1,this⟩
  ·have hda':∀xs,d≠ .agg xs:=fun xs e=>hda ⟨xs,e⟩
   have hR:R P w ow d l [v]:=by
    cases d with
    |agg xs=>exact absurd rfl (hda' xs)
    |one _=>exact h
    |sl _ _=>exact h
    |bx _ _=>exact h
    |any _=>exact h
   have:=R.ag0 (k::p) hm hk hR;have hna:=E8 (i:=k) (p:=p) (n:= .any m.w) hda';cases hd:D.upd (k::p) d (.any m.w)with
   |agg ys=>exact absurd hd (hna ys)
   |one _=>rw[hd]at this;exact this
   |sl _ _=>rw[hd]at this;exact this
   |bx _ _=>rw[hd]at this;exact this
   |any _=>rw[hd]at this;exact this
def S.ac3:S->Option Nat
 | .al t (_::_)=>some t
 | .al _ []=>none
 | .rf t _=>some t
 | .ag t _=>some t
 | .un=>none
 | .val _=>none
 | .rp _=>none
 | .own _=>none
 | .tup _=>none
def St.F3 (s:St)(t:Nat):St:=fun j=>if j=t then .un else if(s j).ac3=some t then .un else s j
def aCO (s:St)(t i:Nat)(hi:i≠t):(s.F3 t) i= .un\/((s.F3 t) i=s i/\((s i).root≠some t\/s i= .al t [])):=by
 simp only[St.F3,if_neg hi];by_cases h:(s i).ac3=some t
 ·simp[h]
 ·right;rw[if_neg h];refine⟨rfl,?_⟩;cases hs:s i
  case al r p=>
   rw[hs]at h;cases p with
   |nil=>
    by_cases hr:r=t
    ·subst hr;exact .inr rfl
    ·exact .inl (by simpa[S.root]using hr)
   |cons a p=>exact .inl (by simpa[S.ac3,S.root]using h)
  all_goals(rw[hs]at h;refine .inl ?_;revert h;simp[S.ac3,S.root])
variable {s:St}{t:Nat}
def killP_own (h:(s i).fJ=true)(hi:i≠t):(s.F3 t) i=s i:=by
 cases hs:s i<;>rw[hs]at h<;>simp[S.fJ]at h;simp[St.F3,hi,hs,S.ac3]
def S.GL (t:Nat)(p:List Nat):S->Bool
 | .al r (_::_)=>r==t
 | .al _ []=>false
 | .rf r q=>r==t&& !(q==p)
 | .ag r _=>r==t
 | .un=>false
 | .val _=>false
 | .rp _=>false
 | .own _=>false
 | .tup _=>false
def St.K9 (s:St)(t:Nat)(p:List Nat):St:=fun j=>if j=t then .un else if(s j).GL t p=true then .un else s j
def ayF (h:(s i).fJ=true)(hi:i≠t):(s.K9 t p) i=s i:=by
 cases hs:s i<;>rw[hs]at h<;>simp[S.fJ]at h;simp[St.K9,hi,hs,S.GL]
def akH {w:World}{n:D}:∀(p:List Nat) {d m:D}{b off:Nat},D.sub p d=some m->n.w=m.w->eX w p (D.upd p d n) b off=eX w p d b off
 |[],_,_,_,_,_,_=>rfl
 |i::p,d,m,b,off,hs,hw=>by
  simp only[D.sub]at hs;cases hk:d.kid i with
  |none=>rw[hk]at hs;cases hs
  |some x=>
   rw[hk]at hs;simp only at hs;have hup:=D.GH p x n m hs hw;have ih:=fun b off=>akH (w:=w) (n:=n) p (b:=b) (off:=off) hs hw;have hin:=fun v=>R9 (i:=i) (j:=i) (v:=v) hk hup;simp only[D.upd,hk];cases d with
   |agg xs=>
    have hx:xs[i]?=some x:=hk;have hi:i<xs.length:=(aD.1 hx).1;have e:xs[i]=x:=by rw[aB hi]at hx;exact k_Option_some_inj hx
    have e2:(xs.set i (D.upd p x n)).take i=xs.take i:=by rw[List.take_set,rD (by rw[dD];omega)]
    simp[D.gB,eX,hi,ih,e,e2]
   |one _=>cases hk
   |any _=>cases hk
   |sl o xs=>
    have hx:xs[i]?=some x:=hk;simp only[D.gB]at hin|-
    simp only[eX];cases w.cell? ⟨b,off,none⟩with
    |none=>rfl
    |some v=>
     simp only[hin v];cases hv:into (.sl o xs) i v with
     |none=>rfl
     |some r=>
      obtain⟨x',b',o'⟩:=r
      have:x'=x:=by
       unfold into at hv;split at hv<;>simp_all
      subst this;simp[ih]
   |bx o y=>
    simp only[D.gB]at hin|-
    simp only[eX];cases w.cell? ⟨b,off,none⟩with
    |none=>rfl
    |some v=>
     simp only[hin v];cases hv:into (.bx o y) i v with
     |none=>rfl
     |some r=>
      obtain⟨x',b',o'⟩:=r
      have:x'=x:=by
       unfold into at hv;simp only[D.kid]at hk;split at hv<;>simp_all
      subst this;simp[ih]
def aHB {w:World}{n:D}(hs:D.sub p d=some m)(hw:n.w=m.w):loc w p (D.upd p d n) v=loc w p d v:=by
 cases p with
 |nil=>rfl
 |cons i p=>
  simp only[D.sub]at hs;cases hk:d.kid i with
  |none=>rw[hk]at hs;cases hs
  |some x=>
   rw[hk]at hs;simp only at hs;have hup:=D.GH p x n m hs hw;have hin:=R9 (i:=i) (j:=i) (v:=v) hk hup;simp only[D.upd,hk,loc];rw[hin];cases hv:into d i v with
   |none=>rfl
   |some r=>
    obtain⟨x',b',o'⟩:=r
    have:x'=x:=by
     unfold into at hv;split at hv
     ·simp only[D.kid]at hk;simp_all
     ·simp only[D.kid]at hk;simp_all
     ·cases hv
    subst this;simp[akH p hs hw]
def awM {n:D}:∀(p:List Nat) {d m:D},D.sub p d=some m->D.sub p (D.upd p d n)=some n
 |[],_,_,_=>rfl
 |i::p,d,m,hs=>by
  simp only[D.sub]at hs;cases hk:d.kid i with
  |none=>rw[hk]at hs;cases hs
  |some x=>
   rw[hk]at hs;simp only at hs;have ih:=awM (n:=n) p hs
   have hkk:(d.gB i (D.upd p x n)).kid i=some (D.upd p x n):=by
    cases d with
    |agg xs=>have hx:xs[i]?=some x:=hk;have hi:i<xs.length:=(aD.1 hx).1;simp[D.gB,D.kid,hi]
    |sl o xs=>have hx:xs[i]?=some x:=hk;have hi:i<xs.length:=(aD.1 hx).1;simp[D.gB,D.kid,hi]
    |bx o y=>simp only[D.kid]at hk;simp only[D.gB,D.kid];split at hk<;>simp_all
    |one _=>cases hk
    |any _=>cases hk
   simp only[D.upd,hk,D.sub,hkk];exact ih
variable {n:Nat}{w0:World}{ow0:Own}{a:Act}
def Fits.more {w:World}{s2:St}(h:Fits P n w0 ow0 ow s a w)(hs:∀i,s2 i=s i\/((s i).fJ=false/\i≠far0/\SV P w ow s a i (s2 i) (aval a i))):Fits P n w0 ow0 ow s2 a w:=by
 have keep:∀i y v,SV P w ow s a i y v->SV P w ow s2 a i y v:=by
  intro i y v hy;refine hy.alZ fun j hj=>⟨?_,rfl⟩;rcases hs j with h1|⟨h1,_⟩
  ·exact h1
  ·have:=hy.root hj;rw[h1]at this;cases this
 refine⟨h.nodef,h.size,h.small,h.laid,h.bel,h.own,h.new,?_,h.keep,fun i=> ?_⟩
 ·rcases hs far0 with h1|⟨_,h1,_⟩
  ·rw[h1,h.far]
  ·exact absurd rfl h1
 ·rcases hs i with h1|⟨_,_,h1⟩
  ·rw[h1];exact keep _ _ _ (h.slot i)
  ·exact keep _ _ _ h1
def azX (i:Nat)(p:List Nat)(d n:D):(D.upd (i::p) d n).isAgg=d.isAgg:=by
 cases d<;>simp only[D.upd,D.kid,D.gB]<;>split<;>rfl
variable {r:Nat}
def Fits.aJE {w:World}(h:Fits P n w0 ow0 ow s a w) (hs:s r= .own d) (hm:D.sub p d=some m) (hp:p≠[])
  (L:List Nat) (hV:V P w ow m (p.reverse++[r]) v):
  Fits P n w0 ow0 (relabS (p.reverse++[r]) L ow) ((s.kill r).put r (.own (D.upd p d (.any m.w)))) a w/\V P w (relabS (p.reverse++[r]) L ow) m L v:=by
 have hVr:=h.slot r;rw[hs]at hVr;refine⟨?_,V.tr Keeps.relabS hV⟩;refine h.change h.nodef h.size rfl rfl rfl (k_Nat_le_refl _) (fun b _ ho=>⟨rfl,qE ho⟩) (fun b hb=>qE (h.new b hb)) (fun j=>j=r) ?_ ?_ ?_ (fun e=>by have h9:=h.far;rw[show far0=r from e,hs]at h9;cases h9)
 ·intro j hj b _ q hq;exact⟨rfl,F8 hq fun q' hq'=>hj (arU hq')⟩
 ·intro i hi;refine⟨rfl,?_⟩;have hp:((s.kill r).put r (.own (D.upd p d (.any m.w)))) i=(s.kill r) i:=by simp[St.put,show i≠r from hi]
  rw[hp];rcases vH s r i with h1|⟨h1,_,h2⟩
  ·exact .inl h1
  ·right;refine⟨h1,fun j hj=> ?_⟩;have hjr:j≠r:=by rintro rfl;exact h2 hj
   exact⟨hjr,by simp[St.put,hjr,uF ((h.slot i).root hj) hjr]⟩
 ·rintro i rfl;simp only[St.put,if_true,SV];refine V.gone hVr hm hp fun b _ hq=> ?_;cases hb:ow b with
  |none=>exact qE hb
  |some lab=>exact F8 hb fun q hq'=>hq q (by rw[hb,hq'])
def Fits.take {w:World}(h:Fits P n w0 ow0 ow s a w) (hs:s r= .own d) (hm:D.sub p d=some m) (hp:p≠[])
  (L:List Nat) (hV:V P w ow m (p.reverse++[r]) v):
  Fits P n w0 ow0 (relabS (p.reverse++[r]) L ow) ((s.K9 r p).put r (.own (D.upd p d (.any m.w)))) a w/\V P w (relabS (p.reverse++[r]) L ow) m L v:=by
 obtain⟨h1,h2⟩:=h.aJE hs hm hp L hV;refine⟨h1.more fun i=> ?_,h2⟩;by_cases hi:i=r
 ·subst hi;left;simp[St.put]
 ·have e1:((s.K9 r p).put r (.own (D.upd p d (.any m.w)))) i=(s.K9 r p) i:=by simp[St.put,hi]
  have e2:((s.kill r).put r (.own (D.upd p d (.any m.w)))) i=(s.kill r) i:=by simp[St.put,hi]
  rw[e1,e2];have hf9:i=far0->(s i).root=none:=fun e=>by have:=h.far;rw[←e]at this;rw[this];rfl
  by_cases ha:s i= .al r []
  ·right;have ek:(s.kill r) i= .un:=by simp[St.kill,hi,ha,S.drop,S.root]
   have ep:(s.K9 r p) i= .al r []:=by simp[St.K9,hi,ha,S.GL]
   rw[ek,ep];refine⟨rfl,fun e=> ?_,?_⟩
   ·have:=hf9 e;rw[ha]at this;cases this
   ·have hsl:=h.slot i;rw[ha]at hsl;obtain⟨d',n',g1,g2,g3,g4⟩:=hsl;rw[hs]at g1;obtain rfl:d=d':=by injection g1
    obtain rfl:d=n':=k_Option_some_inj g2;cases p with
    |nil=>exact absurd rfl hp
    |cons k p=>
     refine⟨D.upd (k::p) d (.any m.w),D.upd (k::p) d (.any m.w),by simp[St.put],rfl,⟨by rw[D.GH (k::p) d (.any m.w) m hm rfl];exact g3.1,by rw[azX];exact g3.2.1,.inl rfl⟩,?_⟩;rcases g4 with⟨_,g4⟩|⟨b,off,g4,_⟩
     ·exact .inl ⟨rfl,g4⟩
     ·simp[loc]at g4
  by_cases hb:s i= .rf r p
  ·right;have ek:(s.kill r) i= .un:=by simp[St.kill,hi,hb,S.drop,S.root]
   have ep:(s.K9 r p) i= .rf r p:=by simp[St.K9,hi,hb,S.GL]
   rw[ek,ep];refine⟨rfl,fun e=> ?_,?_⟩
   ·have:=hf9 e;rw[hb]at this;cases this
   ·have hsl:=h.slot i;rw[hb]at hsl;obtain⟨d',n',b,off,g1,g2,g3,g4⟩:=hsl;rw[hs]at g1;obtain rfl:d=d':=by injection g1
    exact⟨D.upd p d (.any m.w),.any m.w,b,off,by simp[St.put],awM p hm,by rw[aHB (n:= .any m.w) hm rfl];exact g3,g4⟩
  ·left;by_cases hr:(s i).root=some r
   ·have hrp:(s i).GL r p=true:=by
     cases hsi:s i<;>rw[hsi]at hr ha hb<;>simp[S.root]at hr
     case al t q=>
      subst hr;cases q with
      |nil=>exact absurd rfl ha
      |cons k q=>simp[S.GL]
     case rf t q=>
      subst hr;have:q≠p:=fun e=>hb (by rw[e]);simp[S.GL,this]
     all_goals(subst hr;simp[S.GL])
    simp[St.K9,St.kill,hi,S.drop,hr,hrp]
   ·have hrp:(s i).GL r p=false:=by
     cases hsi:s i<;>rw[hsi]at hr<;>simp[S.root]at hr<;>simp[S.GL]
     case al t q=>cases q<;>simp[hr]
     all_goals simp[hr]
    simp[St.K9,St.kill,hi,S.drop,hr,hrp]
def Fits.awO {w:World}(h:Fits P n w0 ow0 ow s a w)(hs:s r= .own d)(L:List Nat):
  Fits P n w0 ow0 (relabS [r] L ow) (s.kill r) a w/\V P w (relabS [r] L ow) d L (aval a r):=by
 have hVr:=h.slot r;rw[hs]at hVr;refine⟨?_,V.tr Keeps.relabS hVr⟩;refine h.change h.nodef h.size rfl rfl rfl (k_Nat_le_refl _) (fun b _ ho=>⟨rfl,qE ho⟩) (fun b hb=>qE (h.new b hb)) (fun j=>j=r) ?_ ?_ ?_ (fun e=>by have h9:=h.far;rw[show far0=r from e,hs]at h9;cases h9)
 ·intro j hj b _ q hq;refine⟨rfl,F8 hq fun q' hq'=> ?_⟩;have:=congrArg List.getLast? hq';simp at this;exact hj this
 ·intro i hi;refine⟨rfl,?_⟩;rcases vH s r i with h1|⟨h1,_,h2⟩
  ·exact .inl h1
  ·right;refine⟨h1,fun j hj=> ?_⟩;have hjr:j≠r:=by rintro rfl;exact h2 hj
   exact⟨hjr,uF ((h.slot i).root hj) hjr⟩
 ·rintro i rfl;simp[St.kill,SV]
def V.fzV {w:World}(h:V P w ow d.fz l v):V P w ow d.fz l2 v:=V.trf (fun b _ hb=>⟨rfl,hb⟩) h
inductive Src where
 |fr (d:D)
 |all (r:Nat) (d:D)
 |nd (r:Nat) (p:List Nat) (d m:D)
 |no
def srcOf (s:St)(i:Nat)(x:S):Src:=
 match x with
 | .val d=> .fr d
 | .own d=> .all i d
 | .al r []=>match s r with
  | .own d=> .all r d
  |_=> .no
 | .al r p=>match s r with
  | .own d=>match D.sub p d with
   |some m=>if D.free p d then .nd r p d m else .no
   |none=> .no
  |_=> .no
 | .ag r (k::p)=>match s r with
  | .own d=>match D.sub (k::p) d with
   |some m=>if D.free (k::p) d then .nd r (k::p) d m else .no
   |none=> .no
  |_=> .no
 |_=> .no
def Src.data:Src->D
 | .fr d=>d.fz
 | .all _ d=>d
 | .nd _ _ _ m=>m
 | .no=> .any 0
def Src.st (s:St):Src->St
 | .all r _=>s.kill r
 | .nd r p d m=>(s.K9 r p).put r (.own (D.upd p d (.any m.w)))
 |_=>s
def Src.from:Src->Option Nat
 | .all r _=>some r
 | .nd r _ _ _=>some r
 |_=>none
def aLD {w:World}(h:Fits P n w0 ow0 ow s a w) (hs:s r= .own d) (hm:D.sub p d=some m) (hw:m.w=1/\m.isAgg=false/\(p=[]\/m.JS=true))
  (h4:(p=[]/\v=aval a r)\/∃b off,loc w p d (aval a r)=some (b,off)/\w.cell? ⟨b,off,none⟩=some v):V P w ow m (p.reverse++[r]) v:=by
 have hV:=h.slot r;rw[hs]at hV;rcases h4 with⟨rfl,rfl⟩|⟨b,off,hl,hc⟩
 ·simp only[D.sub,aJ]at hm;subst hm;exact hV
 ·have hR:R P w ow d [r] [aval a r]:=by
   cases p with
   |nil=>simp[loc]at hl
   |cons k p=>exact V.one hV hl
  obtain⟨hL,_,_⟩:=hR.at hl hm;obtain⟨v',hv',hr⟩:=hL.cell hw.1;rw[hc]at hv';obtain rfl:v=v':=by simpa using hv'
  cases m with
  |agg xs=>exact absurd hw.2.1 (by simp[D.isAgg])
  |one _=>exact hr
  |sl _ _=>exact hr
  |bx _ _=>exact hr
  |any _=>exact hr
def JV {w:World}{q1:List Nat}{u:Nat}{L:List Nat}(h:r≠u):Keeps w ow (l++[u]) w (relabS (q1++[r]) L ow) (l++[u]):=by
 refine Keeps.ah1 fun q q' e=>h ?_;have:=congrArg List.getLast? e;simp[←List.append_assoc]at this;exact this.symm
def Fits.src {w:World}(h:Fits P n w0 ow0 ow s a w)(x:Operand)(L:List Nat)(z:Src)(hz:srcOf s (slotOf x) (evS s x)=z)(hno:z≠ .no):
  ∃ow',Fits P n w0 ow0 ow' (z.st s) a w/\V P w ow' z.data L (a.eval x)/\∀l u,z.from≠some u->Keeps w ow (l++[u]) w ow' (l++[u]):=by
 subst hz;have hv:=h.eval x;cases hx:evS s x with
 |un=>rw[hx]at hno;exact absurd rfl hno
 |rp d=>rw[hx]at hno;exact absurd rfl hno
 |rf r p=>rw[hx]at hno;exact absurd rfl hno
 |tup l=>rw[hx]at hno;exact absurd rfl hno
 |val d=>
  rw[hx]at hv;exact⟨ow,h,V.fzV hv,fun l u _ b _=>⟨fun h=>⟨rfl,h⟩,fun q h=>⟨rfl,h⟩⟩⟩
 |own d=>
  have hs:=pE hx (.inl rfl);have he:=vO h.size h.small hx (.inl rfl);obtain⟨h1,h2⟩:=h.awO hs L;exact⟨_,h1,by rw[he];exact h2,fun l u hu=>JV (q1:=[]) (fun e=>hu (by rw[e];rfl))⟩
 |al r p=>
  rw[hx]at hv hno;obtain⟨d,m,hs,hm,hw,h4⟩:=hv;have hV:=aLD h hs hm hw h4;cases p with
  |nil=>
   simp only[srcOf,hs];simp only[D.sub,aJ]at hm;subst hm
   have he:a.eval x=aval a r:=by
    rcases h4 with⟨_,h4⟩|⟨b,off,h4,_⟩
    ·exact h4
    ·simp[loc]at h4
   obtain⟨h1,h2⟩:=h.awO hs L;exact⟨_,h1,by rw[he];exact h2,fun l u hu=>JV (q1:=[]) (fun e=>hu (by rw[e];rfl))⟩
  |cons k p=>
   simp only[srcOf,hs,hm]at hno|-
   split at hno
   ·rename_i hf;rw[if_pos hf];obtain⟨h1,h2⟩:=h.take hs hm (by simp) L hV;exact⟨_,h1,h2,fun l u hu=>JV (fun e=>hu (by rw[e];rfl))⟩
   ·exact absurd rfl hno
 |ag r p=>
  rw[hx]at hv hno;obtain⟨d,m,hs,hm,hagg,hV⟩:=hv;cases p with
  |nil=>exact absurd rfl hno
  |cons k p=>
   simp only[srcOf,hs,hm]at hno|-
   split at hno
   ·rename_i hf;rw[if_pos hf];obtain⟨h1,h2⟩:=h.take hs hm (by simp) L hV;exact⟨_,h1,h2,fun l u hu=>JV (fun e=>hu (by rw[e];rfl))⟩
   ·exact absurd rfl hno
end Go.Dv
end
section
namespace Go
def fI:= @List.map_cons
def wF:= @List.map_take
def aA:= @List.mem_of_getElem?
end Go
end
section
namespace Go.Dv
open Go.RowKit
variable [lL]
variable {s:St}
def Src.aKX {z:Src}{r:Nat}(h:(s r).fJ=true)(hr:z.from≠some r):(z.st s) r=s r:=by
 cases z with
 |fr d=>rfl
 |no=>rfl
 |all j d=>
  have:r≠j:=fun e=>hr (by simp[Src.from,e]);exact uF h this
 |nd j p d m=>
  have:r≠j:=fun e=>hr (by simp[Src.from,e]);simp[Src.st,St.put,this,ayF h this]
def ones:List D->Bool
 |[]=>true
 | .one _::l=>ones l
 |_::_=>false
attribute [go_sem] ones
@[go_sem] def akS {α:Type}(f:α->Value):∀l:List α,ones (l.map fun x=> .one (f x))=true
 |[]=>rfl
 |x::l=>akS f l
def aaE:∀{l:List D},ones l=true->∃us:List Value,l=us.map D.one
 |[],_=>⟨[],rfl⟩
 | .one u::l,h=>by
  obtain⟨us,rfl⟩:=aaE (l:=l) h;exact⟨u::us,rfl⟩
 | .sl _ _::_,h=>by simp[ones]at h
 | .agg _::_,h=>by simp[ones]at h
 | .bx _ _::_,h=>by simp[ones]at h
 | .any _::_,h=>by simp[ones]at h
def auD {us vs:List D}(h:(ones us&&ones vs&&(us.length==vs.length))=true):Alike (.agg vs) (.agg us):=by
 simp only[k_Bool_and_eq_true,beq_iff_eq]at h;obtain⟨a,rfl⟩:=aaE h.1.1;obtain⟨b,rfl⟩:=aaE h.1.2;exact .inr ⟨b,a,rfl,rfl,by simpa using h.2.symm⟩
def aH5 {l:List D}(h:ones l=true):D.fzs l=l:=by
 obtain⟨us,rfl⟩:=aaE h
 induction us with
 |nil=>rfl
 |cons u us ih=>simp only[fI,D.fzs,D.fz];rw[ih (by simpa[ones]using h)]
def WF (e:TyE)(x:S)(z:Src)(s:St)(K:St->Prop):Prop:=
 match x with
 | .rf r p=>match s r with
  | .own d=>match D.sub p d with
   |some m=>D.free p d=true/\m.w=e.w/\0<e.w/\match z,m with
    | .fr (.one u),.one _=>K ((s.OB r).put r (.own (D.upd p d (.one u))))
    | .fr (.agg us),.agg vs=>(Src.fr (.agg us)).data.w=(D.agg vs).w/\(match ones us&&ones vs&&(us.length==vs.length)with
     |true=>K ((s.OB r).put r (.own (D.upd p d (Src.fr (.agg us)).data)))
     |false=>K ((((Src.fr (.agg us)).st s).kill r).put r (.own (D.upd p d (Src.fr (.agg us)).data))))
    | .fr (.sl none us),.sl none vs=>K ((s.SB r).put r (.own (D.upd p d (Src.fr (.sl none us)).data)))
    |z,m=>(match z with| .no=>False|_=>True)/\z.data.w=m.w/\z.from≠some r/\K (((z.st s).kill r).put r (.own (D.upd p d z.data)))
   |none=>False
  |_=>False
 |_=>False
variable {P:Program}{t:TypeId}{b off:Nat}
def arF {T:TypeId->TyE}{w w':World}{v:Value}(hg:Good P T t)(hn:∀x,(T t).ty=x->x≠ .no)(hsz:v.cells.toList.length=(T t).w)(hr:(storeCells ⟨b,off,none⟩ v.cells.toList).run P w= .ok () w'):
  (Instr.storeAt t (.pointer (some ⟨b,off,none⟩)) v).run P w= .ok () w':=by
 obtain⟨_,i,zv,hi,hs,_⟩:=hg.of hn;simp only[Instr.storeAt,Instr.sureAddr,aI,aU,aG,storeVar,F9 hi];rw[if_neg (by simp at hsz|-;omega)];simpa using hr
variable {n:Nat}{w0:World}{ow0:Own}{o:Oper}{K:St->Prop}{x y:Operand}
def aEA {T:TypeId->TyE}(hg:Good P T t) (hn:∀x,(T t).ty=x->x≠ .no) (ho:o.op= .store t x y) (hd:o.dst=none)
  (h:WF (T t) (oF s (slotOf x) (evS s x)) (srcOf s (slotOf y) (evS s y)) s K):Ok P n w0 ow0 o s K:=by
 refine aH4 fun a w ow hf=> ?_;have hx:=hf.asPtr x;have hput:a.put o.dst undef=a:=by rw[hd];rfl
 rw[hput];unfold WF at h;split at h
 ·rename_i r p hxr;rw[hxr]at hx;obtain⟨d,m,b1,o1,hs,hm,hl,hv⟩:=hx;rw[hs]at h;simp only[hm]at h;obtain⟨hfree,hmw,hpos,h⟩:=h
  have run:∀w',(storeCells ⟨b1,o1,none⟩ (a.eval y).cells.toList).run P w= .ok () w'->(a.eval y).cells.toList.length=(T t).w->(execOp a.eval o).run P w= .ok .skip w':=by
   intro w' hr hsz;unfold execOp;rw[ho];simp only[hv,aI,arF hg hn hsz hr,aG];rfl
  have gen:∀z,srcOf s (slotOf y) (evS s y)=z->((match z with| .no=>False|_=>True)/\z.data.w=m.w/\z.from≠some r/\K (((z.st s).kill r).put r (.own (D.upd p d z.data))))->
    ∃w',(execOp a.eval o).run P w= .ok .skip w'/\∃s',K s'/\Rel P n w0 ow0 s' a w':=by
   rintro z hz ⟨h1,h2,h3,h4⟩;obtain⟨ow',g1,g2,_⟩:=hf.src y (p.reverse++[r]) z hz (by rintro rfl;exact h1);have hs':(z.st s) r= .own d:=by rw[Src.aKX (by rw[hs];rfl) h3];exact hs
   obtain⟨w',k1,k2,_⟩:=g1.store hs' hl hm hfree g2 h2 (by omega);refine⟨w',run w' k1 ?_,_,h4,ow',k2⟩;rw[g2.cells.len,h2,hmw]
  split at h
  ·rename_i _ _ u u0 hz;obtain⟨ow',g1,g2,_⟩:=hf.src y (p.reverse++[r]) _ hz (by simp);obtain⟨w',k1,_,k3,_⟩:=g1.store hs hl hm hfree g2 rfl (by simp[D.w]);refine⟨w',run w' k1 ?_,_,h,ow',k3 (.inl ⟨_,_,rfl,rfl⟩)⟩;rw[g2.cells.len,←hmw];rfl
  ·rename_i us vs hz;obtain⟨hws,h⟩:=h;obtain⟨ow',g1,g2,_⟩:=hf.src y (p.reverse++[r]) _ hz (by simp);obtain⟨w',k1,k2,k3,_⟩:=g1.store hs hl hm hfree g2 hws (by omega);refine⟨w',run w' k1 (by rw[g2.cells.len,←hmw];exact hws),?_⟩;split at h
   ·rename_i hb;have hfz:D.fzs us=us:=aH5 (by simp only[k_Bool_and_eq_true]at hb;exact hb.1.1);refine⟨_,h,ow',k3 ?_⟩;show Alike (.agg vs) (.agg (D.fzs us));rw[hfz];exact auD hb
   ·exact⟨_,h,ow',k2⟩
  ·rename_i us vs hz;obtain⟨ow',g1,g2,_⟩:=hf.src y (p.reverse++[r]) _ hz (by simp);obtain⟨w',k1,_,_,k3⟩:=g1.store hs hl hm hfree g2 rfl (by simp[D.w]);refine⟨w',run w' k1 ?_,_,h,ow',k3⟩;rw[g2.cells.len,←hmw];rfl
  ·exact gen _ rfl h
 ·exact h.elim
def CK (off:Nat)(f:Nat)(u:Nat)(x:S)(s:St)(K:St->Prop):Prop:=
 match x with
 | .rp (.agg xs)=>match xs[f]? with
  |some z=>D.ws (xs.take f)=off/\K (s.set u (.rp z))
  |none=>False
 | .rf r p=>match s r with
  | .own d=>match D.sub p d with
   |some (.agg xs)=>match xs[f]? with
    |some z=>D.ws (xs.take f)=off/\u≠r/\K (s.set u (.rf r (p++[f])))
    |none=>False
   |_=>False
  |_=>False
 |_=>False
variable {fs:List (Nat×TypeId)}{f:Nat}{ft:TypeId}
def azH {T:TypeId->TyE}{w:World}{o1:Nat}(hg:Good P T t)(hty:(T t).ty= .agg fs)(hf:fs[f]?=some (off,ft)):
  (Instr.fieldAt t (.pointer (some ⟨b,o1,none⟩)) f).run P w= .ok (.pointer (some ⟨b,o1+off,none⟩)) w:=by
 obtain⟨hdesc,_⟩:=hg.of (fun x h e=>by rw[hty]at h;subst h;cases e);rw[hty]at hdesc;obtain⟨fields,hu,hmap,hall,_⟩:=hdesc
 have:∃fl,fields[f]?=some fl/\fl.offset=off/\fl.type=ft:=by
  rw[←hmap]at hf;simp only[aS,aL,bZ]at hf;obtain⟨fl,h1,h2,h3⟩:=hf;exact⟨fl,by simpa using h1,h2,h3⟩
 obtain⟨fl,hfl,rfl,rfl⟩:=this;obtain⟨_,i,hi,hpos⟩:=hall fl (by have:=aA (l:=fields.toList) (by simpa using hfl);exact this);have hne:¬i.size=0:=by omega
 simp only[Instr.fieldAt,aI,run_underlying hu,aG,hfl,Instr.sureAddr,aU,fieldPlace,F9 hi,if_neg hne,xZ]
variable {u:Nat}
def aq2 (hrun:∀(a:Act) (w:World) (ow:Own) (b o1:Nat),Fits P n w0 ow0 ow s a w->a.eval x= .pointer (some ⟨b,o1,none⟩)->(execOp a.eval o).run P w= .ok (.value (.pointer (some ⟨b,o1+off,none⟩))) w) (hd:o.dst=some u) (hu:u<n)
  (h:CK off f u (oF s (slotOf x) (evS s x)) s K):Ok P n w0 ow0 o s K:=by
 refine iI fun a w ow hf=> ?_;have hx:=hf.asPtr x;unfold CK at h;split at h
 ·rename_i xs hxr;rw[hxr]at hx;obtain⟨b,o1,hv,hb,hL⟩:=hx;cases hz:xs[f]? with
  |none=>rw[hz]at h;exact h.elim
  |some z=>
   rw[hz]at h;obtain⟨hoff,hK⟩:=h;refine⟨.pointer (some ⟨b,o1+off,none⟩),w,?_,_,hK,ow,?_⟩
   ·exact hrun a w ow _ _ hf hv
   ·rw[hd];refine hf.set hu ⟨b,o1+off,rfl,hb,?_⟩;simp only[D.fz]at hL;have:=hL.xE (amC hz)
    have hw:D.ws ((D.fzs xs).take f)=off:=by
     rw[←hoff,←D.atF (xs.take f),D.jS,D.jS,wF]
    rw[hw]at this;exact this.fz0
 ·rename_i r p hxr;rw[hxr]at hx;obtain⟨d,m,b1,o1,hs,hm,hl,hv⟩:=hx;rw[hs]at h;simp only[hm]at h;split at h
  ·rename_i xs hm1;obtain rfl:m= .agg xs:=by simpa using hm1
   cases hz:xs[f]? with
   |none=>rw[hz]at h;exact h.elim
   |some z=>
    rw[hz]at h;obtain⟨hoff,hne,hK⟩:=h;refine⟨.pointer (some ⟨b1,o1+off,none⟩),w,?_,_,hK,ow,?_⟩
    ·exact hrun a w ow _ _ hf hv
    ·rw[hd];refine hf.set hu ⟨d,z,b1,o1+off,by rw[free_own (by rw[hs];rfl) (k_Ne_symm hne)];exact hs,?_,?_,rfl⟩
     ·rw[D.O7,hm];simp[D.sub,D.kid,hz]
     ·rw[XH hl hm];simp only[eX,hz,hoff]
  ·exact h.elim
 ·exact h.elim
def amU {T:TypeId->TyE}(hg:Good P T t) (hty:(T t).ty= .agg fs) (hfs:fs[f]?=some (off,ft)) (ho:o.op= .fieldAddr t x f) (hd:o.dst=some u) (hu:u<n)
  (h:CK off f u (oF s (slotOf x) (evS s x)) s K):Ok P n w0 ow0 o s K:=
 aq2 (fun a w ow b o1 hf hv=>by unfold execOp;rw[ho];simp only[hv,aI,azH hg hty hfs,aG];rfl) hd hu h
def ay4 {e:TypeId}{len:Nat}{i:TypeInfo}{k:IntKind}{j:Int}(ht:P.underlying t=some (.array len e)) (hi:P.info? e=some i) (ho:o.op= .indexAddr t x y) (hd:o.dst=some u) (hu:u<n)
  (hy:evS s y= .val (.one (.int k j))) (hj:0<=j) (hj2:j<len) (h:CK (j.toNat*i.size) j.toNat u (oF s (slotOf x) (evS s x)) s K):Ok P n w0 ow0 o s K:=
 aq2 (fun a w ow b o1 hf hv=>by
  have hyv:=(hf.one hy).1;unfold execOp;rw[ho];simp only[hyv,hv,Instr.indexAt,asIntOf,aI,aU,aG,run_underlying ht,Instr.sureAddr];simp only[aI,aU,aG,if_pos (show 0<=j/\j<(len:Int)from⟨hj,hj2⟩),F9 hi,xZ]) hd hu h
end Go.Dv
end
section
namespace Go
def fO:= @Array.getElem?_toList
def qZ:= @List.drop_append
def bX:= @List.drop_eq_nil_of_le
def kF:= @List.ext_getElem?
def k_List_foldl_cons:= @List.foldl_cons
def k_List_length_cons:= @List.length_cons
end Go
end
section
namespace Go.Dv
open Go.RowKit
variable [lL]
def ownNew (w:World)(l:List Nat)(ow:Own):Own:=fun b=>if b=w.heap.size then some l else ow b
variable {l:List Nat}{ow:Own}
def O0 {w:World}{b:Nat}(h:b<w.heap.size):ownNew w l ow b=ow b:=by simp[ownNew,show b≠w.heap.size by omega]
variable {P:Program}{n:Nat}{w0:World}{ow0:Own}{s:St}{a:Act}
def Fits.ahL {w:World}(h:Fits P n w0 ow0 ow s a w)(o:Obj)(l:List Nat):Fits P n w0 ow0 (ownNew w l ow) s a (w.alloc o):=by
 refine h.grown rfl rfl rfl (by simp) (fun b hb=>⟨Below.heap_alloc w o b hb,O0 hb⟩) (fun b hb=> ?_);simp at hb;simp only[ownNew,show b≠w.heap.size by omega,if_false];exact h.new b (by omega)
def akD {w:World}{o:Obj}{l2:List Nat}:Keeps w ow l (w.alloc o) (ownNew w l2 ow) l:=fun b hb=>
 ⟨fun ho=>⟨Below.heap_alloc w o b hb,by rw[O0 hb];exact ho⟩,fun q hq=>⟨Below.heap_alloc w o b hb,by rw[O0 hb];exact hq⟩⟩
variable {u:Nat}{t:TypeId}
def Fits.newVar {w:World}{d:D}{v:Value}(h:Fits P n w0 ow0 ow s a w)(hu:u<n)(hV:V P w ow d [0,u] v):
  Fits P n w0 ow0 (ownNew w [u] ow) (s.set u (.own (.bx true d))) (a.put (some u) (.pointer (some ⟨w.heap.size,0,none⟩))) (w.alloc (.cells v.cells t)):=by
 refine(h.ahL (.cells v.cells t) [u]).set hu ?_;have hc:=hV.cells;have hl:=hc.len;simp only[SV,V,R];refine⟨w.heap.size,0,v.cells,t,(0,0),v.cells.toList,rfl,heap_alloc_new w _,?_,?_,hl,?_,hc.tr akD⟩
 ·intro h;cases h
 ·intro _;exact⟨by simp[ownNew],unfz0 _,rfl,by simpa using hl⟩
 ·intro j hj;simp
variable {o:Oper}{K:St->Prop}
def aKI {x:Operand}(ho:o.op= .box t x) (hd:o.dst=some u) (hu:u<n)
  (h:(match srcOf s (slotOf x) (evS s x)with| .no=>False|z=>K ((z.st s).set u (.own (.bx true z.data))))):Ok P n w0 ow0 o s K:=by
 refine iI fun a w ow hf=> ?_;have hno:srcOf s (slotOf x) (evS s x)≠ .no:=by intro e;rw[e]at h;exact h
 obtain⟨ow',g1,g2,_⟩:=hf.src x [0,u] _ rfl hno;refine⟨.pointer (some ⟨w.heap.size,0,none⟩),w.alloc (.cells (a.eval x).cells t),?_,((srcOf s (slotOf x) (evS s x)).st s).set u (.own (.bx true (srcOf s (slotOf x) (evS s x)).data)),?_,_,by rw[hd];exact g1.newVar hu g2⟩
 ·unfold execOp;rw[ho];rfl
 ·cases hz:srcOf s (slotOf x) (evS s x)<;>rw[hz]at h<;>first|exact h|exact h.elim
def V.zf {P:Program}{w:World}{ow:Own}{d:D}{l:List Nat}{zv:Value}(h:D.zf d=some zv.cells.toList)(ha:(∃cs,zv= .agg cs)=(d.isAgg=true)):V P w ow d l zv:=by
 have hr:=R.zf (P:=P) (w:=w) (ow:=ow) (l:=l) h;by_cases hd:d.isAgg=true
 ·obtain⟨cs,rfl⟩:=ha.mpr hd;cases d with
  |agg xs=>exact⟨cs,rfl,hr⟩
  |_=>cases hd
 ·have hn:¬∃cs,zv= .agg cs:=fun e=>hd (ha.mp e);have:zv.cells.toList=[zv]:=by cases zv<;>first|rfl|exact absurd ⟨_,rfl⟩ hn
  rw[this]at hr;cases d with
  |agg xs=>exact absurd rfl hd
  |one _=>exact hr
  |sl _ _=>exact hr
  |bx _ _=>exact hr
  |any _=>exact hr
def aDZ {T:TypeId->TyE}(hg:Good P T t) (hn:∀x,(T t).ty=x->x≠ .no) (ho:o.op= .alloc t) (hd:o.dst=some u) (hu:u<n)
  (h:K (s.set u (.own (.bx true (T t).z)))):Ok P n w0 ow0 o s K:=by
 refine iI fun a w ow hf=> ?_;obtain⟨_,i,zv,hi,_,hz,hflat,hagg,hz2,_⟩:=hg.of hn;have hV:V P w ow (T t).z [0,u] zv:=V.zf hflat (by rw[hagg];exact hz2);refine⟨.pointer (some ⟨w.heap.size,0,none⟩),w.alloc (.cells zv.cells t),?_,_,h,_,by rw[hd];exact hf.newVar hu hV⟩;unfold execOp;rw[ho];have hzero:(zeroValue t).run P w= .ok zv w:=by simp[zeroValue,typeInfo,hi,hz]
 simp only[Instr.alloc,aI,hzero,aG];rfl
def PU (u:Nat):List (Nat×Operand)->St->(List (Nat×D×Bool)->St->Prop)->Prop
 |[],s,K=>K [] s
 |(i,x)::xs,s,K=>(match srcOf s (slotOf x) (evS s x)with| .no=>False|_=>True)/\(srcOf s (slotOf x) (evS s x)).from≠some u/\
   PU u xs ((srcOf s (slotOf x) (evS s x)).st s) fun ds s'=>K ((i,(srcOf s (slotOf x) (evS s x)).data,(srcOf s (slotOf x) (evS s x)).from.isNone)::ds) s'
mutual
def D.ZP:∀d:D,d.fz.fz=d.fz
 | .one v=>rfl
 | .sl o xs=>by simp only[D.fz,D.amB xs]
 | .agg xs=>by simp only[D.fz,D.amB xs]
 | .bx o x=>by simp only[D.fz,D.ZP x]
 | .any n=>rfl
def D.amB:∀xs:List D,D.fzs (D.fzs xs)=D.fzs xs
 |[]=>rfl
 |x::xs=>by simp only[D.fzs,D.ZP x,D.amB xs]
end
def Taken (P:Program)(w:World)(ow:Own)(a:Act)(u:Nat):List (Nat×Operand)->List (Nat×D×Bool)->Prop
 |[],[]=>True
 |(i,x)::xs,(j,d,b)::ds=>i=j/\V P w ow d [i,u] (a.eval x)/\(b=true->d.fz=d)/\Taken P w ow a u xs ds
 |_,_=>False
def Taken.keep {w w':World}{ow':Own}(h:∀l,Keeps w ow (l++[u]) w' ow' (l++[u])):∀{xs:List (Nat×Operand)}{ds:List (Nat×D×Bool)},Taken P w ow a u xs ds->Taken P w' ow' a u xs ds
 |[],[],_=>trivial
 |(i,x)::xs,(j,d,b)::ds,ht=>⟨ht.1,V.tr (h [i]) ht.2.1,ht.2.2.1,Taken.keep h ht.2.2.2⟩
 |[],_::_,ht=>ht.elim
 |_::_,[],ht=>ht.elim
def Fits.takeK {w:World}:∀(xs:List (Nat×Operand)) {ow:Own}{s:St}{K:List (Nat×D×Bool)->St->Prop},Fits P n w0 ow0 ow s a w->Dv.PU u xs s K->
  ∃ow' s' ds,K ds s'/\Fits P n w0 ow0 ow' s' a w/\Taken P w ow' a u xs ds/\∀l,Keeps w ow (l++[u]) w ow' (l++[u])
 |[],ow,s,K,h,hk=>⟨ow,s,[],hk,h,trivial,fun l b _=>⟨fun h=>⟨rfl,h⟩,fun q h=>⟨rfl,h⟩⟩⟩
 |(i,x)::xs,ow,s,K,h,hk=>by
  obtain⟨h1,h2,h3⟩:=hk;obtain⟨ow1,g1,g2,g3⟩:=h.src x [i,u] _ rfl (by intro e;rw[e]at h1;exact h1);obtain⟨ow',s',ds,k1,k2,k3,k4⟩:=Fits.takeK xs g1 h3;have hk1:=fun l=>g3 l u h2;refine⟨ow',s',_,k1,k2,⟨rfl,V.tr (k4 [i]) g2,?_,k3⟩,fun l b hb=> ?_⟩
  ·intro hb;cases hz:srcOf s (slotOf x) (evS s x)with
   |fr d=>simp only[Src.data];exact D.ZP d
   |all r d=>rw[hz]at hb;cases hb
   |nd r p d m=>rw[hz]at hb;cases hb
   |no=>rw[hz]at h1;exact h1.elim
  ·obtain⟨a1,a2⟩:=hk1 l b hb;obtain⟨b1,b2⟩:=k4 l b hb;exact⟨fun h0=>⟨rfl,(b1 (a1 h0).2).2⟩,fun q hq=>⟨rfl,(b2 q (a2 q hq).2).2⟩⟩
def setParts:List D->List (Nat×D×Bool)->List D
 |zs,[]=>zs
 |zs,(i,d,_)::ds=>setParts (zs.set i d) ds
def IA (places:Nat->Option (Nat×Nat)):List D->List (Nat×D×Bool)->Prop
 |_,[]=>True
 |zs,(i,d,_)::ds=>(∃z,zs[i]?=some z/\d.w=z.w/\places i=some (D.ws (zs.take i),d.w))/\IA places (zs.set i d) ds
def aBX (vs:List Value):∀(off k:Nat) (cs:Array Value) (m:Nat),
  ((vs.zipIdx k).foldl (fun cs (c,j)=>cs.setIfInBounds (off+j) c) cs)[m]?=if off+k<=m/\m<off+k+vs.length/\m<cs.size then vs[m-off-k]? else cs[m]?:=by
 induction vs with
 |nil=>intro off k cs m;simp;intro h1 h2;omega
 |cons v vs ih=>
  intro off k cs m;simp only[List.zipIdx_cons,k_List_foldl_cons,ih,Array.size_setIfInBounds,k_List_length_cons];by_cases h1:off+(k+1)<=m/\m<off+(k+1)+vs.length/\m<cs.size
  ·rw[if_pos h1,if_pos (by omega)];rw[show m-off-k=(m-off-(k+1))+1 from by omega];simp
  ·rw[if_neg h1];by_cases h2:m=off+k
   ·subst h2;by_cases h3:off+k<cs.size
    ·rw[if_pos (by omega)];simp[h3]
    ·rw[if_neg (by omega)];simp[h3]
   ·rw[if_neg (by omega)];rw[Array.getElem?_setIfInBounds_ne (by omega)]
def fold_size (vs:List Value):∀(off k:Nat) (cs:Array Value),((vs.zipIdx k).foldl (fun cs (c,j)=>cs.setIfInBounds (off+j) c) cs).size=cs.size:=by
 induction vs with
 |nil=>intro off k cs;rfl
 |cons v vs ih=>intro off k cs;simp only[List.zipIdx_cons,k_List_foldl_cons,ih,Array.size_setIfInBounds]
def Raq (P:Program)(w:World)(ow:Own)(zs:List D)(l:List Nat)(cs:List Value):Prop:=
 cs.length=D.ws zs/\∀j z,zs[j]?=some z->R P w ow z (j::l) ((cs.drop (D.ws (zs.take j))).take z.w)
def Ra.toQ {w:World}:∀{xs:List D}{l:List Nat}{i:Nat}{cs:List Value},Ra P w ow xs l i cs->∀j z,xs[j]?=some z->R P w ow z ((i+j)::l) ((cs.drop (D.ws (xs.take j))).take z.w)
 |[],_,_,_,_,j,z,h=>by simp at h
 |x::xs,l,i,cs,h,j,z,hj=>by
  simp only[Ra]at h;obtain⟨c1,c2,rfl,h1,h2,h3⟩:=h;cases j with
  |zero=>
   simp at hj;subst hj;simp only[List.take_zero,D.ws,List.drop_zero,kP];rw[←h1,List.take_left];exact h2
  |succ j=>
   have:=Ra.toQ h3 j z (by simpa using hj);simp only[jG,D.ws];rw[←h1,qZ,bX (by omega),iV,show c1.length+D.ws (xs.take j)-c1.length=D.ws (xs.take j)from by omega,show i+(j+1)=i+1+j from by omega];exact this
def Ra.ofQ {w:World}:∀{xs:List D}{l:List Nat}{i:Nat}{cs:List Value},cs.length=D.ws xs->(∀j z,xs[j]?=some z->R P w ow z ((i+j)::l) ((cs.drop (D.ws (xs.take j))).take z.w))->Ra P w ow xs l i cs
 |[],l,i,cs,hl,_=>by simp only[Ra];exact bE (by simpa[D.ws]using hl)
 |x::xs,l,i,cs,hl,h=>by
  simp only[D.ws]at hl;simp only[Ra];refine⟨cs.take x.w,cs.drop x.w,by simp,by simp;omega,by simpa[D.ws]using h 0 x (by simp),Ra.ofQ (by simp;omega) fun j z hj=> ?_⟩;have:=h (j+1) z (by simpa using hj);simp only[jG,D.ws]at this;rw[List.drop_drop,show i+1+j=i+(j+1)from by omega];exact this
variable {c1 c2:List Value}
def aER {o:Nat}(h:∀k,k<n->c1[o+k]?=c2[o+k]?):(c1.drop o).take n=(c2.drop o).take n:=by
 apply kF;intro k;simp only[bD,dX];split
 ·exact h k (by assumption)
 ·rfl
def am3 {o:Nat}(hl:c2.length=n)(h:∀k,k<n->c1[o+k]?=c2[k]?):(c1.drop o).take n=c2:=by
 apply kF;intro k;simp only[bD,dX];split
 ·exact h k (by assumption)
 ·rw[k_List_getElem__eq_none (by omega)]
def al2 {w:World}{places:Nat->Option (Nat×Nat)}(hlab:l=[u]):∀(xs:List (Nat×Operand)) (ds:List (Nat×D×Bool)) (zs:List D) (cs:Array Value),Taken P w ow a u xs ds->IA places zs ds->Raq P w ow zs l cs.toList->
  ∃cs',Instr.fill places cs (xs.map fun(i,x)=>(i,a.eval x))=some cs'/\Raq P w ow (setParts zs ds) l cs'.toList
 |[],[],zs,cs,_,_,h=>⟨cs,rfl,h⟩
 |(i,x)::xs,(i2,d,b)::ds,zs,cs,ht,hp,h=>by
  obtain⟨h0,hV,_,ht'⟩:=ht;subst h0;obtain⟨⟨z,hz,hdw,hpl⟩,hp'⟩:=hp;have hc:=hV.cells;have hlen:(a.eval x).cells.toList.length=d.w:=hc.len;have hle:=ae3 zs i z hz;have hsz:cs.size=D.ws zs:=by simpa using h.1
  generalize hcs1:((a.eval x).cells.toList.zipIdx 0).foldl (fun cs (c,j)=>cs.setIfInBounds (D.ws (zs.take i)+j) c) cs=cs1
  have hget:∀m,cs1[m]?=if D.ws (zs.take i)<=m/\m<D.ws (zs.take i)+d.w then(a.eval x).cells.toList[m-D.ws (zs.take i)]? else cs[m]?:=by
   intro m;rw[←hcs1,aBX,hlen];by_cases hm:D.ws (zs.take i)<=m/\m<D.ws (zs.take i)+d.w
   ·rw[if_pos (by omega),if_pos hm];simp
   ·rw[if_neg (by omega),if_neg hm]
  have hq:Raq P w ow (zs.set i d) l cs1.toList:=by
   refine⟨by rw[←hcs1];simp[fold_size,hsz,aiO zs i z d hz hdw],fun j y hj=> ?_⟩;rw[GI zs i z d hz hdw];by_cases hij:j=i
   ·subst hij;rw[bG (aD.1 hz).1]at hj;obtain rfl:d=y:=by simpa using hj
    rw[am3 (c2:=(a.eval x).cells.toList) hlen fun k hk=>by
     rw[fO,hget,if_pos (by omega),show D.ws (zs.take j)+k-D.ws (zs.take j)=k from by omega]]
    subst hlab;exact hc
   ·rw[bI (k_Ne_symm hij)]at hj;have hap:=TK zs i j z y hz hj (k_Ne_symm hij)
    rw[aER (c2:=cs.toList) fun k hk=>by
     rw[fO,hget,if_neg (by omega),fO]]
    exact h.2 j y hj
  obtain⟨cs',h1,h2⟩:=al2 hlab xs ds (zs.set i d) cs1 ht' hp' hq;refine⟨cs',?_,h2⟩;simp only[fI,Instr.fill,hpl];have hsz1:(a.eval x).cells.size=d.w:=by simpa using hlen
  have hnot:¬((a.eval x).cells.size≠d.w\/D.ws (zs.take i)+(a.eval x).cells.size>cs.size):=by omega
  rw[if_neg (by simpa using hnot)]
  have hz2:(a.eval x).cells.zipIdx.foldl (fun cs (c,j)=>cs.setIfInBounds (D.ws (zs.take i)+j) c) cs=cs1:=by
   rw[←hcs1,←Array.foldl_toList,Array.toList_zipIdx]
  rw[hz2];exact h1
 |[],_::_,_,_,ht,_,_=>ht.elim
 |_::_,[],_,_,ht,_,_=>ht.elim
end Go.Dv
end
section
namespace Go
def iG:= @Array.getElem?_eq_getElem
def qX:= @Array.toList_map
def lZ:= @Int.mul_le_mul_of_nonneg_right
def wB:= @List.all_cons
def aH:= @List.all_eq_true
def aK:= @List.mem_cons
def dG:= @List.mem_map
def eU:= @List.mem_of_mem_take
def jJ:= @List.mem_or_eq_of_mem_set
def nZ:= @List.mem_replicate
def fU:= @List.replicate_succ
def jV:= @Nat.mod_eq_of_lt
def rE:= @Nat.mul_comm
end Go
end
section
namespace Go.Dv
open Go.RowKit
variable [lL]
def TyE.ok (e:TyE):Bool:=match e.ty with| .no=>false|_=>true
def TyE.PR {e:TyE}(h:e.ok=true):∀x,e.ty=x->x≠ .no:=by
 intro x hx e';simp only[TyE.ok,hx,e']at h;cases h
variable {P:Program}{ow:Own}{zs:List D}{l:List Nat}{cs:List Value}
def Raq.aM0 {w:World}(h:Raq P w ow zs l cs):Ra P w ow zs l 0 cs:=Ra.ofQ h.1 fun j z hj=>by simpa using h.2 j z hj
def Ra.aMH {w:World}(h:Ra P w ow zs l 0 cs):Raq P w ow zs l cs:=⟨h.len,fun j z hj=>by simpa using h.toQ j z hj⟩
def places (T:TypeId->TyE)(fs:List (Nat×TypeId))(i:Nat):Option (Nat×Nat):=(fs[i]?).map fun(o,t)=>(o,(T t).w)
variable {t:TypeId}{fs:List (Nat×TypeId)}{i:TypeInfo}
def aAS {T:TypeId->TyE}{parts:List (Nat×Value)}{cells:Array Value}{zv:Value}(hG:∀t,Good P T t) (hty:(T t).ty= .agg fs) (hi:P.info? t=some i) (hz:i.zero=some zv)
  (hall:fs.all (fun x=>(T x.2).ok)=true) (hf:Instr.fill (places T fs) zv.cells parts=some cells):P.built t parts=some cells:=by
 obtain⟨hdesc,_⟩:=(hG t).of (fun x h e=>by rw[hty]at h;subst h;cases e);rw[hty]at hdesc;obtain⟨fields,hu,hmap,_,_⟩:=hdesc
 have hm:∀(l:List Field),(∀f∈l,(T f.type).ok=true)->l.mapM (fun f=>(P.info? f.type).map fun i=>(f.offset,i.size))=some (l.map fun f=>(f.offset,(T f.type).w)):=by
  intro l
  induction l with
  |nil=>intro _;rfl
  |cons f l ih=>
   intro h;obtain⟨_,i,_,h1,h2,_⟩:=(hG f.type).of (TyE.PR (h f (by simp)));simp only[List.mapM_cons,h1,ih (fun f hf=>h f (by simp[hf])),dA,h2];rfl
 have hok:∀f∈fields.toList,(T f.type).ok=true:=by
  intro f hf;have:(f.offset,f.type)∈fs:=by rw[←hmap];exact dG.2 ⟨f,hf,rfl⟩
  exact aH.1 hall _ this
 unfold Program.built;simp only[hi,hu,hz,hm _ hok]
 have:(fun x=>(List.map (fun f=>(f.offset,(T f.type).w)) fields.toList).toArray[x]?)=places T fs:=by
  funext k;simp only[places,lD,←hmap,aS,Option.map_map];rfl
 rw[this];exact hf
variable {u:Nat}
def Taken.frz {w:World}{a:Act}:∀{xs:List (Nat×Operand)}{ds:List (Nat×D×Bool)},Taken P w ow a u xs ds->ds.all (fun x=>x.2.2)=true->∀x∈ds,x.2.1.fz=x.2.1
 |[],[],_,_,x,hx=>by cases hx
 |(i,x)::xs,(j,d,b)::ds,ht,hb,y,hy=>by
  simp only[wB,k_Bool_and_eq_true]at hb;rcases aK.1 hy with rfl|hy
  ·exact ht.2.2.1 hb.1
  ·exact Taken.frz ht.2.2.2 hb.2 y hy
 |[],_::_,ht,_,_,_=>ht.elim
 |_::_,[],ht,_,_,_=>ht.elim
def af1 (T:TypeId->TyE)(fs:List (Nat×TypeId))(zs:List D)(u:Nat)(parts:List (Nat×Operand))(s:St)(K:St->Prop):Prop:=
 PU u parts s fun ds s'=>IA (places T fs) zs ds/\
  if ds.all (fun x=>x.2.2)&&D.xU (setParts zs ds)then K (s'.set u (.val (.agg (setParts zs ds))))else K (s'.set u (.own (.agg (setParts zs ds))))
variable {n:Nat}{w0:World}{ow0:Own}{o:Oper}{s:St}{K:St->Prop}{parts:Array (Nat×Operand)}
def aD0 {T:TypeId->TyE}(hG:∀t,Good P T t) (hty:(T t).ty= .agg fs) (hzs:(T t).z= .agg zs)
  (hall:fs.all (fun x=>(T x.2).ok)=true) (ho:o.op= .build t parts) (hd:o.dst=some u) (hu:u<n) (h:af1 T fs zs u parts.toList s K):Ok P n w0 ow0 o s K:=by
 refine iI fun a w ow hf=> ?_;obtain⟨_,i,zv,hi,_,hz,hflat,_,hz2,_⟩:=(hG t).of (fun x h e=>by rw[hty]at h;subst h;cases e);obtain⟨ow',s',ds,⟨hp,hK⟩,k2,k3,_⟩:=Fits.takeK _ hf h;rw[hzs]at hflat;have hr0:=R.zf (P:=P) (w:=w) (ow:=ow') (l:=[u]) hflat;simp only[R]at hr0;obtain⟨cs',h1,h2⟩:=al2 (a:=a) rfl parts.toList ds zs zv.cells k3 hp hr0.aMH
 have hrun:(execOp a.eval o).run P w= .ok (.value (.agg cs')) w:=by
  unfold execOp;rw[ho]
  have:=run_build (P:=P) w t (parts.map fun(i,x)=>(i,a.eval x)) cs' (by
   rw[qX];exact aAS hG hty hi hz hall h1)
  simp only[aI,this,aG];rfl
 have hV:V P w ow' (.agg (setParts zs ds)) [u] (.agg cs'):=⟨cs',rfl,by simp only[R];exact h2.aM0⟩;by_cases hb:(ds.all (fun x=>x.2.2)&&D.xU (setParts zs ds))=true
 ·rw[if_pos hb]at hK;refine⟨_,w,hrun,_,hK,ow',?_⟩;rw[hd];refine k2.set hu ?_;simp only[SV]
  have hfz:(D.agg (setParts zs ds)).fz= .agg (setParts zs ds):=by
   rw[k_Bool_and_eq_true]at hb;simp only[D.fz,D.R6 hb.2]
  rw[←hfz]at hV;exact V.fzV hV
 ·rw[if_neg hb]at hK;exact⟨_,w,hrun,_,hK,ow',by rw[hd];exact k2.set hu hV⟩
def aqH {z:Array Value}{s k:Nat}(hs:z.size=s)(hk:k<n*s):((Array.range (n*s)).map (z[· % z.size]!))[k]?=z[k % s]?:=by
 have hpos:0<s:=by
  rcases lH s with h|h
  ·subst h;simp at hk
  ·exact h
 have hlt:k % s<z.size:=by rw[hs];exact Nat.mod_lt _ hpos
 simp only[Array.getElem?_map,Array.getElem?_range,hk,if_true,dA,hs];rw[iG hlt,getElem!_pos z (k % s) hlt]
def PH (z:D):∀n,D.ws (List.replicate n z)=n*z.w
 |0=>by simp[D.ws]
 |n+1=>by simp[fU,D.ws,PH z n,k_Nat_add_mul];omega
def az7 {w:World}{z:D}{zc:Array Value}(hflat:D.zf z=some zc.toList):Raq P w ow (List.replicate n z) l ((Array.range (n*zc.size)).map (zc[· % zc.size]!)).toList:=by
 have hr:=fun l=>R.zf (P:=P) (w:=w) (ow:=ow) (l:=l) hflat;have hw:zc.size=z.w:=by simpa using(hr []).len
 refine⟨by simp[PH,hw],fun j y hj=> ?_⟩;have hjn:j<n:=by have:=(aD.1 hj).1;simpa using this
 obtain rfl:z=y:=by simpa[hjn]using hj
 rw[List.take_replicate,PH,fP (by omega)];have hle:j*z.w+z.w<=n*z.w:=by rw[←Nat.succ_mul];exact aX _ hjn
 rw[am3 (c2:=zc.toList) (by simpa using hw) fun k hk=> ?_]
 ·exact hr _
 ·rw[fO,aqH rfl (by rw[hw];omega),hw,fO];rw[rE j,Nat.mul_add_mod,jV hk]
variable {e:TypeId}{C:Array Value}{ds:List D}
def R.newRow {w:World}{cap:Nat}(hi:P.info? e=some i)(hd:∀d∈ds,d.w=i.size)(hq:∀j d,ds[j]?=some d->∃cs,R P w ow d [j,u] cs/\∀k,k<i.size->C[j*i.size+k]?=cs[k]?)(hn:ds.length=n)(hcap:n<=cap)(hmax:cap<=maxLen)(hC:C.size=cap*i.size):
  R P (w.alloc (.cells C e)) (ownNew w [u] ow) (.sl (some e) ds) [u] [.slice (some ⟨w.heap.size,0,none⟩) n cap]:=by
 simp only[R];refine⟨some ⟨w.heap.size,0,none⟩,cap,by rw[hn],by omega,hmax,.inr (.inr ⟨w.heap.size,0,i.size,C,e,(0,0),rfl,heap_alloc_new w _,(fun h=>by cases h),?_,?_⟩)⟩
 ·intro t ht;obtain rfl:e=t:=by simpa using ht
  exact⟨by simp[ownNew],rfl,unfz0 _,rfl,hC,i,hi,rfl⟩
 ·refine(Rs.iff (heap_alloc_new w _)).2 fun j d hj=> ?_;obtain⟨cs,h1,h2⟩:=hq j d hj;have hw:=hd d (aA hj);refine⟨hw,C,e,(0,0),cs,heap_alloc_new w _,fun k hk=> ?_,?_⟩
  ·rw[bT];exact h2 k (by omega)
  ·rw[bT];exact h1.tr akD
def YH (T:TypeId->TyE)(e:TypeId)(len:Nat)(u:Nat)(parts:List (Nat×Operand))(s:St)(K:St->Prop):Prop:=
 PU u parts s fun ds s'=>IA (fun i=>some (i*(T e).w,(T e).w)) (List.replicate len (T e).z) ds/\K (s'.set u (.own (.sl (some e) (setParts (List.replicate len (T e).z) ds))))
def ah7:∀(ds:List (Nat×D×Bool)) (zs:List D) (pl:Nat->Option (Nat×Nat)) (s:Nat),(∀z∈zs,z.w=s)->IA pl zs ds->(∀z∈setParts zs ds,z.w=s)/\(setParts zs ds).length=zs.length
 |[],zs,_,_,h,_=>⟨h,rfl⟩
 |(i,d,b)::ds,zs,pl,s,h,hp=>by
  obtain⟨⟨z,h1,h2,_⟩,h4⟩:=hp
  have:=ah7 ds (zs.set i d) pl s (fun y hy=>by
   rcases jJ hy with hy|rfl
   ·exact h y hy
   ·rw[h2];exact h z (aA h1)) h4
  exact⟨this.1,by rw[setParts,this.2];simp⟩
def au6:∀(ds:List D) (s:Nat),(∀d∈ds,d.w=s)->D.ws ds=ds.length*s
 |[],s,_=>by simp[D.ws]
 |d::ds,s,h=>by simp[D.ws,au6 ds s (fun x hx=>h x (by simp[hx])),h d (by simp),k_Nat_add_mul];omega
def Raq.elems {w:World}{s:Nat}(h:Raq P w ow ds [u] C.toList)(hd:∀d∈ds,d.w=s):∀j d,ds[j]?=some d->∃cs,R P w ow d [j,u] cs/\∀k,k<s->C[j*s+k]?=cs[k]?:=by
 intro j d hj;have hr:=h.2 j d hj;have hw:=hd d (aA hj);have hlt:=(aD.1 hj).1;rw[au6 _ s (fun x hx=>hd x (eU hx)),dD,fP (by omega)]at hr;refine⟨_,hr,fun k hk=> ?_⟩;simp only[bD,dX,hw,hk,if_true,fO]
def ayZ {T:TypeId->TyE}{len:Nat}(hG:∀t,Good P T t) (ht:P.underlying t=some (.slice e)) (he:(T e).ok=true) (hlen:len*(T e).w<=16777216) (hl2:len<=16777216)
  (hw0:0<(T e).w) (ho:o.op= .buildSlice t len parts) (hd:o.dst=some u) (hu:u<n) (h:YH T e len u parts.toList s K):Ok P n w0 ow0 o s K:=by
 refine iI fun a w ow hf=> ?_;obtain⟨_,i,zv,hi,hsz,hz,hflat,_,hz2,_,hzw2⟩:=(hG e).of (TyE.PR he);obtain⟨ow',s',ds,⟨hp,hK⟩,k2,k3,_⟩:=Fits.takeK _ hf h;have hzw:zv.cells.size=(T e).w:=by have:=(R.zf (P:=P) (w:=w) (ow:=ow') (l:=[]) hflat).len;rw[←hzw2];simpa using this
 obtain⟨hds,hdl⟩:=ah7 ds (List.replicate len (T e).z) _ (T e).w (fun z hz=>by obtain⟨_,rfl⟩:=nZ.1 hz;exact hzw2) hp;obtain⟨cs',h1,h2⟩:=al2 (a:=a) rfl parts.toList ds _ _ k3 hp (az7 (n:=len) (l:=[u]) hflat)
 have hcs:cs'.size=len*(T e).w:=by
  have:=h2.1;rw[au6 _ _ hds,hdl]at this;simpa using this
 have hrun:(execOp a.eval o).run P w= .ok (.value (.slice (some ⟨w.heap.size,0,none⟩) len len)) (w.alloc (.cells cs' e)):=by
  unfold execOp;rw[ho]
  have hf1:Instr.fill (fun i_1=>some (i_1*i.size,i.size)) ((Array.range (len*i.size)).map (zv.cells[· % zv.cells.size]!)) (parts.map fun(i,x)=>(i,a.eval x)).toList=some cs':=by
   rw[qX,hsz,←hzw];rw[hzw];rw[hzw]at h1;exact h1
  rcases lH len with h0|h0
  ·subst h0;simp only[Nat.zero_mul]at hf1
   have:(Instr.buildSlice t 0 (parts.map fun(i,x)=>(i,a.eval x))).run P w= .ok (.slice (some ⟨w.heap.size,0,none⟩) 0 0) (w.alloc (.cells cs' e)):=by
    simp[Instr.buildSlice,run_underlying ht,sizeOf,typeInfo,hi,newRow];have hr0:∀f:Nat->Value,Array.map f (Array.range 0)= #[]:=fun f=>by simp[Array.range]
    rw[hr0,qX]at hf1;rw[hr0,hf1];rfl
   simp only[aI,this,aG];rfl
  ·have:=run_buildSlice (P:=P) w t e len (parts.map fun(i,x)=>(i,a.eval x)) cs' i zv ht hi hz (by rw[hsz];omega) (by rw[hsz];exact Nat.ne_of_gt (Nat.mul_pos h0 hw0)) hf1;simp only[aI,this,aG];rfl
 refine⟨_,_,hrun,_,hK,ownNew w [u] ow',?_⟩;rw[hd];refine(k2.ahL (.cells cs' e) [u]).set hu ?_;simp only[SV,V];refine R.newRow hi (fun d hd=>by rw[hsz];exact hds d hd) (fun j d hj=> ?_) (by rw[hdl];simp) (k_Nat_le_refl _) (by unfold maxLen;omega) (by rw[hcs,hsz]);rw[hsz];exact h2.elems hds j d hj
def aD7 {T:TypeId->TyE}{x y:Operand}{k k':IntKind}{l c:Int}(hG:∀t,Good P T t) (ht:P.underlying t=some (.slice e)) (he:(T e).ok=true)
  (hx:evS s x= .val (.one (.int k l))) (hy:evS s y= .val (.one (.int k' c))) (hl:0<=l) (hlc:l<=c) (hc:c<=1073741824)
  (ho:o.op= .makeSlice t x y) (hd:o.dst=some u) (hu:u<n) (h:K (s.set u (.own (.sl (some e) (List.replicate l.toNat (T e).z))))):Ok P n w0 ow0 o s K:=by
 refine iI fun a w ow hf=> ?_;obtain⟨_,i,zv,hi,hsz,hz,hflat,_,hz2,hby,hzw2⟩:=(hG e).of (TyE.PR he);have hzw:zv.cells.size=i.size:=by have:=(R.zf (P:=P) (w:=w) (ow:=ow) (l:=[]) hflat).len;rw[hsz,←hzw2];simpa using this
 have hr:=run_make (P:=P) w t e i zv ht hi hz k k' l c hl hlc (by
  have:(i.bytes:Int)*c<=4096*1073741824:=by
   have h1:((i.bytes:Int))<=4096:=by omega
   calc (i.bytes:Int)*c<=4096*c:=lZ h1 (by omega)
    _<=4096*1073741824:=Int.mul_le_mul_of_nonneg_left hc (by omega)
  omega) (by omega)
 have hrun:(execOp a.eval o).run P w= .ok (.value (.slice (some ⟨w.heap.size,0,none⟩) l.toNat c.toNat)) (w.alloc (.cells (madeCells zv.cells (c.toNat*i.size)) e)):=by
  unfold execOp;rw[ho];simp only[(hf.one hx).1,(hf.one hy).1,aI,hr,aG];rfl
 refine⟨_,_,hrun,_,h,ownNew w [u] ow,?_⟩;rw[hd];refine(hf.ahL (.cells (madeCells zv.cells (c.toNat*i.size)) e) [u]).set hu ?_;simp only[SV,V];refine R.newRow hi (fun d hd=>by obtain⟨_,rfl⟩:=nZ.1 hd;rw[hzw2,hsz]) (fun j d hj=> ?_) (by simp) (by omega) (by unfold maxLen;omega) (by simp[madeCells]);have hjn:j<l.toNat:=by have:=(aD.1 hj).1;simpa using this
 obtain rfl:(T e).z=d:=by simpa[hjn]using hj
 refine⟨zv.cells.toList,R.zf hflat,fun k hk=> ?_⟩;have hle:j*i.size+i.size<=c.toNat*i.size:=by rw[←Nat.succ_mul];exact aX _ (by omega)
 have:=aqH (z:=zv.cells) (n:=c.toNat) (s:=i.size) (k:=j*i.size+k) hzw (by omega);simp only[madeCells];rw[this,rE j,Nat.mul_add_mod,jV hk,fO]
end Go.Dv
end
section
namespace Go
def bP:= @List.append_assoc
def xA:= @List.getElem?_range
def rC:= @List.length_drop
def zP:= @List.size_toArray
end Go
end
section
namespace Go.Dv
open Go.RowKit
variable [lL]
def ajG (w:World)(e:TypeId)(size:Nat)(v:Value)(n:Nat)(xs:List Value):Prop:=
 xs.length=n*size/\((v= .slice none 0 0/\n=0)\/∃g cap cur fz,v= .slice (some ⟨g,0,none⟩) n cap/\w.heap[g]?=some (.cells cur e fz)/\alH fz cur.size/\n<=cap/\cap<=maxLen/\cur.size=cap*size/\cur.toList.take (n*size)=xs)
variable {P:Program}{t ty e:TypeId}{i:TypeInfo}{z v:Value}{n:Nat}
def am2 {w:World}(ht:P.underlying t=some (.slice e)) (hi:P.info? e=some i) (hz:i.zero=some z) (hzs:z.cells.size=i.size)
  {xs:List Value}(hown:ajG w e i.size v n xs) (a:Addr) (m c:Nat) (news:List Value) (hl:news.length=m*i.size) (hnews:∀j u,news[j]?=some u->w.cell? (a.add j)=some u) (h1:∀u∈news,u.oneCell'=true)
  (h0:0<m) (h63:n+m<=maxLen) (hbytes:(n+m)*i.bytes<=140737488355328):
  ∃v' w',(Builtin.append_ #[t,t] ty #[v,.slice (some a) m c]).run P w= .ok v' w'/\ajG w' e i.size v' (n+m) (xs++news)/\w.grownBy w' v.ownBlock/\((v'.ownBlock=v.ownBlock/\v.ownBlock≠none)\/v'.ownBlock=some w.heap.size):=by
 have hsmall:n+m<=9223372036854775807:=by simp only[maxLen]at h63;omega
 have hlen:(xs++news).length=(n+m)*i.size:=by rw[aR,hown.1,hl,k_Nat_add_mul]
 have grown:∀(old:Nat),old<n+m->∀(row:Option Nat),
   ajG (w.drew.alloc (.cells (xs.toArray++news.toArray++Builtin.zeroCells z.cells (grownCap w (n+m) old e-(n+m))) e)) e i.size
    (.slice (some ⟨w.heap.size,0,none⟩) (n+m) (grownCap w (n+m) old e)) (n+m) (xs++news)/\
   w.grownBy (w.drew.alloc (.cells (xs.toArray++news.toArray++Builtin.zeroCells z.cells (grownCap w (n+m) old e-(n+m))) e)) row:=by
  intro old ho row;have hge:=grownCap_ge w (n+m) old e;have hcm:grownCap w (n+m) old e<=maxLen:=grownCap_le_maxLen w (n+m) old e h63;refine⟨⟨hlen,.inr ⟨w.heap.size,_,_,(0,0),rfl,heap_alloc_new w.drew _,unfz0 _,hge,hcm,?_,?_⟩⟩,⟨rfl,rfl,rfl,by simp,fun k hk _=>Below.heap_alloc w.drew _ k hk⟩⟩
  ·simp only[Array.size_append,zP,size_zeroCells,hzs,hown.1,hl,←Nat.add_mul];congr 1;omega
  ·simp only[Array.toList_append,bP];rw[←List.append_assoc,←hlen];exact List.take_left
 rcases hown.2 with⟨rfl,rfl⟩|⟨g,cap,cur,fz,rfl,hg,hfz,hnc,hcm,hcs,htake⟩
 ·have hx:xs=[]:=bE (by simpa using hown.1);subst hx;have hr:=run_append_nil (P:=P) w t ty e i z ht hi hz a m c news hl hnews h0 (by omega) (by have hb:=hbytes;simp only[bT]at hb;omega);have hgr:=grown 0 (by omega) (Value.ownBlock (.slice none 0 0));simp only[bT,iV,Array.empty_append]at hgr|-
  exact⟨_,_,hr,hgr.1,hgr.2,.inr rfl⟩
 ·by_cases hroom:n+m<=cap
  ·have hfit:n*i.size+news.length<=cur.size:=by rw[hl,hcs,←Nat.add_mul];exact aX _ hroom
   have hf:=run_firstCells_some (P:=P) w i.size m a m c news hl hnews;have hst:=yR P g (n*i.size) e fz news 0 cur w hg hfz (by simpa using hfit) h1;simp only[kP]at hst
   have hr:(Builtin.append_ #[t,t] ty #[.slice (some ⟨g,0,none⟩) n cap,.slice (some a) m c]).run P w= .ok (.slice (some ⟨g,0,none⟩) (n+m) cap) (w.setRow g (cur.toList.take (n*i.size)++news++cur.toList.drop (n*i.size+news.length)).toArray):=by
    simp[Builtin.append_,run_underlying ht,sizeOf,typeInfo,hi,Builtin.lenOf,hroom,hf,Addr.add_lit,hst]
   refine⟨_,_,hr,⟨hlen,.inr ⟨g,cap,_,fz,rfl,setRow_heap w g cur _ e _ hg,?_,hroom,hcm,?_,?_⟩⟩,⟨rfl,rfl,rfl,by simp,fun k _ hk=>setRow_other w g k _ (fun e=>hk (by simp[Value.ownBlock,e]))⟩,.inl ⟨rfl,by simp[Value.ownBlock]⟩⟩
   ·have:(cur.toList.take (n*i.size)++news++cur.toList.drop (n*i.size+news.length)).toArray.size=cur.size:=by
     simp only[zP,aR,dD,rC,jF];omega
    rw[this];exact hfz
   ·simp only[zP,aR,dD,rC,jF];omega
   ·rw[htake,←hlen];exact List.take_left
  ·have holds:∀j u,xs[j]?=some u->w.cell? ((⟨g,0,none⟩:Addr).add j)=some u:=by
    intro j u hj;rw[xZ,bT,cell_of_row w g j cur e fz hg];rw[←htake,bD]at hj;split at hj
    ·simpa using hj
    ·cases hj
   have hr:=run_append_grow (P:=P) w t ty e i z ht hi hz ⟨g,0,none⟩ n cap xs hown.1 holds a m c news hl hnews (by omega) (by omega) (growslice_fits (by omega) hbytes);have hgr:=grown cap (by omega) (Value.ownBlock (.slice (some ⟨g,0,none⟩) n cap));exact⟨_,_,hr,hgr.1,hgr.2,.inr rfl⟩
def seg (cs:List Value)(j s:Nat):List Value:=(cs.drop (j*s)).take s
variable {ow:Own}{l:List Nat}
def R.aE7 {w:World}{xs:List D}(hi:P.info? e=some i)(h:R P w ow (.sl (some e) xs) l [v]):
  ∃cs,ajG w e i.size v xs.length cs/\(∀j x,xs[j]?=some x->x.w=i.size/\R P w ow x (j::l) (seg cs j i.size))/\(∀b,v.ownBlock=some b->ow b=some l/\b<w.heap.size):=by
 simp only[R]at h;obtain⟨a,cap,hv,hcap,hmax,h4⟩:=h;obtain rfl:v= .slice a xs.length cap:=by simpa using hv
 rcases h4 with⟨rfl,rfl,rfl⟩|⟨h4,_⟩|⟨b,off,s,C,e',fz,rfl,hh,_,hs,hr⟩
 ·exact⟨[],⟨by simp,.inl ⟨rfl,rfl⟩⟩,fun j x hj=>by simp at hj,fun b hb=>by simp[Value.ownBlock]at hb⟩
 ·cases h4
 ·obtain⟨hob,rfl,hfz,rfl,hC,i',hi',hsz⟩:=hs e rfl;rw[hi]at hi';obtain rfl:i=i':=by simpa using hi'
  subst hsz;refine⟨C.toList.take (xs.length*i.size),⟨?_,.inr ⟨b,cap,C,fz,rfl,hh,hfz,hcap,hmax,hC,rfl⟩⟩,fun j x hj=> ?_,fun b' hb'=> ?_⟩
  ·have:xs.length*i.size<=C.size:=by rw[hC];exact aX _ hcap
   simp;omega
  ·obtain⟨hw,C2,e2,fz2,cs,g1,g2,g3⟩:=(Rs.iff hh).1 hr j x hj;rw[hh]at g1;obtain⟨rfl,_⟩:C=C2/\_:=by simpa using g1
   refine⟨hw,?_⟩;have hlen:=g3.len;have hlt:=(aD.1 hj).1;have hle:j*i.size+i.size<=xs.length*i.size:=by rw[←Nat.succ_mul];exact aX _ hlt
   have:seg (C.toList.take (xs.length*i.size)) j i.size=cs:=by
    refine am3 (by omega) fun k hk=> ?_;rw[bD,if_pos (by omega),fO];have:=g2 k (by omega)
    rwa [bT]at this
   rw[this];simpa using g3
  ·simp only[Value.ownBlock,aJ]at hb';subst hb';exact⟨hob,lt_of_heap hh⟩
def R.aKD {w:World}{xs:List D}{cs:List Value}(hi:P.info? e=some i)(h:ajG w e i.size v xs.length cs)(hx:∀j x,xs[j]?=some x->x.w=i.size/\R P w ow x (j::l) (seg cs j i.size))(hb:∀b,v.ownBlock=some b->ow b=some l):
  R P w ow (.sl (some e) xs) l [v]:=by
 simp only[R];rcases h.2 with⟨rfl,h0⟩|⟨g,cap,C,fz,rfl,hh,hfz,hnc,hcm,hC,htake⟩
 ·have:xs=[]:=bE h0;subst this;exact⟨none,0,rfl,k_Nat_le_refl _,by simp[maxLen],.inl ⟨rfl,rfl,rfl⟩⟩
 ·refine⟨some ⟨g,0,none⟩,cap,rfl,hnc,hcm,.inr (.inr ⟨g,0,i.size,C,e,fz,rfl,hh,(fun h=>by cases h),?_,?_⟩)⟩
  ·intro t ht;obtain rfl:e=t:=by simpa using ht
   exact⟨hb g rfl,rfl,hfz,rfl,hC,i,hi,rfl⟩
  ·refine(Rs.iff hh).2 fun j x hj=> ?_;obtain⟨hw,hr⟩:=hx j x hj;have hlt:=(aD.1 hj).1;have hle:j*i.size+i.size<=xs.length*i.size:=by rw[←Nat.succ_mul];exact aX _ hlt
   refine⟨hw,C,e,fz,seg cs j i.size,hh,fun k hk=> ?_,by simpa using hr⟩;rw[bT,←htake];simp only[seg,bD,dX];rw[if_pos (by omega),if_pos (by omega),fO]
structure aw4 (P:Program) (w:World) (ow:Own) (e:TypeId) (i:TypeInfo) (ys:List D) (n u:Nat) (v:Value):Prop where
 hdr:∃a cap,v= .slice a ys.length cap/\(a=none->ys=[])
 el:∀j y,ys[j]?=some y->y.w=i.size/\∃cs,cs.length=i.size/\R P w ow y [n+j,u] cs/\∀a cap,v= .slice (some a) ys.length cap->∀k c,cs[k]?=some c->w.cell? (a.add (j*i.size+k))=some c
variable {ys:List D}{u:Nat}
def aw4.cells {w:World}(h:aw4 P w ow e i ys n u v)(hs:0<i.size):∃cs:List Value,cs.length=ys.length*i.size/\(∀c∈cs,c.oneCell'=true)/\(∀j y,ys[j]?=some y->R P w ow y [n+j,u] (seg cs j i.size))/\
  ∀a cap,v= .slice (some a) ys.length cap->∀k c,cs[k]?=some c->w.cell? (a.add k)=some c:=by
 have hel:=h.el
 have hch:∀j,∃cs:List Value,∀y,ys[j]?=some y->cs.length=i.size/\R P w ow y [n+j,u] cs/\∀a cap,v= .slice (some a) ys.length cap->∀k c,cs[k]?=some c->w.cell? (a.add (j*i.size+k))=some c:=by
  intro j;cases hy:ys[j]? with
  |none=>exact⟨[],fun y h=>by cases h⟩
  |some y=>
   obtain⟨_,cs,h1,h2,h3⟩:=hel j y hy
   exact⟨cs,fun y' hy'=>by obtain rfl:y=y':=by simpa using hy'
                           exact⟨h1,h2,h3⟩⟩
 obtain⟨f,hf⟩:=Classical.axiomOfChoice hch;refine⟨(List.range (ys.length*i.size)).map fun k=>(f (k/i.size))[k % i.size]!,by simp,?_,?_,?_⟩
 all_goals
  have key:∀k,k<ys.length*i.size->∃y,ys[k/i.size]?=some y/\k % i.size<(f (k/i.size)).length:=by
   intro k hk;have h1:k/i.size<ys.length:=by rw[Nat.div_lt_iff_lt_mul hs];exact hk
   refine⟨ys[k/i.size],by simp[h1],?_⟩;rw[(hf (k/i.size) _ (by simp[h1];rfl)).1];exact Nat.mod_lt _ hs
 ·intro c hc;obtain⟨k,hk,rfl⟩:=dG.1 hc;obtain⟨y,hy,hlt⟩:=key k (by simpa using hk);rw[getElem!_pos (f (k/i.size)) (k % i.size) hlt];exact(hf _ y hy).2.1.QW _ (List.getElem_mem hlt)
 ·intro j y hy;obtain⟨h1,h2,_⟩:=hf j y hy;have hlt:=(aD.1 hy).1;have hle:j*i.size+i.size<=ys.length*i.size:=by rw[←Nat.succ_mul];exact aX _ hlt
  have:seg ((List.range (ys.length*i.size)).map fun k=>(f (k/i.size))[k % i.size]!) j i.size=f j:=by
   refine am3 h1 fun k hk=> ?_;rw[aS,xA (by omega)];simp only[dA];have e1:(j*i.size+k)/i.size=j:=by rw[rE,Nat.mul_add_div hs,Nat.div_eq_of_lt hk,kP]
   have e2:(j*i.size+k) % i.size=k:=by rw[rE,Nat.mul_add_mod,jV hk]
   rw[e1,e2,getElem!_pos (f j) k (by omega),aB (by omega)]
  rw[this];exact h2
 ·intro a cap hv k c hk;have hlt:k<ys.length*i.size:=by have:=(aD.1 hk).1;simpa using this
  obtain⟨y,hy,hlt2⟩:=key k hlt;rw[aS,xA hlt]at hk;simp only[dA,aJ]at hk;rw[getElem!_pos (f (k/i.size)) (k % i.size) hlt2]at hk;have:=(hf _ y hy).2.2 a cap hv (k % i.size) c (by rw[aB hlt2,hk])
  rwa [rE,Nat.div_add_mod]at this
variable {c1 c2:List Value}{j:Nat}
def aES {s:Nat}(hl:c1.length=n*s)(hj:j<n):seg (c1++c2) j s=seg c1 j s:=by
 have hle:j*s+s<=n*s:=by rw[←Nat.succ_mul];exact aX _ hj
 refine aER fun k hk=> ?_;rw[bA (by omega)]
def azK {s:Nat}(hl:c1.length=n*s)(hj:n<=j):seg (c1++c2) j s=seg c2 (j-n) s:=by
 have hle:n*s<=j*s:=aX _ hj;simp only[seg];rw[qZ,bX (by omega),iV,hl,Nat.sub_mul]
def aeE {w:World}{xs:List Value}(ht:P.underlying t=some (.slice e))(hi:P.info? e=some i)(hown:ajG w e i.size v n xs)(a:Option Addr)(c:Nat):
  (Builtin.append_ #[t,t] ty #[v,.slice a 0 c]).run P w= .ok v w:=by
 have hl:∀ad:Addr,(loadCells ad 0).run P w= .ok #[] w:=fun ad=>rfl;rcases hown.2 with⟨rfl,rfl⟩|⟨g,cap,cur,fz,rfl,_,_,hnc,_⟩
 ·cases a<;>simp[Builtin.append_,run_underlying ht,sizeOf,typeInfo,hi,Builtin.lenOf,Builtin.firstCells,hl]
 ·cases a<;>simp[Builtin.append_,run_underlying ht,sizeOf,typeInfo,hi,Builtin.lenOf,Builtin.firstCells,hnc,storeCells,hl]
variable {w0:World}{ow0:Own}{s:St}{a:Act}
def Fits.append {w:World}{xs:List D}{v1 v2:Value}(h:Fits P n w0 ow0 ow s a w) (hu:u<n) (ht:P.underlying t=some (.slice e)) (hi:P.info? e=some i) (hz:i.zero=some z) (hzs:z.cells.size=i.size) (hby:i.bytes<=4096)
  (hs:0<i.size) (h1:R P w ow (.sl (some e) xs) [u] [v1]) (h2:aw4 P w ow e i ys xs.length u v2) (hlen:xs.length+ys.length<=1073741824):
  ∃v' w',(Builtin.append_ #[t,t] ty #[v1,v2]).run P w= .ok v' w'/\∃ow',Fits P n w0 ow0 ow' ((s.kill u).put u (.own (.sl (some e) (xs++ys)))) (a.put (some u) v') w':=by
 obtain⟨cs1,hown,hx1,hblk⟩:=h1.aE7 hi;obtain⟨a2,c2,hv2,hnil⟩:=h2.hdr;rcases lH ys.length with h0|h0
 ·have hys:ys=[]:=bE h0;subst hys
  have hr:(Builtin.append_ #[t,t] ty #[v1,v2]).run P w= .ok v1 w:=by
   rw[hv2];exact aeE ht hi hown a2 c2
  refine⟨v1,w,hr,ow,?_⟩;rw[dW];exact(h.kill u).put hu (by simp[St.kill,S.fJ]) h1
 ·obtain⟨ad,rfl⟩:∃ad,a2=some ad:=by
   cases a2 with
   |none=>have:=hnil rfl;subst this;simp at h0
   |some ad=>exact⟨ad,rfl⟩
  obtain⟨cs2,g1,g2,g3,g4⟩:=h2.cells hs;have g4':=g4 ad c2 hv2
  have hbytes:(xs.length+ys.length)*i.bytes<=140737488355328:=by
   have:(xs.length+ys.length)*i.bytes<=1073741824*4096:=Nat.mul_le_mul hlen hby
   omega
  have h63:xs.length+ys.length<=maxLen:=by unfold maxLen;omega
  obtain⟨v',w',hrun,hown',hgrow,hb'⟩:=am2 (P:=P) (ty:=ty) ht hi hz hzs hown ad ys.length c2 cs2 g1 g4' g2 h0 h63 hbytes;rw[hv2];refine⟨v',w',hrun,fun b=>if v'.ownBlock=some b then some [u]else ow b,?_⟩
  have hsame:∀b,b<w.heap.size->ow b≠some [u]->w'.heap[b]?=w.heap[b]?/\(if v'.ownBlock=some b then some [u]else ow b)=ow b:=by
   intro b hb hne;refine⟨hgrow.block b hb fun e=>hne (hblk b e.symm).1,?_⟩;rw[if_neg];intro e;rcases hb' with⟨h3,_⟩|h3
   ·exact hne (hblk b (h3▸e)).1
   ·rw[h3]at e;injection e with e;omega
  have hsame2:∀b,b<w.heap.size->(if v'.ownBlock=some b then some [u]else ow b)=ow b:=by
   intro b hb;split
   ·rename_i e;rcases hb' with⟨h3,_⟩|h3
    ·exact(hblk b (h3▸e)).1.symm
    ·rw[h3]at e;injection e with e;omega
   ·rfl
  have hk:=h.kill u
  have hf:Fits P n w0 ow0 (fun b=>if v'.ownBlock=some b then some [u]else ow b) (s.kill u) a w':=by
   refine hk.change hk.nodef hk.size hgrow.os hgrow.tape hgrow.output hgrow.size (fun b hb ho=> ?_) (fun b hb=> ?_) (fun j=>j=u) ?_ ?_ ?_ (fun e=>by have:=h.small;unfold far0 at e;omega)
   ·obtain⟨e1,e2⟩:=hsame b hb (by rw[ho];simp);exact⟨e1,e2.trans ho⟩
   ·rw[if_neg]
    ·exact h.new b (k_Nat_le_trans hgrow.size hb)
    ·intro e
     have:b<w'.heap.size:=by
      rcases hown'.2 with⟨h3,_⟩|⟨g,cap,cur,fz,h3,h4,_⟩
      ·rw[h3]at e;cases e
      ·rw[h3]at e;simp[Value.ownBlock]at e;subst e;exact lt_of_heap h4
     omega
   ·intro j hj b hb q hq
    have hne:ow b≠some [u]:=by
     rw[hq];intro e;have:=congrArg List.getLast? (k_Option_some_inj e);simp at this;exact hj this
    obtain⟨e1,e2⟩:=hsame b hb hne;exact⟨e1,e2.trans hq⟩
   ·intro i' hi';refine⟨rfl,.inr ⟨rfl,fun j hj=> ?_⟩⟩;rcases vH s u i' with h3|⟨h3,_,h4⟩
    ·rw[h3]at hj;cases hj
    ·rw[h3]at hj;exact⟨fun e=>h4 (e▸hj),rfl⟩
   ·rintro i' rfl;simp[St.kill,SV]
  refine hf.put hu (by simp[St.kill,S.fJ]) ?_;simp only[SV,V];refine R.aKD (cs:=cs1++cs2) hi (by rw[aR];exact hown') (fun j x hj=> ?_) (fun b hb=>by simp[hb])
  have hkeep:∀q0,Keeps w ow (q0::[u]) w' (fun b=>if v'.ownBlock=some b then some [u]else ow b) (q0::[u]):=by
   intro q0 b hb;refine⟨fun ho=> ?_,fun q hq=> ?_⟩
   ·obtain⟨e1,e2⟩:=hsame b hb (by rw[ho];simp);exact⟨e1,e2.trans ho⟩
   ·have hne:ow b≠some [u]:=by
     rw[hq];intro e;have:=congrArg List.length (k_Option_some_inj e);simp at this
    obtain⟨e1,e2⟩:=hsame b hb hne;exact⟨e1,e2.trans hq⟩
  by_cases hjn:j<xs.length
  ·rw[bA hjn]at hj;obtain⟨e1,e2⟩:=hx1 j x hj;refine⟨e1,?_⟩;rw[aES hown.1 hjn];exact e2.tr (hkeep j)
  ·rw[aN (by omega)]at hj;obtain⟨e1,_⟩:=h2.el _ x hj;refine⟨e1,?_⟩;rw[azK hown.1 (by omega)];have:=g3 _ x hj;rw[show xs.length+(j-xs.length)=j from by omega]at this;exact this.tr (hkeep j)
def IE (y u n:Nat)(ow:Own):Own:=fun b=>match ow b with
 |none=>none
 |some l=>if l.getLast?=some y then(match l.dropLast.getLast? with|some j=>some (l.dropLast.dropLast++[n+j,u])|none=>none)else some l
variable {y b:Nat}
def IG (h:ow b=none):IE y u n ow b=none:=by simp[IE,h]
variable {q:List Nat}
def aq9 (h:ow b=some (q++[j,y])):IE y u n ow b=some (q++[n+j,u]):=by
 have e:q++[j,y]=(q++[j])++[y]:=by simp
 simp only[IE,h];rw[e];simp
def aaL (h:ow b=some (q++[j]))(hj:j≠y):IE y u n ow b=some (q++[j]):=by
 simp[IE,h,hj]
def Fits.aMF {w:World}(h:Fits P n w0 ow0 ow s a w)(y u m:Nat)(hy:y≠far0):Fits P n w0 ow0 (IE y u m ow) (s.kill y) a w:=by
 refine h.change h.nodef h.size rfl rfl rfl (k_Nat_le_refl _) (fun b _ ho=>⟨rfl,IG ho⟩) (fun b hb=>IG (h.new b hb)) (fun j=>j=y) ?_ ?_ ?_ (fun e=>hy e.symm)
 ·intro j hj b _ q hq;exact⟨rfl,aaL hq hj⟩
 ·intro i hi;refine⟨rfl,?_⟩;rcases vH s y i with h1|⟨h1,_,h2⟩
  ·exact .inl h1
  ·right;refine⟨h1,fun j hj=> ?_⟩;have hjr:j≠y:=by rintro rfl;exact h2 hj
   exact⟨hjr,uF ((h.slot i).root hj) hjr⟩
 ·rintro i rfl;simp[St.kill,SV]
variable {o:Option TypeId}
def R.aFM {w:World}{s:Nat}(h:R P w ow (.sl o ys) l [v])(hw:∀y∈ys,y.w=s){y:D}(hj:ys[j]?=some y):
  ∃cs,cs.length=s/\R P w ow y (j::l) cs/\∀a cap,v= .slice (some a) ys.length cap->∀k c,cs[k]?=some c->w.cell? (a.add (j*s+k))=some c:=by
 have hys:=hw y (aA hj);obtain⟨b,off,cap,h1,h2⟩:=h.elem hj;obtain⟨_,hL,_,_⟩:=h.into h2;obtain⟨cs,hl,hrange,hr⟩:=hL.range;refine⟨cs,by rw[hl,hys],hr,fun a cap' ha k c hk=> ?_⟩;rw[h1]at ha;obtain⟨rfl,_⟩:(⟨b,off,none⟩:Addr)=a/\_:=by simpa using ha
 rw[xZ,←Nat.add_assoc,←hys];exact hrange k c hk
def R.amG {w:World}{xs:List D}(h:R P w ow (.sl o xs) l [v]):∃a cap,v= .slice a xs.length cap/\(a=none->xs=[]):=by
 simp only[R]at h;obtain⟨a,cap,hv,h1,h2,h4⟩:=h;refine⟨a,cap,by simpa using hv,fun ha=> ?_⟩;rcases h4 with⟨_,h4,_⟩|⟨_,h4⟩|⟨b,off,s,C,e,fz,hab,_⟩
 ·exact h4
 ·exact h4
 ·rw[ha]at hab;cases hab
def rowOf (e:TypeId):D->Option (List D)
 | .sl (some e') xs=>if e'=e then some xs else none
 | .one (.slice none 0 0)=>some []
 |_=>none
def aH9 {w:World}{d:D}{xs:List D}(hd:rowOf e d=some xs)(h:V P w ow d l v):R P w ow (.sl (some e) xs) l [v]:=by
 unfold rowOf at hd;split at hd
 ·split at hd
  ·rename_i he;subst he;obtain rfl:_=xs:=by simpa using hd
   exact h
  ·cases hd
 ·obtain rfl:[]=xs:=by simpa using hd
  simp only[V,R]at h;have:v= .slice none 0 0:=by simpa using h.1
  subst this;simp only[R];exact⟨none,0,rfl,k_Nat_le_refl _,by simp[maxLen],.inl ⟨rfl,trivial,rfl⟩⟩
 ·cases hd
def TS (e:TypeId)(ew u:Nat)(x y:Operand)(s:St)(K:St->Prop):Prop:=
 (srcOf s (slotOf x) (evS s x)).from≠some u/\match rowOf e (srcOf s (slotOf x) (evS s x)).data with
 |none=>False
 |some xs=>match evS ((srcOf s (slotOf x) (evS s x)).st s) y with
  | .own (.sl (some e') ys)=>e'=e/\slotOf y≠u/\xs.length+ys.length<=1073741824/\K (((((srcOf s (slotOf x) (evS s x)).st s).kill (slotOf y)).kill u).put u (.own (.sl (some e) (xs++ys))))
  |z=>match asSl ((srcOf s (slotOf x) (evS s x)).st s) (slotOf y) z with
   | .fr ys=>ys.all (fun d=>d.w==ew)=true/\xs.length+ys.length<=1073741824/\K ((((srcOf s (slotOf x) (evS s x)).st s).kill u).put u (.own (.sl (some e) (xs++D.fzs ys))))
   | .nd _ _ ys=>D.xU ys=true/\ys.all (fun d=>d.w==ew)=true/\xs.length+ys.length<=1073741824/\K ((((srcOf s (slotOf x) (evS s x)).st s).kill u).put u (.own (.sl (some e) (xs++ys))))
   | .no=>False
def ayX {T:TypeId->TyE}{o:Oper}{K:St->Prop}{x y:Operand}(hG:∀t,Good P T t) (ht:P.underlying t=some (.slice e)) (he:(T e).ok=true) (hw0:0<(T e).w)
  (ho:o.op= .call {callee:= .builtin .append,args:= #[x,y],argTypes:= #[t,t]}) (hd:o.dst=some u) (hu:u<n) (h:TS e (T e).w u x y s K):Ok P n w0 ow0 o s K:=by
 refine iI fun a w ow hf=> ?_;obtain⟨_,i,zv,hi,hsz,hz,hflat,_,hz2,hby,hzw2⟩:=(hG e).of (TyE.PR he);have hzw:zv.cells.size=i.size:=by have:=(R.zf (P:=P) (w:=w) (ow:=ow) (l:=[]) hflat).len;rw[hsz,←hzw2];simpa using this
 obtain⟨hfrom,h⟩:=h;cases hrow:rowOf e (srcOf s (slotOf x) (evS s x)).data with
 |none=>rw[hrow]at h;exact h.elim
 |some xs=>
  rw[hrow]at h;simp only at h;have hno:srcOf s (slotOf x) (evS s x)≠ .no:=by intro e';rw[e']at hrow;simp[Src.data,rowOf]at hrow
  obtain⟨ow1,g1,g2,_⟩:=hf.src x [u] _ rfl hno;have hR1:=aH9 hrow g2
  have run:∀{v' w'},(Builtin.append_ #[t,t] o.type #[a.eval x,a.eval y]).run P w= .ok v' w'->(execOp a.eval o).run P w= .ok (.value v') w':=by
   intro v' w' hr;unfold execOp;simp only[ho,resolve,invoke,builtin,aI,aU,aG,List.map_toArray,fI,List.map_nil,hr]
  have pos:0<i.size:=by rw[hsz];exact hw0
  generalize hs1:(srcOf s (slotOf x) (evS s x)).st s=s1 at h g1;split at h
  ·rename_i e' ys hy;obtain⟨rfl,hyu,hlen,hK⟩:=h;have hsy:=pE hy (.inl rfl);have hey:=vO g1.size g1.small hy (.inl rfl);have hVy:=g1.slot (slotOf y);rw[hsy]at hVy;simp only[SV,V]at hVy;have g3:=g1.aMF (slotOf y) u xs.length (fun e=>by rw[e,g1.far]at hsy;cases hsy);obtain⟨cs,hown,hel,_⟩:=hVy.aE7 hi
   have hw:∀d∈ys,d.w=i.size:=fun d hd=>by
    obtain⟨j,hj⟩:=List.mem_iff_getElem?.1 hd;exact(hel j d hj).1
   have hk1:Keeps w ow1 [u] w (IE (slotOf y) u xs.length ow1) [u]:=fun b _=>⟨fun ho=>⟨rfl,IG ho⟩,fun q hq=>⟨rfl,aaL hq (k_Ne_symm hyu)⟩⟩
   have hN:aw4 P w (IE (slotOf y) u xs.length ow1) e' i ys xs.length u (a.eval y):=by
    rw[hey];refine⟨hVy.amG,fun j d hj=> ?_⟩;obtain⟨cs,k1,k2,k3⟩:=hVy.aFM hw hj;refine⟨hw d (aA hj),cs,k1,?_,k3⟩;exact k2.tr fun b _=>⟨fun ho=>⟨rfl,IG ho⟩,fun q hq=>⟨rfl,aq9 hq⟩⟩
   obtain⟨v',w',hr,ow',hfit⟩:=g3.append (ty:=o.type) hu ht hi hz hzw hby pos (hR1.tr hk1) hN hlen;exact⟨v',w',run hr,_,hK,ow',by rw[hd];exact hfit⟩
  ·rename_i z hz1 hz3;have hsl:=g1.asSl y;generalize hzz:asSl s1 (slotOf y) (evS s1 y)=zz at h hsl;cases zz with
   |no=>exact h.elim
   |fr ys=>
    obtain⟨hall,hlen,hK⟩:=h;simp only[BV]at hsl
    have hw:∀d∈D.fzs ys,d.w=i.size:=fun d hd=>by
     rw[D.jS]at hd;obtain⟨d',hd',rfl⟩:=dG.1 hd;rw[D.amA,hsz];simpa using aH.1 hall d' hd'
    have hN:aw4 P w ow1 e i (D.fzs ys) xs.length u (a.eval y):=by
     refine⟨hsl.amG,fun j d hj=> ?_⟩;obtain⟨cs,k1,k2,k3⟩:=hsl.aFM hw hj;refine⟨hw d (aA hj),cs,k1,?_,k3⟩;rw[D.jS]at hj;obtain⟨d',_,rfl⟩:=by simpa using hj
     exact R.trf (fun b _ hb=>⟨rfl,hb⟩) k2
    obtain⟨v',w',hr,ow',hfit⟩:=g1.append (ty:=o.type) hu ht hi hz hzw hby pos hR1 hN (by rw[D.jS,aQ];exact hlen);exact⟨v',w',run hr,_,hK,ow',by rw[hd];exact hfit⟩
   |nd r p ys=>
    obtain⟨hfr,hall,hlen,hK⟩:=h;obtain⟨d0,o0,_,_,hsl,_⟩:=hsl
    have hw:∀d∈ys,d.w=i.size:=fun d hd=>by
     rw[hsz];simpa using aH.1 hall d hd
    have hN:aw4 P w ow1 e i ys xs.length u (a.eval y):=by
     refine⟨hsl.amG,fun j d hj=> ?_⟩;obtain⟨cs,k1,k2,k3⟩:=hsl.aFM hw hj;refine⟨hw d (aA hj),cs,k1,?_,k3⟩
     have hdf:d.fz=d:=by
      have:=D.R6 hfr;rw[D.jS]at this;have h2:=congrArg (·[j]?) this;simp[hj]at h2;exact h2
     rw[←hdf]at k2|-
     exact R.trf (fun b _ hb=>⟨rfl,hb⟩) k2
    obtain⟨v',w',hr,ow',hfit⟩:=g1.append (ty:=o.type) hu ht hi hz hzw hby pos hR1 hN hlen;exact⟨v',w',run hr,_,hK,ow',by rw[hd];exact hfit⟩
end Go.Dv
end
section
namespace Go
def iO:= @Classical.choose_spec
def bC:= @List.mem_cons_of_mem
def uE:= @Oper.wp_mono
def nP:= @Option.bind_some
end Go
end
section
namespace Go.Dv
open Go.RowKit
variable [lL]
abbrev Pin:=Option (Nat×Value)
def Pinned (p:Pin)(a:Act):Prop:=∀m v,p=some (m,v)->a.tmps.getD m undef=v
def sU (p:Pin)(o:Oper):Bool:=match p with
 |none=>true
 |some (m,_)=>o.dst !=some m
def qC (p:Pin)(ops:List Oper):Bool:=match p with
 |none=>true
 |some (m,_)=>ops.all fun o=>o.dst !=some m
def qC.one {p:Pin}{ops:List Oper}(h:qC p ops=true):∀o∈ops,sU p o=true:=by
 intro o ho;cases p with
 |none=>rfl
 |some q=>exact aH.1 h o ho
variable {a:Act}{v:Value}
def azG {d:Option Nat}{m:Nat}(h:d≠some m):(a.put d v).tmps.getD m undef=a.tmps.getD m undef:=by
 cases d with
 |none=>rfl
 |some d=>
  have hne:d≠m:=fun e=>h (by rw[e]);simp[Act.put,aF,hne]
variable {o:Oper}
def Pinned.put {p:Pin}(h:Pinned p a)(hd:sU p o=true):Pinned p (a.put o.dst v):=by
 intro m u hp;subst hp;simp only[sU,bne_iff_ne,ne_eq]at hd;rw[azG hd];exact h m u rfl
def ab7 {P:Program}{p:Pin}{w:World}{next:Act->World->Prop}{Q:Exit->Act->World->Prop}(hp:Pinned p a)(hd:sU p o=true)(h:o.wp P a w next Q):o.wp P a w (fun a' w'=>next a' w'/\Pinned p a') Q:=by
 unfold Oper.wp at*
 generalize(execOp a.eval o).run P w=r at*
 cases r with
 |ok nx w'=>
  cases nx<;>simp only[Oper.upon]at h⊢<;>
   first
    |exact⟨h,hp.put hd⟩
    |exact⟨h,Pinned.put (a:={a with defers:=_}) hp hd⟩
    |exact Calls.mono h (fun e w'' he=>by cases e<;>first|exact⟨he,hp.put hd⟩|exact he)
    |exact Rows.mono h (fun _ _ he=>⟨he,hp.put hd⟩)
 |halt x w'=>cases x<;>simp only[Oper.upon]at h⊢<;>exact h
def OkC (P:Program)(n:Nat)(w0:World)(ow0:Own)(p:Pin)(c:Code)(s:St)(K:Exit->St->Prop):Prop:=
 ∀a w,Rel P n w0 ow0 s a w->Pinned p a->∀Q:Exit->Act->World->Prop,(∀e s' a' w',K e s'->Rel P n w0 ow0 s' a' w'->Pinned p a'->Q e a' w')->c.wp P Q a w
def thenK (N:St->Prop)(K:Exit->St->Prop):Exit->St->Prop
 | .normal,s=>N s
 |e,s=>K e s
def blockK (id:Nat)(K:Exit->St->Prop):Exit->St->Prop
 | .exit id',s=>if id'=id then K .normal s else K (.exit id') s
 |e,s=>K e s
variable {ops:Array Oper}
variable {c:Code}
variable {x y:Code}
section
variable {P:Program}{n:Nat}{w0:World}{ow0:Own}{p:Pin}{s:St}{K:Exit->St->Prop}
def aDV (h:K .normal s):OkC P n w0 ow0 p .skip s K:=fun a w hR hp Q hQ=>wp_skip (hQ _ _ _ _ h hR hp)
def aHP (h:K .ret s):OkC P n w0 ow0 p .ret s K:=fun a w hR hp Q hQ=>wp_ret (hQ _ _ _ _ h hR hp)
def aDU {id:Nat}(h:K (.exit id) s):OkC P n w0 ow0 p (.exit id) s K:=fun a w hR hp Q hQ=>wp_exit (hQ _ _ _ _ h hR hp)
def ayW {l:Nat}(h:K .normal s):OkC P n w0 ow0 p (.label l) s K:=fun a w hR hp Q hQ=>wp_label (hQ _ _ _ _ h hR hp)
def amT (h:OkC P n w0 ow0 p x s (thenK (fun s'=>OkC P n w0 ow0 p y s' K) K)):OkC P n w0 ow0 p (.seq x y) s K:=fun a w hR hp Q hQ=>
 wp_seq (h a w hR hp _ fun e s' a' w' hK hR' hp'=>by cases e<;>first|exact hK a' w' hR' hp' Q hQ|exact hQ _ _ _ _ hK hR' hp')
def akQ {id:Nat}(h:OkC P n w0 ow0 p c s (blockK id K)):OkC P n w0 ow0 p (.block id c) s K:=fun a w hR hp Q hQ=>
 wp_block (h a w hR hp _ fun e s' a' w' hK hR' hp'=>by
  cases e with
  |exit id'=>
   simp only[blockK]at hK;simp only[Exit.inBlock];split
   ·rename_i hid;rw[if_pos hid]at hK;exact hQ _ _ _ _ hK hR' hp'
   ·rename_i hid;rw[if_neg hid]at hK;exact hQ _ _ _ _ hK hR' hp'
  |_=>exact hQ _ _ _ _ hK hR' hp')
def aDS {c:Operand}(h:oneK (evS s c) fun v=>match v with| .bool b=>(b=true->OkC P n w0 ow0 p x s K)/\(b=false->OkC P n w0 ow0 p y s K)|_=>False):OkC P n w0 ow0 p (.cond c x y) s K:=fun a w hR hp Q hQ=>by
 obtain⟨v,hv,h⟩:=eY h;split at h
 rotate_left
 ·exact h.elim
 obtain⟨h1,h2⟩:=h;obtain⟨ow,hf⟩:=hR;have hc:=(hf.one hv).1;exact wp_cond_split hc (fun hb=>h1 hb a w ⟨ow,hf⟩ hp Q hQ) (fun hb=>h2 hb a w ⟨ow,hf⟩ hp Q hQ)
def SI {K':Exit->St->Prop}(h:OkC P n w0 ow0 p c s K)(hk:∀e s',K e s'->K' e s'):OkC P n w0 ow0 p c s K':=fun a w hR hp Q hQ=>h a w hR hp Q fun e s' a' w' hK hR' hp'=>hQ e s' a' w' (hk _ _ hK) hR' hp'
def vQ (P:Program)(n:Nat)(s' s:St):Prop:=∀w0 ow0 a w,Rel P n w0 ow0 s' a w->Rel P n w0 ow0 s a w
def vQ.rel {s':St}{w:World}(h:vQ P n s' s)(hR:Rel P n w0 ow0 s' a w):Rel P n w0 ow0 s a w:=h _ _ _ _ hR
def vQ.refl (s:St):vQ P n s s:=fun _ _ _ _ h=>h
def vQ.trans {s1 s2 s3:St}(h:vQ P n s1 s2)(h':vQ P n s2 s3):vQ P n s1 s3:=fun _ _ _ _ hR=>h' _ _ _ _ (h _ _ _ _ hR)
def UG {s':St}(h:OkC P n w0 ow0 p c s K)(ht:vQ P n s' s):OkC P n w0 ow0 p c s' K:=fun a w hR hp=>h a w (ht.rel hR) hp
def least {S:Nat->Prop}(h:∃N,S N):∃N,S N/\∀M,S M->N<=M:=by
 obtain⟨N,hN⟩:=h
 induction N using Nat.strongRecOn with
 |_ N ih=>
  by_cases h:∃M,M<N/\S M
  ·obtain⟨M,h1,h2⟩:=h;exact ih M h1 h2
  ·exact⟨N,hN,fun M hM=>Nat.le_of_not_lt fun hlt=>h ⟨M,hlt,hM⟩⟩
open Classical in
noncomputable def leastOf (S:Nat->Prop):Nat:=if h:∃N,S N then Classical.choose (least h)else 0
def leastOf_spec {S:Nat->Prop}(h:∃N,S N):S (leastOf S)/\∀M,S M->leastOf S<=M:=by
 unfold leastOf;rw[dif_pos h];exact iO (least h)
def aqY {X:Type}(I:X->St) (μ:X->Nat) (ok:X->Prop) (x0:X) (hx:ok x0) (h0:vQ P n s (I x0))
  (round:∀x,ok x->OkC P n w0 ow0 p c (I x) (thenK (fun s'=>∃y,ok y/\μ y<μ x/\vQ P n s' (I y)) K)):OkC P n w0 ow0 p (.loop c) s K:=fun a w hR hp Q hQ=>by
 refine wp_loop (fun a w=>∃N x,μ x=N/\ok x/\Rel P n w0 ow0 (I x) a w/\Pinned p a) (fun a w=>leastOf fun N=>∃x,μ x=N/\ok x/\Rel P n w0 ow0 (I x) a w/\Pinned p a) ⟨_,x0,rfl,hx,h0.rel hR,hp⟩ fun a w hI=> ?_;obtain⟨⟨x,hN,hok,hR,hp⟩,_⟩:=leastOf_spec hI;refine round x hok a w hR hp _ fun e s' a' w' hK hR' hp'=> ?_;cases e with
 |normal=>
  obtain⟨y,hy,hlt,ht⟩:=hK;refine⟨⟨_,y,rfl,hy,ht.rel hR',hp'⟩,Nat.lt_of_le_of_lt ((leastOf_spec ⟨_,y,rfl,hy,ht.rel hR',hp'⟩).2 (μ y) ⟨y,rfl,hy,ht.rel hR',hp'⟩) ?_⟩;rw[←hN];exact hlt
 |_=>exact hQ _ _ _ _ hK hR' hp'
def gS (x:S)(b:Bool)(A B:Prop):Prop:=match x with
 | .tup _=>B
 |x=>oneK x fun v=>(v= .bool b->A)/\(v≠ .bool b->B)
def gK (ops:Array Oper)(o:Oper)(s:St)(A B:Prop):Prop:=match o.guard with
 |none=>A
 |some (j,b)=>match(ops[j]?).bind (·.dst)with
  |some t=>gS (s t) b A B
  |none=>B
def aB1 {x:S}{b:Bool}{A B:Prop}(h:gS x b A B):(∃l,x= .tup l/\B)\/∃v,x= .val (.one v)/\(v= .bool b->A)/\(v≠ .bool b->B):=by
 unfold gS at h;split at h
 ·exact .inl ⟨_,rfl,h⟩
 ·exact .inr (eY h)
def aGR {A B A' B':Prop}(h:gK ops o s A B)(hA:A->A')(hB:B->B'):gK ops o s A' B':=by
 unfold gK at*
 split
 ·rename_i hg;simp only[hg]at h;exact hA h
 ·rename_i j b hg;simp only[hg]at h;split
  ·rename_i t ht;simp only[ht]at h;rcases aB1 h with⟨l,h1,h2⟩|⟨v,h1,h2,h3⟩
   ·simp only[h1,gS];exact hB h2
   simp only[h1,gS,oneK];exact⟨fun e=>hA (h2 e),fun e=>hB (h3 e)⟩
  ·rename_i ht;simp only[ht]at h;exact hB h
def TW {A B:Prop}{w:World}(hR:Rel P n w0 ow0 s a w)(h:gK ops o s A B):if Region.wanted o (yielded ops a.tmps)then A else B:=by
 obtain⟨ow,hf⟩:=hR;unfold gK at h;unfold Region.wanted;cases hg:o.guard with
 |none=>rw[hg]at h;exact h
 |some g=>
  obtain⟨j,b⟩:=g;rw[hg]at h;simp only at h|-
  cases ht:(ops[j]?).bind (·.dst)with
  |none=>
   rw[ht]at h;simp only[yielded,ht,Option.bind_none];exact h
  |some t=>
   rw[ht]at h;have hv:=hf.slot t;rcases aB1 h with⟨l,h1,h2⟩|⟨v,h1,h2,h3⟩
   ·rw[h1]at hv;obtain⟨vs,hv1,_⟩:=hv;simp only[yielded,ht,nP];rw[if_neg]
    ·exact h2
    ·unfold aval at hv1;rw[aF]at hv1;intro hx;split at hx
     ·rename_i b' hb';rw[hb']at hv1;split at hv1<;>cases hv1
     ·cases hx
   rw[h1]at hv;simp only[SV,V,D.fz,R]at hv;have hv1:aval a t=v:=by simpa using hv.1
   simp only[yielded,ht,nP]
   have hcase:(∃c,v= .bool c/\a.tmps[t]?=some v)\/((∀c,v≠ .bool c)/\∀c,a.tmps[t]?≠some (.bool c)):=by
    by_cases hlt:t<a.tmps.size
    ·have ht6:t<1000000:=dZ (hf.size▸hlt) hf.small
     have hget:a.tmps[t]?=some v:=by
      unfold aval at hv1;rw[if_pos ht6,aF]at hv1;simp only[iG hlt,Option.getD_some]at hv1|-
      rw[hv1]
     by_cases hb:∃c,v= .bool c
     ·obtain⟨c,hc⟩:=hb;exact .inl ⟨c,hc,hget⟩
     ·refine .inr ⟨fun c e=>hb ⟨c,e⟩,fun c e=>hb ⟨c,?_⟩⟩;rw[hget]at e;exact k_Option_some_inj e
    ·have hno:a.tmps[t]?=none:=Array.getElem?_eq_none (Nat.le_of_not_lt hlt);refine .inr ⟨fun c e=> ?_,fun c e=>by rw[hno]at e;cases e⟩;rw[e]at hv1;unfold aval at hv1;rw[aF,hno]at hv1;split at hv1<;>cases hv1
   rcases hcase with⟨c,rfl,hget⟩|⟨hno,hget⟩
   ·rw[hget];by_cases hcb:c=b
    ·subst hcb;simp only[beq_self_eq_true,if_true];exact h2 rfl
    ·have:(some c==some b)=false:=by simpa using hcb
     simp only[this];exact h3 fun e=>hcb (by simpa using e)
   ·generalize a.tmps[t]?=x at hget;rw[if_neg]
    ·exact h3 (hno b)
    ·intro hx;split at hx
     ·rename_i b';exact hget b' rfl
     ·cases hx
def OkL (P:Program)(n:Nat)(w0:World)(ow0:Own)(ops:Array Oper):List Oper->St->(St->Prop)->Prop
 |[],s,K=>K s
 |o::l,s,K=>gK ops o s (Ok P n w0 ow0 o s fun s'=>OkL P n w0 ow0 ops l s' K) (dstOk n o=true/\OkL P n w0 ow0 ops l (s.jR o.dst (.tup [])) K)
def Fits.aKV {w:World}{ow:Own}(h:Fits P n w0 ow0 ow s a w)(ho:dstOk n o=true):Fits P n w0 ow0 ow (s.jR o.dst (.tup [])) (a.put o.dst undef) w:=by
 cases hd:o.dst with
 |none=>exact h
 |some t=>exact h.set (by simpa[dstOk,hd]using ho) ⟨#[],rfl,rfl,fun k x hx=>by simp at hx⟩
def OkL.wp {Q:Exit->Act->World->Prop}:∀(l:List Oper) (s:St) (K:St->Prop),OkL P n w0 ow0 ops l s K->(∀o∈l,sU p o=true)->∀a w,Rel P n w0 ow0 s a w->Pinned p a->(∀s' a' w',K s'->Rel P n w0 ow0 s' a' w'->Pinned p a'->Q .normal a' w')->wpList P ops Q l a w
 |[],s,K,h,_,a,w,hR,hp,hQ=>hQ s a w h hR hp
 |o::l,s,K,h,hd,a,w,hR,hp,hQ=>by
  have hg:=TW hR h;unfold wpList;split
  ·rename_i hw;rw[if_pos hw]at hg;have h1:=hg a w hR (fun a' w'=>∃s',OkL P n w0 ow0 ops l s' K/\Rel P n w0 ow0 s' a' w') Q fun s' a' w' hK hR'=>⟨s',hK,hR'⟩;exact .inl (uE (fun a' w' hh=>by obtain⟨⟨s',hK,hR'⟩,hp'⟩:=hh;exact OkL.wp l s' K hK (fun o ho=>hd o (bC _ ho)) a' w' hR' hp' hQ) (ab7 hp (hd o (by simp)) h1))
  ·rename_i hw;rw[if_neg hw]at hg;obtain⟨ow,hf⟩:=hR;exact OkL.wp l _ K hg.2 (fun o ho=>hd o (bC _ ho)) _ w ⟨ow,hf.aKV hg.1⟩ (hp.put (hd o (by simp))) hQ
def ahN {id:Nat}(h:OkL P n w0 ow0 ops ops.toList s (fun s'=>K .normal s'))(hd:qC p ops.toList=true):OkC P n w0 ow0 p (.region id ops false) s K:=fun a w hR hp Q hQ=>
 wp_region_list (OkL.wp _ _ _ h (qC.one hd) a w hR hp fun s' a' w' hK hR' hp'=>hQ _ _ _ _ hK hR' hp')
end
end Go.Dv
end
section
namespace Go
def mD:= @List.cons.injEq
end Go
end
section
namespace Go.Dv
open Go.RowKit
variable [lL]
def res0:Nat:=4000001
structure After (w:World) (ow:Own) (w':World) (ow':Own):Prop where
 os:w'.os=w.os
 tape:w'.tape=w.tape
 output:w'.output=w.output
 size:w.heap.size<=w'.heap.size
 old:∀b,b<w.heap.size->w'.heap[b]?=w.heap[b]?/\ow' b=ow b
 new:∀b,w'.heap.size<=b->ow' b=none
def S.plain:S->Bool
 | .al _ _=>false
 | .rf _ _=>false
 | .ag _ _=>false
 |_=>true
def fA (P:Program)(f:FuncId)(ds:List D)(Q:S->Prop):Prop:=
 ∀(w:World) (ow:Own) (vs:Array Value) (t:Nat),t≠far0->Laid w ow->(∀b,w.heap.size<=b->ow b=none)->vs.size=ds.length->(∀(i:Nat) (d:D),ds[i]?=some d->V P w ow d.fz [] (vs.getD i undef))->
  Calls P f vs w fun e w'=>∃v ow' r,e= .returned v/\Q r/\After w ow w' ow'/\S.plain r=true/\∀s a,SV P w' ow' s a t r v
variable {P:Program}
def fA.mono {f:FuncId}{ds:List D}{Q Q':S->Prop}(h:fA P f ds Q)(hq:∀r,Q r->Q' r):fA P f ds Q':=fun w ow vs t ht hL h1 h2 h3=>
 (h w ow vs t ht hL h1 h2 h3).mono fun e w' ⟨v,ow',r,g1,g2,g3⟩=>⟨v,ow',r,g1,hq r g2,g3⟩
def argSt (ds:List D):St:=fun j=>match ds[j]? with
 |some d=> .val d
 |none=> .un
def numb:Nat->List Nat->List (Nat×Operand)
 |_,[]=>[]
 |k,t::ts=>(k,.tmp t)::numb (k+1) ts
def retK (rs:List Nat)(Q:S->Prop)(s:St):Prop:=match rs with
 |[t]=>(srcOf s t (evS s (.tmp t))).from≠some res0/\match srcOf s t (evS s (.tmp t))with
  | .fr d=>Q (.val d)
  | .all r d=>Q (.own d)
  | .nd r p d m=>Q (.own m)
  | .no=>match evS s (.tmp t)with
   | .rp d=>Q (.val (.bx false d))
   |_=>Q .un
 |rs=>PU res0 (numb 0 rs) s fun ds s'=>Q (.tup (ds.map fun p=>if p.2.2 then .val p.2.1 else .own p.2.1))
def endK (rs:List Nat)(Q:S->Prop):Exit->St->Prop
 | .normal,s=>retK rs Q s
 | .ret,s=>retK rs Q s
 |_,_=>False
def Taken.numb {w:World}{ow:Own}{a:Act}{u:Nat}:∀{xs:List (Nat×Operand)}{ds:List (Nat×D×Bool)},Taken P w ow a u xs ds->∀(k:Nat) (rs:List Nat),xs=Dv.numb k rs->
  ds.length=rs.length/\∀(j:Nat) (p:Nat×D×Bool),ds[j]?=some p->∃t,rs[j]?=some t/\k+j=p.1/\V P w ow p.2.1 [p.1,u] (a.tmps.getD t undef)/\(p.2.2=true->p.2.1.fz=p.2.1)
 |[],[],_,k,rs,hx=>by
  cases rs with
  |nil=>exact⟨rfl,fun j p h=>by simp at h⟩
  |cons t ts=>cases hx
 |(i,x)::xs,(j,d,b)::ds,ht,k,rs,hx=>by
  cases rs with
  |nil=>cases hx
  |cons t ts=>
   simp only[Dv.numb,mD,bZ]at hx;obtain⟨⟨rfl,rfl⟩,rfl⟩:=hx;obtain⟨rfl,h1,h2,h3⟩:=ht;obtain⟨g1,g2⟩:=Taken.numb h3 _ ts rfl;refine⟨by simp[g1],fun m p hm=> ?_⟩;cases m with
   |zero=>
    simp at hm;subst hm;exact⟨t,rfl,rfl,h1,h2⟩
   |succ m=>
    simp at hm;obtain⟨t',e1,e2,e3⟩:=g2 m p hm;exact⟨t',by simpa using e1,by omega,e3⟩
 |[],_::_,ht,_,_,_=>ht.elim
 |_::_,[],ht,_,_,_=>ht.elim
def leave (w:World)(ow ow1:Own)(t:Nat):Own:=fun b=>if b<w.heap.size then ow b else match ow1 b with
 |some l=>if l.getLast?=some res0 then some (l.dropLast++[t])else none
 |none=>none
end Go.Dv
end
section
namespace Go
def uD:= @List.map_map
def k_Nat_not_lt:= @Nat.not_lt
end Go
end
section
namespace Go.Dv
open Go.RowKit
variable [lL]
mutual
def D.qO:D->Bool
 | .one _=>true
 | .sl none xs=>xs.isEmpty
 | .sl (some _) xs=>D.nU xs
 | .agg xs=>D.nU xs
 | .bx o x=>o&&x.qO
 | .any _=>true
def D.nU:List D->Bool
 |[]=>true
 |x::xs=>x.qO&&D.nU xs
end
def ab9 (w:World)(ow:Own)(l:List Nat)(w':World)(ow':Own)(l2:List Nat):Prop:=
 ∀b,b<w.heap.size->∀q,ow b=some (q++l)->w'.heap[b]?=w.heap[b]?/\ow' b=some (q++l2)
variable {w':World}{ow ow':Own}{l l2:List Nat}
def ab9.child {w:World}(h:ab9 w ow l w' ow' l2)(i:Nat):ab9 w ow (i::l) w' ow' (i::l2):=fun b hb q hq=>by
 have:=h b hb (q++[i]) (by simpa using hq);simpa using this
mutual
def R.owned {P:Program}{w w':World}{ow ow':Own}:∀{d:D}{l l2:List Nat}{cs:List Value},d.qO=true->ab9 w ow l w' ow' l2->R P w ow d l cs->R P w' ow' d l2 cs
 | .one v,l,l2,cs,_,_,h=>by simpa only[R]using h
 | .sl none xs,l,l2,cs,ha,hk,h=>by
  obtain rfl:xs=[]:=by simpa[D.qO]using ha
  simp only[R]at h|-
  obtain⟨a,cap,h1,h2,h3,_⟩:=h;exact⟨a,cap,h1,h2,h3,.inr (.inl (by trivial))⟩
 | .sl (some t0) xs,l,l2,cs,ha,hk,h=>by
  simp only[R]at h|-
  obtain⟨a,cap,h1,h2,h3,h4⟩:=h;refine⟨a,cap,h1,h2,h3,?_⟩;rcases h4 with h4|h4|⟨b,off,s,C,e,fz,hab,hh,hn,hs,hr⟩
  ·exact .inl h4
  ·exact absurd h4.1 (by simp)
  ·obtain⟨g1,g2⟩:=hk b (lt_of_heap hh) [] (by simpa using(hs t0 rfl).1);refine .inr (.inr ⟨b,off,s,C,e,fz,hab,by rw[g1];exact hh,(fun ho=>by cases ho),fun t ht=>⟨by simpa using g2,(hs t ht).2⟩,Rs.owned ?_ hk hr⟩);simpa[D.qO]using ha
 | .agg xs,l,l2,cs,ha,hk,h=>by simp only[R]at h|-;exact Ra.owned (by simpa[D.qO]using ha) hk h
 | .bx o x,l,l2,cs,ha,hk,h=>by
  simp only[D.qO,k_Bool_and_eq_true]at ha;obtain⟨rfl,ha⟩:=ha;simp only[R]at h|-
  obtain⟨b,off,C,e,fz,cs',h1,hh,hn,hs,hl,hc,hr⟩:=h;obtain⟨g1,g2⟩:=hk b (lt_of_heap hh) [] (by simpa using(hs trivial).1);exact⟨b,off,C,e,fz,cs',h1,by rw[g1];exact hh,(fun ho=>by cases ho),fun _=>⟨by simpa using g2,(hs trivial).2⟩,hl,hc,R.owned ha (hk.child 0) hr⟩
 | .any n,l,l2,cs,_,_,h=>by simpa only[R]using h
def Rs.owned {P:Program}{w w':World}{ow ow':Own}:∀{xs:List D}{l l2:List Nat}{i:Nat}{C:Array Value}{off s:Nat},D.nU xs=true->ab9 w ow l w' ow' l2->Rs P w ow xs l i C off s->Rs P w' ow' xs l2 i C off s
 |[],_,_,_,_,_,_,_,_,_=>by simp only[Rs]
 |x::xs,l,l2,i,C,off,s,ha,hk,h=>by
  simp only[D.nU,k_Bool_and_eq_true]at ha;simp only[Rs]at h|-
  obtain⟨cs,h1,h2,h3,h4,h5⟩:=h;exact⟨cs,h1,h2,h3,R.owned ha.1 (hk.child i) h4,Rs.owned ha.2 hk h5⟩
def Ra.owned {P:Program}{w w':World}{ow ow':Own}:∀{xs:List D}{l l2:List Nat}{i:Nat}{cs:List Value},D.nU xs=true->ab9 w ow l w' ow' l2->Ra P w ow xs l i cs->Ra P w' ow' xs l2 i cs
 |[],_,_,_,_,_,_,h=>by simpa only[Ra]using h
 |x::xs,l,l2,i,cs,ha,hk,h=>by
  simp only[D.nU,k_Bool_and_eq_true]at ha;simp only[Ra]at h|-
  obtain⟨c1,c2,h1,h2,h3,h4⟩:=h;exact⟨c1,c2,h1,h2,R.owned ha.1 (hk.child i) h3,Ra.owned ha.2 hk h4⟩
end
variable {P:Program}{v:Value}
def V.owned {w:World}{d:D}(ha:d.qO=true)(hk:ab9 w ow l w' ow' l2)(h:V P w ow d l v):V P w' ow' d l2 v:=by
 cases d<;>simp only[V]at h|-
 case agg xs=>obtain⟨cs,h1,h2⟩:=h;exact⟨cs,h1,R.owned ha hk h2⟩
 all_goals exact R.owned ha hk h
def S.closed:S->Bool
 | .un=>true
 | .val d=>d.fz.qO
 | .own d=>d.qO
 | .tup l=>l.all fun x=>match x with
  | .val d=>d.fz.qO
  | .own d=>d.qO
  |_=>true
 |_=>false
mutual
def D.W9 {P:Program}{w:World}{ow:Own}:∀{d:D}{l l2:List Nat}{cs:List Value}{w':World}{ow':Own},d.fz.qO=true->R P w ow d.fz l cs->R P w' ow' d.fz l2 cs
 | .one v,l,l2,cs,w',ow',_,h=>by simpa only[R,D.fz]using h
 | .sl o xs,l,l2,cs,w',ow',ha,h=>by
  simp only[D.fz,D.qO]at ha h|-
  have hx:D.fzs xs=[]:=by simpa using ha
  rw[hx]at h|-
  simp only[R]at h|-
  obtain⟨a,cap,h1,h2,h3,_⟩:=h;exact⟨a,cap,h1,h2,h3,.inr (.inl (by trivial))⟩
 | .agg xs,l,l2,cs,w',ow',ha,h=>by
  simp only[D.fz,D.qO,R]at ha h|-
  exact D.avT ha h
 | .bx o x,l,l2,cs,w',ow',ha,h=>by simp[D.fz,D.qO]at ha
 | .any n,l,l2,cs,w',ow',_,h=>by simpa only[R,D.fz]using h
def D.avT {P:Program}{w:World}{ow:Own}:∀{xs:List D}{l l2:List Nat}{i:Nat}{cs:List Value}{w':World}{ow':Own},D.nU (D.fzs xs)=true->Ra P w ow (D.fzs xs) l i cs->Ra P w' ow' (D.fzs xs) l2 i cs
 |[],l,l2,i,cs,w',ow',_,h=>by simpa only[Ra,D.fzs]using h
 |x::xs,l,l2,i,cs,w',ow',ha,h=>by
  simp only[D.fzs,D.nU,k_Bool_and_eq_true,Ra]at ha h|-
  obtain⟨c1,c2,h1,h2,h3,h4⟩:=h;exact⟨c1,c2,h1,h2,D.W9 ha.1 h3,D.avT ha.2 h4⟩
end
variable {α:Type}
def D.QQ (f:α->D):∀l:List α,D.nU (l.map f)=l.all fun x=>(f x).qO
 |[]=>rfl
 |x::l=>by simp only[fI,D.nU,wB,D.QQ f l]
def D.JQ (f:α->D):∀l:List α,D.fzs (l.map f)=l.map fun x=>(f x).fz
 |[]=>rfl
 |x::l=>by simp only[fI,D.fzs,D.JQ f l]
def V.W9 {P:Program}{w w':World}{ow ow':Own}{d:D}{l l2:List Nat}{v:Value}(ha:d.fz.qO=true)(h:V P w ow d.fz l v):V P w' ow' d.fz l2 v:=by
 cases d with
 |agg xs=>
  simp only[V,D.fz]at h|-
  obtain⟨cs,h1,h2⟩:=h;refine⟨cs,h1,?_⟩;have:=D.W9 (d:= .agg xs) (l2:=l2) (w':=w') (ow':=ow') ha (by simpa only[D.fz]using h2);simpa only[D.fz]using this
 |one v=>exact h
 |any n=>exact h
 |sl o xs=>exact D.W9 (d:= .sl o xs) ha h
 |bx o x=>exact D.W9 (d:= .bx o x) ha h
variable {s:St}{a:Act}
def SV.closed {w:World}{s':St}{a':Act}{t:Nat}{r:S}(hc:r.closed=true)(hk:ab9 w ow [t] w' ow' [t])(h:SV P w ow s a t r v):SV P w' ow' s' a' t r v:=by
 cases r with
 |un=>trivial
 |val d=>exact V.W9 hc h
 |own d=>exact V.owned hc hk h
 |tup l=>
  obtain⟨vs,h1,h2,h3⟩:=h;refine⟨vs,h1,h2,fun k x hx=> ?_⟩;have h4:=h3 k x hx;have h5:=aH.1 hc x (aA hx);cases x with
  |val d=>exact V.W9 h5 h4
  |own d=>exact V.owned h5 (hk.child k) h4
  |_=>trivial
 |rp d=>cases hc
 |al _ _=>cases hc
 |rf _ _=>cases hc
 |ag _ _=>cases hc
def nN (s:St):List Operand->(List D->List Nat->Prop)->Prop
 |[],K=>K [] []
 |x::xs,K=>match evS s x with
  | .val d=>nN s xs fun ds rs=>K (d::ds) rs
  | .rp d=>nN s xs fun ds rs=>K (.bx false d::ds) rs
  | .own d=>nN s xs fun ds rs=>K (d::ds) (slotOf x::rs)
  | .al r p=>match s r with
   | .own d=>match D.sub p d with
    |some m=>nN s xs fun ds rs=>K (m::ds) (r::rs)
    |none=>False
   |_=>False
  | .ag r p=>match s r with
   | .own d=>match D.sub p d with
    |some m=>nN s xs fun ds rs=>K (m::ds) (r::rs)
    |none=>False
   |_=>False
  | .rf r p=>match s r with
   | .own d=>match D.sub p d with
    |some m=>nN s xs fun ds rs=>K (.bx false m::ds) (r::rs)
    |none=>False
   |_=>False
  |_=>False
def AJ (rs:List Nat)(ow:Own):Own:=fun b=>match ow b with
 |some l=>if l.getLast?.any rs.contains then none else some l
 |none=>none
variable {rs:List Nat}{b:Nat}
def qK (h:ow b=none):AJ rs ow b=none:=by simp[AJ,h]
variable {r:Nat}
def aqB {q:List Nat}(h:ow b=some (q++[r]))(hr:r∈rs):AJ rs ow b=none:=by simp[AJ,h,hr]
def lend_nil :AJ [] ow b=ow b:=by
 unfold AJ;split
 ·rename_i l hl;rw[if_neg]
  ·exact hl.symm
  ·cases l.getLast?<;>simp
 ·rename_i hl;exact hl.symm
def JP {w:World}{p:List Nat}(hr:r∈rs):QK w ow (p++[r]) (AJ rs ow):=fun b _=>⟨fun h=>qK h,fun q hq=>aqB (q:=q++p) (by rw[hq];simp) hr⟩
variable {n:Nat}{w0:World}{ow0:Own}
def Fits.argK {w:World}(h:Fits P n w0 ow0 ow s a w):∀(xs:List Operand) {K:List D->List Nat->Prop},Dv.nN s xs K->
  ∃ds rs,K ds rs/\ds.length=xs.length/\∀rs',(∀r∈rs,r∈rs')->∀(i:Nat) (d:D),ds[i]?=some d->∃x,xs[i]?=some x/\V P w (AJ rs' ow) d.fz [] (a.eval x)
 |[],K,hk=>⟨[],[],hk,rfl,fun _ _ i d hd=>by simp at hd⟩
 |x::xs,K,hk=>by
  have hv:=h.eval x
  have go:∀(d:D) (rr:List Nat),(∀rs',(∀r∈rr,r∈rs')->V P w (AJ rs' ow) d.fz [] (a.eval x))->(Dv.nN s xs fun ds rs=>K (d::ds) (rr++rs))->
    ∃ds rs,K ds rs/\ds.length=(x::xs).length/\∀rs',(∀r∈rs,r∈rs')->∀(i:Nat) (d:D),ds[i]?=some d->∃x',(x::xs)[i]?=some x'/\V P w (AJ rs' ow) d.fz [] (a.eval x'):=by
   intro d rr hd hK;obtain⟨ds,rs,h1,h2,h3⟩:=Fits.argK h xs hK;refine⟨d::ds,rr++rs,h1,by simp[h2],fun rs' hrs i d' hd'=> ?_⟩;cases i with
   |zero=>
    simp at hd';subst hd';exact⟨x,rfl,hd rs' fun r hr=>hrs r (by simp[hr])⟩
   |succ i=>
    simp at hd';obtain⟨x',e1,e2⟩:=h3 rs' (fun r hr=>hrs r (by simp[hr])) i d' hd';exact⟨x',by simpa using e1,e2⟩
  have hq:∀rs',Quiet w ow w (AJ rs' ow):=fun rs' b _ ho=>⟨rfl,qK ho⟩
  have ptr:∀(d:D) (b off:Nat) (ow':Own),ow' b=none->gZ P w ow' d.fz [] b off->a.eval x= .pointer (some ⟨b,off,none⟩)->V P w ow' (D.bx false d).fz [] (a.eval x):=by
   intro d b off ow' hn hL he;obtain⟨C,e,fz,cs,h4,h5,h6⟩:=hL;simp only[V,D.fz,R];exact⟨b,off,C,e,fz,cs,by rw[he],h4,fun _=>hn,(fun ho=>by cases ho),h6.len,fun j hj=>h5 j (by rw[←h6.len];exact hj),R.trf (fun b _ hb=>⟨rfl,hb⟩) h6⟩
  unfold Dv.nN at hk;cases hx:evS s x with
  |un=>rw[hx]at hk;exact hk.elim
  |tup l=>rw[hx]at hk;exact hk.elim
  |val d=>
   rw[hx]at hk hv;exact go d [] (fun rs' _=>V.trf (hq rs') hv) hk
  |rp d=>
   rw[hx]at hk hv;obtain⟨b,off,h1,h2,h3⟩:=hv;exact go (.bx false d) [] (fun rs' _=>ptr d b off _ (qK h2) (h3.trf (hq rs') h2) h1) hk
  |own d=>
   rw[hx]at hk hv;have hs:=pE hx (.inl rfl);have he:=vO h.size h.small hx (.inl rfl);have hV:=h.slot (slotOf x);rw[hs]at hV;refine go d [slotOf x] (fun rs' hrs=> ?_) hk;rw[he];exact V.fz (JP (p:=[]) (hrs _ (by simp))) hV
  |al r p=>
   rw[hx]at hk hv;obtain⟨d,m,hs,hm,hw,h4⟩:=hv;simp only[hs,hm]at hk;exact go m [r] (fun rs' hrs=>V.fz (JP (p:=p.reverse) (hrs _ (by simp))) (aLD h hs hm hw h4)) hk
  |ag r p=>
   rw[hx]at hk hv;obtain⟨d,m,hs,hm,hagg,hV⟩:=hv;simp only[hs,hm]at hk;exact go m [r] (fun rs' hrs=>V.fz (JP (p:=p.reverse) (hrs _ (by simp))) hV) hk
  |rf r p=>
   rw[hx]at hk hv;obtain⟨d,m,b,off,hs,hm,hl,he⟩:=hv;simp only[hs,hm]at hk;have hV:=h.slot r;rw[hs]at hV
   have hR:R P w ow d [r] [aval a r]:=by
    cases p with
    |nil=>simp[loc]at hl
    |cons k p=>exact V.one hV hl
   obtain⟨hL,hob,_⟩:=hR.at hl hm;refine go (.bx false m) [r] (fun rs' hrs=> ?_) hk;have hfr:=JP (w:=w) (ow:=ow) (rs:=rs') (p:=p.reverse) (hrs r (by simp))
   have hnone:AJ rs' ow b=none:=by
    rcases hob with hob|⟨q,hob⟩
    ·exact qK hob
    ·exact aqB hob (hrs r (by simp))
   refine ptr m b off _ hnone ?_ he;obtain⟨C,e,fz,cs,g1,g2,g3⟩:=hL;exact⟨C,e,fz,cs,g1,by rw[D.amA];exact g2,R.fz hfr g3⟩
def Enters (P:Program)(f:FuncId):Prop:=∀(args:Array Value) (w:World),(callFunc f args).run P w= .ok (.enter f args) w
class aa2 (α:Type) where
 K:α->Prop
def blk {α:Type}(s:α)[k:aa2 α]:Prop:=k.K s
def afK (P:Program)(f:FuncId)(ds:List D)(rs:List Nat)[k:aa2 S]:Prop:=∃Q,fA P f ds Q/\∀r,Q r->(rs=[]\/r.closed=true)/\k.K r
variable {f:FuncId}{ds:List D}{K:S->Prop}
def afL {r:S}(h:fA P f ds (fun r'=>r'=r))(hc:rs=[]\/r.closed=true)(hK:K r):(afK (k:=⟨K⟩) P f ds rs):=⟨_,h,fun r' e=>by subst e;exact⟨hc,hK⟩⟩
variable {Q:S->Prop}
def aAU (h:fA P f ds Q)(hK:∀r,Q r->(rs=[]\/r.closed=true)/\K r):(afK (k:=⟨K⟩) P f ds rs):=⟨_,h,hK⟩
def fA.fzs {ds':List D}(h:fA P f ds' Q)(he:ds'.map D.fz=ds.map D.fz):fA P f ds Q:=by
 intro w ow vs t ht hL h1 h2 h3;refine h w ow vs t ht hL h1 ?_ ?_
 ·have:=congrArg List.length he;simp at this;omega
 ·intro i d hd;have h4:(ds'.map D.fz)[i]?=some d.fz:=by simp[hd]
  rw[he]at h4;simp only[aS,aL]at h4;obtain⟨d2,h5,h6⟩:=h4;rw[←h6];exact h3 i d2 h5
def fA.aI8 (h:fA P f (D.fzs ds) Q):fA P f ds Q:=h.fzs (by rw[D.jS,uD];congr 1;funext d;exact D.ZP d)
def dcall (s:St)(u:Option Nat)(f:FuncId)(P:Program)(args:List Operand)(K:St->Prop):Prop:=
 nN s args fun ds rs=>(afK (k:=⟨fun r=>K (s.jR u r)⟩) P f (D.fzs ds) rs)
def aHU {o:Oper}{K:St->Prop}{args:Array Operand}{ts:Array TypeId}(he:Enters P f)
  (ho:o.op= .call {callee:= .value (.func f),args:=args,argTypes:=ts}) (hd:dstOk n o=true) (h:dcall s o.dst f P args.toList K):Ok P n w0 ow0 o s K:=by
 intro a w ⟨ow,hf⟩ next Q' hn
 obtain⟨ds,rs,⟨Q,hfn0,hK⟩,hlen,hargs⟩:=hf.argK _ h;have hfn:=hfn0.aI8
 have hrun:(execOp a.eval o).run P w= .ok (.enter f (args.map a.eval)) w:=by
  unfold execOp;simp only[ho,resolve,invoke,Act.eval,Deferred.ofValue,aI,aU,aG];have:=he (#[]++args.map a.eval++ #[]) w;simpa using this
 unfold Oper.wp;rw[hrun];simp only[Oper.upon]
 obtain⟨t,ht,hdt⟩:∃t,t≠far0/\∀u,o.dst=some u->u=t/\u<n:=by
  cases hd':o.dst with
  |none=>exact⟨0,by simp[far0],fun u hu=>by cases hu⟩
  |some u=>
   have hu:u<n:=by simpa[dstOk,hd']using hd
   exact⟨u,fun e=>absurd (show far0<n from e▸hu) (k_Nat_not_lt.2 (k_Nat_le_trans hf.small (by decide))),fun u' hu'=>by obtain rfl:=k_Option_some_inj hu';exact⟨rfl,hu⟩⟩
 refine(hfn w (AJ rs ow) (args.map a.eval) t ht (hf.OU.mono fun b o h1 h2=>⟨h1,qK h2⟩) (fun b hb=>qK (hf.new b hb)) (by simp[hlen]) (fun i d hi=> ?_)).mono ?_
 ·obtain⟨x,h1,h2⟩:=hargs rs (fun _ h=>h) i d hi
  have:(args.map a.eval).getD i undef=a.eval x:=by
   have:args[i]?=some x:=by simpa using h1
   simp[aF,this]
  rw[this];exact h2
 ·rintro e w' ⟨v,ow',r,rfl,hQ,haf,hpl,hsv⟩;obtain⟨hcl,hKr⟩:=hK r hQ;simp only
  have hnew2:∀b,w'.heap.size<=b->(if b<w.heap.size then ow b else ow' b)=none:=by
   intro b hb;rw[if_neg (by have:=haf.size;omega)];exact haf.new b hb
  have hg:Fits P n w0 ow0 (fun b=>if b<w.heap.size then ow b else ow' b) s a w':=hf.grown haf.os haf.tape haf.output haf.size (fun b hb=>⟨(haf.old b hb).1,if_pos hb⟩) hnew2
  have hres:∀s2,SV P w' (fun b=>if b<w.heap.size then ow b else ow' b) s2 a t r v:=by
   intro s2;rcases hcl with hcl|hcl
   ·subst hcl
    have:(fun b=>if b<w.heap.size then ow b else ow' b)=ow':=by
     funext b;split
     ·rename_i hb;rw[(haf.old b hb).2,lend_nil]
     ·rfl
    rw[this];exact hsv s2 a
   ·refine SV.closed hcl (fun b hb q hq=>⟨rfl,?_⟩) (hsv s2 a);by_cases hlt:b<w.heap.size
    ·have h1:=(haf.old b hlt).2;rw[hq]at h1;simp only[if_pos hlt];unfold AJ at h1;split at h1
     ·rename_i l hl;split at h1
      ·cases h1
      ·rw[hl];exact h1.symm
     ·cases h1
    ·simp only[if_neg hlt];exact hq
  refine hn _ _ _ hKr ?_;cases hd':o.dst with
  |none=>exact⟨_,hg⟩
  |some u=>
   obtain⟨rfl,hu⟩:=hdt u hd';exact⟨_,hg.set hu (hres _)⟩
end Go.Dv
end
section
namespace Go
def wD:= @List.cons.inj
def kH:= @List.getElem?_set
end Go
end
section
namespace Go.Dv
open Go.RowKit
def ajI (w:World)(ow:Own)(m:List Nat)(w':World)(ow':Own):Prop:=∀b,b<w.heap.size->(∀q,ow b≠some (q++m))->w'.heap[b]?=w.heap[b]?/\ow' b=ow b
variable {p:List Nat}{n:D}{b1 o1:Nat}
variable {v:Value}
variable {d:D}
variable {m l:List Nat}{i:Nat}
section
variable {P:Program}{w w':World}{ow ow':Own}
def ajI.sib {j:Nat}(h:ajI w ow (m++i::l) w' ow')(hj:j≠i):Keeps w ow (j::l) w' ow' (j::l):=fun b hb=>⟨fun ho=>by
  have:=h b hb (fun q hq=>by rw[ho]at hq;cases hq);exact⟨this.1,this.2.trans ho⟩,fun q hq=>by
  have:=h b hb (fun q' hq'=>by
   rw[hq]at hq';have e:q++j::l=(q'++m)++i::l:=by simpa using k_Option_some_inj hq'
   exact hj (suffix_inj e))
  exact⟨this.1,this.2.trans hq⟩⟩
def gZ.keep {b off:Nat}(h:gZ P w ow d l b off)(hk:Keeps w ow l w' ow' l)(hb:w'.heap[b]?=w.heap[b]?):gZ P w' ow' d l b off:=by
 obtain⟨C,e,fz,cs,h1,h2,h3⟩:=h;exact⟨C,e,fz,cs,by rw[hb];exact h1,h2,h3.tr hk⟩
def R.gB {b' off':Nat}{x x':D}(h:R P w ow d l [v]) (hx:Dv.into d i v=some (x,b',off')) (hw:x'.w=x.w) (ht:ajI w ow (m++i::l) w' ow') (hb:ow b'=some l)
  (hup:gZ P w' ow' x' (i::l) b' off'):R P w' ow' (d.gB i x') l [v]:=by
 have hnot:∀q,ow b'≠some (q++(m++i::l)):=fun q hq=>by
  rw[hb]at hq;exact suffix_absurd (q:=q++m) (i:=i) (l:=l) (by simpa using k_Option_some_inj hq)
 cases d with
 |one u=>simp[Dv.into]at hx
 |agg xs=>simp[Dv.into]at hx
 |any n=>simp[Dv.into]at hx
 |sl o xs=>
  simp only[R]at h;obtain⟨a,cap,h1,h2,h3,h4⟩:=h;obtain rfl:=(wD h1).1;rcases h4 with⟨rfl,rfl,_⟩|⟨_,rfl⟩|⟨b,off,s,C,e,fz,rfl,hh,hn,hs,hr⟩
  ·simp[Dv.into]at hx
  ·cases a with
   |none=>simp[Dv.into]at hx
   |some ad=>
    obtain⟨bb,oo,kk⟩:=ad;cases kk<;>simp[Dv.into]at hx
  ·simp only[Dv.into,aL,bZ]at hx;obtain⟨y,hy,rfl,rfl,rfl⟩:=hx;have hlt:=lt_of_heap hh;obtain⟨e1,e2⟩:=ht b hlt hnot;have hh':w'.heap[b]?=some (.cells C e fz):=e1.trans hh;simp only[D.gB,R];refine⟨_,cap,by simp,by simpa using h2,h3,.inr (.inr ⟨b,off,s,C,e,fz,rfl,hh',fun ho=>e2.trans (hn ho),fun t hto=>⟨e2.trans (hs t hto).1,(hs t hto).2⟩,?_⟩)⟩;rw[Rs.iff hh'];intro j z hj;have hall:=(Rs.iff hh).1 hr;rw[kH]at hj;by_cases hij:i=j
   ·subst hij;rw[if_pos rfl]at hj;split at hj
    ·obtain rfl:=k_Option_some_inj hj;obtain⟨g1,g2⟩:=hall i y hy;refine⟨hw.trans g1,?_⟩;rw[bT];rw[g1]at hup;exact hup
    ·cases hj
   ·rw[if_neg hij]at hj;obtain⟨g1,g2⟩:=hall j z hj;rw[bT]at g2|-
    exact⟨g1,g2.keep (ht.sib (k_Ne_symm hij)) e1⟩
 |bx o y=>
  simp only[R]at h;obtain⟨b,off,C,e,fz,cs',h1,hh,hn,hs,hl,hc,hr⟩:=h;obtain rfl:=(wD h1).1;simp only[Dv.into]at hx;split at hx
  ·rename_i hi;obtain⟨rfl,rfl,rfl⟩:y=x/\b=b'/\off=off':=by simpa using hx
   have hlt:=lt_of_heap hh;obtain⟨e1,e2⟩:=ht b hlt hnot;have hh':w'.heap[b]?=some (.cells C e fz):=e1.trans hh;obtain⟨C',e',fz',cs2,g1,g2,g3⟩:=hup;rw[hh']at g1;obtain⟨rfl,rfl,rfl⟩:C=C'/\e=e'/\fz=fz':=by simpa using g1
   simp only[D.gB,R];subst hi;refine⟨b,off,C,e,fz,cs2,rfl,hh',fun ho=>e2.trans (hn ho),fun ho=>⟨e2.trans (hs ho).1,(hs ho).2.1,(hs ho).2.2.1,(hs ho).2.2.2.trans hw.symm⟩,g3.len,fun j hj=>g2 j (by rw[g3.len]at hj;exact hj),g3⟩
  ·cases hx
def gZ.turn:∀(p:List Nat) {d n n':D}{l:List Nat}{b off b1 o1:Nat},gZ P w ow d l b off->eX w p d b off=some (b1,o1)->D.sub p d=some n->D.free p d=true->ajI w ow (p.reverse++l) w' ow'->n'.w=n.w->
  (∀q,ow b≠some (q++(p.reverse++l)))->gZ P w' ow' n' (p.reverse++l) b1 o1->gZ P w' ow' (D.upd p d n') l b off
 |[],d,n,n',l,b,off,b1,o1,h,hl,hs,hf,ht,hw,hb,hn=>by
  simp only[eX,aJ,bZ]at hl;obtain⟨rfl,rfl⟩:=hl;simpa[D.upd]using hn
 |i::p,d,n,n',l,b,off,b1,o1,h,hl,hs,hf,ht,hw,hb,hn=>by
  have hrev:(i::p).reverse++l=p.reverse++i::l:=by simp
  rw[hrev]at ht hb hn;have hbb:=ht b h.lt hb;by_cases hd:∃xs,d= .agg xs
  ·obtain⟨xs,rfl⟩:=hd;rw[yP]at hl;simp only[D.sub,D.kid]at hs;simp only[D.free,D.kid,fD]at hf;cases hi:xs[i]? with
   |none=>rw[hi]at hl;cases hl
   |some x=>
    rw[hi]at hl hs hf;simp only at hl hs hf;have hkid:=h.xE hi;have ih:=gZ.turn p hkid hl hs hf ht hw hb hn;have hxw:(D.upd p x n').w=x.w:=D.GH p x n' n hs hw;simp only[D.upd,D.kid,hi,D.gB];refine h.aAF (aiO xs i x _ hi hxw) (fun C e fz hh=>⟨C,hbb.1.trans hh,rfl⟩) fun j y hj=> ?_;rw[GI xs i x _ hi hxw j];rw[kH]at hj;by_cases hij:i=j
    ·subst hij;rw[if_pos rfl]at hj;split at hj
     ·obtain rfl:=k_Option_some_inj hj;exact ih
     ·cases hj
    ·rw[if_neg hij]at hj;exact(h.xE hj).keep (ht.sib (k_Ne_symm hij)) hbb.1
  ·have hd':∀xs,d≠ .agg xs:=fun xs e=>hd ⟨xs,e⟩;obtain⟨v,x,b',off',hv,hx,hl'⟩:=uH hd' hl;have hw1:=(EQ hx).1;obtain⟨v',hv',hR⟩:=h.cell hw1;obtain rfl:v=v':=by rw[hv]at hv';exact k_Option_some_inj hv'
   obtain⟨hk,hL,_,hfr⟩:=hR.into hx;obtain⟨hf1,hf2⟩:=D.oU hk hf;have hob:=hfr hf1;simp only[D.sub,hk]at hs
   have hnot:∀q,ow b'≠some (q++(p.reverse++i::l)):=fun q hq=>by
    rw[hob]at hq;exact suffix_absurd (q:=q++p.reverse) (i:=i) (l:=l) (by simpa using k_Option_some_inj hq)
   have ih:=gZ.turn p hL hl' hs hf2 ht hw hnot hn;have hxw:(D.upd p x n').w=x.w:=D.GH p x n' n hs hw;have hR':=hR.gB hx hxw ht hob ih;simp only[D.upd,hk];obtain⟨C,e,fz,cs,g1,g2,g3⟩:=h;refine⟨C,e,fz,[v],hbb.1.trans g1,?_,hR'⟩;have hlen:=hR'.len;intro j hj;rw[←hlen]at hj;obtain rfl:j=0:=by simpa using hj
   rw[cell_of_row w b off C e fz g1]at hv;simpa using hv
def R.turn {n':D}(h:R P w ow d l [v]) (hl:loc w p d v=some (b1,o1)) (hs:D.sub p d=some n) (hf:D.free p d=true) (ht:ajI w ow (p.reverse++l) w' ow') (hw:n'.w=n.w)
  (hn:gZ P w' ow' n' (p.reverse++l) b1 o1):R P w' ow' (D.upd p d n') l [v]:=by
 cases p with
 |nil=>simp[loc]at hl
 |cons i p=>
  simp only[loc]at hl;cases hx:Dv.into d i v with
  |none=>rw[hx]at hl;cases hl
  |some r=>
   obtain⟨x,b',off'⟩:=r;rw[hx]at hl;obtain⟨hk,hL,_,hfr⟩:=h.into hx;obtain⟨hf1,hf2⟩:=D.oU hk hf;have hob:=hfr hf1;simp only[D.sub,hk]at hs;have hrev:(i::p).reverse++l=p.reverse++i::l:=by simp
   rw[hrev]at ht hn
   have hnot:∀q,ow b'≠some (q++(p.reverse++i::l)):=fun q hq=>by
    rw[hob]at hq;exact suffix_absurd (q:=q++p.reverse) (i:=i) (l:=l) (by simpa using k_Option_some_inj hq)
   have ih:=gZ.turn p hL hl hs hf2 ht hw hnot hn;simp only[D.upd,hk];exact h.gB hx (D.GH p x n' n hs hw) ht hob ih
def R.aJI (h:R P w ow d l [v])(hl:loc w p d v=some (b1,o1))(hs:D.sub p d=some n)(hf:D.free p d=true):∀q,ow b1≠some (q++(p.reverse++l)):=by
 have key:∀(p:List Nat) {d n:D}{l:List Nat}{b off b1 o1:Nat},gZ P w ow d l b off->eX w p d b off=some (b1,o1)->D.sub p d=some n->D.free p d=true->(∀q,ow b≠some (q++(p.reverse++l)))->∀q,ow b1≠some (q++(p.reverse++l)):=by
  intro p
  induction p with
  |nil=>
   intro d n l b off b1 o1 h hl hs hf hb;simp only[eX,aJ,bZ]at hl;obtain⟨rfl,rfl⟩:=hl;exact hb
  |cons i p ih=>
   intro d n l b off b1 o1 h hl hs hf hb;have hrev:(i::p).reverse++l=p.reverse++i::l:=by simp
   rw[hrev]at hb|-
   by_cases hd:∃xs,d= .agg xs
   ·obtain⟨xs,rfl⟩:=hd;rw[yP]at hl;simp only[D.sub,D.kid]at hs;simp only[D.free,D.kid,fD]at hf;cases hi:xs[i]? with
    |none=>rw[hi]at hl;cases hl
    |some x=>
     rw[hi]at hl hs hf;exact ih (h.xE hi) hl hs hf hb
   ·have hd':∀xs,d≠ .agg xs:=fun xs e=>hd ⟨xs,e⟩;obtain⟨v,x,b',off',hv,hx,hl'⟩:=uH hd' hl;have hw1:=(EQ hx).1;obtain⟨v',hv',hR⟩:=h.cell hw1;obtain rfl:v=v':=by rw[hv]at hv';exact k_Option_some_inj hv'
    obtain⟨hk,hL,_,hfr⟩:=hR.into hx;obtain⟨hf1,hf2⟩:=D.oU hk hf;have hob:=hfr hf1;simp only[D.sub,hk]at hs
    exact ih hL hl' hs hf2 fun q hq=>by
     rw[hob]at hq;exact suffix_absurd (q:=q++p.reverse) (i:=i) (l:=l) (by simpa using k_Option_some_inj hq)
 cases p with
 |nil=>simp[loc]at hl
 |cons i p=>
  simp only[loc]at hl;cases hx:Dv.into d i v with
  |none=>rw[hx]at hl;cases hl
  |some r=>
   obtain⟨x,b',off'⟩:=r;rw[hx]at hl;obtain⟨hk,hL,_,hfr⟩:=h.into hx;obtain⟨hf1,hf2⟩:=D.oU hk hf;have hob:=hfr hf1;simp only[D.sub,hk]at hs;have hrev:(i::p).reverse++l=p.reverse++i::l:=by simp
   rw[hrev]
   exact key p hL hl hs hf2 fun q hq=>by
    rw[hob]at hq;exact suffix_absurd (q:=q++p.reverse) (i:=i) (l:=l) (by simpa using k_Option_some_inj hq)
end
end Go.Dv
end
section
namespace Go.Dv
open Go.RowKit
variable [lL]
def D8 (P:Program)(f:FuncId)(ds:List D)(m:Nat)(dm:D)(Q:S->D->Prop):Prop:=
 ∀(w:World) (ow:Own) (vs:Array Value) (t:Nat) (l:List Nat),t≠far0->Laid w ow->(∀b,w.heap.size<=b->ow b=none)->vs.size=ds.length->m<ds.length->(∀(i:Nat) (d:D),ds[i]?=some d->i≠m->V P w ow d.fz [] (vs.getD i undef))->V P w ow dm l (vs.getD m undef)->
  Calls P f vs w fun e w'=>∃v ow' r dm',e= .returned v/\Q r dm'/\w'.os=w.os/\w'.tape=w.tape/\w'.output=w.output/\w.heap.size<=w'.heap.size/\
   (∀b,b<w.heap.size->(∀q,ow b≠some (q++l))->w'.heap[b]?=w.heap[b]?/\ow' b=ow b)/\(∀b,w'.heap.size<=b->ow' b=none)/\V P w' ow' dm' l (vs.getD m undef)/\S.plain r=true/\∀s a,SV P w' ow' s a t r v
def aa7 (P:Program)(f:FuncId)(ds:List D)(m:Nat)(d:D)(rs:List Nat)[k:aa2 (S×D)]:Prop:=rs=[]/\∃Q,D8 P f ds m d Q/\∀res d',Q res d'->k.K (res,d')
variable {P:Program}{f:FuncId}{m:Nat}{d:D}
def eO {ds:List D}{rs:List Nat}{K:S×D->Prop}{Q:S->D->Prop}(hr:rs=[])(h:D8 P f ds m d Q)(hK:∀res d',Q res d'->K (res,d')):(aa7 (k:=⟨K⟩) P f ds m d rs):=⟨hr,Q,h,hK⟩
variable {n:Nat}{w0:World}{ow0:Own}{o:Oper}{s:St}{K:St->Prop}{args:Array Operand}{ts:Array TypeId}{r:Nat}{x:Operand}
def aqZ (he:Enters P f)
  (ho:o.op= .call {callee:= .value (.func f),args:=args,argTypes:=ts}) (hd:dstOk n o=true) (hx:args[m]?=some x) (hxe:evS s x= .al r []\/(evS s x= .own d/\slotOf x=r)) (hs:s r= .own d)
  (h:nN s (args.toList.set m (.const (.bool false))) fun ds rs=>(aa7 (k:=⟨fun y=>o.dst≠some r/\(y.2.isAgg=false/\y.2.w=1)/\K (((s.F3 r).put r (.own y.2)).jR o.dst y.1)⟩) P f ds m d rs)):Ok P n w0 ow0 o s K:=by
 intro a w ⟨ow,hf⟩ next Q' hn
 obtain⟨ds,rs,⟨hrs,Q,hfn,hK⟩,hlen,hargs⟩:=hf.argK _ h;subst hrs;have hlow:AJ [] ow=ow:=by funext b;exact lend_nil
 have hrun:(execOp a.eval o).run P w= .ok (.enter f (args.map a.eval)) w:=by
  unfold execOp;simp only[ho,resolve,invoke,Act.eval,Deferred.ofValue,aI,aU,aG];have:=he (#[]++args.map a.eval++ #[]) w;simpa using this
 have hrf:r≠far0:=fun e=>by have:=hf.far;rw[←e,hs]at this;cases this
 have hval:a.eval x=aval a r:=by
  rcases hxe with hxe|⟨hxe,rfl⟩
  ·have hv:=hf.eval x;rw[hxe]at hv;obtain⟨_,_,_,_,_,h4⟩:=hv;rcases h4 with⟨_,h4⟩|⟨b,off,h4,_⟩
   ·exact h4
   ·simp[loc]at h4
  ·exact vO hf.size hf.small hxe (.inl rfl)
 have hV:=hf.slot r;rw[hs]at hV;have hmlt:m<args.size:=(bO.1 hx).1;have hdl:ds.length=args.size:=by rw[hlen];simp
 have hvm:(args.map a.eval).getD m undef=aval a r:=by
  simp[aF,hx,hval]
 unfold Oper.wp;rw[hrun];simp only[Oper.upon]
 obtain⟨t,ht,hdt⟩:∃t,t≠far0/\∀u,o.dst=some u->u=t/\u<n:=by
  cases hd':o.dst with
  |none=>exact⟨0,by simp[far0],fun u hu=>by cases hu⟩
  |some u=>
   have hu:u<n:=by simpa[dstOk,hd']using hd
   exact⟨u,fun e=>absurd (show far0<n from e▸hu) (k_Nat_not_lt.2 (k_Nat_le_trans hf.small (by decide))),fun u' hu'=>by obtain rfl:=k_Option_some_inj hu';exact⟨rfl,hu⟩⟩
 refine(hfn w ow (args.map a.eval) t [r] ht hf.OU hf.new (by simp[hdl]) (by omega) (fun i d' hi him=> ?_) (by rw[hvm];exact hV)).mono ?_
 ·obtain⟨y,h1,h2⟩:=hargs [] (fun _ h=>h) i d' hi;rw[hlow]at h2;rw[bI (k_Ne_symm him)]at h1
  have:(args.map a.eval).getD i undef=a.eval y:=by
   have:args[i]?=some y:=by simpa using h1
   simp[aF,this]
  rw[this];exact h2
 ·rintro e w' ⟨v,ow',res,d2,rfl,hQ,g1,g2,g3,g4,g5,g6,g7,hpl,hsv⟩;obtain⟨hdr,⟨ha2,hw2⟩,hKr⟩:=hK res d2 hQ;rw[hvm]at g7;simp only at hKr|-
  have hnot:∀b j,j≠r->∀q,ow b=some (q++[j])->∀q',ow b≠some (q'++[r]):=fun b j hj q hq q' e=>by
   rw[hq]at e;have:=congrArg List.getLast? (k_Option_some_inj e);simp at this;exact hj this
  have hg:Fits P n w0 ow0 ow' ((s.F3 r).put r (.own d2)) a w':=by
   refine hf.change hf.nodef hf.size g1 g2 g3 g4 (fun b hb ho=> ?_) g6 (fun j=>j=r\/s j= .al r []) ?_ ?_ ?_ (fun e=>by rcases e with e|e;(exact hrf e.symm);(have:=hf.far;rw[e]at this;cases this))
   ·obtain⟨e1,e2⟩:=g5 b hb (fun q e=>by rw[ho]at e;cases e);exact⟨e1,e2.trans ho⟩
   ·intro j hj b hb q hq;obtain⟨e1,e2⟩:=g5 b hb (hnot b j (fun e=>hj (.inl e)) q hq);exact⟨e1,e2.trans hq⟩
   ·intro i hi;refine⟨rfl,?_⟩;have hir:i≠r:=fun e=>hi (.inl e);have hp:((s.F3 r).put r (.own d2)) i=(s.F3 r) i:=by simp[St.put,hir]
    rw[hp];rcases aCO s r i hir with h1|⟨h1,h2⟩
    ·exact .inl h1
    ·right;have h2:=h2.resolve_right fun e=>hi (.inr e);refine⟨h1,fun j hj=> ?_⟩;have hjr:j≠r:=by rintro rfl;exact h2 hj
     have ho:=(hf.slot i).root hj;exact⟨fun e=>by rcases e with e|e;(exact hjr e);(rw[e]at ho;cases ho),by simp[St.put,hjr,killP_own ho hjr]⟩
   ·rintro i (rfl|hi)
    ·simp only[St.put,if_true,SV];exact g7
    ·have hir:i≠r:=by rintro rfl;rw[hs]at hi;cases hi
     have hp:((s.F3 r).put r (.own d2)) i= .al r []:=by simp[St.put,hir,St.F3,hi,S.ac3]
     rw[hp];have hv:=hf.slot i;rw[hi]at hv;simp only[SV]at hv|-
     obtain⟨_,_,_,_,_,h4⟩:=hv;refine⟨d2,d2,by simp[St.put],rfl,⟨hw2,ha2,by simp⟩,?_⟩;rcases h4 with h4|⟨b,off,h4,_⟩
     ·exact .inl h4
     ·simp[loc]at h4
  refine hn _ _ _ hKr ?_;cases hd':o.dst with
  |none=>exact⟨_,hg⟩
  |some u=>
   obtain⟨rfl,hu⟩:=hdt u hd';exact⟨_,hg.set hu (hsv _ a)⟩
def ay0 {p:List Nat}{nd:D}(he:Enters P f)
  (ho:o.op= .call {callee:= .value (.func f),args:=args,argTypes:=ts}) (hd:dstOk n o=true) (hx:args[m]?=some x) (hxe:evS s x= .al r p) (hp:p≠[]) (hs:s r= .own d) (hnd:D.sub p d=some nd) (hfr:D.free p d=true)
  (h:nN s (args.toList.set m (.const (.bool false))) fun ds rs=>(aa7 (k:=⟨fun y=>o.dst≠some r/\(y.2.isAgg=false/\y.2.w=1)/\K (((s.kill r).put r (.own (D.upd p d y.2))).jR o.dst y.1)⟩) P f ds m nd rs)):Ok P n w0 ow0 o s K:=by
 intro a w ⟨ow,hf⟩ next Q' hn
 obtain⟨ds,rs,⟨hrs,Q,hfn,hK⟩,hlen,hargs⟩:=hf.argK _ h;subst hrs;have hlow:AJ [] ow=ow:=by funext b;exact lend_nil
 have hrun:(execOp a.eval o).run P w= .ok (.enter f (args.map a.eval)) w:=by
  unfold execOp;simp only[ho,resolve,invoke,Act.eval,Deferred.ofValue,aI,aU,aG];have:=he (#[]++args.map a.eval++ #[]) w;simpa using this
 have hrf:r≠far0:=fun e=>by have:=hf.far;rw[←e,hs]at this;cases this
 have hv:=hf.eval x;rw[hxe]at hv;obtain⟨d1,n1,e1,e2,e3,h4⟩:=hv;rw[hs]at e1;obtain rfl:d=d1:=by injection e1
 rw[hnd]at e2;obtain rfl:nd=n1:=k_Option_some_inj e2;obtain⟨hw1,hna,hh⟩:=e3;have hh:=hh.resolve_left hp;obtain⟨b,off,hloc,hcell⟩:=h4.resolve_left (fun h=>hp h.1);have hVr:=hf.slot r;rw[hs]at hVr
 have hR:R P w ow d [r] [aval a r]:=by
  cases p with
  |nil=>exact absurd rfl hp
  |cons k p=>exact V.one hVr hloc
 obtain⟨hL,_,_⟩:=hR.at hloc hnd;obtain⟨v',hv',hRn⟩:=hL.cell hw1;rw[hcell]at hv';obtain rfl:a.eval x=v':=k_Option_some_inj hv'
 have hV:V P w ow nd (p.reverse++[r]) (a.eval x):=by
  cases nd with
  |agg xs=>cases hna
  |_=>exact hRn
 have hmlt:m<args.size:=(bO.1 hx).1;have hdl:ds.length=args.size:=by rw[hlen];simp
 have hvm:(args.map a.eval).getD m undef=a.eval x:=by
  simp[aF,hx]
 unfold Oper.wp;rw[hrun];simp only[Oper.upon]
 obtain⟨t,ht,hdt⟩:∃t,t≠far0/\∀u,o.dst=some u->u=t/\u<n:=by
  cases hd':o.dst with
  |none=>exact⟨0,by simp[far0],fun u hu=>by cases hu⟩
  |some u=>
   have hu:u<n:=by simpa[dstOk,hd']using hd
   exact⟨u,fun e=>absurd (show far0<n from e▸hu) (k_Nat_not_lt.2 (k_Nat_le_trans hf.small (by decide))),fun u' hu'=>by obtain rfl:=k_Option_some_inj hu';exact⟨rfl,hu⟩⟩
 refine(hfn w ow (args.map a.eval) t (p.reverse++[r]) ht hf.OU hf.new (by simp[hdl]) (by omega) (fun i d' hi him=> ?_) (by rw[hvm];exact hV)).mono ?_
 ·obtain⟨y,h1,h2⟩:=hargs [] (fun _ h=>h) i d' hi;rw[hlow]at h2;rw[bI (k_Ne_symm him)]at h1
  have:(args.map a.eval).getD i undef=a.eval y:=by
   have:args[i]?=some y:=by simpa using h1
   simp[aF,this]
  rw[this];exact h2
 ·rintro e w' ⟨v,ow',res,d2,rfl,hQ,g1,g2,g3,g4,g5,g6,g7,hpl,hsv⟩;obtain⟨hdr,⟨ha2,hw2⟩,hKr⟩:=hK res d2 hQ;rw[hvm]at g7;simp only at hKr|-
  have hnot:∀b j,j≠r->∀q,ow b=some (q++[j])->∀q',ow b≠some (q'++(p.reverse++[r])):=fun b j hj q hq q' e=>by
   rw[hq]at e;have:=congrArg List.getLast? (k_Option_some_inj e);simp at this;exact hj this
  have hturn:ajI w ow (p.reverse++[r]) w' ow':=g5;have hb1:=hR.aJI hloc hnd hfr;have hbb:=hturn b hL.lt hb1
  have hL2:gZ P w' ow' d2 (p.reverse++[r]) b off:=by
   obtain⟨C,e,fz,cs,k1,k2,k3⟩:=hL;refine⟨C,e,fz,[a.eval x],hbb.1.trans k1,?_,?_⟩
   ·intro j hj;rw[hw2]at hj;obtain rfl:j=0:=by omega
    rw[cell_of_row w b off C e fz k1]at hcell;simpa using hcell
   ·cases d2 with
    |agg xs=>cases ha2
    |_=>exact g7
  have hR2:=hR.turn hloc hnd hfr hturn (hw2.trans hw1.symm) hL2
  have hV2:V P w' ow' (D.upd p d d2) [r] (aval a r):=by
   cases p with
   |nil=>exact absurd rfl hp
   |cons i p=>
    have hda:∀xs,d≠ .agg xs:=fun xs e=>by
     subst e;simp[loc,Dv.into]at hloc
    have hne:=E8 (i:=i) (p:=p) (n:=d2) hda;cases hu:D.upd (i::p) d d2 with
    |agg xs=>exact absurd hu (hne xs)
    |_=>rw[hu]at hR2;exact hR2
  have hg:Fits P n w0 ow0 ow' ((s.kill r).put r (.own (D.upd p d d2))) a w':=by
   refine hf.change hf.nodef hf.size g1 g2 g3 g4 (fun b hb ho=> ?_) g6 (fun j=>j=r) ?_ ?_ ?_ (fun e=>hrf e.symm)
   ·obtain⟨e1,e2⟩:=g5 b hb (fun q e=>by rw[ho]at e;cases e);exact⟨e1,e2.trans ho⟩
   ·intro j hj b hb q hq;obtain⟨e1,e2⟩:=g5 b hb (hnot b j hj q hq);exact⟨e1,e2.trans hq⟩
   ·intro i hi;refine⟨rfl,?_⟩;have hp:((s.kill r).put r (.own (D.upd p d d2))) i=(s.kill r) i:=by simp[St.put,show i≠r from hi]
    rw[hp];rcases vH s r i with h1|⟨h1,_,h2⟩
    ·exact .inl h1
    ·right;refine⟨h1,fun j hj=> ?_⟩;have hjr:j≠r:=by rintro rfl;exact h2 hj
     exact⟨hjr,by simp[St.put,hjr,uF ((hf.slot i).root hj) hjr]⟩
   ·rintro i rfl;simp only[St.put,if_true,SV];exact hV2
  refine hn _ _ _ hKr ?_;cases hd':o.dst with
  |none=>exact⟨_,hg⟩
  |some u=>
   obtain⟨rfl,hu⟩:=hdt u hd';exact⟨_,hg.set hu (hsv _ a)⟩
def abB (s:St)(dst:Option Nat)(f:FuncId)(P:Program)(m:Nat)(args:List Operand)(K:St->Prop):Prop:=match args[m]? with
 |some x=>match evS s x with
  | .al r []=>match s r with
   | .own d=>nN s (args.set m (.const (.bool false))) fun ds rs=>(aa7 (k:=⟨fun y=>dst≠some r/\(y.2.isAgg=false/\y.2.w=1)/\K (((s.F3 r).put r (.own y.2)).jR dst y.1)⟩) P f ds m d rs)
   |_=>False
  | .al r (i::p)=>match s r with
   | .own d=>D.free (i::p) d=true/\(match D.sub (i::p) d with
    |some nd=>nN s (args.set m (.const (.bool false))) fun ds rs=>(aa7 (k:=⟨fun y=>dst≠some r/\(y.2.isAgg=false/\y.2.w=1)/\K (((s.kill r).put r (.own (D.upd (i::p) d y.2))).jR dst y.1)⟩) P f ds m nd rs)
    |none=>False)
   |_=>False
  | .own d=>nN s (args.set m (.const (.bool false))) fun ds rs=>(aa7 (k:=⟨fun y=>dst≠some (slotOf x)/\(y.2.isAgg=false/\y.2.w=1)/\K (((s.F3 (slotOf x)).put (slotOf x) (.own y.2)).jR dst y.1)⟩) P f ds m d rs)
  |_=>False
 |none=>False
def ay2 (he:Enters P f)
  (ho:o.op= .call {callee:= .value (.func f),args:=args,argTypes:=ts}) (hd:dstOk n o=true) (h:abB s o.dst f P m args.toList K):Ok P n w0 ow0 o s K:=by
 unfold abB at h;split at h
 ·rename_i x hx;split at h
  ·rename_i r hxe;split at h
   ·rename_i d hs;exact aqZ he ho hd (by simpa using hx) (.inl hxe) hs h
   ·exact h.elim
  ·rename_i r i p hxe;split at h
   ·rename_i d hs;obtain⟨hfr,h⟩:=h;split at h
    ·rename_i nd hnd;exact ay0 he ho hd (by simpa using hx) hxe (by simp) hs hnd hfr h
    ·exact h.elim
   ·exact h.elim
  ·rename_i d hxe;exact aqZ he ho hd (by simpa using hx) (.inr ⟨hxe,rfl⟩) (pE hxe (.inl rfl)) h
  ·exact h.elim
 ·exact h.elim
def lst:List (Nat×S)->St
 |[]=>fun _=> .un
 |(i,x)::L=>(lst L).put i x
inductive Less (x':S):S->Prop where
 |un:Less x' .un
 |same:Less x' x'
variable {ow:Own}
def amR {w:World}{e:TypeId}{l:List Nat}:V P w ow (.sl (some e) []) l (.slice none 0 0):=by
 simp only[V,R];exact⟨none,0,rfl,k_Nat_le_refl _,by simp[maxLen],.inl ⟨rfl,trivial,rfl⟩⟩
def aqD (s':St)(L:St)(i:Nat)(x:S):Prop:=
 (x= .un)\/(s' i=x/\match x.root with|some j=>L j=s' j|none=>True)\/(s' i= .val (.one (.slice none 0 0))/\∃e,x= .own (.sl (some e) []))
variable {s':St}
def arX (h:∀i,aqD s' s i (s i)):vQ P n s' s:=by
 intro w0 ow0 a w ⟨ow,hf⟩;refine⟨ow,hf.nodef,hf.size,hf.small,hf.laid,hf.bel,hf.own,hf.new,?_,hf.keep,fun i=> ?_⟩
 ·rcases h far0 with h|⟨h,_⟩|⟨h,_⟩
  ·exact h
  ·rw[←h,hf.far]
  ·rw[hf.far]at h;cases h
 ·have hi:=hf.slot i;rcases h i with h1|⟨h1,h2⟩|⟨h1,e,h2⟩
  ·rw[h1];trivial
  ·rw[h1]at hi;refine hi.alZ fun j hj=>⟨?_,rfl⟩;rw[hj]at h2;exact h2
  ·rw[h1]at hi;rw[h2];simp only[SV,V,D.fz,R]at hi;have:aval a i= .slice none 0 0:=by simpa using hi.1
   rw[this];exact amR
variable {L:List (Nat×S)}
def amO {i:Nat}(h:i∉L.map Prod.fst):lst L i= .un:=by
 induction L with
 |nil=>rfl
 |cons p L ih=>
  obtain⟨j,x⟩:=p;simp only[fI,aK,not_or]at h;simp only[lst,St.put,if_neg h.1];exact ih h.2
def wI (s':St)(L:List (Nat×S)):List (Nat×S)->Prop
 |[]=>True
 |(i,x)::r=>aqD s' (lst L) i x/\wI s' L r
def wP (h:wI s' L L):vQ P n s' (lst L):=by
 refine arX fun i=> ?_
 have key:∀(M:List (Nat×S)),wI s' L M->lst M i= .un\/aqD s' (lst L) i (lst M i):=by
  intro M
  induction M with
  |nil=>intro _;exact .inl rfl
  |cons p M ih=>
   obtain⟨j,x⟩:=p;rintro⟨h1,h2⟩;simp only[lst,St.put];split
   ·rename_i hij;subst hij;exact .inr h1
   ·exact ih h2
 rcases key L h with h|h
 ·exact .inl h
 ·exact h
def St.V9 (s:St)(t:Nat):St:=match s t with
 | .own d=>(s.kill t).put t (.val d.fz)
 |_=>s
def Fits.V9 {w:World}{a:Act}(h:Fits P n w0 ow0 ow s a w)(t:Nat):∃ow',Fits P n w0 ow0 ow' (s.V9 t) a w:=by
 unfold St.V9;split
 ·rename_i d hd;refine⟨AJ [t] ow,?_⟩;have hV:=h.slot t;rw[hd]at hV;refine h.change h.nodef h.size rfl rfl rfl (k_Nat_le_refl _) (fun b _ ho=>⟨rfl,qK ho⟩) (fun b hb=>qK (h.new b hb)) (fun j=>j=t) ?_ ?_ ?_ (fun e=>by have h9:=h.far;rw[show far0=t from e,hd]at h9;cases h9)
  ·intro j hj b _ q hq;refine⟨rfl,?_⟩;simp only[AJ,hq];rw[if_neg];have:¬j=t:=hj;simp[this]
  ·intro i hi;refine⟨rfl,?_⟩;have hp:((s.kill t).put t (.val d.fz)) i=(s.kill t) i:=by simp[St.put,show i≠t from hi]
   rw[hp];rcases vH s t i with h1|⟨h1,_,h2⟩
   ·exact .inl h1
   ·right;refine⟨h1,fun j hj=> ?_⟩;have hjt:j≠t:=by rintro rfl;exact h2 hj
    exact⟨hjt,by simp[St.put,hjt,uF ((h.slot i).root hj) hjt]⟩
  ·rintro i rfl;simp only[St.put,if_true,SV,D.ZP];exact V.fz (JP (p:=[]) (by simp)) hV
 ·exact⟨ow,h⟩
def dQ (t:Nat):vQ P n s (s.V9 t):=fun w0 ow0 a w ⟨ow,hf⟩=>hf.V9 t
def St.DN (s:St):List Nat->St
 |[]=>s
 |t::ts=>(s.V9 t).DN ts
def TE :∀(ts:List Nat) {s:St},vQ P n s (s.DN ts)
 |[],s=>vQ.refl s
 |t::ts,s=>(dQ t).trans (TE ts)
def vP (ts:List Nat)(h:wI (s'.DN ts) L L):vQ P n s' (lst L):=(TE ts).trans (wP h)
def MN (u r k:Nat)(s:St)(K:St->Prop):Prop:=u≠r/\match s r with
 | .tup l=>match l[k]? with
  |some (.val d)=>K (s.set u (.val d))
  |some (.own d)=>K ((s.put r (.tup (l.set k .un))).set u (.own d))
  |_=>False
 |_=>False
variable {u:Nat}
def auC {k:Nat}(ho:o.op= .extract (.tmp r) k)(hd:o.dst=some u)(hu:u<n)(hr6:r<1000000)(h:MN u r k s K):Ok P n w0 ow0 o s K:=by
 refine iI fun a w ow hf=> ?_;obtain⟨hur,h⟩:=h;have hr:=hf.slot r;split at h
 ·rename_i l hl;rw[hl]at hr;obtain⟨vs,h1,h2,h3⟩:=hr
  have he:a.eval (.tmp r)= .tuple vs:=by
   rw[←h1];unfold aval Act.eval;rw[if_pos hr6]
  have run:∀(_:k<vs.size),(execOp a.eval o).run P w= .ok (.value (vs.getD k undef)) w:=by
   intro hk;unfold execOp;simp only[ho,he,Instr.extract,aI];have:vs[k]?=some (vs.getD k undef):=by simp[aF,hk]
   rw[this];rfl
  have hlt:∀x,l[k]?=some x->k<vs.size:=fun x hx=>by rw[h2];exact(aD.1 hx).1
  split at h
  ·rename_i d hk;refine⟨_,w,run (hlt _ hk),_,h,ow,?_⟩;rw[hd];exact hf.set hu (h3 k _ hk)
  ·rename_i d hk;have hV:=h3 k _ hk;simp only at hV;have hfar:r≠far0:=fun e=>by have:=hf.far;rw[←e,hl]at this;cases this
   have hf2:Fits P n w0 ow0 (relabS [k,r] [u] ow) (s.put r (.tup (l.set k .un))) a w:=by
    refine hf.change hf.nodef hf.size rfl rfl rfl (k_Nat_le_refl _) (fun b _ ho=>⟨rfl,qE ho⟩) (fun b hb=>qE (hf.new b hb)) (fun j=>j=r) ?_ ?_ ?_ (fun e=>hfar e.symm)
    ·intro j hj b _ q hq;refine⟨rfl,F8 hq fun q' hq'=>hj ?_⟩;have:=congrArg List.getLast? hq';simpa using this
    ·intro i hi;refine⟨rfl,.inr ⟨by simp[St.put,show i≠r from hi],fun j hj=> ?_⟩⟩
     have hjr:j≠r:=by
      rintro rfl;have:=(hf.slot i).root hj;rw[hl]at this;cases this
     exact⟨hjr,by simp[St.put,hjr]⟩
    ·rintro i rfl;simp only[St.put,if_true];refine⟨vs,h1,by simp[h2],fun k' x hx=> ?_⟩;by_cases hkk:k'=k
     ·subst hkk
      have:x= .un:=by
       rw[kH]at hx;simp only[if_true]at hx;split at hx
       ·exact(k_Option_some_inj hx).symm
       ·cases hx
      subst this;trivial
     ·rw[bI (k_Ne_symm hkk)]at hx;have h4:=h3 k' x hx;cases x with
      |val d'=>exact V.trf (fun b _ ho=>⟨rfl,qE ho⟩) h4
      |own d'=>
       refine V.tr (Keeps.ah1 fun q q' e=>hkk ?_) h4;have e2:(q++[k'])++[i]=(q'++[k])++[i]:=by simpa using e
       have e3:=qY e2;have:=congrArg List.getLast? e3;simpa using this
      |_=>trivial
   refine⟨_,w,run (hlt _ hk),_,h,relabS [k,r] [u] ow,?_⟩;rw[hd];exact hf2.set hu (V.tr Keeps.relabS hV)
  ·exact h.elim
 ·exact h.elim
def aq1 (ho:o.op= .nilCheck x) (hd:o.dst=some u) (hu:u<n)
  (hp:∃y,oF s (slotOf x) (evS s x)=y/\y≠ .un) (h:vU u x s K):Ok P n w0 ow0 o s K:=by
 refine iI fun a w ow hf=> ?_;obtain⟨y,hy,hne⟩:=hp;have hv:=hf.asPtr x;rw[hy]at hv
 have hptr:∃b off,a.eval x= .pointer (some ⟨b,off,none⟩):=by
  have hy':(∃d,y= .rp d)\/∃t p,y= .rf t p:=by
   unfold oF at hy;split at hy<;>first|(exact .inl ⟨_,hy.symm⟩)|(exact .inr ⟨_,_,hy.symm⟩)|skip
   all_goals first|exact absurd hy.symm hne|(split at hy<;>first|(exact .inl ⟨_,hy.symm⟩)|(exact .inr ⟨_,_,hy.symm⟩)|exact absurd hy.symm hne|skip)
   all_goals first|(split at hy<;>first|(exact .inl ⟨_,hy.symm⟩)|(exact .inr ⟨_,_,hy.symm⟩)|exact absurd hy.symm hne)
  rcases hy' with⟨d,rfl⟩|⟨t,p,rfl⟩
  ·obtain⟨b,off,h1,_⟩:=hv;exact⟨b,off,h1⟩
  ·obtain⟨_,_,b,off,_,_,_,h1⟩:=hv;exact⟨b,off,h1⟩
 obtain⟨b,off,he⟩:=hptr;refine⟨a.eval x,w,?_,?_⟩
 ·unfold execOp;simp only[ho,he];rfl
 ·rw[hd];exact xR hf hu h
end Go.Dv
end
section
namespace Go
def mG:= @Option.map_none
def zR:= @Value.slice.injEq
end Go
end
