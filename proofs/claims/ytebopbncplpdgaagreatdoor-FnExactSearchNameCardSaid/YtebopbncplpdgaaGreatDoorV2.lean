/- Lemmas and walks that the law leans on, part V2. No condition. -/
import Derived.Lib.SlBytesRow
import Derived.Lib.ConvBytes
import Derived.Laws.StructEq
import Derived.StillTail
import Derived.Test.YtebopbncplpdgaaGreatDoorProg
import Derived.Lib.LaidTab
import Derived.Lib.ItoaNum
import Derived.Shelf.Strconv.Itoa3
import Derived.Test.YtebopbncplpdgaaGreatDoorV1
set_option linter.unusedVariables false
set_option linter.defProp false
set_option linter.unusedSimpArgs false
set_option linter.unusedSectionVars false
set_option maxRecDepth 10000
set_option maxHeartbeats 1000000
section
namespace Go.Dv
open Go.RowKit
variable [lL]
def eqB (op:BinOp)(x y:Value)(K:Value->Prop):Prop:=match op,x,y with
 | .eql,.bool a,.bool b=>K (.bool (a==b))
 | .neq,.bool a,.bool b=>K (.bool (a !=b))
 |_,_,_=>False
variable {P:Program}{n:Nat}{w0:World}{ow0:Own}{o:Oper}{s:St}{K:St->Prop}{t:TypeId}{x y:Operand}
def ok_eqB {op:BinOp}{t':TypeId}(ht:P.underlying t=some .bool) (ho:o.op= .binOp op t x y t') (hd:dstOk n o=true)
  (h:oneK (evS s x) fun u=>oneK (evS s y) fun v=>eqB op u v fun r=>K (s.jR o.dst (.val (.one r)))):Ok P n w0 ow0 o s K:=by
 obtain⟨u,hu,h1⟩:=eY h;clear h;obtain⟨v,hv,h⟩:=eY h1;clear h1
 have heq:∀(w:World) (a b:Bool),(Op.equal t (.bool a) (.bool b)).run P w= .ok (a==b) w:=by
  intro w a b;unfold Op.equal Op.maxDepth Op.equalIn;rw[aI,run_underlying ht w];rfl
 unfold eqB at h;split at h
 ·rename_i a b;refine yQ hd (u:= .bool (a==b)) rfl (fun ac w he=> ?_) h;unfold execOp;rw[ho];simp only[he _ _ hu,he _ _ hv];have:(eqGuard .eql t x y (.bool a) (.bool b)).run P w= .ok () w:=rfl;simp only[aI,this,aG,binOp,heq,aU]
 ·rename_i a b;refine yQ hd (u:= .bool (a !=b)) rfl (fun ac w he=> ?_) h;unfold execOp;rw[ho];simp only[he _ _ hu,he _ _ hv];have:(eqGuard .neq t x y (.bool a) (.bool b)).run P w= .ok () w:=rfl;simp only[aI,this,aG,binOp,heq,aU];rfl
 ·exact h.elim
def bndK (s:St)(x:Option Operand)(z:Nat)(K:Nat->Prop):Prop:=match x with
 |none=>K z
 |some x=>oneK (evS s x) fun v=>match v with
  | .int _ j=>0<=j/\K j.toNat
  |_=>False
def dsliceT (s:St)(z:ByteArray)(lo hi:Option Operand)(K:Value->Prop):Prop:=
 bndK s hi z.size fun h=>bndK s lo 0 fun l=>l<=h/\h<=z.size/\K (.string (z.extract l h))
variable {a:Act}
def aeL {P:Program}{x:Option Operand}{z:Nat}{K:Nat->Prop}(he:∀x u,evS s x= .val (.one u)->a.eval x=u)(h:bndK s x z K):
  ∃j,K j/\((x=none/\j=z)\/∃x' k i,x=some x'/\a.eval x'= .int k i/\0<=i/\i.toNat=j):=by
 cases x with
 |none=>exact⟨z,h,.inl ⟨rfl,rfl⟩⟩
 |some x=>
  obtain⟨v,hv,h1⟩:=eY h;split at h1
  ·exact⟨_,h1.2,.inr ⟨x,_,_,rfl,he _ _ hv,h1.1,rfl⟩⟩
  ·exact h1.elim
variable {k:IntKind}
def TM {w:World}{i:Int}{m:Nat}{c:BoundsCode}(h0:0<=i)(hm:i.toNat<=m):(Instr.sliceBound (.int k i) m c).run P w= .ok i.toNat w:=by
 unfold Instr.sliceBound;simp only[asIntOf,aI,aU,aG];rw[if_pos ⟨h0,by omega⟩];rfl
variable {lo hi:Option Operand}{cap:Nat}
def V4 {w:World}{isS:Bool}{len l h:Nat}(hl:(lo=none/\l=0)\/∃x' k i,lo=some x'/\a.eval x'= .int k i/\0<=i/\i.toNat=l)
  (hh:(hi=none/\h=len)\/∃x' k i,hi=some x'/\a.eval x'= .int k i/\0<=i/\i.toNat=h) (h1:l<=h) (h2:h<=cap):(Instr.sliceBounds isS len cap (lo.map a.eval) (hi.map a.eval) none).run P w= .ok (l,h,cap) w:=by
 unfold Instr.sliceBounds;rcases hh with⟨rfl,rfl⟩|⟨x',k,i,rfl,he,h0,rfl⟩<;>rcases hl with⟨rfl,rfl⟩|⟨x2,k2,i2,rfl,he2,h02,rfl⟩
 ·simp only[mG,aI,aU,aG]
 ·simp only[mG,dA,he2,aI,aU,aG,TM h02 h1]
 ·simp only[mG,dA,he,aI,aU,aG,TM h0 h2]
 ·simp only[dA,he,he2,aI,aU,aG,TM h0 h2,TM h02 h1]
def ay6 (ht:P.underlying t=some .string) (ho:o.op= .slice t x lo hi none) (hd:dstOk n o=true)
  (h:oneK (evS s x) fun v=>match v with| .string z=>dsliceT s z lo hi fun r=>K (s.jR o.dst (.val (.one r)))|_=>False):Ok P n w0 ow0 o s K:=by
 obtain⟨v,hx,h1⟩:=eY h;clear h;split at h1
 ·rename_i z;refine iI fun a w ow hf=> ?_;have he:∀x u,evS s x= .val (.one u)->a.eval x=u:=fun x u hx=>(hf.one hx).1;obtain⟨hh,h2,e1⟩:=aeL (P:=P) he h1;obtain⟨ll,⟨h3,h4,hK⟩,e2⟩:=aeL (P:=P) he h2;refine⟨.string (z.extract ll hh),w,?_,_,hK,ow,?_⟩
  ·unfold execOp;rw[ho];simp only[he _ _ hx,Instr.sliceAt,Instr.slice,aI,run_underlying ht w,aG,Option.isSome_none,dV,if_false,mG];rw[V4 e2 e1 h3 h4];rfl
  ·cases hod:o.dst with
   |none=>exact hf
   |some t=>
    have ht:t<n:=by simpa[dstOk,hod]using hd
    exact hf.set ht (SV.A8 rfl)
 ·exact h1.elim
variable {ow:Own}{l:List Nat}
def R.aM1 {w:World}{xs:List D}{l2:List Nat}{cs:List Value}(h:R P w ow (.sl none (D.fzs xs)) l cs):R P w ow (.sl none (D.fzs xs)) l2 cs:=by
 have:=R.trf (d:= .sl none xs) (l2:=l2) (w':=w) (ow':=ow) (fun b _ hb=>⟨rfl,hb⟩) (by simpa only[D.fz]using h);simpa only[D.fz]using this
def R.part {w:World}{xs:List D}{a:Option Addr}{len lo hi s:Nat}(h:R P w ow (.sl none (D.fzs xs)) l [.slice a len cap])(h1:lo<=hi)(h2:hi<=len)(hs:∀x∈xs,x.w=s):
  R P w ow (.sl none (D.fzs ((xs.drop lo).take (hi-lo)))) l [.slice (if cap=lo then a else a.map (·.add (lo*s))) (hi-lo) (cap-lo)]:=by
 simp only[D.jS]at h|-
 rw[wF,List.map_drop];simp only[R]at h|-
 obtain⟨a',cap',hv,hc1,hc2,h4⟩:=h;simp only[mD,zR,and_true]at hv;obtain⟨rfl,rfl,rfl⟩:=hv;simp only[aQ]at hc1 h2;have hlen:(((xs.map D.fz).drop lo).take (hi-lo)).length=hi-lo:=by simp;omega
 refine⟨_,_,by rw[hlen],by omega,by omega,?_⟩;rcases h4 with⟨rfl,hx0,rfl⟩|⟨_,hx0⟩|⟨b,off,s',C,e,fz,rfl,hh,hn,_,hr⟩
 ·right;left;rw[hx0];simp
 ·right;left;rw[hx0];simp
 ·by_cases hcl:cap=lo
  ·right;left;refine⟨trivial,?_⟩;have:hi-lo=0:=by omega
   rw[this];rfl
  ·right;right;have hrow:=(Rs.iff hh).1 hr;refine⟨b,off+lo*s,s',C,e,fz,by rw[if_neg hcl];simp[Addr.add],hh,hn,(fun t ht=>by cases ht),(Rs.iff hh).2 fun j x hx=> ?_⟩
   have hj:(xs.map D.fz)[lo+j]?=some x:=by
    rw[bD]at hx;split at hx
    ·rw[dX]at hx;exact hx
    ·cases hx
   obtain⟨y,hy,rfl⟩:=dG.1 (aA hj);obtain⟨g1,g2⟩:=hrow (lo+j) _ hj;have hs':=hs y hy;rw[←D.amA y]at hs';refine⟨g1,?_⟩;have:off+lo*s+j*s'=off+(lo+j)*s':=by rw[←g1,hs',k_Nat_add_mul];omega
   rw[this];exact g2.fz0
def ay5 {e:TypeId}{i:TypeInfo}{xs:List D}(ht:P.underlying t=some (.slice e)) (hi':P.info? e=some i) (ho:o.op= .slice t x lo hi none) (hd:dstOk n o=true)
  (hx:asSl s (slotOf x) (evS s x)= .fr xs) (hw:xs.all (fun d=>d.w==i.size)=true)
  (h:bndK s hi xs.length fun h=>bndK s lo 0 fun l=>l<=h/\h<=xs.length/\K (s.jR o.dst (.val (.sl none ((xs.drop l).take (h-l)))))):Ok P n w0 ow0 o s K:=by
 refine iI fun a w ow hf=> ?_;have he:∀x u,evS s x= .val (.one u)->a.eval x=u:=fun x u hx=>(hf.one hx).1;obtain⟨hh,h2,e1⟩:=aeL (P:=P) he h;obtain⟨ll,⟨h3,h4,hK⟩,e2⟩:=aeL (P:=P) he h2;have hv:=hf.asSl x;rw[hx]at hv;simp only[BV]at hv;obtain⟨ad,cap,hval,hcap,_⟩:=hv.hdr;rw[D.jS,aQ]at hval;have hcap':xs.length<=cap:=by rw[D.jS,aQ]at hcap;exact hcap
 rw[hval]at hv;have hp:=R.part hv h3 h4 fun d hd=>by simpa using aH.1 hw d hd
 refine⟨.slice (if cap=ll then ad else ad.map (·.add (ll*i.size))) (hh-ll) (cap-ll),w,?_,_,hK,ow,?_⟩
 ·unfold execOp;rw[ho];simp only[hval,Instr.sliceAt,Instr.slice,aI,run_underlying ht w,aG,mG];rw[V4 e2 e1 h3 (k_Nat_le_trans h4 hcap')];simp only[aG,F9 hi' w,aU]
 ·cases hod:o.dst with
  |none=>exact hf
  |some t=>
   have ht:t<n:=by simpa[dstOk,hod]using hd
   refine hf.set ht ?_;simp only[SV,V,D.fz];exact hp.aM1
abbrev dU (c:UInt8):D:= .one (.int .u8 c.toNat)
def bytes?:List D->Option (List UInt8)
 |[]=>some []
 |d::r=>match d with
  | .one (.int .u8 n)=>if 0<=n/\n<256 then(bytes? r).map (UInt8.ofNat n.toNat::·)else none
  |_=>none
def afJ:bytes? []=some []:=rfl
def QU (c:UInt8)(r:List D):bytes? (.one (.int .u8 c.toNat)::r)=(bytes? r).map (c::·):=by
 have:=c.toNat_lt;simp only[bytes?];rw[if_pos (by omega)];simp
def V5:∀l:List UInt8,bytes? (l.map fun c=>D.one (.int .u8 c.toNat))=some l
 |[]=>rfl
 |c::l=>by rw[fI,QU,V5 l];rfl
def acB:∀{xs:List D}{l:List UInt8},bytes? xs=some l->xs=l.map dU
 |[],l,h=>by obtain rfl:=k_Option_some_inj h;rfl
 |d::r,l,h=>by
  unfold bytes? at h;split at h
  ·rename_i n;split at h
   ·rename_i hn;obtain⟨l',h1,rfl⟩:=aL.1 h;rw[acB h1,fI];congr 3;have:(UInt8.ofNat n.toNat).toNat=n.toNat:=by simp;omega
    rw[this];omega
   ·cases h
  ·cases h
def VG (xs ys:List D):bytes? (xs++ys)=(bytes? xs).bind fun a=>(bytes? ys).map (a++·):=by
 induction xs with
 |nil=>simp[bytes?]
 |cons d r ih=>
  simp only[fZ]
  conv=>lhs;unfold bytes?
  conv=>rhs;arg 1;unfold bytes?
  split
  ·split
   ·rw[ih];cases bytes? r<;>cases bytes? ys<;>simp
   ·rfl
  ·rfl
def aKG {src e:TypeId}{l:List UInt8}(hs:P.underlying src=some (.slice e)) (he:P.underlying e=some (.int .u8)) (ht:P.underlying t=some .string) (ho:o.op= .convert src t x) (hd:dstOk n o=true)
  (hl:bytes? (asSl s (slotOf x) (evS s x)).xs=some l) (hno:asSl s (slotOf x) (evS s x)≠ .no) (h:K (s.jR o.dst (.val (.one (.string ⟨l.toArray⟩))))):Ok P n w0 ow0 o s K:=by
 refine iI fun a w ow hf=> ?_;have hv:=hf.asSl x;have hx:=acB hl
 have key:∀(o':Option TypeId) (ys:List D) (lab:List Nat),R P w ow (.sl o' ys) lab [a.eval x]->ys=l.map dU->(execOp a.eval o).run P w= .ok (.value (.string ⟨l.toArray⟩)) w:=by
  intro o' ys lab hR hys;subst hys;unfold execOp;rw[ho];obtain⟨ad,cap,h1,_⟩:=hR.hdr
  have hrun:(convert src t (a.eval x)).run P w= .ok (.string ⟨l.toArray⟩) w:=by
   rw[h1];rw[aQ];cases hl':l with
   |nil=>
    subst hl';cases ad with
    |none=>simp[convert,run_underlying hs,run_underlying he,run_underlying ht,Conv.bytesToString];rfl
    |some ad=>simp[convert,run_underlying hs,run_underlying he,run_underlying ht,Conv.bytesToString,loadCells];rfl
   |cons c l'=>
    rw[←hl'];have h0:(l.map dU)[0]?=some (dU c):=by rw[hl'];rfl
    obtain⟨b,off,cap',h2,h3⟩:=hR.elem h0;rw[h1]at h2;simp only[aQ,zR]at h2;obtain⟨rfl,_,rfl⟩:=h2;have:=Lib.run_convert_whole (P:=P) w src e t hs he ht b off ⟨l.toArray⟩ (fun i hi=> ?_) cap
    ·simpa[ByteArray.size]using this
    ·have hil:i<l.length:=by simpa[ByteArray.size]using hi
     have hi':(l.map dU)[i]?=some (dU l[i]):=by simp[hil]
     obtain⟨b2,off2,cap2,g1,g2⟩:=hR.elem hi';rw[h1]at g1;simp only[aQ,zR,aJ,Addr.mk.injEq]at g1;obtain⟨⟨rfl,rfl,_⟩,_,_⟩:=g1;obtain⟨_,hL,_,_⟩:=hR.into g2;obtain⟨v,hv1,hv2⟩:=hL.cell rfl;simp only[R]at hv2;have hvv:v= .int .u8 (l[i]).toNat:=by simpa using hv2.1
     have e1:(dU l[i]).w=1:=rfl;rw[hvv,e1,Nat.mul_one]at hv1;exact hv1
  simp only[aI,hrun,aG,aU]
 refine⟨.string ⟨l.toArray⟩,w,?_,_,h,ow,?_⟩
 ·generalize asSl s (slotOf x) (evS s x)=z at hv hx hno;cases z with
  |no=>exact absurd rfl hno
  |fr ys=>
   simp only[BV]at hv;refine key none _ _ hv ?_;have hx':ys=l.map dU:=hx;rw[hx',D.jS,uD];rfl
  |nd r p ys=>
   obtain⟨d,o',_,_,hR,_⟩:=hv;exact key o' ys _ hR hx
 ·cases hod:o.dst with
  |none=>exact hf
  |some t=>
   have ht:t<n:=by simpa[dstOk,hod]using hd
   exact hf.set ht (SV.A8 rfl)
def aI9 {ts:Array TypeId}{k':IntKind}{a b:Int}{mx:Bool}(ho:o.op= .call {callee:= .builtin (if mx then .max else .min),args:= #[x,y],argTypes:=ts}) (hd:dstOk n o=true)
  (hx:evS s x= .val (.one (.int k a))) (hy:evS s y= .val (.one (.int k' b))) (h:K (s.jR o.dst (.val (.one (.int k (if mx then max a b else min a b)))))):Ok P n w0 ow0 o s K:=by
 refine yQ hd (u:= .int k (if mx then max a b else min a b)) rfl (fun ac w he=> ?_) h;unfold execOp;rw[ho];cases mx
 ·have e:min a b=if b<a then b else a:=by rw[Int.min_def];split<;>split<;>omega
  simp[resolve,invoke,builtin,he _ _ hx,he _ _ hy,Builtin.min_,Builtin.min2,e]
 ·have e:max a b=if b>a then b else a:=by rw[Int.max_def];split<;>split<;>omega
  simp[resolve,invoke,builtin,he _ _ hx,he _ _ hy,Builtin.max_,Builtin.max2,e]
end Go.Dv
end
section
namespace Go
def fC:= @Array.getElem?_append_left
end Go
end
section
namespace Go.Dv
open Go.RowKit
variable [lL]
variable {P:Program}{n:Nat}{w0:World}{ow0:Own}{o:Oper}{s:St}{K:St->Prop}{x:Operand}
def aD9 {y z:Operand}{ts:Array TypeId}{k k' k2:IntKind}{a b c:Int}{mx:Bool}(ho:o.op= .call {callee:= .builtin (if mx then .max else .min),args:= #[x,y,z],argTypes:=ts}) (hd:dstOk n o=true)
  (hx:evS s x= .val (.one (.int k a))) (hy:evS s y= .val (.one (.int k' b))) (hz:evS s z= .val (.one (.int k2 c))) (h:K (s.jR o.dst (.val (.one (.int k (if mx then max (max a b) c else min (min a b) c)))))):Ok P n w0 ow0 o s K:=by
 refine yQ hd (u:= .int k (if mx then max (max a b) c else min (min a b) c)) rfl (fun ac w he=> ?_) h;unfold execOp;rw[ho];cases mx
 ·have e:∀a b:Int,(if b<a then b else a)=min a b:=fun a b=>by rw[Int.min_def];split<;>split<;>omega
  simp[resolve,invoke,builtin,he _ _ hx,he _ _ hy,he _ _ hz,Builtin.min_,Builtin.min2,e]
 ·have e:∀a b:Int,(if b>a then b else a)=max a b:=fun a b=>by rw[Int.max_def];split<;>split<;>omega
  simp[resolve,invoke,builtin,he _ _ hx,he _ _ hy,he _ _ hz,Builtin.max_,Builtin.max2,e]
def aKL {src t e:TypeId}{z:ByteArray}{i:TypeInfo}{u:Nat}(hs:P.underlying src=some .string) (ht:P.underlying t=some (.slice e)) (he:P.underlying e=some (.int .u8)) (hi:P.info? e=some i) (hsz:i.size=1) (hz:z.size<=16777216)
  (ho:o.op= .convert src t x) (hd:o.dst=some u) (hu:u<n) (hx:evS s x= .val (.one (.string z))) (h:K (s.set u (.own (.sl (some e) (z.data.toList.map dU))))):Ok P n w0 ow0 o s K:=by
 refine iI fun a w ow hf=> ?_
 have hrun:(execOp a.eval o).run P w= .ok (.value (.slice (some ⟨w.heap.size,0,none⟩) z.size (grownCap w z.size 0 e))) (Lib.bytesWorld w e z):=by
  unfold execOp;rw[ho];simp only[(hf.one hx).1,aI,Lib.run_convert_string_bytes w src t e z hs ht he,aG];rfl
 refine⟨_,_,hrun,_,h,ownNew w [u] ow,?_⟩;rw[hd];have hnew:=Lib.bytesWorld_at_new w e z
 have hg:Fits P n w0 ow0 (ownNew w [u] ow) s a (Lib.bytesWorld w e z):=by
  refine hf.grown ?_ ?_ ?_ ?_ (fun b hb=>⟨Lib.bytesWorld_at_old w e z b hb,O0 hb⟩) (fun b hb=> ?_)
  ·simp[Lib.bytesWorld,World.freeze,World.alloc,World.drew, -World.alloc_eq, -World.drew_eq]
  ·simp[Lib.bytesWorld,World.freeze,World.alloc,World.drew, -World.alloc_eq, -World.drew_eq]
  ·simp[Lib.bytesWorld,World.freeze,World.alloc,World.drew, -World.alloc_eq, -World.drew_eq]
  ·rw[Lib.bytesWorld_size];omega
  ·rw[Lib.bytesWorld_size]at hb;simp only[ownNew,show b≠w.heap.size by omega,if_false];exact hf.new b (by omega)
 refine hg.set hu ?_;have hcap:z.size<=grownCap w z.size 0 e:=grownCap_ge w z.size 0 e;have hlen:(z.data.toList.map dU).length=z.size:=by rw[aQ,jF];rfl
 have hsize:(Lib.bytesCells w e z).size=grownCap w z.size 0 e:=by simp only[Lib.bytesCells,Array.size_append,Array.size_map,Array.size_replicate];have:z.data.size=z.size:=rfl;omega
 simp only[SV,V,R];rw[hlen];refine⟨some ⟨w.heap.size,0,none⟩,grownCap w z.size 0 e,rfl,hcap,grownCap_le_maxLen w _ _ e (by unfold maxLen;omega),.inr (.inr ⟨w.heap.size,0,1,_,e,_,rfl,hnew,(fun h=>by cases h),?_,?_⟩)⟩
 ·intro t' ht';obtain rfl:e=t':=by simpa using ht'
  exact⟨by simp[ownNew],rfl,fun j hj hh=>by omega,rfl,by rw[hsize];omega,i,hi,hsz⟩
 ·refine(Rs.iff hnew).2 fun j d hj=> ?_;simp only[aS,aL]at hj;obtain⟨c,hc,rfl⟩:=hj;have hjl:j<z.data.size:=by have:=(aD.1 hc).1;simpa using this
  refine⟨rfl,Lib.bytesCells w e z,e,_,[.int .u8 c.toNat],hnew,fun k hk=> ?_,by simp[R,Value.oneCell']⟩;have hk':k<1:=hk;obtain rfl:k=0:=by omega
  have hcj:z.data[j]=c:=by
   have:=(aD.1 hc).2;simpa using this
  simp only[Lib.bytesCells];have h0:0+j*1+0=j:=by omega
  rw[h0,fC (by simpa using hjl),Array.getElem?_map,iG hjl,hcj];rfl
end Go.Dv
namespace Go.Dv
open Go.RowKit
mutual
def R.KO {P:Program}{w:World}{ow:Own}:∀{d:D}{l:List Nat}{cs cs':List Value},d.flat=some cs'->R P w ow d l cs->cs=cs'
 | .one v,l,cs,cs',h,hr=>by
  simp only[D.flat]at h;simp only[R]at hr;split at h
  ·rw[hr.1];simpa using h
  ·cases h
 | .sl o xs,l,cs,cs',h,_=>by simp only[D.flat]at h;cases h
 | .bx o xs,l,cs,cs',h,_=>by simp only[D.flat]at h;cases h
 | .any n,l,cs,cs',h,_=>by simp only[D.flat]at h;cases h
 | .agg xs,l,cs,cs',h,hr=>by simp only[D.flat]at h;simp only[R]at hr;exact Ra.KO h hr
def Ra.KO {P:Program}{w:World}{ow:Own}:∀{xs:List D}{l:List Nat}{i:Nat}{cs cs':List Value},D.yY xs=some cs'->Ra P w ow xs l i cs->cs=cs'
 |[],l,i,cs,cs',h,hr=>by simp only[D.yY]at h;simp only[Ra]at hr;rw[hr];simpa using h
 |x::xs,l,i,cs,cs',h,hr=>by
  simp only[D.yY]at h;simp only[Ra]at hr;obtain⟨c1,c2,h1,h2,h3,h4⟩:=hr;split at h
  ·rename_i a b ha hb;rw[h1,R.KO ha h3,Ra.KO hb h4];simpa using h
  ·cases h
end
mutual
def D.agC:∀{d:D}{cs:List Value},d.flat=some cs->d.fz=d
 | .one v,_,_=>rfl
 | .sl _ _,_,h=>by simp only[D.flat]at h;cases h
 | .bx _ _,_,h=>by simp only[D.flat]at h;cases h
 | .any _,_,h=>by simp only[D.flat]at h;cases h
 | .agg xs,_,h=>by simp only[D.flat]at h;simp only[D.fz,D.aj0 h]
def D.aj0:∀{xs:List D}{cs:List Value},D.yY xs=some cs->D.fzs xs=xs
 |[],_,_=>rfl
 |x::xs,cs,h=>by
  simp only[D.yY]at h;split at h
  ·rename_i a b ha hb;simp only[D.fzs,D.agC ha,D.aj0 hb]
  ·cases h
end
def DU (s:St)(x:Operand):Option (List Value):=match evS s x with
 | .val (.agg xs)=>D.yY xs
 | .own (.agg xs)=>D.yY xs
 | .ag r p=>match s r with
  | .own d=>match D.sub p d with
   |some (.agg xs)=>D.yY xs
   |_=>none
  |_=>none
 |_=>none
variable {P:Program}
section
variable [lL]
def Fits.flatS {n:Nat}{w0 w:World}{ow0 ow:Own}{s:St}{a:Act}(h:Fits P n w0 ow0 ow s a w){x:Operand}{cs:List Value}(hx:Dv.DU s x=some cs):a.eval x= .agg cs.toArray:=by
 have hv:=h.eval x;unfold Dv.DU at hx;split at hx
 ·rename_i xs he;rw[he]at hv;simp only[SV]at hv;rw[show(D.agg xs).fz= .agg xs from D.agC (d:= .agg xs) hx]at hv;obtain⟨c,h1,h2⟩:=hv;simp only[R]at h2;rw[h1,←Ra.KO hx h2]
 ·rename_i xs he;rw[he]at hv;obtain⟨c,h1,h2⟩:=hv;simp only[R]at h2;rw[h1,←Ra.KO hx h2]
 ·rename_i r p he;rw[he]at hv;obtain⟨d,m,hs,hm,hagg,hV⟩:=hv;rw[hs]at hx;simp only[hm]at hx;split at hx
  ·rename_i m' xs hm';obtain rfl:m= .agg xs:=k_Option_some_inj hm';obtain⟨c,h1,h2⟩:=hV;simp only[R]at h2;rw[h1,←Ra.KO hx h2]
  ·cases hx
 ·cases hx
end
def EqAt (P:Program)(t:TypeId)(xs ys:List Value)(r:Bool):Prop:=P.eqGuardType P.depth t=false/\∀w,(Op.equalIn 10000 t (.agg xs.toArray) (.agg ys.toArray)).run P w= .ok r w
def EqAt.iff {t:TypeId}{xs ys:List Value}{r0 r:Bool}(h:EqAt P t xs ys r0):EqAt P t xs ys r↔r=r0:=by
 constructor
 ·intro h';have h1:=h.2 (default:World);have h2:=h'.2 (default:World);rw[h1]at h2;injection h2 with h2;exact h2.symm
 ·rintro rfl;exact h
end Go.Dv
end
section
namespace Go.Dv
open Go.RowKit
variable [lL]
def aoS (P:Program)(op:BinOp)(t:TypeId)(x y:Option (List Value))(K:Value->Prop):Prop:=match op,x,y with
 | .eql,some a,some b=>∃r,EqAt P t a b r/\K (.bool r)
 | .neq,some a,some b=>∃r,EqAt P t a b r/\K (.bool (!r))
 |_,_,_=>False
variable {P:Program}{n:Nat}{w0:World}{ow0:Own}{o:Oper}{s:St}{K:St->Prop}{op:BinOp}{t t':TypeId}{x:Operand}
def aKJ {y:Operand}(ho:o.op= .binOp op t x y t') (hd:dstOk n o=true)
  (h:aoS P op t (DU s x) (DU s y) fun r=>K (s.jR o.dst (.val (.one r)))):Ok P n w0 ow0 o s K:=by
 refine iI fun a w ow hf=> ?_
 have fin:∀r:Bool,Rel P n w0 ow0 (s.jR o.dst (.val (.one (.bool r)))) (a.put o.dst (.bool r)) w:=fun r=>⟨ow,by
  cases hod:o.dst with
  |none=>exact hf
  |some t=>
   have ht:t<n:=by simpa[dstOk,hod]using hd
   exact hf.set ht (SV.A8 rfl)⟩
 unfold aoS at h;split at h
 ·rename_i ca cb hx hy;obtain⟨r,⟨hm,hr⟩,hK⟩:=h;refine⟨.bool r,w,?_,_,hK,fin r⟩;unfold execOp;rw[ho];simp only[hf.flatS hx,hf.flatS hy,aI,run_eqGuard_agg w .eql t x y _ _ hm,aG,run_eql_struct,hr w,aU]
 ·rename_i ca cb hx hy;obtain⟨r,⟨hm,hr⟩,hK⟩:=h;refine⟨.bool (!r),w,?_,_,hK,fin _⟩;unfold execOp;rw[ho];simp only[hf.flatS hx,hf.flatS hy,aI,run_eqGuard_agg w .neq t x y _ _ hm,aG,run_neq_struct,hr w,aU]
 ·exact h.elim
def aqU (op:BinOp)(x:S)(z:SLv)(K:Value->Prop):Prop:=match op with
 | .eql=>(x= .val (.one (.slice none 0 0))/\K (.bool true))\/(z≠ .no/\z.xs≠[]/\K (.bool false))
 | .neq=>(x= .val (.one (.slice none 0 0))/\K (.bool false))\/(z≠ .no/\z.xs≠[]/\K (.bool true))
 |_=>False
def BV.hdr {w:World}{ow:Own}{a:Act}{v:Value}{z:SLv}(h:BV P w ow s a v z)(hz:z≠ .no)(hx:z.xs≠[]):∃ad m c,v= .slice (some ad) m c:=by
 have key:∀(o:Option TypeId) (xs:List D) (l:List Nat),xs≠[]->R P w ow (.sl o xs) l [v]->∃ad m c,v= .slice (some ad) m c:=by
  intro o xs l hne hr;simp only[R]at hr;obtain⟨ad,cap,h1,h2,h3,h4⟩:=hr;rcases h4 with⟨_,h4,_⟩|⟨_,h4⟩|⟨b,off,s,C,e,fz,ha,_⟩
  ·exact absurd h4 hne
  ·exact absurd h4 hne
  ·exact⟨_,_,_,by rw[ha]at h1;simpa using h1⟩
 cases z with
 |no=>exact absurd rfl hz
 |fr xs=>
  simp only[BV]at h;refine key none (D.fzs xs) [] ?_ h;intro e;rw[D.jS]at e;exact hx (by simpa[SLv.xs]using e)
 |nd r p xs=>
  obtain⟨d,o,_,_,hR,_⟩:=h;exact key o xs _ hx hR
def aH2 {e:TypeId}(ht:P.underlying t=some (.slice e)) (ho:o.op= .binOp op t x (.const (.slice none 0 0)) t') (hd:dstOk n o=true)
  (h:aqU op (evS s x) (asSl s (slotOf x) (evS s x)) fun r=>K (s.jR o.dst (.val (.one r)))):Ok P n w0 ow0 o s K:=by
 refine iI fun a w ow hf=> ?_
 have fin:∀r:Bool,Rel P n w0 ow0 (s.jR o.dst (.val (.one (.bool r)))) (a.put o.dst (.bool r)) w:=fun r=>⟨ow,by
  cases hod:o.dst with
  |none=>exact hf
  |some t=>
   have ht:t<n:=by simpa[dstOk,hod]using hd
   exact hf.set ht (SV.A8 rfl)⟩
 have hv:=hf.asSl x;have yes:evS s x= .val (.one (.slice none 0 0))->a.eval x= .slice none 0 0:=fun he=>(hf.one he).1;have ev:a.eval (.const (.slice none 0 0))= .slice none 0 0:=rfl
 have e1:(Op.equal t (.slice none 0 0) (.slice none 0 0)).run P w= .ok true w:=by
  unfold Op.equal Op.maxDepth Op.equalIn;rw[aI,run_underlying ht w];rfl
 have e2:∀ad m c,(Op.equal t (.slice (some ad) m c) (.slice none 0 0)).run P w= .ok false w:=fun ad m c=>by
  unfold Op.equal Op.maxDepth Op.equalIn;rw[aI,run_underlying ht w];rfl
 unfold aqU at h;split at h
 ·rcases h with⟨he,hK⟩|⟨hz,hx,hK⟩
  ·refine⟨.bool true,w,?_,_,hK,fin _⟩;unfold execOp;rw[ho];simp only[yes he,ev];have hg:(eqGuard .eql t x (.const (.slice none 0 0)) (.slice none 0 0) (.slice none 0 0)).run P w= .ok () w:=rfl;simp only[aI,hg,aG,binOp,e1,aU];try rfl
  ·obtain⟨ad,m,c,hs⟩:=BV.hdr hv hz hx;refine⟨.bool false,w,?_,_,hK,fin _⟩;unfold execOp;rw[ho];simp only[hs,ev];have hg:(eqGuard .eql t x (.const (.slice none 0 0)) (.slice (some ad) m c) (.slice none 0 0)).run P w= .ok () w:=rfl;simp only[aI,hg,aG,binOp,e2 ad m c,aU];try rfl
 ·rcases h with⟨he,hK⟩|⟨hz,hx,hK⟩
  ·refine⟨.bool false,w,?_,_,hK,fin _⟩;unfold execOp;rw[ho];simp only[yes he,ev];have hg:(eqGuard .neq t x (.const (.slice none 0 0)) (.slice none 0 0) (.slice none 0 0)).run P w= .ok () w:=rfl;simp only[aI,hg,aG,binOp,e1,aU];try rfl
  ·obtain⟨ad,m,c,hs⟩:=BV.hdr hv hz hx;refine⟨.bool true,w,?_,_,hK,fin _⟩;unfold execOp;rw[ho];simp only[hs,ev];have hg:(eqGuard .neq t x (.const (.slice none 0 0)) (.slice (some ad) m c) (.slice none 0 0)).run P w= .ok () w:=rfl;simp only[aI,hg,aG,binOp,e2 ad m c,aU];try rfl
 ·exact h.elim
def apE (op:BinOp)(v:Value)(K:Value->Prop):Prop:=match op,v with
 | .eql,.nilIface=>K (.bool true)
 | .neq,.nilIface=>K (.bool false)
 | .eql,.iface _ _=>K (.bool false)
 | .neq,.iface _ _=>K (.bool true)
 |_,_=>False
def aKK {ms}(ht:P.underlying t=some (.interface ms)) (ho:o.op= .binOp op t x (.const .nilIface) t') (hd:dstOk n o=true)
  (h:oneK (evS s x) fun v=>apE op v fun r=>K (s.jR o.dst (.val (.one r)))):Ok P n w0 ow0 o s K:=by
 obtain⟨v,hv,h⟩:=eY h
 have e1:∀w:World,(Op.equal t .nilIface .nilIface).run P w= .ok true w:=fun w=>by
  unfold Op.equal Op.maxDepth Op.equalIn;rw[aI,run_underlying ht w];rfl
 have e2:∀(w:World) a b,(Op.equal t (.iface a b) .nilIface).run P w= .ok false w:=fun w a b=>by
  unfold Op.equal Op.maxDepth Op.equalIn;rw[aI,run_underlying ht w];rfl
 have ev:∀ac:Act,ac.eval (.const .nilIface)= .nilIface:=fun _=>rfl
 have hg1:∀(w:World) op,(eqGuard op t x (.const .nilIface) .nilIface .nilIface).run P w= .ok () w:=fun w op=>by
  unfold eqGuard;cases op<;>cases x<;>rfl
 have hg2:∀(w:World) op a b,(eqGuard op t x (.const .nilIface) (.iface a b) .nilIface).run P w= .ok () w:=fun w op a b=>by
  unfold eqGuard;cases op<;>rfl
 unfold apE at h;split at h
 ·refine yQ hd (u:= .bool true) rfl (fun ac w he=> ?_) h;unfold execOp;rw[ho];simp only[he _ _ hv,ev,aI,hg1,aG,binOp,e1,aU]
 ·refine yQ hd (u:= .bool false) rfl (fun ac w he=> ?_) h;unfold execOp;rw[ho];simp only[he _ _ hv,ev,aI,hg1,aG,binOp,e1,aU];rfl
 ·refine yQ hd (u:= .bool false) rfl (fun ac w he=> ?_) h;unfold execOp;rw[ho];simp only[he _ _ hv,ev,aI,hg2,aG,binOp,e2,aU]
 ·refine yQ hd (u:= .bool true) rfl (fun ac w he=> ?_) h;unfold execOp;rw[ho];simp only[he _ _ hv,ev,aI,hg2,aG,binOp,e2,aU];rfl
 ·exact h.elim
end Go.Dv
namespace Go.Dv
open Go.RowKit
mutual
def D.agD:∀{d:D}{cs:List Value},d.flat=some cs->cs.length=d.w
 | .one v,cs,h=>by
  simp only[D.flat]at h;split at h
  ·obtain rfl:[v]=cs:=by simpa using h
   rfl
  ·cases h
 | .sl _ _,_,h=>by simp only[D.flat]at h;cases h
 | .bx _ _,_,h=>by simp only[D.flat]at h;cases h
 | .any _,_,h=>by simp only[D.flat]at h;cases h
 | .agg xs,cs,h=>by simp only[D.flat]at h;simp only[D.w,D.aj1 h]
def D.aj1:∀{xs:List D}{cs:List Value},D.yY xs=some cs->cs.length=D.ws xs
 |[],cs,h=>by simp only[D.yY]at h;obtain rfl:[]=cs:=by simpa using h
              rfl
 |x::xs,cs,h=>by
  simp only[D.yY]at h;split at h
  ·rename_i a b ha hb;obtain rfl:a++b=cs:=by simpa using h
   simp only[aR,D.ws,D.agD ha,D.aj1 hb]
  ·cases h
end
def aj2:∀{xs:List D}{cs:List Value}{s j:Nat}{d:D},D.yY xs=some cs->(∀x∈xs,x.w=s)->xs[j]?=some d->∃c,d.flat=some c/\(cs.drop (j*s)).take s=c
 |[],cs,s,j,d,_,_,h=>by simp at h
 |x::xs,cs,s,j,d,h,hw,hj=>by
  simp only[D.yY]at h;split at h
  ·rename_i a b ha hb;obtain rfl:a++b=cs:=by simpa using h
   have hal:a.length=s:=(D.agD ha).trans (hw x (by simp));cases j with
   |zero=>
    obtain rfl:x=d:=by simpa using hj
    exact⟨a,ha,by simp[←hal]⟩
   |succ j=>
    obtain⟨c,h1,h2⟩:=aj2 hb (fun y hy=>hw y (by simp[hy])) (by simpa using hj);refine⟨c,h1,?_⟩;rw[←h2,show(j+1)*s=a.length+j*s by rw[Nat.succ_mul,hal];omega,qZ,Nat.add_sub_cancel_left,bX (by omega)];rfl
  ·cases h
section
variable [lL]
def aHV {P:Program}{T:TypeId->TyE}{n:Nat}{w0:World}{ow0:Own}{o:Oper}{s:St}{K:St->Prop}{t e:TypeId}{len:Nat}{x y:Operand}{k:IntKind}{j:Int}{xs:List D}{d:D}{cs:List Value}(hG:∀t,Good P T t) (ht:P.underlying t=some (.array len e)) (he:(T e).ok=true) (ho:o.op= .index t x y) (hd:dstOk n o=true)
  (hx:evS s x= .val (.agg xs)) (hcs:D.yY xs=some cs) (hy:evS s y= .val (.one (.int k j))) (hj:0<=j) (hj2:j<len) (hw:xs.all (fun d=>d.w==(T e).w)=true) (hget:xs[j.toNat]?=some d) (hagg:d.isAgg=(T e).ty.isAgg) (h:K (s.jR o.dst (.val d))):Ok P n w0 ow0 o s K:=by
 refine iI fun a w ow hf=> ?_;obtain⟨hdesc,i,zv,hi,hsz,hz,hflat,_,hz2,hby,hzw2⟩:=(hG e).of (TyE.PR he);have hxv:a.eval x= .agg cs.toArray:=hf.flatS (by unfold DU;rw[hx];exact hcs);obtain⟨c,hc1,hc2⟩:=aj2 (s:=(T e).w) hcs (fun y hy=>by simpa using aH.1 hw y hy) hget;have hcl:=D.agD hc1;have hdw:d.w=(T e).w:=by simpa using aH.1 hw d (aA hget)
 have hpart:∃v,(part e cs.toArray (j.toNat*i.size)).run P w= .ok v w/\V P w ow d.fz [] v:=by
  have hdf:d.fz=d:=D.agC hc1;rw[hdf];have hR:R P w ow d [] c:=R.flat hc1;unfold part;simp only[aI,ak1 hdesc,aG];by_cases hag:(T e).ty.isAgg=true
  ·rw[hag];simp only[if_true,aI,F9 hi,aG,aU];refine⟨_,rfl,?_⟩;have:=(V.of hR).1 (by rw[hagg,hag]);rw[hsz]
   have e1:cs.toArray.extract (j.toNat*(T e).w) (j.toNat*(T e).w+(T e).w)=c.toArray:=by
    apply bU.1;simp[List.extract_eq_take_drop,hc2]
   rw[e1];exact this
  ·have hag':(T e).ty.isAgg=false:=by simpa using hag
   rw[hag']
   obtain⟨v,hv,hV⟩:=(V.of hR).2 (by rw[hagg,hag']) (by
    rw[hcl];cases d with
    |agg ys=>rw[hag']at hagg;cases hagg
    |one v=>rfl
    |sl _ _=>rfl
    |bx _ _=>rfl
    |any _=>simp[D.flat]at hc1)
   have hget2:cs.toArray[j.toNat*i.size]?=some v:=by
    rw[hsz];have h1:((cs.drop (j.toNat*(T e).w)).take (T e).w)[0]?=some v:=by rw[hc2,hv];rfl
    rw[bD]at h1;split at h1
    ·simpa using h1
    ·cases h1
   refine⟨v,?_,hV⟩;simp only[dV,if_false,hget2,aU]
 obtain⟨v,hv,hV⟩:=hpart;refine⟨v,w,?_,_,h,ow,?_⟩
 ·unfold execOp;rw[ho];have hyv:=(hf.one hy).1;simp only[hxv,hyv,aI]
  have:(Instr.index t (.agg cs.toArray) (.int k j)).run P w= .ok v w:=by
   unfold Instr.index;simp only[asIntOf,aI,aU,aG,run_underlying ht];rw[if_pos ⟨hj,hj2⟩];simp only[aI,F9 hi,aG,hv]
  simp only[this,aG,aU]
 ·cases hod:o.dst with
  |none=>exact hf
  |some t=>
   have ht:t<n:=by simpa[dstOk,hod]using hd
   exact hf.set ht hV
end
end Go.Dv
end
section
namespace Go
def dF:= @List.getElem?_of_mem
end Go
end
section
namespace Go.Dv
open Go.RowKit
variable [lL]
def yX (P:Program)(f:FuncId)(ds:List D)(gs:List (Nat×D))(Q:S->Prop):Prop:=
 ∀(w:World) (ow:Own) (vs:Array Value) (t:Nat),t≠far0->Laid w ow->(∀b,w.heap.size<=b->ow b=none)->vs.size=ds.length->(∀(i:Nat) (d:D),ds[i]?=some d->V P w ow d.fz [] (vs.getD i undef))->
  (∀p∈gs,V P w ow (D.bx false p.2).fz [] (.pointer (some ⟨p.1,0,none⟩)))->
  Calls P f vs w fun e w'=>∃v ow' r,e= .returned v/\Q r/\After w ow w' ow'/\S.plain r=true/\∀s a,SV P w' ow' s a t r v
variable {P:Program}{f:FuncId}{ds:List D}{gs:List (Nat×D)}{Q:S->Prop}
def fA.toB (h:fA P f ds Q):yX P f ds gs Q:=fun w ow vs t h0 h1 h2 h3 h4 _=>h w ow vs t h0 h1 h2 h3 h4
def yX.fzs (h:yX P f (D.fzs ds) gs Q):yX P f ds gs Q:=by
 intro w ow vs t ht hL h1 h2 h3 h4;refine h w ow vs t ht hL h1 (by rw[h2,D.jS];simp) (fun i d hd=> ?_) h4;rw[D.jS]at hd;simp only[aS,aL]at hd;obtain⟨d2,h5,rfl⟩:=hd;rw[D.ZP];exact h3 i d2 h5
def ajF:List D->Option (List D)
 |[]=>some []
 | .bx _ d::l=>(ajF l).map (d::·)
 |_=>none
def aiL:∀{ds ms:List D},ajF ds=some ms->ds.length=ms.length/\∀(i:Nat) (m:D),ms[i]?=some m->∃o,ds[i]?=some (.bx o m)
 |[],ms,h=>by simp only[ajF]at h;obtain rfl:[]=ms:=by simpa using h
              exact⟨rfl,fun i m h=>by simp at h⟩
 |d::l,ms,h=>by
  cases d with
  |bx o d=>
   simp only[ajF,aL]at h;obtain⟨ms',h1,rfl⟩:=h;obtain⟨h2,h3⟩:=aiL h1;refine⟨by simp[h2],fun i m hi=> ?_⟩;cases i with
   |zero=>simp at hi;subst hi;exact⟨o,rfl⟩
   |succ i=>simpa using h3 i m (by simpa using hi)
  |_=>simp[ajF]at h
def asL (P:Program)(f:FuncId)(ds:List D)(gs:List (Nat×D))(rs:List Nat)[k:aa2 S]:Prop:=∃Q,yX P f ds gs Q/\∀r,Q r->(rs=[]\/r.closed=true)/\k.K r
def axE {rs:List Nat}{K:S->Prop}{r:S}(h:yX P f ds gs (fun r'=>r'=r))(hc:rs=[]\/r.closed=true)(hK:K r):(asL (k:=⟨K⟩) P f ds gs rs):=⟨_,h,fun r' e=>by subst e;exact⟨hc,hK⟩⟩
def af2 (s:St)(u:Option Nat)(f:FuncId)(P:Program)(args:List Operand)(bs:List Nat)(K:St->Prop):Prop:=
 nN s args fun ds rs=>nN s (bs.map Operand.global) fun ds2 rs2=>match ajF ds2 with
  |some ms=>(asL (k:=⟨fun r=>K (s.jR u r)⟩) P f (D.fzs ds) (bs.zip (D.fzs ms)) (rs++rs2))
  |none=>False
def QV:List Value->Option (List Operand)
 |[]=>some []
 | .pointer (some ⟨b,0,none⟩)::l=>(QV l).map (.global b::·)
 |_=>none
variable {a:Act}
def acE :∀{cs:List Value}{ops:List Operand},QV cs=some ops->ops.map a.eval=cs
 |[],ops,h=>by simp only[QV]at h;obtain rfl:[]=ops:=by simpa using h
               rfl
 |v::l,ops,h=>by
  unfold QV at h;split at h
  ·rename_i h0;cases h0
  ·rename_i b l' h0;obtain⟨rfl,rfl⟩:=wD h0;simp only[aL]at h;obtain⟨ops',h1,rfl⟩:=h;simp only[fI,acE h1,mD,and_true];rfl
  ·cases h
variable {n:Nat}{w0:World}{ow0:Own}{o:Oper}{s:St}{K:St->Prop}
def aq0 {args:List Operand}
  (hrun:∀a w ow,Fits P n w0 ow0 ow s a w->(execOp a.eval o).run P w= .ok (.enter f (args.map a.eval).toArray) w) (hd:dstOk n o=true)
  (h:∀a w ow,Fits P n w0 ow0 ow s a w->∃(ds:List D) (gs:List (Nat×D)) (rs:List Nat) (Q:S->Prop),ds.length=args.length/\(∀(i:Nat) (d:D),ds[i]?=some d->∃x,args[i]?=some x/\V P w (AJ rs ow) d.fz [] (a.eval x))/\
   (∀p∈gs,V P w (AJ rs ow) (D.bx false p.2).fz [] (.pointer (some ⟨p.1,0,none⟩)))/\yX P f ds gs Q/\∀r,Q r->(rs=[]\/r.closed=true)/\K (s.jR o.dst r)):Ok P n w0 ow0 o s K:=by
 intro a w ⟨ow,hf⟩ next Q' hn
 obtain⟨ds,gs,rs,Q,hlen,hrd,hgs,hfn,hK⟩:=h a w ow hf;unfold Oper.wp;rw[hrun a w ow hf];simp only[Oper.upon]
 obtain⟨t,ht,hdt⟩:∃t,t≠far0/\∀u,o.dst=some u->u=t/\u<n:=by
  cases hd':o.dst with
  |none=>exact⟨0,by simp[far0],fun u hu=>by cases hu⟩
  |some u=>
   have hu:u<n:=by simpa[dstOk,hd']using hd
   exact⟨u,fun e=>absurd (show far0<n from e▸hu) (k_Nat_not_lt.2 (k_Nat_le_trans hf.small (by decide))),fun u' hu'=>by obtain rfl:=k_Option_some_inj hu';exact⟨rfl,hu⟩⟩
 refine(hfn w (AJ rs ow) (args.map a.eval).toArray t ht (hf.OU.mono fun b o h1 h2=>⟨h1,qK h2⟩) (fun b hb=>qK (hf.new b hb)) (by simp[hlen]) (fun i d hi=> ?_) hgs).mono ?_
 ·obtain⟨x,h1,h2⟩:=hrd i d hi
  have:(args.map a.eval).toArray.getD i undef=a.eval x:=by
   simp[aF,h1]
  rw[this];exact h2
 ·rintro e w' ⟨v,ow',r,rfl,hQ,haf,hpl,hsv⟩;obtain⟨hcl,hKr⟩:=hK r hQ;simp only
  have hnew2:∀b,w'.heap.size<=b->(if b<w.heap.size then ow b else ow' b)=none:=by
   intro b hb;rw[if_neg (by have:=haf.size;omega)];exact haf.new b hb
  have hg:Fits P n w0 ow0 (fun b=>if b<w.heap.size then ow b else ow' b) s a w':=hf.grown haf.os haf.tape haf.output haf.size (fun b hb=>⟨(haf.old b hb).1,if_pos hb⟩) hnew2
  have hres:∀s2,SV P w' (fun b=>if b<w.heap.size then ow b else ow' b) s2 a t r v:=by
   intro s2;rcases hcl with hcl|hcl
   ·subst hcl
    have:(fun b=>if b<w.heap.size then ow b else ow' b)=ow':=by
     funext b;split
     ·rename_i hb;rw[(haf.old b hb).2,lend_nil]
     ·rfl
    rw[this];exact hsv s2 a
   ·refine SV.closed hcl (fun b hb q hq=>⟨rfl,?_⟩) (hsv s2 a);by_cases hlt:b<w.heap.size
    ·have h1:=(haf.old b hlt).2;rw[hq]at h1;simp only[if_pos hlt];unfold AJ at h1;split at h1
     ·rename_i l hl;split at h1
      ·cases h1
      ·rw[hl];exact h1.symm
     ·cases h1
    ·simp only[if_neg hlt];exact hq
  refine hn _ _ _ hKr ?_;cases hd':o.dst with
  |none=>exact⟨_,hg⟩
  |some u=>
   obtain⟨rfl,hu⟩:=hdt u hd';exact⟨_,hg.set hu (hres _)⟩
variable {bs:List Nat}
def Fits.aLE {w:World}{ow:Own}(h:Fits P n w0 ow0 ow s a w){args:List Operand}{u:Option Nat}(hk:af2 s u f P args bs K):
  ∃(ds:List D) (gs:List (Nat×D)) (rs:List Nat) (Q:S->Prop),ds.length=args.length/\(∀(i:Nat) (d:D),ds[i]?=some d->∃x,args[i]?=some x/\V P w (AJ rs ow) d.fz [] (a.eval x))/\
   (∀p∈gs,V P w (AJ rs ow) (D.bx false p.2).fz [] (.pointer (some ⟨p.1,0,none⟩)))/\yX P f ds gs Q/\∀r,Q r->(rs=[]\/r.closed=true)/\K (s.jR u r):=by
 obtain⟨ds,rs,h1,hlen,hrd⟩:=h.argK _ hk;obtain⟨ds2,rs2,h2,hlen2,hrd2⟩:=h.argK _ h1;split at h2
 ·rename_i ms hms;obtain⟨Q,hfn,hK⟩:=h2;obtain⟨hml,hmg⟩:=aiL hms;refine⟨ds,bs.zip (D.fzs ms),rs++rs2,Q,hlen,fun i d hd=>hrd _ (fun r hr=>by simp[hr]) i d hd,?_,hfn.fzs,hK⟩;rintro⟨b,m⟩ hp;obtain⟨i,hi⟩:=dF hp;rw[List.getElem?_zip_eq_some]at hi;obtain⟨hb,hm⟩:=hi;rw[D.jS]at hm;simp only[aS,aL]at hm;obtain⟨m',hm',rfl⟩:=hm;obtain⟨oo,hd2⟩:=hmg i m' hm';obtain⟨x,hx,hV⟩:=hrd2 (rs++rs2) (fun r hr=>by simp[hr]) i _ hd2;simp only[aS,hb,dA,aJ]at hx;subst hx;simp only[D.fz]at hV|-
  rw[D.ZP];exact hV
 ·exact h2.elim
variable {args:Array Operand}{ts:Array TypeId}
def aD1 (he:Enters P f)
  (ho:o.op= .call {callee:= .value (.func f),args:=args,argTypes:=ts}) (hd:dstOk n o=true) (h:af2 s o.dst f P args.toList bs K):Ok P n w0 ow0 o s K:=by
 refine aq0 (f:=f) (args:=args.toList) (fun a w ow hf=> ?_) hd fun a w ow hf=>hf.aLE h;unfold execOp;simp only[ho,resolve,invoke,Act.eval,Deferred.ofValue,aI,aU,aG];have:=he (#[]++args.map a.eval++ #[]) w;have e:(args.toList.map a.eval).toArray= #[]++args.map a.eval++ #[]:=by apply bU.1;simp
 rw[e];simpa using this
def aD2 {x:Operand}{cap:Array Value}{ops:List Operand}(he:Enters P f) (hx:evS s x= .val (.one (.func (.func f) #[] cap))) (hops:QV cap.toList=some ops)
  (ho:o.op= .call {callee:= .value x,args:=args,argTypes:=ts}) (hd:dstOk n o=true) (h:dcall s o.dst f P (args.toList++ops) K):Ok P n w0 ow0 o s K:=by
 refine aq0 (f:=f) (args:=args.toList++ops) (fun a w ow hf=> ?_) hd fun a w ow hf=> ?_
 ·have hv:=(hf.one hx).1;unfold execOp;simp only[ho,resolve,invoke,hv,Deferred.ofValue,aI,aU,aG];have:=he (#[]++args.map a.eval++cap) w
  have e:((args.toList++ops).map a.eval).toArray= #[]++args.map a.eval++cap:=by
   apply bU.1;simp[acE hops]
  rw[e];simpa using this
 ·obtain⟨ds,rs,⟨Q,hfn,hK⟩,hlen,hrd⟩:=hf.argK _ h;exact⟨ds,[],rs,Q,hlen,fun i d hd=>hrd rs (fun _ h=>h) i d hd,fun p hp=>by simp at hp,hfn.aI8.toB,hK⟩
def aoP (u:Nat)(g:FuncId)(c:Operand)(s:St)(K:St->Prop):Prop:=match evS s c with
 | .own (.bx true d)=>u≠slotOf c/\∀b,K (((s.kill (1000000+2*b)).put (1000000+2*b) (.rf (slotOf c) [0])).set u (.val (.one (.func (.func g) #[] #[.pointer (some ⟨b,0,none⟩)]))))
 |_=>False
def aHZ {u c:Nat}{g:FuncId}(ho:o.op= .makeFunc (.func g) #[] #[.tmp c])(hd:o.dst=some u)(hu:u<n)(h:aoP u g (.tmp c) s K):Ok P n w0 ow0 o s K:=by
 refine iI fun a w ow hf=> ?_;unfold aoP at h;split at h
 rotate_left
 ·exact h.elim
 rename_i d hc;obtain⟨huc,h⟩:=h
 have hc6:c<1000000:=by
  by_cases hc6:c<1000000
  ·exact hc6
  ·simp only[evS,hc6,if_false]at hc;cases hc
 have hs:s c= .own (.bx true d):=by simpa[evS,hc6]using hc
 have hV:=hf.slot c;rw[hs]at hV;simp only[SV,V,R]at hV;obtain⟨b,off,C,e,fz,cs',h1,hh,hn,hs2,hl,hcc,hr⟩:=hV;obtain⟨hob,hunf,rfl,hCs⟩:=hs2 trivial;have hav:aval a c= .pointer (some ⟨b,0,none⟩):=by simpa using h1
 have hev:a.eval (.tmp c)=aval a c:=by
  unfold aval;rw[if_pos hc6];rfl
 refine⟨.func (.func g) #[] #[.pointer (some ⟨b,0,none⟩)],w,?_,_,h b,ow,?_⟩
 ·unfold execOp;rw[ho];simp only[Instr.makeFunc,aI,aU,aG];simp[hev,hav]
 ·rw[hd];have hk:=hf.kill (1000000+2*b)
  have hck:(s.kill (1000000+2*b)) c= .own (.bx true d):=by
   have:c≠1000000+2*b:=by omega
   simp[St.kill,this,hs,S.drop,S.root]
  have hk0:((s.kill (1000000+2*b)) (1000000+2*b)).fJ=false:=by simp[St.kill,S.fJ]
  have hfar:1000000+2*b≠far0:=by unfold far0;omega
  refine(hk.tell hfar hk0 ?_).set hu (SV.A8 rfl);simp only[SV,slotOf];refine⟨.bx true d,d,b,0,hck,by simp[D.sub,D.kid],?_,?_⟩
  ·rw[hav];simp[loc,into,eX]
  ·unfold aval;rw[if_neg (by omega)];have:(1000000+2*b-1000000)/2=b:=by omega
   rw[this]
end Go.Dv
end
section
namespace Go
def xB:= @List.map_congr_left
def rH:= @Value.pointer.injEq
end Go
end
section
namespace Go.Dv
open Go.RowKit
variable [lL]
def FnW (P:Program)(f:FuncId)(ds:List D)(cs:List (Nat×Option D))(rd gs:List (Nat×D))(Q:S->List D->Prop):Prop:=
 ∀(w:World) (ow:Own) (vs:Array Value) (t:Nat),t<1000000->Laid w ow->(∀b,w.heap.size<=b->ow b=none)->vs.size=ds.length+cs.length->
  (∀(i:Nat) (d:D),ds[i]?=some d->V P w ow d.fz [] (vs.getD i undef))->
  (∀(j:Nat) (c:Nat×Option D),cs[j]?=some c->vs.getD (ds.length+j) undef= .pointer (some ⟨c.1,0,none⟩))->
  (∀p∈rd,V P w ow (D.bx false p.2).fz [] (.pointer (some ⟨p.1,0,none⟩)))->
  (∀g∈gs,V P w ow (.bx true g.2) [1000000+2*g.1] (.pointer (some ⟨g.1,0,none⟩)))->
  Calls P f vs w fun e w'=>∃v ow' r ds',e= .returned v/\Q r ds'/\w'.os=w.os/\w'.tape=w.tape/\w'.output=w.output/\w.heap.size<=w'.heap.size/\
   (∀b,b<w.heap.size->(∀g∈gs,∀q,ow b≠some (q++[1000000+2*g.1]))->w'.heap[b]?=w.heap[b]?/\ow' b=ow b)/\(∀b,w'.heap.size<=b->ow' b=none)/\
   ds'.length=gs.length/\(∀(j:Nat) (g:Nat×D) (d':D),gs[j]?=some g->ds'[j]?=some d'->V P w' ow' (.bx true d') [1000000+2*g.1] (.pointer (some ⟨g.1,0,none⟩)))/\S.plain r=true/\∀s a,SV P w' ow' s a t r v
variable {f:FuncId}
def FnW.mono {P:Program}{ds:List D}{cs:List (Nat×Option D)}{rd gs:List (Nat×D)}{Q Q':S->List D->Prop}(h:FnW P f ds cs rd gs Q)(hq:∀r ds',Q r ds'->Q' r ds'):FnW P f ds cs rd gs Q':=fun w ow vs t h1 h2 h3 h4 h5 h6 h7 h8=>
 (h w ow vs t h1 h2 h3 h4 h5 h6 h7 h8).mono fun e w' ⟨v,ow',r,ds',g1,g2,g3⟩=>⟨v,ow',r,ds',g1,hq r ds' g2,g3⟩
def aqC (s:St):List (Nat×D)->Prop
 |[]=>True
 |(b,d)::gs=>s (1000000+2*b)= .own (.bx true d)/\aqC s gs
def akF {s:St}:∀{gs:List (Nat×D)},aqC s gs->∀g∈gs,s (1000000+2*g.1)= .own (.bx true g.2)
 |[],_,g,hg=>by simp at hg
 |(b,d)::gs,h,g,hg=>by
  rcases aK.1 hg with rfl|hg
  ·exact h.1
  ·exact akF h.2 g hg
def S.fresh (ks:List Nat)(x:S):S:=match x with
 | .rf r p=>if ks.contains r then(if p=[0]then .rf r [0]else .un)else .rf r p
 | .al r p=>if ks.contains r then .un else .al r p
 | .ag r p=>if ks.contains r then .un else .ag r p
 |x=>x
def St.fresh (ks:List Nat)(s:St):St:=fun j=>(s j).fresh ks
def ab0:List (Nat×D)->List D->St->St
 |(b,_)::gs,d::ds,s=>(ab0 gs ds s).put (1000000+2*b) (.own (.bx true d))
 |_,_,s=>s
def aaK:∀{gs:List (Nat×D)}{ds:List D}{s:St}{i:Nat},(∀g∈gs,i≠1000000+2*g.1)->ab0 gs ds s i=s i
 |[],ds,s,i,_=>by simp[ab0]
 |_::_,[],s,i,_=>by simp[ab0]
 |(b,d0)::gs,d::ds,s,i,h=>by
  have h1:=h (b,d0) (by simp);simp only[ab0,St.put,if_neg h1];exact aaK fun g hg=>h g (by simp[hg])
def amW:∀{gs:List (Nat×D)}{ds:List D}{s:St}{g:Nat×D},ds.length=gs.length->g∈gs->∃(j:Nat) (g':Nat×D) (d':D),gs[j]?=some g'/\ds[j]?=some d'/\g'.1=g.1/\ab0 gs ds s (1000000+2*g.1)= .own (.bx true d')
 |[],_,s,g,_,hg=>by simp at hg
 |_::_,[],s,g,hl,_=>by simp at hl
 |(b,d0)::gs,d::ds,s,g,hl,hg=>by
  by_cases hb:b=g.1
  ·exact⟨0,(b,d0),d,rfl,rfl,hb,by simp[ab0,St.put,hb]⟩
  ·have hg':g∈gs:=by
    rcases aK.1 hg with rfl|h
    ·exact absurd rfl hb
    ·exact h
   obtain⟨j,g',d',h1,h2,h3,h4⟩:=amW (s:=s) (by simpa using hl) hg';refine⟨j+1,g',d',by simpa using h1,by simpa using h2,h3,?_⟩;have:1000000+2*g.1≠1000000+2*b:=by omega
   simp only[ab0,St.put,if_neg this];exact h4
class aMP where
 L:List (Nat×D)->List (Nat×D)->(List Nat->Prop)->Prop
 K:S->List D->List (Nat×D)->Prop
def aFL (s:St)(rd gs:List (Nat×D))(C:List Nat->Prop):Prop:=aqC s gs/\nN s (rd.map fun p=>Operand.global p.1) fun ds2 rs2=>(ajF ds2).map D.fzs=some (D.fzs (rd.map fun p=>p.2))/\C rs2
def aAW (P:Program)(f:FuncId)(ds:List D)(bs rs:List Nat)[k:aMP]:Prop:=
 ∃cs rd gs Q,FnW P f ds cs rd gs Q/\cs.map (fun c=>c.1)=bs/\k.L rd gs fun rs2=>(∀r∈rs++rs2,∀g∈gs,r≠1000000+2*g.1)/\∀r ds',Q r ds'->(rs++rs2=[]\/(r.closed=true/\D.nU ds'=true))/\k.K r ds' gs
def WE (s:St)(u:Option Nat)(f:FuncId)(P:Program)(args:List Operand)(bs:List Nat)(K:St->Prop):Prop:=
 nN s args fun ds rs=> @aAW _ P f ds bs rs ⟨aFL s,fun r ds' gs=>K ((ab0 gs ds' (s.fresh (gs.map fun g=>1000000+2*g.1))).jR u r)⟩
def afM {P:Program}{ds:List D}{bs rs:List Nat}{L:List (Nat×D)->List (Nat×D)->(List Nat->Prop)->Prop}{K:S->List D->List (Nat×D)->Prop}{cs:List (Nat×Option D)}{rd gs:List (Nat×D)}{Q:S->List D->Prop}(h:FnW P f ds cs rd gs Q) (hc:cs.map (fun c=>c.1)=bs)
  (hL:L rd gs fun rs2=>(∀r∈rs++rs2,∀g∈gs,r≠1000000+2*g.1)/\∀r ds',Q r ds'->(rs++rs2=[]\/(r.closed=true/\D.nU ds'=true))/\K r ds' gs): @aAW _ P f ds bs rs ⟨L,K⟩:=⟨cs,rd,gs,Q,h,hc,hL⟩
def ayG {rs:List Nat}{ow:Own}{b r:Nat}{q:List Nat}(h:ow b=some (q++[r]))(hr:r∉rs):AJ rs ow b=some (q++[r]):=by simp[AJ,h,hr]
def abT {rs:List Nat}{ow:Own}{b:Nat}{l:List Nat}(h:AJ rs ow b=some l):ow b=some l:=by
 unfold AJ at h;split at h
 ·rename_i l' hl;split at h
  ·cases h
  ·rw[hl];exact h
 ·cases h
open Classical in
noncomputable def YA (w:World)(gs:List (Nat×D))(ow ow':Own):Own:=fun b=>if b<w.heap.size/\(∀g∈gs,∀q,ow b≠some (q++[1000000+2*g.1]))then ow b else ow' b
def akR {P:Program}{n:Nat}{w0:World}{ow0:Own}{o:Oper}{s:St}{K:St->Prop}{args:List Operand}{cap:List Value}{bs:List Nat}
  (hrun:∀a w ow,Fits P n w0 ow0 ow s a w->(execOp a.eval o).run P w= .ok (.enter f (args.map a.eval++cap).toArray) w) (hcap:cap=bs.map fun b=>Value.pointer (some ⟨b,0,none⟩)) (hd:dstOk n o=true)
  (h:WE s o.dst f P args bs K):Ok P n w0 ow0 o s K:=by
 intro a w ⟨ow,hf⟩ next Q' hn
 obtain⟨ds,rs,⟨cs,rd,gs,Q,hfn,hcs,hlent,hwant⟩,hlen,hargs⟩:=hf.argK _ h;obtain⟨ds2,rs2,⟨hub,hdis,hK⟩,hlen2,hrd2⟩:=hf.argK _ hwant;have hgs:=akF hlent;unfold Oper.wp;rw[hrun a w ow hf];simp only[Oper.upon]
 obtain⟨t,ht,hdt⟩:∃t,t<1000000/\∀u,o.dst=some u->u=t/\u<n:=by
  cases hd':o.dst with
  |none=>exact⟨0,by decide,fun u hu=>by cases hu⟩
  |some u=>
   have hu:u<n:=by simpa[dstOk,hd']using hd
   have hsm:=hf.small;exact⟨u,dZ hu hsm,fun u' hu'=>by obtain rfl:=k_Option_some_inj hu';exact⟨rfl,hu⟩⟩
 have hcl:cs.length=bs.length:=by rw[←hcs];simp
 have hav:∀b,aval a (1000000+2*b)= .pointer (some ⟨b,0,none⟩):=fun b=>by
  unfold aval;rw[if_neg (by omega)];have:(1000000+2*b-1000000)/2=b:=by omega
  rw[this]
 have hfar:∀b,1000000+2*b≠far0:=fun b=>by unfold far0;omega
 have hgV:∀g∈gs,V P w (AJ (rs++rs2) ow) (.bx true g.2) [1000000+2*g.1] (.pointer (some ⟨g.1,0,none⟩)):=by
  intro g hg;have h1:=hf.slot (1000000+2*g.1);rw[hgs g hg,hav]at h1;refine V.tr (fun b _=>⟨fun ho=>⟨rfl,qK ho⟩,fun q hq=>⟨rfl,?_⟩⟩) h1;exact ayG hq fun hm=>hdis _ hm g hg rfl
 refine(hfn w (AJ (rs++rs2) ow) (args.map a.eval++cap).toArray t ht (hf.OU.mono fun b o h1 h2=>⟨h1,qK h2⟩) (fun b hb=>qK (hf.new b hb)) (by simp[hlen,hcl,hcap]) (fun i d hi=> ?_) (fun j c hj=> ?_) (fun p hp=> ?_) hgV).mono ?_
 ·obtain⟨x,h1,h2⟩:=hargs (rs++rs2) (fun r hr=>by simp[hr]) i d hi;have hil:i<args.length:=(aD.1 h1).1
  have:(args.map a.eval++cap).toArray.getD i undef=a.eval x:=by
   simp only[aF,lD];rw[bA (by simpa using hil),aS,h1];rfl
  rw[this];exact h2
 ·have hb:bs[j]?=some c.1:=by rw[←hcs,aS,hj];rfl
  simp only[aF,lD];rw[aN (by simp[hlen])];simp[hlen,hcap,hb]
 ·obtain⟨i,hi⟩:=dF hp;cases hu:ajF ds2 with
  |none=>rw[hu]at hub;cases hub
  |some ms=>
   rw[hu]at hub;obtain⟨hml,hmg⟩:=aiL hu;simp only[dA,aJ]at hub;have h3:(D.fzs ms)[i]?=some p.2.fz:=by rw[hub,D.jS,aS,aS,hi];rfl
   rw[D.jS,aS,aL]at h3;obtain⟨m,hm,hmz⟩:=h3;obtain⟨oo,hd2⟩:=hmg i m hm;obtain⟨x,hx,hV⟩:=hrd2 (rs++rs2) (fun r hr=>by simp[hr]) i _ hd2;simp only[aS,hi,dA,aJ]at hx;subst hx;simp only[D.fz]at hV|-
   rw[←hmz];exact hV
 ·rintro e w' ⟨v,ow',r,ds',rfl,hQ,g1,g2,g3,g4,g5,g6,g7,g8,hpl,hsv⟩;obtain⟨hcl2,hKr⟩:=hK r ds' hQ;simp only;have hin:∀b,¬(b<w.heap.size/\(∀g∈gs,∀q,ow b≠some (q++[1000000+2*g.1])))->YA w gs ow ow' b=ow' b:=fun b hb=>by unfold YA;rw[if_neg hb]
  have hout:∀b,b<w.heap.size->(∀g∈gs,∀q,ow b≠some (q++[1000000+2*g.1]))->YA w gs ow ow' b=ow b/\w'.heap[b]?=w.heap[b]?/\ow' b=AJ (rs++rs2) ow b:=fun b hb hno=>by
   obtain⟨k1,k2⟩:=g5 b hb (fun g hg q e=>hno g hg q (abT e));exact⟨by unfold YA;rw[if_pos ⟨hb,hno⟩],k1,k2⟩
  have hlab:∀b q (i:Nat),ow' b=some (q++[i])->(i=t\/∃g∈gs,i=1000000+2*g.1)->(∃g∈gs,i=1000000+2*g.1)->YA w gs ow ow' b=some (q++[i]):=by
   rintro b q i hb _ ⟨g,hg,rfl⟩;rw[hin b,hb];rintro⟨k1,k2⟩;obtain⟨_,_,k3⟩:=hout b k1 k2;rw[k3]at hb;exact k2 g hg q (abT hb)
  have hVg:∀(j:Nat) (g:Nat×D) (d':D),gs[j]?=some g->ds'[j]?=some d'->V P w' (YA w gs ow ow') (.bx true d') [1000000+2*g.1] (.pointer (some ⟨g.1,0,none⟩)):=by
   intro j g d' hj hj';have h1:=g8 j g d' hj hj';have hg:=aA hj;rcases hcl2 with hrs|⟨_,hcl2⟩
   ·refine V.tr (fun b hb=>⟨fun ho=>⟨rfl,?_⟩,fun q hq=>⟨rfl,hlab b q _ hq (.inr ⟨g,hg,rfl⟩) ⟨g,hg,rfl⟩⟩⟩) h1;by_cases hc:b<w.heap.size/\(∀g∈gs,∀q,ow b≠some (q++[1000000+2*g.1]))
    ·obtain⟨k1,_,k3⟩:=hout b hc.1 hc.2;rw[k1];rw[k3,hrs,lend_nil]at ho;exact ho
    ·rw[hin b hc];exact ho
   ·have hall:(D.bx true d').qO=true:=by
     simp only[D.qO,fD]
     have:∀(l:List D),D.nU l=true->∀x∈l,x.qO=true:=by
      intro l
      induction l with
      |nil=>intro _ x hx;simp at hx
      |cons y l ih=>
       intro hl x hx;simp only[D.nU,k_Bool_and_eq_true]at hl;rcases aK.1 hx with rfl|hx
       ·exact hl.1
       ·exact ih hl.2 x hx
     exact this _ hcl2 _ (aA hj')
    exact V.owned hall (fun b hb q hq=>⟨rfl,hlab b q _ hq (.inr ⟨g,hg,rfl⟩) ⟨g,hg,rfl⟩⟩) h1
  have hroot:∀i r,(s i).root=some r->(s r).fJ=true:=fun i r hr=>(hf.slot i).root hr
  have hg:Fits P n w0 ow0 (YA w gs ow ow') (ab0 gs ds' (s.fresh (gs.map fun g=>1000000+2*g.1))) a w':=by
   refine hf.change hf.nodef hf.size g1 g2 g3 g4 (fun b hb ho=> ?_) (fun b hb=> ?_) (fun j=>(∃g∈gs,j=1000000+2*g.1)\/(∃g∈gs,s j= .rf (1000000+2*g.1) [0])) ?_ ?_ ?_ ?_
   ·obtain⟨k1,k2,_⟩:=hout b hb (fun g hg q e=>by rw[ho]at e;cases e);exact⟨k2,by rw[k1];exact ho⟩
   ·rw[hin b (fun hc=>by have:=hc.1;omega)];exact g6 b hb
   ·intro j hj b hb q hq
    obtain⟨k1,k2,_⟩:=hout b hb (fun g hg q' e=>by
     rw[hq]at e;have:=congrArg List.getLast? (k_Option_some_inj e);simp at this;exact hj (.inl ⟨g,hg,this⟩))
    exact⟨k2,by rw[k1];exact hq⟩
   ·intro i hi;refine⟨rfl,?_⟩;have hi1:∀g∈gs,i≠1000000+2*g.1:=fun g hg e=>hi (.inl ⟨g,hg,e⟩);rw[aaK hi1];simp only[St.fresh]
    have good:∀r,(s i).root=some r->r∉gs.map (fun g=>1000000+2*g.1)->∀j,(s i).root=some j->¬((∃g∈gs,j=1000000+2*g.1)\/(∃g∈gs,s j= .rf (1000000+2*g.1) [0]))/\ab0 gs ds' (s.fresh (gs.map fun g=>1000000+2*g.1)) j=s j:=by
     intro r hr hnr j hj;rw[hr]at hj;obtain rfl:=k_Option_some_inj hj;have ho:=hroot i r hr;have hn1:∀g∈gs,r≠1000000+2*g.1:=fun g hg e=>hnr (by simp only[dG];exact⟨g,hg,e.symm⟩);refine⟨?_,?_⟩
     ·rintro(⟨g,hg,e⟩|⟨g,hg,e⟩)
      ·exact hn1 g hg e
      ·rw[e]at ho;cases ho
     ·rw[aaK hn1];simp only[St.fresh];cases hsr:s r<;>rw[hsr]at ho<;>first|rfl|cases ho
    cases hsi:s i with
    |rf r p=>
     simp only[S.fresh];by_cases hc:r∈gs.map (fun g=>1000000+2*g.1)
     ·rw[if_pos (by simpa using hc)];by_cases hp:p=[0]
      ·subst hp;obtain⟨g,hg,rfl⟩:=dG.1 hc;exact absurd (.inr ⟨g,hg,hsi⟩) hi
      ·rw[if_neg hp];exact .inl rfl
     ·rw[if_neg (by simpa using hc)];rw[←hsi];exact .inr ⟨rfl,good r (by rw[hsi];rfl) hc⟩
    |al r p=>
     simp only[S.fresh];by_cases hc:r∈gs.map (fun g=>1000000+2*g.1)
     ·rw[if_pos (by simpa using hc)];exact .inl rfl
     ·rw[if_neg (by simpa using hc)];rw[←hsi];exact .inr ⟨rfl,good r (by rw[hsi];rfl) hc⟩
    |ag r p=>
     simp only[S.fresh];by_cases hc:r∈gs.map (fun g=>1000000+2*g.1)
     ·rw[if_pos (by simpa using hc)];exact .inl rfl
     ·rw[if_neg (by simpa using hc)];rw[←hsi];exact .inr ⟨rfl,good r (by rw[hsi];rfl) hc⟩
    |_=>exact .inr ⟨rfl,fun j hj=>by simp[S.root]at hj⟩
   ·rintro i (⟨g,hg,rfl⟩|⟨g,hg,hsi⟩)
    ·obtain⟨j,g',d',k1,k2,k3,k4⟩:=amW (s:=s.fresh (gs.map fun g=>1000000+2*g.1)) g7 hg;rw[k4,hav];have:=hVg j g' d' k1 k2;rw[k3]at this;exact this
    ·have hi1:∀g∈gs,i≠1000000+2*g.1:=fun g' hg' e=>by rw[e,hgs g' hg']at hsi;cases hsi
     obtain⟨j,g',d',k1,k2,k3,k4⟩:=amW (s:=s.fresh (gs.map fun g=>1000000+2*g.1)) g7 hg;rw[aaK hi1];have hc:(1000000+2*g.1)∈gs.map (fun g=>1000000+2*g.1):=dG.2 ⟨g,hg,rfl⟩;simp only[St.fresh,hsi,S.fresh];rw[if_pos (by simpa using hc)];simp only[if_true];have h1:=hf.slot i;rw[hsi]at h1;obtain⟨d,m,b,off,e1,e2,e3,e4⟩:=h1;rw[hgs g hg]at e1;obtain rfl:D.bx true g.2=d:=by injection e1
     rw[hav]at e3;simp only[loc,into,if_true,eX,aJ,bZ]at e3;obtain⟨rfl,rfl⟩:=e3;refine⟨.bx true d',d',g.1,0,k4,by simp[D.sub,D.kid],?_,e4⟩;rw[hav];simp[loc,into,eX]
   ·rintro(⟨g,hg,e⟩|⟨g,hg,e⟩)
    ·exact hfar g.1 e.symm
    ·rw[hf.far]at e;cases e
  have hres:∀s2,SV P w' (YA w gs ow ow') s2 a t r v:=by
   intro s2;rcases hcl2 with hrs|⟨hc,_⟩
   ·have:YA w gs ow ow'=ow':=by
     funext b;by_cases hc:b<w.heap.size/\(∀g∈gs,∀q,ow b≠some (q++[1000000+2*g.1]))
     ·obtain⟨k1,_,k3⟩:=hout b hc.1 hc.2;rw[k1,k3,hrs,lend_nil]
     ·exact hin b hc
    rw[this];exact hsv s2 a
   ·refine SV.closed hc (fun b hb q hq=>⟨rfl,?_⟩) (hsv s2 a);by_cases hc:b<w.heap.size/\(∀g∈gs,∀q,ow b≠some (q++[1000000+2*g.1]))
    ·obtain⟨k1,_,k3⟩:=hout b hc.1 hc.2;rw[k3]at hq;rw[k1];exact abT hq
    ·rw[hin b hc];exact hq
  refine hn _ _ _ hKr ?_;cases hd':o.dst with
  |none=>exact⟨_,hg⟩
  |some u=>
   obtain⟨rfl,hu⟩:=hdt u hd';exact⟨_,hg.set hu (hres _)⟩
def aD3 {P:Program}{n:Nat}{w0:World}{ow0:Own}{o:Oper}{s:St}{K:St->Prop}{args:Array Operand}{ts:Array TypeId}(he:Enters P f)
  (ho:o.op= .call {callee:= .value (.func f),args:=args,argTypes:=ts}) (hd:dstOk n o=true) (h:WE s o.dst f P args.toList [] K):Ok P n w0 ow0 o s K:=by
 refine akR (f:=f) (args:=args.toList) (cap:=[]) (bs:=[]) (fun a w ow hf=> ?_) rfl hd h;unfold execOp;simp only[ho,resolve,invoke,Act.eval,Deferred.ofValue,aI,aU,aG];have:=he (#[]++args.map a.eval++ #[]) w;have e:(args.toList.map a.eval++[]).toArray= #[]++args.map a.eval++ #[]:=by apply bU.1;simp
 rw[e];simpa using this
def acD:List Value->Option (List Nat)
 |[]=>some []
 | .pointer (some ⟨b,0,none⟩)::l=>(acD l).map (b::·)
 |_=>none
def afN:∀{cs:List Value}{bs:List Nat},acD cs=some bs->cs=bs.map fun b=>Value.pointer (some ⟨b,0,none⟩)
 |[],bs,h=>by simp only[acD]at h;obtain rfl:[]=bs:=by simpa using h
              rfl
 |v::l,bs,h=>by
  unfold acD at h;split at h
  ·rename_i h0;cases h0
  ·rename_i b l' h0;obtain⟨rfl,rfl⟩:=wD h0;simp only[aL]at h;obtain⟨bs',h1,rfl⟩:=h;simp[afN h1]
  ·cases h
def ay1 {P:Program}{n:Nat}{w0:World}{ow0:Own}{o:Oper}{s:St}{K:St->Prop}{x:Operand}{cap:Array Value}{bs:List Nat}{args:Array Operand}{ts:Array TypeId}(he:Enters P f) (hx:evS s x= .val (.one (.func (.func f) #[] cap))) (hbs:acD cap.toList=some bs)
  (ho:o.op= .call {callee:= .value x,args:=args,argTypes:=ts}) (hd:dstOk n o=true) (h:WE s o.dst f P args.toList bs K):Ok P n w0 ow0 o s K:=by
 refine akR (f:=f) (args:=args.toList) (cap:=cap.toList) (bs:=bs) (fun a w ow hf=> ?_) (afN hbs) hd h;have hv:=(hf.one hx).1;unfold execOp;simp only[ho,resolve,invoke,hv,Deferred.ofValue,aI,aU,aG];have:=he (#[]++args.map a.eval++cap) w
 have e:(args.toList.map a.eval++cap.toList).toArray= #[]++args.map a.eval++cap:=by
  apply bU.1;simp
 rw[e];simpa using this
def oP (s:St)(b:Nat):Prop:=(∀o d,s (1000000+2*b)≠ .own (.bx o d))/\∀d,s (1000000+2*b)≠ .rp d
variable {d:D}
def oP.ne {s:St}{b b':Nat}{o:Bool}(h:oP s b)(h':s (1000000+2*b')= .own (.bx o d)):b≠b':=by
 rintro rfl;exact h.1 _ _ h'
def oP.nr {s:St}{b b':Nat}(h:oP s b)(h':s (1000000+2*b')= .rp d):b≠b':=by
 rintro rfl;exact h.2 _ h'
def VH (u:Nat)(s:St):List Nat->(List Nat->St->Prop)->Prop
 |[],K=>K [] s
 |c::cs,K=>u≠c/\c<1000000/\match s c with
  | .own (.bx true d)=>∀b,oP s b->VH u ((((s.kill (1000000+2*b)).kill c).put (1000000+2*b) (.own (.bx true d))).put c (.rf (1000000+2*b) [0])) cs fun bs s'=>K (b::bs) s'
  | .rf r [0]=>∃b,r=1000000+2*b/\VH u s cs fun bs s'=>K (b::bs) s'
  |_=>False
def mkW (u:Nat)(s:St)(cs:List Nat)[k:aa2 (List Nat×St)]:Prop:=VH u s cs fun bs s'=>k.K (bs,s')
def ahI {u:Nat}{s:St}{cs:List Nat}{K:List Nat×St->Prop}(h:VH u s cs fun bs s'=>K (bs,s')):(mkW (k:=⟨K⟩) u s cs):=h
def tmpsOf:List Operand->Option (List Nat)
 |[]=>some []
 | .tmp c::l=>(tmpsOf l).map (c::·)
 |_=>none
def adB:∀{l:List Operand}{cs:List Nat},tmpsOf l=some cs->l=cs.map Operand.tmp
 |[],cs,h=>by simp only[tmpsOf]at h;obtain rfl:[]=cs:=by simpa using h
              rfl
 |x::l,cs,h=>by
  unfold tmpsOf at h;split at h
  ·rename_i h0;cases h0
  ·rename_i c l' h0;obtain⟨rfl,rfl⟩:=wD h0;simp only[aL]at h;obtain⟨cs',h1,rfl⟩:=h;simp[adB h1]
  ·cases h
def axP (u:Nat)(g:FuncId)(caps:List Operand)(s:St)(K:St->Prop):Prop:=match tmpsOf caps with
 |some cs=>(mkW (k:=⟨fun y=>K (y.2.set u (.val (.one (.func (.func g) #[] (y.1.map fun b=>Value.pointer (some ⟨b,0,none⟩)).toArray))))⟩) u s cs)
 |none=>False
variable {a:Act}
def Fits.aMZ {P:Program}{n:Nat}{w0 w:World}{ow0 ow:Own}{s:St}{c b:Nat}(h:Fits P n w0 ow0 ow s a w)(hc:s c= .own (.bx true d))(hc6:c<1000000)(hv:aval a c= .pointer (some ⟨b,0,none⟩))(hb:(s (1000000+2*b)).fJ=false):
  Fits P n w0 ow0 (PS c (1000000+2*b) ow) (((s.kill c).put (1000000+2*b) (.own (.bx true d))).put c (.rf (1000000+2*b) [0])) a w:=by
 have hav:aval a (1000000+2*b)= .pointer (some ⟨b,0,none⟩):=by
  unfold aval;rw[if_neg (by omega)];have:(1000000+2*b-1000000)/2=b:=by omega
  rw[this]
 have hne:c≠1000000+2*b:=by omega
 have hfar:1000000+2*b≠far0:=by unfold far0;omega
 have hfc:c≠far0:=by unfold far0;omega
 have hVc:=h.slot c;rw[hc]at hVc;refine h.change h.nodef h.size rfl rfl rfl (k_Nat_le_refl _) (fun b _ ho=>⟨rfl,BF ho⟩) (fun b hb=>BF (h.new b hb)) (fun j=>j=c\/j=1000000+2*b) ?_ ?_ ?_ ?_
 ·intro j hj b' _ q hq;exact⟨rfl,ah2 hq fun e=>hj (.inl e)⟩
 ·intro i hi;have hi1:i≠c:=fun e=>hi (.inl e);have hi2:i≠1000000+2*b:=fun e=>hi (.inr e);refine⟨rfl,?_⟩;simp only[St.put,if_neg hi1,if_neg hi2];rcases vH s c i with h1|⟨h1,_,h2⟩
  ·exact .inl h1
  ·right;refine⟨h1,fun j hj=> ?_⟩;have hjc:j≠c:=by rintro rfl;exact h2 hj
   have hown:=(h.slot i).root hj;have hjb:j≠1000000+2*b:=by rintro rfl;rw[hb]at hown;cases hown
   exact⟨fun e=>e.elim hjc hjb,by simp only[if_neg hjc,if_neg hjb];exact uF hown hjc⟩
 ·rintro i (rfl|rfl)
  ·simp only[St.put,if_true,SV];refine⟨.bx true d,d,b,0,by simp[St.put,k_Ne_symm hne],by simp[D.sub,D.kid],?_,hv⟩;rw[hav];simp[loc,into,eX]
  ·simp only[St.put,if_neg (k_Ne_symm hne),if_true,SV];rw[hav,←hv];exact V.tr (fun b' _=>⟨fun ho=>⟨rfl,BF ho⟩,fun q hq=>⟨rfl,arA hq⟩⟩) hVc
 ·rintro(e|e)
  ·exact hfc e.symm
  ·exact hfar e.symm
def alV {P:Program}{n:Nat}{w0 w:World}{ow0:Own}{u:Nat}:∀(cs:List Nat) {ow:Own}{s:St}{K:List Nat->St->Prop},Fits P n w0 ow0 ow s a w->VH u s cs K->
  ∃bs s' ow',K bs s'/\Fits P n w0 ow0 ow' s' a w/\bs.length=cs.length/\(cs.map (aval a)=bs.map fun b=>Value.pointer (some ⟨b,0,none⟩))/\∀c∈cs,c<1000000
 |[],ow,s,K,hf,hk=>⟨[],s,ow,hk,hf,rfl,rfl,fun c hc=>by simp at hc⟩
 |c::cs,ow,s,K,hf,hk=>by
  simp only[VH]at hk;obtain⟨huc,hc6,hk⟩:=hk;split at hk
  ·rename_i d hs;have hV:=hf.slot c;rw[hs]at hV;simp only[SV,V,R]at hV;obtain⟨b,off,C,e,fz,cs',h1,hh,hn,hs2,hl,hcc,hr⟩:=hV;obtain⟨hob,hunf,rfl,hCs⟩:=hs2 trivial;have hav:aval a c= .pointer (some ⟨b,0,none⟩):=by simpa using h1
   have hnew:oP s b:=by
    refine⟨fun o2 x2 hsb=> ?_,fun x2 hsb=> ?_⟩
    rotate_left
    ·have hV2:=hf.slot (1000000+2*b)
     have hav2:aval a (1000000+2*b)= .pointer (some ⟨b,0,none⟩):=by
      unfold aval;rw[if_neg (by omega)];have:(1000000+2*b-1000000)/2=b:=by omega
      rw[this]
     rw[hsb,hav2]at hV2;obtain⟨b2,off2,k1,k2,_⟩:=hV2;simp only[rH,aJ]at k1;obtain⟨rfl,rfl,_⟩:=Addr.mk.inj k1;rw[hob]at k2;cases k2
    have hV2:=hf.slot (1000000+2*b)
    have hav2:aval a (1000000+2*b)= .pointer (some ⟨b,0,none⟩):=by
     unfold aval;rw[if_neg (by omega)];have:(1000000+2*b-1000000)/2=b:=by omega
     rw[this]
    rw[hsb,hav2]at hV2;simp only[SV,V,R]at hV2;obtain⟨b2,off2,C2,e2,fz2,cs2,k1,k2,k3,k4,_⟩:=hV2;simp only[mD,rH,aJ,and_true]at k1;obtain⟨rfl,rfl,_⟩:=Addr.mk.inj k1;cases o2 with
    |true=>
     have:=(k4 rfl).1;rw[hob]at this;simp at this;omega
    |false=>
     have:=k3 rfl;rw[hob]at this;cases this
   have hk0:=hf.kill (1000000+2*b)
   have hck:(s.kill (1000000+2*b)) c= .own (.bx true d):=by
    have:c≠1000000+2*b:=by omega
    simp[St.kill,this,hs,S.drop,S.root]
   have hk1:((s.kill (1000000+2*b)) (1000000+2*b)).fJ=false:=by simp[St.kill,S.fJ]
   obtain⟨bs,s',ow',k1,k2,k3,k4,k5⟩:=alV cs (hk0.aMZ hck hc6 hav hk1) (hk b hnew);exact⟨b::bs,s',ow',k1,k2,by simp[k3],by simp[hav,k4],fun c' hc'=>(aK.1 hc').elim (fun e=>e▸hc6) (k5 c')⟩
  ·rename_i r hs;obtain⟨b,rfl,hk⟩:=hk;obtain⟨bs,s',ow',k1,k2,k3,k4,k5⟩:=alV cs hf hk;have hV:=hf.slot c;rw[hs]at hV;obtain⟨d,m,b',off,e1,e2,e3,e4⟩:=hV
   have hav2:aval a (1000000+2*b)= .pointer (some ⟨b,0,none⟩):=by
    unfold aval;rw[if_neg (by omega)];have:(1000000+2*b-1000000)/2=b:=by omega
    rw[this]
   rw[hav2]at e3
   have hd:∃o x,d= .bx o x:=by
    cases d with
    |bx o x=>exact⟨o,x,rfl⟩
    |_=>simp[loc,into]at e3
   obtain⟨o,x,rfl⟩:=hd;simp only[loc,into,if_true,eX,aJ,bZ]at e3;obtain⟨rfl,rfl⟩:=e3;exact⟨b::bs,s',ow',k1,k2,by simp[k3],by simp[e4,k4],fun c' hc'=>(aK.1 hc').elim (fun e=>e▸hc6) (k5 c')⟩
  ·exact hk.elim
def aD8 {P:Program}{n:Nat}{w0:World}{ow0:Own}{o:Oper}{s:St}{K:St->Prop}{u:Nat}{g:FuncId}{caps:Array Operand}(ho:o.op= .makeFunc (.func g) #[] caps)(hd:o.dst=some u)(hu:u<n)(h:axP u g caps.toList s K):Ok P n w0 ow0 o s K:=by
 refine iI fun a w ow hf=> ?_;unfold axP at h;split at h
 rotate_left
 ·exact h.elim
 rename_i cs hcs;obtain⟨bs,s',ow',hK,hf',hbl,hbv,hclt⟩:=alV cs hf h;have hsp:=adB hcs
 have hev:(caps.map a.eval).toList=bs.map fun b=>Value.pointer (some ⟨b,0,none⟩):=by
  rw[qX,hsp,uD,←hbv];refine xB fun c hc=> ?_;have:=hclt c hc;unfold aval;rw[if_pos this];rfl
 refine⟨.func (.func g) #[] (bs.map fun b=>Value.pointer (some ⟨b,0,none⟩)).toArray,w,?_,_,hK,ow',?_⟩
 ·unfold execOp;rw[ho];simp only[Instr.makeFunc,aI,aU,aG];have:caps.map a.eval=(bs.map fun b=>Value.pointer (some ⟨b,0,none⟩)).toArray:=by apply bU.1;simpa using hev
  simp[this]
 ·rw[hd];exact hf'.set hu (SV.A8 rfl)
def adE (P:Program)(f:FuncId)(ds:List D)(m:Nat)(dm:D)(Q:S->Prop):Prop:=
 ∀(w:World) (ow:Own) (vs:Array Value) (t:Nat) (l:List Nat),t≠far0->Laid w ow->(∀b,w.heap.size<=b->ow b=none)->vs.size=ds.length->m<ds.length->(∀(i:Nat) (d:D),ds[i]?=some d->i≠m->V P w ow d.fz [] (vs.getD i undef))->V P w ow dm l (vs.getD m undef)->
  Calls P f vs w fun e w'=>∃v ow' r,e= .returned v/\Q r/\w'.os=w.os/\w'.tape=w.tape/\w'.output=w.output/\w.heap.size<=w'.heap.size/\
   (∀b,b<w.heap.size->(∀q,ow b≠some (q++l))->w'.heap[b]?=w.heap[b]?/\ow' b=ow b)/\(∀b,w'.heap.size<=b->ow' b=none)/\S.plain r=true/\∀s a,SV P w' ow' s a t r v
def aAV (P:Program)(f:FuncId)(ds:List D)(m:Nat)(d:D)(rs:List Nat)[k:aa2 S]:Prop:=rs=[]/\∃Q,adE P f ds m d Q/\∀r,Q r->k.K r
def rT {P:Program}{ds:List D}{m:Nat}{rs:List Nat}{K:S->Prop}{r:S}(hr:rs=[])(h:adE P f ds m d (fun r'=>r'=r))(hK:K r):(aAV (k:=⟨K⟩) P f ds m d rs):=⟨hr,_,h,fun r' e=>by subst e;exact hK⟩
def af3 (s:St)(dst:Option Nat)(f:FuncId)(P:Program)(m:Nat)(args:List Operand)(K:St->Prop):Prop:=match args[m]? with
 |some x=>(match srcOf s (slotOf x) (evS s x)with| .no=>False|_=>True)/\((srcOf s (slotOf x) (evS s x)).st s) res0= .un/\nN ((srcOf s (slotOf x) (evS s x)).st s) (args.set m (.const (.bool false))) fun ds rs=>(aAV (k:=⟨fun y=>K (((srcOf s (slotOf x) (evS s x)).st s).jR dst y)⟩) P f ds m (srcOf s (slotOf x) (evS s x)).data rs)
 |none=>False
def ay3 {P:Program}{n:Nat}{w0:World}{ow0:Own}{o:Oper}{s:St}{K:St->Prop}{args:Array Operand}{ts:Array TypeId}{m:Nat}(he:Enters P f)
  (ho:o.op= .call {callee:= .value (.func f),args:=args,argTypes:=ts}) (hd:dstOk n o=true) (h:af3 s o.dst f P m args.toList K):Ok P n w0 ow0 o s K:=by
 intro a w ⟨ow0',hf0⟩ next Q' hn
 unfold af3 at h;split at h
 rotate_left
 ·exact h.elim
 rename_i x hx;obtain⟨hno,hres,h⟩:=h;obtain⟨ow,hf,hV,_⟩:=hf0.src x [res0] _ rfl (by intro e;rw[e]at hno;exact hno);generalize(srcOf s (slotOf x) (evS s x)).st s=s1 at*
 generalize(srcOf s (slotOf x) (evS s x)).data=d at*
 obtain⟨ds,rs,⟨hrs,Q,hfn,hK⟩,hlen,hargs⟩:=hf.argK _ h;subst hrs;have hlow:AJ [] ow=ow:=by funext b;exact lend_nil
 have hrun:(execOp a.eval o).run P w= .ok (.enter f (args.map a.eval)) w:=by
  unfold execOp;simp only[ho,resolve,invoke,Act.eval,Deferred.ofValue,aI,aU,aG];have:=he (#[]++args.map a.eval++ #[]) w;simpa using this
 have hx':args[m]?=some x:=by simpa using hx
 have hmlt:m<args.size:=(bO.1 hx').1;have hdl:ds.length=args.size:=by rw[hlen];simp
 have hvm:(args.map a.eval).getD m undef=a.eval x:=by
  simp[aF,hx']
 unfold Oper.wp;rw[hrun];simp only[Oper.upon]
 obtain⟨t,ht,hdt⟩:∃t,t≠far0/\∀u,o.dst=some u->u=t/\u<n:=by
  cases hd':o.dst with
  |none=>exact⟨0,by simp[far0],fun u hu=>by cases hu⟩
  |some u=>
   have hu:u<n:=by simpa[dstOk,hd']using hd
   exact⟨u,fun e=>absurd (show far0<n from e▸hu) (k_Nat_not_lt.2 (k_Nat_le_trans hf.small (by decide))),fun u' hu'=>by obtain rfl:=k_Option_some_inj hu';exact⟨rfl,hu⟩⟩
 refine(hfn w ow (args.map a.eval) t [res0] ht hf.OU hf.new (by simp[hdl]) (by omega) (fun i d' hi him=> ?_) (by rw[hvm];exact hV)).mono ?_
 ·obtain⟨y,h1,h2⟩:=hargs [] (fun _ h=>h) i d' hi;rw[hlow]at h2;rw[bI (k_Ne_symm him)]at h1
  have:(args.map a.eval).getD i undef=a.eval y:=by
   have:args[i]?=some y:=by simpa using h1
   simp[aF,this]
  rw[this];exact h2
 ·rintro e w' ⟨v,ow',res,rfl,hQ,g1,g2,g3,g4,g5,g6,hpl,hsv⟩;have hKr:=hK res hQ
  have hg:Fits P n w0 ow0 ow' s1 a w':=by
   refine hf.change hf.nodef hf.size g1 g2 g3 g4 (fun b hb ho=> ?_) g6 (fun j=>j=res0) ?_ ?_ ?_ (by simp[far0,res0])
   ·obtain⟨e1,e2⟩:=g5 b hb (fun q e=>by rw[ho]at e;cases e);exact⟨e1,e2.trans ho⟩
   ·intro j hj b hb q hq
    obtain⟨e1,e2⟩:=g5 b hb (fun q' e=>by
     rw[hq]at e;have:=congrArg List.getLast? (k_Option_some_inj e);simp at this;exact hj this)
    exact⟨e1,e2.trans hq⟩
   ·intro i hi;refine⟨rfl,.inr ⟨rfl,fun j hj=>⟨fun e=> ?_,rfl⟩⟩⟩;have ho:=(hf.slot i).root hj;rw[e,hres]at ho;cases ho
   ·rintro i rfl;rw[hres];trivial
  refine hn _ _ _ hKr ?_;cases hd':o.dst with
  |none=>exact⟨_,hg⟩
  |some u=>
   obtain⟨rfl,hu⟩:=hdt u hd';exact⟨_,hg.set hu (hsv _ a)⟩
def KE (n:Nat)(dst:Option Nat)(K:Nat->Prop):Prop:=match dst with
 |some u=>u<n/\K u
 |none=>False
def ZZ (x:S)(K:Int->Prop):Prop:=oneK x fun v=>match v with
 | .int _ j=>K j
 |_=>False
def CW {x:S}{K:Int->Prop}(h:ZZ x K):∃k j,x= .val (.one (.int k j))/\K j:=by
 obtain⟨v,hv,h1⟩:=eY h;split at h1
 ·exact⟨_,_,hv,h1⟩
 ·exact h1.elim
def mmK (mx:Bool)(u v:Value)(K:Value->Prop):Prop:=match u,v with
 | .int k a,.int _ b=>K (.int k (if mx then max a b else min a b))
 |_,_=>False
def ayS (mx:Bool)(u v w:Value)(K:Value->Prop):Prop:=match u,v,w with
 | .int k a,.int _ b,.int _ c=>K (.int k (if mx then max (max a b) c else min (min a b) c))
 |_,_,_=>False
def mmH (mx:Bool)(x y:S)[k:aa2 Value]:Prop:=oneK x fun a=>oneK y fun b=>mmK mx a b k.K
def ayR (mx:Bool)(x y z:S)[k:aa2 Value]:Prop:=oneK x fun a=>oneK y fun b=>oneK z fun c=>ayS mx a b c k.K
variable {mx:Bool}{k k':IntKind}
def av5 {a b:Int}{F:Value->Prop}: @mmH mx (.val (.one (.int k a))) (.val (.one (.int k' b))) ⟨F⟩=F (.int k (if mx then max a b else min a b)):=rfl
def aqO {k2:IntKind}{a b c:Int}{F:Value->Prop}: @ayR mx (.val (.one (.int k a))) (.val (.one (.int k' b))) (.val (.one (.int k2 c))) ⟨F⟩=F (.int k (if mx then max (max a b) c else min (min a b) c)):=rfl
def aJ6 (x y:S)[k:aa2 Value]:Prop:=oneK x fun v=>match v with
 | .string z=>ZZ y fun j=>0<=j/\∃c,z[j.toNat]?=some c/\k.K (.int .u8 c.toNat)
 |_=>False
def aJ5 (o:Option UInt8)[k:aa2 Value]:Prop:=∃c,o=some c/\k.K (.int .u8 c.toNat)
def apD {z:ByteArray}{j:Int}{F:Value->Prop}: @aJ6 (.val (.one (.string z))) (.val (.one (.int k j))) ⟨F⟩=(0<=j/\ @aJ5 (z[j.toNat]?) ⟨F⟩):=rfl
def aj9 {c:UInt8}{F:Value->Prop}: @aJ5 (some c) ⟨F⟩=F (.int .u8 c.toNat):=by simp[aJ5]
def N9 (s:St):List Operand->List Nat
 |[]=>[]
 |x::xs=>(match evS s x with
  | .val (.one (.func _ _ cap))=>cap.toList.filterMap fun v=>match v with| .pointer (some ⟨b,_,_⟩)=>some b|_=>none
  |_=>[])++N9 s xs
def acH (s:St):List Operand->St
 |[]=>s
 |x::xs=>match evS s x with
  | .own _=>acH (s.V9 (slotOf x)) xs
  |_=>acH s xs
def TD {P:Program}{n:Nat}:∀(xs:List Operand) (s:St),vQ P n s (acH s xs)
 |[],s=>vQ.refl s
 |x::xs,s=>by
  unfold acH;split
  ·exact(dQ _).trans (TD xs _)
  ·exact TD xs s
def stepCall (P:Program)(T:TypeId->TyE)(n:Nat)(c:Callee)(args:List Operand)(ts:List TypeId)(dst:Option Nat)(s:St)(K:St->Prop):Prop:=
 match c,args,ts with
 | .value (.func f),args,_=>Enters P f/\(∀u,dst=some u->u<n)/\(if(T (1000000+f)).w=1000 then WE s dst f P args [] K else match(T (1000000+f)).w with
  |0=>(match N9 s args with
   |[]=>dcall s dst f P args K
   |bs=>af2 s dst f P args bs K)
  |m+1=>if 1000<=m then af3 s dst f P (m-1000) args K else abB (acH s (args.set m (.const (.bool false)))) dst f P m args K)
 | .value x,args,_=>(∀u,dst=some u->u<n)/\oneK (evS s x) fun v=>match v with
  | .func (.func g) fst cap=>fst= #[]/\Enters P g/\(if(T (1000000+g)).w=1000 then(match acD cap.toList with
   |some bs=>WE s dst g P args bs K
   |none=>False)else match QV cap.toList with
   |some ops=>dcall s dst g P (args++ops) K
   |none=>False)
  |_=>False
 | .builtin .len,[x],[t]=>(∀u,dst=some u->u<n)/\(match(T t).ty with
  | .sl e=>(match asSl s (slotOf x) (evS s x)with| .no=>False|z=>K (s.jR dst (.val (.one (.int .i64 z.xs.length)))))
  | .str=>oneK (evS s x) fun v=>match v with| .string z=>K (s.jR dst (.val (.one (.int .i64 z.size))))|_=>False
  |_=>False)
 | .builtin .append,[x,y],[t,t']=>t=t'/\(match(T t).ty with
  | .sl e=>KE n dst fun u=>(T e).ok=true/\0<(T e).w/\TS e (T e).w u x y s K
  |_=>False)
 | .builtin .min,[x,y],_=>(∀u,dst=some u->u<n)/\ @mmH false (evS s x) (evS s y) ⟨fun r=>K (s.jR dst (.val (.one r)))⟩
 | .builtin .max,[x,y],_=>(∀u,dst=some u->u<n)/\ @mmH true (evS s x) (evS s y) ⟨fun r=>K (s.jR dst (.val (.one r)))⟩
 | .builtin .min,[x,y,z],_=>(∀u,dst=some u->u<n)/\ @ayR false (evS s x) (evS s y) (evS s z) ⟨fun r=>K (s.jR dst (.val (.one r)))⟩
 | .builtin .max,[x,y,z],_=>(∀u,dst=some u->u<n)/\ @ayR true (evS s x) (evS s y) (evS s z) ⟨fun r=>K (s.jR dst (.val (.one r)))⟩
 |_,_,_=>False
def mM (P:Program)(T:TypeId->TyE)(n:Nat)(op:Op)(dst:Option Nat)(s:St)(K:St->Prop):Prop:=
 match op with
 | .move x=>KE n dst fun u=>vU u x s K
 | .assign x=>KE n dst fun u=>FB u x s K
 | .pick c x y=>KE n dst fun u=>ajT u c x y s K
 | .load t x=>KE n dst fun u=>FN (T t) u (oF s (slotOf x) (evS s x)) s K
 | .store t x y=>dst=none/\(T t).ok=true/\WF (T t) (oF s (slotOf x) (evS s x)) (srcOf s (slotOf y) (evS s y)) s K
 | .binOp op t x y _=>(∀u,dst=some u->u<n)/\(match(T t).ty with
  | .bool=>oneK (evS s x) fun u=>oneK (evS s y) fun v=>eqB op u v fun r=>K (s.jR dst (.val (.one r)))
  | .agg _=>aoS P op t (DU s x) (DU s y) fun r=>K (s.jR dst (.val (.one r)))
  | .sl _=>(match y with| .const (.slice none 0 0)=>aqU op (evS s x) (asSl s (slotOf x) (evS s x)) fun r=>K (s.jR dst (.val (.one r)))|_=>False)
  | .ifc=>(match y with| .const .nilIface=>oneK (evS s x) fun v=>apE op v fun r=>K (s.jR dst (.val (.one r)))|_=>False)
  |_=>dbin op (evS s x) (evS s y) fun r=>K (s.jR dst (.val (.one r))))
 | .unOp op _ x=>(∀u,dst=some u->u<n)/\oneK (evS s x) fun u=>unV op u fun r=>K (s.jR dst (.val (.one r)))
 | .convert src t x=>(∀u,dst=some u->u<n)/\(T src).ok=true/\(match(T src).ty,(T t).ty with
  | .int _,.int k=>dconvI k (evS s x) fun r=>K (s.jR dst (.val (.one r)))
  | .sl e,.str=>(match(T e).ty with| .int .u8=>True|_=>False)/\asSl s (slotOf x) (evS s x)≠ .no/\(match bytes? (asSl s (slotOf x) (evS s x)).xs with
   |some l=>K (s.jR dst (.val (.one (.string ⟨l.toArray⟩))))
   |none=>False)
  | .str,.sl e=>(T e).ok=true/\(T e).w=1/\(match(T e).ty with| .int .u8=>True|_=>False)/\oneK (evS s x) fun v=>match v with
   | .string z=>z.size<=16777216/\KE n dst fun u=>K (s.set u (.own (.sl (some e) (z.data.toList.map dU))))
   |_=>False
  |_,_=>False)
 | .indexAddr t x y=>(match(T t).ty with
  | .sl e=>KE n dst fun u=>(T e).ok=true/\ZZ (evS s y) fun j=>0<=j/\GM (T e).w u (asSl s (slotOf x) (evS s x)) j.toNat s K
  | .arr len e=>KE n dst fun u=>(T e).ok=true/\ZZ (evS s y) fun j=>0<=j/\j<len/\CK (j.toNat*(T e).w) j.toNat u (oF s (slotOf x) (evS s x)) s K
  |_=>False)
 | .index t x y=>(∀u,dst=some u->u<n)/\(match(T t).ty with
  | .str=> @aJ6 (evS s x) (evS s y) ⟨fun r=>K (s.jR dst (.val (.one r)))⟩
  | .arr len e=>(T e).ok=true/\(match evS s x with
   | .val (.agg xs)=>(D.yY xs).isSome=true/\xs.all (fun d=>d.w==(T e).w)=true/\ZZ (evS s y) fun j=>0<=j/\j<len/\(match xs[j.toNat]? with
    |some d=>d.isAgg=(T e).ty.isAgg/\K (s.jR dst (.val d))
    |none=>False)
   |_=>False)
  |_=>False)
 | .fieldAddr t x f=>(match(T t).ty with
  | .agg fs=>match fs[f]? with
   |some (off,ft)=>KE n dst fun u=>CK off f u (oF s (slotOf x) (evS s x)) s K
   |none=>False
  |_=>False)
 | .box t x=>KE n dst fun u=>(match srcOf s (slotOf x) (evS s x)with| .no=>False|z=>K ((z.st s).set u (.own (.bx true z.data))))
 | .alloc t=>(T t).ok=true/\KE n dst fun u=>K (s.set u (.own (.bx true (T t).z)))
 | .build t parts=>(match(T t).ty,(T t).z with
  | .agg fs,.agg zs=>fs.all (fun x=>(T x.2).ok)=true/\KE n dst fun u=>af1 T fs zs u parts.toList s K
  |_,_=>False)
 | .buildSlice t len parts=>(match(T t).ty with
  | .sl e=>(T e).ok=true/\len*(T e).w<=16777216/\len<=16777216/\0<(T e).w/\KE n dst fun u=>YH T e len u parts.toList s K
  |_=>False)
 | .makeSlice t x y=>(match(T t).ty with
  | .sl e=>(T e).ok=true/\ZZ (evS s x) fun l=>ZZ (evS s y) fun c=>0<=l/\l<=c/\c<=1073741824/\KE n dst fun u=>K (s.set u (.own (.sl (some e) (List.replicate l.toNat (T e).z))))
  |_=>False)
 | .slice t x lo hi none=>(∀u,dst=some u->u<n)/\(match(T t).ty with
  | .str=>oneK (evS s x) fun v=>match v with| .string z=>dsliceT s z lo hi fun r=>K (s.jR dst (.val (.one r)))|_=>False
  | .sl e=>(T e).ok=true/\(match asSl s (slotOf x) (evS s x)with
   | .fr xs=>xs.all (fun d=>d.w==(T e).w)=true/\bndK s hi xs.length fun h=>bndK s lo 0 fun l=>l<=h/\h<=xs.length/\K (s.jR dst (.val (.sl none ((xs.drop l).take (h-l)))))
   |_=>False)
  |_=>False)
 | .extract (.tmp r) k=>r<1000000/\KE n dst fun u=>MN u r k s K
 | .nilCheck x=>KE n dst fun u=>oF s (slotOf x) (evS s x)≠ .un/\vU u x s K
 | .call c=>stepCall P T n c.callee c.args.toList c.argTypes.toList dst s K
 | .makeFunc fn fst caps=>(match fn,fst.toList with
  | .func g,[]=>KE n dst fun u=>if(T (1000000+g)).w=1000 then axP u g caps.toList s K else match caps.toList with
   |[.tmp c]=>aoP u g (.tmp c) s K
   |_=>axP u g caps.toList s K
  |_,_=>False)
 |_=>False
def dstOk_of {n:Nat}{o:Oper}(h:∀u,o.dst=some u->u<n):dstOk n o=true:=by
 unfold dstOk;split
 ·rename_i t ht;simpa using h t ht
 ·rfl
def rX {n:Nat}{dst:Option Nat}{K:Nat->Prop}(h:KE n dst K):∃u,dst=some u/\u<n/\K u:=by
 unfold KE at h;split at h
 ·exact⟨_,rfl,h⟩
 ·exact h.elim
def Good.desc {P:Program}{T:TypeId->TyE}{t:TypeId}{x:Ty}(h:Good P T t)(hx:(T t).ty=x)(hn:x≠ .no):x.desc P t:=by
 have:=(h.of fun y hy=>by rw[←hy,hx];exact hn).1;rw[hx]at this;exact this
def Good.under {P:Program}{T:TypeId->TyE}{t:TypeId}(h:Good P T t)(hn:(T t).ok=true):∃d,P.underlying t=some d:=by
 have:=(h.of (TyE.PR hn)).1;revert this;cases(T t).ty<;>simp only[Ty.desc]<;>intro h
 case no=>exact h.elim
 case ptr=>obtain⟨_,h⟩:=h;exact⟨_,h⟩
 case ifc=>obtain⟨_,h⟩:=h;exact⟨_,h⟩
 case fn=>obtain⟨_,_,_,h⟩:=h;exact⟨_,h⟩
 case agg=>obtain⟨_,h,_⟩:=h;exact⟨_,h⟩
 all_goals exact⟨_,h⟩
section
variable {P:Program}{T:TypeId->TyE}{n:Nat}{w0:World}{ow0:Own}{o:Oper}{s:St}{K:St->Prop}
def arP (hG:∀t,Good P T t){c:Call}(ho:o.op= .call c)(h:stepCall P T n c.callee c.args.toList c.argTypes.toList o.dst s K):Ok P n w0 ow0 o s K:=by
 obtain⟨cal,args,ts⟩:=c;simp only at h;unfold stepCall at h;split at h
 ·obtain⟨h1,h2,h3⟩:=h;split at h3
  ·exact aD3 h1 ho (dstOk_of h2) h3
  split at h3
  ·split at h3
   ·exact aHU h1 ho (dstOk_of h2) h3
   ·exact aD1 h1 ho (dstOk_of h2) h3
  ·split at h3
   ·exact ay3 h1 ho (dstOk_of h2) h3
   ·exact fun a w hR=>(ay2 h1 ho (dstOk_of h2) h3:Ok P n w0 ow0 o _ K) a w ((TD _ _).rel hR)
 ·obtain⟨h1,h2⟩:=h;obtain⟨v,hv,h3⟩:=eY h2;split at h3
  ·rename_i g fst cap;obtain⟨rfl,h4,h5⟩:=h3;split at h5
   ·split at h5
    ·rename_i bs hbs;exact ay1 h4 hv hbs ho (dstOk_of h1) h5
    ·exact h5.elim
   split at h5
   ·rename_i ops hops;exact aD2 h4 hv hops ho (dstOk_of h1) h5
   ·exact h5.elim
  ·exact h3.elim
 ·rename_i x t ha ht;obtain⟨h1,h2⟩:=h;obtain rfl:args= #[x]:=by apply bU.1;simpa using ha
  obtain rfl:ts= #[t]:=by apply bU.1;simpa using ht
  split at h2
  ·rename_i e hty;exact aHW ((hG t).desc hty (by simp)) ho (dstOk_of h1) h2
  ·rename_i hty;exact aHX ((hG t).desc hty (by simp)) ho (dstOk_of h1) h2
  ·exact h2.elim
 ·rename_i x y t t' ha ht;obtain⟨rfl,h2⟩:=h;obtain rfl:args= #[x,y]:=by apply bU.1;simpa using ha
  obtain rfl:ts= #[t,t]:=by apply bU.1;simpa using ht
  split at h2
  ·rename_i e hty;obtain⟨u,hd,hu,h3,h4,h5⟩:=rX h2;exact ayX hG ((hG t).desc hty (by simp)) h3 h4 ho hd hu h5
  ·exact h2.elim
 ·rename_i x y ha;obtain⟨h1,h2⟩:=h;obtain rfl:args= #[x,y]:=by apply bU.1;simpa using ha
  obtain⟨a,hx,h3⟩:=eY h2;obtain⟨b,hy,h4⟩:=eY h3;unfold mmK at h4;split at h4
  ·exact aI9 (mx:=false) ho (dstOk_of h1) hx hy h4
  ·exact h4.elim
 ·rename_i x y ha;obtain⟨h1,h2⟩:=h;obtain rfl:args= #[x,y]:=by apply bU.1;simpa using ha
  obtain⟨a,hx,h3⟩:=eY h2;obtain⟨b,hy,h4⟩:=eY h3;unfold mmK at h4;split at h4
  ·exact aI9 (mx:=true) ho (dstOk_of h1) hx hy h4
  ·exact h4.elim
 ·rename_i x y z ha;obtain⟨h1,h2⟩:=h;obtain rfl:args= #[x,y,z]:=by apply bU.1;simpa using ha
  obtain⟨a,hx,h3⟩:=eY h2;obtain⟨b,hy,h4⟩:=eY h3;obtain⟨c,hz,h5⟩:=eY h4;unfold ayS at h5;split at h5
  ·exact aD9 (mx:=false) ho (dstOk_of h1) hx hy hz h5
  ·exact h5.elim
 ·rename_i x y z ha;obtain⟨h1,h2⟩:=h;obtain rfl:args= #[x,y,z]:=by apply bU.1;simpa using ha
  obtain⟨a,hx,h3⟩:=eY h2;obtain⟨b,hy,h4⟩:=eY h3;obtain⟨c,hz,h5⟩:=eY h4;unfold ayS at h5;split at h5
  ·exact aD9 (mx:=true) ho (dstOk_of h1) hx hy hz h5
  ·exact h5.elim
 ·exact h.elim
def step_ok (hG:∀t,Good P T t)(h:mM P T n o.op o.dst s K):Ok P n w0 ow0 o s K:=by
 generalize ho:o.op=op at h;unfold mM at h;split at h
 ·obtain⟨u,hd,hu,h⟩:=rX h;exact aH0 ho hd hu h
 ·obtain⟨u,hd,hu,h⟩:=rX h;exact ayY ho hd hu h
 ·obtain⟨u,hd,hu,h⟩:=rX h;exact aH3 ho hd hu h
 ·obtain⟨u,hd,hu,h⟩:=rX h;exact aHY (hG _) ho hd hu _ (fun hf=>hf.asPtr _) h
 ·obtain⟨h1,h2,h3⟩:=h;exact aEA (hG _) (TyE.PR h2) ho h1 h3
 ·obtain⟨h1,h2⟩:=h;split at h2
  ·rename_i hty;exact ok_eqB ((hG _).desc hty (by simp)) ho (dstOk_of h1) h2
  ·exact aKJ ho (dstOk_of h1) h2
  ·rename_i e hty;split at h2
   ·exact aH2 ((hG _).desc hty (by simp)) ho (dstOk_of h1) h2
   ·exact h2.elim
  ·rename_i hty;split at h2
   ·obtain⟨ms,hms⟩:=(hG _).desc hty (by simp);exact aKK hms ho (dstOk_of h1) h2
   ·exact h2.elim
  ·exact aKH ho (dstOk_of h1) h2
 ·exact aMD ho (dstOk_of h.1) h.2
 ·obtain⟨h1,h2,h3⟩:=h;split at h3
  ·rename_i hs ht;obtain⟨d,hd⟩:=(hG _).under h2;exact aD4 ho hd ((hG _).desc ht (by simp)) (dstOk_of h1) h3
  ·rename_i e hs ht;obtain⟨h4,h5,h6⟩:=h3;split at h4
   ·rename_i he;split at h6
    ·rename_i l hl;exact aKG ((hG _).desc hs (by simp)) ((hG _).desc he (by simp)) ((hG _).desc ht (by simp)) ho (dstOk_of h1) hl h5 h6
    ·exact h6.elim
   ·exact h4.elim
  ·rename_i e hs ht;obtain⟨h4,h5,h6,h7⟩:=h3;obtain⟨v,hv,h8⟩:=eY h7;split at h6
   ·rename_i he;split at h8
    ·rename_i z;obtain⟨h9,h10⟩:=h8;obtain⟨u,hd,hu,h11⟩:=rX h10;obtain⟨_,i,zv,hi,hsz,_⟩:=(hG e).of (TyE.PR h4);exact aKL ((hG _).desc hs (by simp)) ((hG _).desc ht (by simp)) ((hG _).desc he (by simp)) hi (hsz.trans h5) h9 ho hd hu hv h11
    ·exact h8.elim
   ·exact h6.elim
  ·exact h3.elim
 ·split at h
  ·rename_i e hty;obtain⟨u,hd,hu,h1,h2⟩:=rX h;obtain⟨k,j,hy,hj,h3⟩:=CW h2;exact aD6 (hG e) (TyE.PR h1) ((hG _).desc hty (by simp)) ho hd hu hy hj h3
  ·rename_i len e hty;obtain⟨u,hd,hu,h1,h2⟩:=rX h;obtain⟨k,j,hy,hj,hj2,h3⟩:=CW h2;obtain⟨_,i,zv,hi,hsz,_⟩:=(hG e).of (TyE.PR h1);rw[←hsz]at h3;exact ay4 ((hG _).desc hty (by simp)) hi ho hd hu hy hj hj2 h3
  ·exact h.elim
 ·obtain⟨h1,h2⟩:=h;split at h2
  ·rename_i hty;obtain⟨v,hv,h3⟩:=eY h2;split at h3
   ·obtain⟨k,j,hy,hj,c,hc,hK⟩:=CW h3;exact aHT ((hG _).desc hty (by simp)) ho (dstOk_of h1) hv hy hj hc hK
   ·exact h3.elim
  ·rename_i len e hty;obtain⟨h3,h4⟩:=h2;split at h4
   ·rename_i xs hx;obtain⟨h5,h6,h7⟩:=h4;obtain⟨k,j,hy,hj,hj2,h8⟩:=CW h7;split at h8
    ·rename_i d hget;obtain⟨cs,hcs⟩:=Option.isSome_iff_exists.1 h5;exact aHV hG ((hG _).desc hty (by simp)) h3 ho (dstOk_of h1) hx hcs hy hj hj2 h6 hget h8.1 h8.2
    ·exact h8.elim
   ·exact h4.elim
  ·exact h2.elim
 ·split at h
  ·rename_i fs hty;split at h
   ·rename_i off ft hf;obtain⟨u,hd,hu,h⟩:=rX h;exact amU (hG _) hty hf ho hd hu h
   ·exact h.elim
  ·exact h.elim
 ·obtain⟨u,hd,hu,h⟩:=rX h;exact aKI ho hd hu h
 ·obtain⟨h1,h2⟩:=h;obtain⟨u,hd,hu,h⟩:=rX h2;exact aDZ (hG _) (TyE.PR h1) ho hd hu h
 ·split at h
  ·rename_i fs zs hty hz;obtain⟨h1,h2⟩:=h;obtain⟨u,hd,hu,h⟩:=rX h2;exact aD0 hG hty hz h1 ho hd hu h
  ·exact h.elim
 ·split at h
  ·rename_i e hty;obtain⟨h1,h2,h3,h4,h5⟩:=h;obtain⟨u,hd,hu,h⟩:=rX h5;exact ayZ hG ((hG _).desc hty (by simp)) h1 h2 h3 h4 ho hd hu h
  ·exact h.elim
 ·split at h
  ·rename_i e hty;obtain⟨h1,h2⟩:=h;obtain⟨k,l,hx,h3⟩:=CW h2;obtain⟨k',c,hy,h4,h5,h6,h7⟩:=CW h3;obtain⟨u,hd,hu,h⟩:=rX h7;exact aD7 hG ((hG _).desc hty (by simp)) h1 hx hy h4 h5 h6 ho hd hu h
  ·exact h.elim
 ·obtain⟨h1,h2⟩:=h;split at h2
  ·rename_i hty;exact ay6 ((hG _).desc hty (by simp)) ho (dstOk_of h1) h2
  ·rename_i e hty;obtain⟨h3,h4⟩:=h2;split at h4
   ·rename_i xs hx;obtain⟨_,i,zv,hi,hsz,_⟩:=(hG e).of (TyE.PR h3);exact ay5 ((hG _).desc hty (by simp)) hi ho (dstOk_of h1) hx (by rw[hsz];exact h4.1) h4.2
   ·exact h4.elim
  ·exact h2.elim
 ·obtain⟨h1,h2⟩:=h;obtain⟨u,hd,hu,h⟩:=rX h2;exact auC ho hd hu h1 h
 ·obtain⟨u,hd,hu,h1,h⟩:=rX h;exact aq1 ho hd hu ⟨_,rfl,h1⟩ h
 ·exact arP hG ho h
 ·rename_i fn fst caps;split at h
  ·rename_i g h1;obtain rfl:fst= #[]:=by apply bU.1;simpa using h1
   obtain⟨u,hd,hu,h3⟩:=rX h;split at h3
   ·exact aD8 ho hd hu h3
   ·split at h3
    ·rename_i c h2;obtain rfl:caps= #[.tmp c]:=by apply bU.1;simpa using h2
     exact aHZ ho hd hu h3
    ·exact aD8 ho hd hu h3
  ·exact h.elim
 ·exact h.elim
def az2 (P:Program)(T:TypeId->TyE)(n:Nat)(ops:Array Oper):List Oper->St->(St->Prop)->Prop
 |[],s,K=>K s
 |o::l,s,K=>gK ops o s (mM P T n o.op o.dst s fun s'=>az2 P T n ops l s' K) (dstOk n o=true/\az2 P T n ops l (s.jR o.dst (.tup [])) K)
def aFJ (P:Program)(T:TypeId->TyE)(n:Nat)(ops:Array Oper):∃f:List Oper->St->(St->Prop)->Prop,f=az2 P T n ops:=⟨_,rfl⟩
noncomputable def vcL (P:Program)(T:TypeId->TyE)(n:Nat)(ops:Array Oper):List Oper->St->(St->Prop)->Prop:=Classical.choose (aFJ P T n ops)
def ab6 (P:Program)(T:TypeId->TyE)(n:Nat)(ops:Array Oper):vcL P T n ops=az2 P T n ops:=iO (aFJ P T n ops)
def ak7 (hG:∀t,Good P T t){ops:Array Oper}:∀(l:List Oper) (s:St) (K:St->Prop),az2 P T n ops l s K->OkL P n w0 ow0 ops l s K
 |[],s,K,h=>h
 |o::l,s,K,h=>by
  have hm:∀(s':St),az2 P T n ops l s' K->OkL P n w0 ow0 ops l s' K:=fun s' hs'=>ak7 hG l s' K hs';unfold OkL;refine aGR h (fun h1=> ?_) fun h1=>⟨h1.1,hm _ h1.2⟩;intro a w hR next Q hn
  exact(step_ok hG h1:Ok P n w0 ow0 o s _) a w hR next Q fun s' a' w' hK hR'=>hn s' a' w' (hm s' hK) hR'
def GD (hG:∀t,Good P T t){ops:Array Oper}(l:List Oper)(s:St)(K:St->Prop)(h:vcL P T n ops l s K):OkL P n w0 ow0 ops l s K:=by
 rw[ab6]at h;exact ak7 hG l s K h
def aDW (hG:∀t,Good P T t){p:Pin}{id:Nat}{ops:Array Oper}{K:Exit->St->Prop}(h:vcL P T n ops ops.toList s (fun s'=>K .normal s'))(hd:qC p ops.toList=true):OkC P n w0 ow0 p (.region id ops false) s K:=
 ahN (GD hG _ _ _ h) hd
end
section
variable {P:Program}{n:Nat}{w0:World}{ow0:Own}{p:Pin}{s:St}{K:Exit->St->Prop}
end
class ae4 where
 P:Prop
class ae5 where
 P:Prop
def gH (ops:Array Oper)(o:Oper)(s:St)[A:ae4][B:ae5]:Prop:=gK ops o s A.P B.P
def gT (u:Option (Option Nat))(s:St)(b:Bool)[A:ae4][B:ae5]:Prop:=match u with
 |some (some t)=>gS (s t) b A.P B.P
 |_=>B.P
def gU (x:S)(b:Bool)[A:ae4][B:ae5]:Prop:=gS x b A.P B.P
def gI (c:Bool)[A:ae4][B:ae5]:Prop:=(c=true->A.P)/\(c=false->B.P)
def avW {A B:Prop}: @gI true ⟨A⟩ ⟨B⟩=A:=by simp[gI]
def ao4 {A B:Prop}: @gI false ⟨A⟩ ⟨B⟩=B:=by simp[gI]
variable {b:Bool}
def aB2 {l:List S}{A B:Prop}: @gU (.tup l) b ⟨A⟩ ⟨B⟩=B:=rfl
variable {c:Bool}
def aB3 {A B:Prop}: @gU (.val (.one (.bool c))) true ⟨A⟩ ⟨B⟩= @gI c ⟨A⟩ ⟨B⟩:=by
 unfold gU gS gI;cases c<;>simp[oneK]
def aI1 {A B:Prop}: @gU (.val (.one (.bool c))) false ⟨A⟩ ⟨B⟩= @gI c ⟨B⟩ ⟨A⟩:=by
 unfold gU gS gI;cases c<;>simp[oneK]
def aI0 {t:Nat}{s:St}{A B:Prop}: @gT (some (some t)) s b ⟨A⟩ ⟨B⟩= @gU (s t) b ⟨A⟩ ⟨B⟩:=rfl
variable {op:Op}{pos:String}
def avU {ops:Array Oper}{d:Option Nat}{ty:TypeId}{aft}{s:St}{A B:Prop}: @gH ops ⟨d,op,ty,pos,aft,none⟩ s ⟨A⟩ ⟨B⟩=A:=rfl
def avV {ops:Array Oper}{d:Option Nat}{ty:TypeId}{aft}{j:Nat}{s:St}{A B:Prop}: @gH ops ⟨d,op,ty,pos,aft,some (j,b)⟩ s ⟨A⟩ ⟨B⟩= @gT ((ops[j]?).map (·.dst)) s b ⟨A⟩ ⟨B⟩:=by
 unfold gH gK gT;simp only;cases ops[j]? with
 |none=>rfl
 |some o=>cases o with
  |mk d op ty pos aft g=>cases d<;>rfl
section
variable {P:Program}{T:TypeId->TyE}{n:Nat}{ops:Array Oper}{s s':St}{K:St->Prop}{o:Oper}{l:List Oper}{t:Nat}{x:S}
def awZ:vcL P T n ops [] s K=K s:=by rw[ab6];rfl
def aw0:vcL P T n ops (o::l) (s.put t x) K= @gH ops o (s.put t x) ⟨mM P T n o.op o.dst (s.put t x) fun s'=>vcL P T n ops l s' K⟩ ⟨dstOk n o=true/\vcL P T n ops l ((s.put t x).jR o.dst (.tup [])) K⟩:=by rw[ab6];rfl
def awY {L:List (Nat×S)}:vcL P T n ops (o::l) (lst L) K= @gH ops o (lst L) ⟨mM P T n o.op o.dst (lst L) fun s'=>vcL P T n ops l s' K⟩ ⟨dstOk n o=true/\vcL P T n ops l ((lst L).jR o.dst (.tup [])) K⟩:=by rw[ab6];rfl
def awX {ds:List D}:vcL P T n ops (o::l) (argSt ds) K= @gH ops o (argSt ds) ⟨mM P T n o.op o.dst (argSt ds) fun s'=>vcL P T n ops l s' K⟩ ⟨dstOk n o=true/\vcL P T n ops l ((argSt ds).jR o.dst (.tup [])) K⟩:=by rw[ab6];rfl
def ar3:vcL P T n ops (o::l) (s.kill t) K= @gH ops o (s.kill t) ⟨mM P T n o.op o.dst (s.kill t) fun s'=>vcL P T n ops l s' K⟩ ⟨dstOk n o=true/\vcL P T n ops l ((s.kill t).jR o.dst (.tup [])) K⟩:=by rw[ab6];rfl
end
def isAny_one (v:Value):(D.one v).acN=false:=rfl
def isAny_sl (o:Option TypeId)(xs:List D):(D.sl o xs).acN=false:=rfl
def isAny_agg (xs:List D):(D.agg xs).acN=false:=rfl
def isAny_bx (o:Bool)(x:D):(D.bx o x).acN=false:=rfl
def isAny_any (n:Nat):(D.any n).acN=true:=rfl
def isAgg_one (v:Value):(D.one v).isAgg=false:=rfl
def isAgg_sl (o:Option TypeId)(xs:List D):(D.sl o xs).isAgg=false:=rfl
def isAgg_agg (xs:List D):(D.agg xs).isAgg=true:=rfl
def isAgg_bx (o:Bool)(x:D):(D.bx o x).isAgg=false:=rfl
def isAgg_any (n:Nat):(D.any n).isAgg=false:=rfl
def isHd_one (v:Value):(D.one v).JS=false:=rfl
def isHd_sl (o:Option TypeId)(xs:List D):(D.sl o xs).JS=true:=rfl
def isHd_agg (xs:List D):(D.agg xs).JS=false:=rfl
def isHd_bx (o:Bool)(x:D):(D.bx o x).JS=true:=rfl
def isHd_any (n:Nat):(D.any n).JS=false:=rfl
def hkid_one (v:Value)(i:Nat):(D.one v).kid i=none:=rfl
def hkid_sl (o:Option TypeId)(xs:List D)(i:Nat):(D.sl o xs).kid i=xs[i]?:=rfl
def hkid_agg (xs:List D)(i:Nat):(D.agg xs).kid i=xs[i]?:=rfl
def hkid_bx (o:Bool)(x:D)(i:Nat):(D.bx o x).kid i=if i=0 then some x else none:=rfl
def hkid_any (n:Nat)(i:Nat):(D.any n).kid i=none:=rfl
def hsetKid_one (v:Value)(i:Nat)(y:D):(D.one v).gB i y=D.one v:=rfl
def hsetKid_sl (o:Option TypeId)(xs:List D)(i:Nat)(y:D):(D.sl o xs).gB i y=D.sl o (xs.set i y):=rfl
def hsetKid_agg (xs:List D)(i:Nat)(y:D):(D.agg xs).gB i y=D.agg (xs.set i y):=rfl
def hsetKid_bx (o:Bool)(x:D)(i:Nat)(y:D):(D.bx o x).gB i y=D.bx o y:=rfl
def hsetKid_any (n:Nat)(i:Nat)(y:D):(D.any n).gB i y=D.any n:=rfl
def aLB (P:Program)(t:TypeId)(e:TyE):Prop:=e.ty.desc P t/\∃i zv,P.info? t=some i/\i.size=e.w/\i.zero=some zv/\D.zf e.z=some zv.cells.toList/\e.z.isAgg=e.ty.isAgg/\(∃cs,zv= .agg cs)=(e.ty.isAgg=true)/\i.bytes<=4096/\e.z.w=e.w
def alI (P:Program):List (Nat×TyE)->Prop
 |[]=>True
 |(t,e)::L=>aLB P t e/\alI P L
def tab:List (Nat×TyE)->TypeId->TyE
 |[],_=>⟨.no,0,.any 0⟩
 |(t,e)::L,u=>if u=t then e else tab L u
def ao8 {P:Program}:∀{L:List (Nat×TyE)},alI P L->∀t,Good P (tab L) t
 |[],_,t=> .inl trivial
 |(u,e)::L,h,t=>by
  by_cases hu:t=u
  ·subst hu;have:tab ((t,e)::L) t=e:=by simp[tab]
   unfold Good;rw[this];exact .inr h.1
  ·have:tab ((u,e)::L) t=tab L t:=by simp[tab,hu]
   have:=ao8 h.2 t;unfold Good at this|-
   simp only[tab,hu,if_false];exact this
attribute [go_sem] D.agW D.QQ D.JQ D.qO D.nU S.closed
attribute [go_sem] afJ QU V5 VG av5 aqO apD aj9
attribute [go_sem] WE acD axP tmpsOf aqC aFL ab0 St.fresh S.fresh
attribute [go_sem] St.DN St.V9 wI aqD awZ aw0 awY awX ar3 avU avV aI0 aB2 aB3 aI1 avW ao4 mM stepCall N9 QV af2 ajF aoP aoS aqU apE DU D.flat D.yY KE ZZ oneK vU FB ajT FN WF CK GM MN af1 YH TS dcall abB af3 acH St.F3 S.ac3 St.K9 S.GL nN
 evS slotOf oF asSl srcOf Src.st Src.from Src.data SLv.xs PU setParts IA rowOf places St.set St.jR St.free St.kill St.put St.OB St.SB S.drop S.root S.fJ Value.oneCell'
 dbin binV arithK strK unV dconvI eqB bndK dsliceT D.ahP isAny_one isAny_sl isAny_agg isAny_bx isAny_any isAgg_one isAgg_sl isAgg_agg isAgg_bx isAgg_any isHd_one isHd_sl isHd_agg isHd_bx isHd_any hkid_one hkid_sl hkid_agg hkid_bx hkid_any hsetKid_one hsetKid_sl hsetKid_agg hsetKid_bx hsetKid_any D.w D.ws D.frz D.xU D.fz D.fzs D.sub D.upd D.free TyE.ok Ty.isAgg dstOk lst argSt thenK blockK endK retK numb
end Go.Dv
end
section
namespace Go
def bN:= @Bool.or_eq_true
def tC:= @List.mapM_toArray
end Go
end
section
namespace Go.Dv
open Go.RowKit
variable [lL]
def rvOp:ResultVar->Operand
 | .tmp t=> .tmp t
 | .cell a _=> .tmp a
def retL (T:TypeId->TyE):List ResultVar->St->(List (D×Bool)->St->Prop)->Prop
 |[],s,K=>K [] s
 | .tmp t::rs,s,K=>(match srcOf s t (evS s (.tmp t))with| .no=>False|_=>True)/\(srcOf s t (evS s (.tmp t))).from≠some res0/\
   retL T rs ((srcOf s t (evS s (.tmp t))).st s) fun ds s2=>K (((srcOf s t (evS s (.tmp t))).data,(srcOf s t (evS s (.tmp t))).from.isNone)::ds) s2
 | .cell a ty::rs,s,K=>match oF s a (evS s (.tmp a))with
  | .rf r p=>match s r with
   | .own d=>match D.sub p d with
    |some m=>r≠res0/\p≠[]/\m.ahP (T ty)=true/\
      retL T rs ((s.kill r).put r (.own (D.upd p d (.any m.w)))) fun ds s2=>K ((m,false)::ds) s2
    |none=>False
   |_=>False
  |_=>False
def arG (tmps:Array Value):ResultVar->Sem Value
 | .tmp t=>pure (tmps.getD t undef)
 | .cell a t=>do loadVar t (←asAddr (tmps.getD a undef))
def aaQ (tmps:Array Value)(P:Program)(w:World)(g:ResultVar->Sem Value)(hg:∀t,g (.tmp t)=pure (tmps.getD t undef))(hg2:∀a t,g (.cell a t)=do loadVar t (←asAddr (tmps.getD a undef))):∀r,g r=arG tmps r:=by
 intro r;cases r with
 |tmp t=>exact hg t
 |cell a t=>exact hg2 a t
def Fits.retL {P:Program}{T:TypeId->TyE}{n:Nat}{w0 w:World}{ow0:Own}{a:Act}(hG:∀t,Good P T t)(lab:Nat->List Nat):∀(rs:List ResultVar) (k:Nat) {ow:Own}{s:St}{K:List (D×Bool)->St->Prop},Fits P n w0 ow0 ow s a w->Dv.retL T rs s K->
  ∃vals ow' s' ds,K ds s'/\Fits P n w0 ow0 ow' s' a w/\ds.length=rs.length/\vals.length=rs.length/\(∀(g:ResultVar->Sem Value),(∀r,g r=arG a.tmps r)->(rs.mapM g).run P w= .ok vals w)/\
   (∀(j:Nat) (p:D×Bool),ds[j]?=some p->∃v,vals[j]?=some v/\V P w ow' p.1 (lab (k+j)++[res0]) v/\(p.2=true->p.1.fz=p.1))/\∀l,Keeps w ow (l++[res0]) w ow' (l++[res0])
 |[],k,ow,s,K,h,hk=>⟨[],ow,s,[],hk,h,rfl,rfl,fun g _=>rfl,fun j p hj=>by simp at hj,fun l b _=>⟨fun h=>⟨rfl,h⟩,fun q h=>⟨rfl,h⟩⟩⟩
 |r::rs,k,ow,s,K,h,hk=>by
  have go:∀(v:Value) (ow1:Own) (s1:St) (d:D) (b:Bool),(∀(g:ResultVar->Sem Value),(∀r,g r=arG a.tmps r)->(g r).run P w= .ok v w)->Fits P n w0 ow0 ow1 s1 a w->V P w ow1 d (lab k++[res0]) v->(b=true->d.fz=d)->(∀l,Keeps w ow (l++[res0]) w ow1 (l++[res0]))->
    Dv.retL T rs s1 (fun ds s2=>K ((d,b)::ds) s2)->∃vals ow' s' ds,K ds s'/\Fits P n w0 ow0 ow' s' a w/\ds.length=(r::rs).length/\vals.length=(r::rs).length/\(∀(g:ResultVar->Sem Value),(∀r,g r=arG a.tmps r)->((r::rs).mapM g).run P w= .ok vals w)/\
     (∀(j:Nat) (p:D×Bool),ds[j]?=some p->∃v,vals[j]?=some v/\V P w ow' p.1 (lab (k+j)++[res0]) v/\(p.2=true->p.1.fz=p.1))/\∀l,Keeps w ow (l++[res0]) w ow' (l++[res0]):=by
   intro v ow1 s1 d b hrun hf hV hb hkeep hrest;obtain⟨vals,ow',s',ds,k1,k2,k3,k4,k5,k6,k7⟩:=Fits.retL hG lab rs (k+1) hf hrest;refine⟨v::vals,ow',s',(d,b)::ds,k1,k2,by simp[k3],by simp[k4],fun g hg=> ?_,fun j p hj=> ?_,fun l b hb=> ?_⟩
   ·simp only[List.mapM_cons,aI,hrun g hg,aG,k5 g hg,aU]
   ·cases j with
    |zero=>
     simp at hj;subst hj;exact⟨v,rfl,V.tr (k7 (lab k)) hV,hb⟩
    |succ j=>
     simp at hj;obtain⟨v',e1,e2⟩:=k6 j p hj;exact⟨v',by simpa using e1,by rw[show k+(j+1)=k+1+j by omega];exact e2⟩
   ·obtain⟨a1,a2⟩:=hkeep l b hb;obtain⟨b1,b2⟩:=k7 l b hb;exact⟨fun h0=>⟨rfl,(b1 (a1 h0).2).2⟩,fun q hq=>⟨rfl,(b2 q (a2 q hq).2).2⟩⟩
  cases r with
  |tmp t=>
   obtain⟨h1,h2,h3⟩:=hk;obtain⟨ow1,g1,g2,g3⟩:=h.src (.tmp t) (lab k++[res0]) (srcOf s t (evS s (.tmp t))) rfl (by intro e;rw[e]at h1;exact h1);refine go (a.eval (.tmp t)) ow1 _ _ _ (fun g hg=>by rw[hg];rfl) g1 g2 ?_ (fun l=>g3 l res0 h2) h3;intro hb;cases hz:srcOf s t (evS s (.tmp t))with
   |fr d=>simp only[Src.data];exact D.ZP d
   |all r d=>rw[hz]at hb;cases hb
   |nd r p d m=>rw[hz]at hb;cases hb
   |no=>rw[hz]at h1;exact h1.elim
  |cell x ty=>
   unfold Dv.retL at hk;have hp:=h.asPtr (.tmp x);simp only[slotOf]at hp;split at hk
   ·rename_i r p hrp;rw[hrp]at hp;split at hk
    ·rename_i d hs;split at hk
     ·rename_i m hm;obtain⟨hr0,hp0,hty,hrest⟩:=hk;obtain⟨d',m',b,off,h1,h2,h3,h4⟩:=hp;rw[hs]at h1;obtain rfl:d=d':=by injection h1
      rw[hm]at h2;obtain rfl:m=m':=k_Option_some_inj h2;have hVr:=h.slot r;rw[hs]at hVr
      have hR:R P w ow d [r] [aval a r]:=by
       cases p with
       |nil=>exact absurd rfl hp0
       |cons k p=>exact V.one hVr h3
      obtain⟨hL,_,_⟩:=hR.at h3 hm;obtain⟨v,hv,hV,_⟩:=run_load (hG ty) hty hL;obtain⟨g1,g2⟩:=h.aJE hs hm hp0 (lab k++[res0]) hV;refine go v _ _ m false (fun g hg=> ?_) g1 g2 (fun hb=>by cases hb) (fun l=>JV hr0) hrest;rw[hg];have he:a.tmps.getD x undef= .pointer (some ⟨b,off,none⟩):=h4;simp only[arG,he,asAddr,aI,aU,aG];simp only[Instr.loadAt,Instr.sureAddr,aI,aU,aG]at hv;exact hv
     ·exact hk.elim
    ·exact hk.elim
   ·exact hk.elim
def retS:List (D×Bool)->S
 |[(d,b)]=>if b||d.frz then .val d else .own d
 |ds=> .tup (ds.map fun p=>if p.2||p.1.frz then .val p.1 else .own p.1)
def endR (T:TypeId->TyE)(rs:List ResultVar)(Q:S->Prop):Exit->St->Prop
 | .normal,s=>retL T rs s fun ds _=>Q (retS ds)
 | .ret,s=>retL T rs s fun ds _=>Q (retS ds)
 |_,_=>False
def argB:List (Nat×D)->List D->St
 |[],ds=>argSt ds
 |(b,d)::gs,ds=>(argB gs ds).put (1000000+2*b) (.rp d)
def anP:∀(gs:List (Nat×D)) (ds:List D) (i:Nat),(argB gs ds i).fJ=false
 |[],ds,i=>by
  simp only[argB,argSt];cases ds[i]?<;>rfl
 |(b,d)::gs,ds,i=>by
  simp only[argB,St.put];split
  ·rfl
  ·exact anP gs ds i
variable {f:FuncId}{fn:Func}{c:Code}
def aBR {P:Program}{T:TypeId->TyE}{n:Nat}{rs:List ResultVar}{ds:List D}{gs:List (Nat×D)}{Q:S->Prop}(hG:∀t,Good P T t) (hf:P.funcs[f]?=some fn) (hb:fn.body=some c) (hn':fn.ntmps=n) (hn:n<=1000000) (hd:ds.length<=n)
  (hr:fn.results=rs.toArray) (h:∀w0 ow0,OkC P n w0 ow0 none c (argB gs ds) (endR T rs Q)):yX P f ds gs Q:=by
 subst hn';intro w ow vs t ht hL hnew hvs hargs hgs;refine calls_of_wp hf hb ?_
 have hfit0:Fits P fn.ntmps w (fun b=>(ow b).map (·++[far0])) (fun b=>(ow b).map (·++[far0])) (argSt ds) {tmps:=vs++Array.replicate (fn.ntmps-vs.size) undef,defers:=[]} w:=by
  refine⟨rfl,by simp;omega,hn,(hL.mono fun b o h1 h2=>⟨h1,by simp[h2]⟩),⟨rfl,rfl,rfl,k_Nat_le_refl _,fun _ _ _=>rfl⟩,fun _ _ h=>h,fun b hb=>by simp[hnew b hb],?_,fun _ _ _ h=>⟨rfl,h⟩,fun i=> ?_⟩
  ·unfold argSt;rw[k_List_getElem__eq_none (by unfold far0;omega)]
  ·unfold argSt;cases hdi:ds[i]? with
   |none=>trivial
   |some d=>
    have hi:i<ds.length:=(aD.1 hdi).1;have:=hargs i d hdi;simp only[SV]
    have he:aval {tmps:=vs++Array.replicate (fn.ntmps-vs.size) undef,defers:=[]} i=vs.getD i undef:=by
     unfold aval;rw[if_pos (by omega)];simp only[aF];rw[fC (by omega)]
    rw[he];exact V.trf (fun b _ ho=>⟨rfl,by simp[ho]⟩) this
 have hfit:Fits P fn.ntmps w (fun b=>(ow b).map (·++[far0])) (fun b=>(ow b).map (·++[far0])) (argB gs ds) {tmps:=vs++Array.replicate (fn.ntmps-vs.size) undef,defers:=[]} w:=by
  clear h
  induction gs with
  |nil=>exact hfit0
  |cons p gs ih=>
   obtain⟨b,d⟩:=p;have h1:=hgs (b,d) (by simp);refine(ih fun p hp=>hgs p (by simp[hp])).tell (by unfold far0;omega) (anP gs ds _) ?_;have hq:Quiet w ow w (fun b=>(ow b).map (·++[far0])):=fun b _ ho=>⟨rfl,by simp[ho]⟩;have h2:=V.trf (l2:=[]) hq h1;simp only[V,D.fz,R]at h2;obtain⟨b',off,C,e,fz,cs,g1,g2,g3,_,g5,g6,g7⟩:=h2;simp only[mD,rH,aJ,and_true]at g1;obtain⟨rfl,rfl,_⟩:=Addr.mk.inj g1;simp only[SV];refine⟨b,0,?_,g3 trivial,C,e,fz,cs,g2,fun j hj=>g6 j (by rw[g5];exact hj),R.trf (fun b _ hb=>⟨rfl,hb⟩) g7⟩;unfold aval;rw[if_neg (by omega)];have:(1000000+2*b-1000000)/2=b:=by omega
   rw[this]
 refine h w _ _ w ⟨_,hfit⟩ (fun m v e=>by cases e) _ fun e s' a' w' hK hR _=> ?_
 have key:retL T rs s' (fun ds _=>Q (retS ds))->bodyPost P fn (fun e w'=>∃v ow' r,e= .returned v/\Q r/\After w ow w' ow'/\S.plain r=true/\∀s a,SV P w' ow' s a t r v) .ret a' w':=by
  intro hK;obtain⟨ow1,hf1⟩:=hR;obtain⟨vals,ow2,s2,ds2,hQ,hf2,hl1,hl2,hrun,hvals,hkeep⟩:=hf1.retL hG (fun k=>if rs.length=1 then[]else[k]) rs 0 hK
  have hres:(results fn a'.tmps).run P w'= .ok (if h:vals.toArray.size=1 then vals.toArray[0]else .tuple vals.toArray) w':=by
   unfold results;rw[hr];have hb:∀{α β:Type}(x:Sem α) (g:α->Sem β),Sem.run P (Sem.bind x g) w'=(Sem.run P x w').andThen fun a w'=>Sem.run P (g a) w':=fun x g=>aI ..;simp only[tC,Functor.map,aI,aU];rw[hb,hrun _ (aaQ a'.tmps P w' _ (fun _=>rfl) fun _ _=>rfl)];rfl
  refine⟨hf1.nodef,_,hres,?_⟩
  have hnone:∀b,ow2 b=none->leave w ow ow2 t b=none:=by
   intro b hb;unfold leave;split
   ·rename_i hlt;cases ho:ow b with
    |none=>rfl
    |some q=>
     have:=(hf2.keep b hlt q (by simp[ho])).2;rw[hb]at this;cases this
   ·simp[hb]
  have hold:∀b q,b<w.heap.size->ow2 b≠some (q++[res0]):=by
   intro b q hlt e;cases ho:ow b with
   |none=>
    have:=hf2.own b hlt (by simp[ho]);rw[e]at this;cases this
   |some q'=>
    have:=(hf2.keep b hlt q' (by simp[ho])).2;rw[e]at this;have:=congrArg List.getLast? (k_Option_some_inj this);simp[res0,far0]at this
  have hk:∀l,Keeps w' ow2 (l++[res0]) w' (leave w ow ow2 t) (l++[t]):=fun l b _=>⟨fun ho=>⟨rfl,hnone b ho⟩,fun q hq=>⟨rfl,by
   have hq':ow2 b=some ((q++l)++[res0]):=by rw[hq];simp
   unfold leave;rw[if_neg fun hlt=>hold b _ hlt hq',hq'];simp⟩⟩
  have hq:Quiet w' ow2 w' (leave w ow ow2 t):=fun b _ ho=>⟨rfl,hnone b ho⟩
  have part:∀(j:Nat) (p:D×Bool),ds2[j]?=some p->∃v,vals[j]?=some v/\(if(p.2||p.1.frz)=true then V P w' (leave w ow ow2 t) p.1.fz [] v else V P w' (leave w ow ow2 t) p.1 ((if rs.length=1 then[]else[j])++[t]) v):=by
   intro j p hj;obtain⟨v,h1,h2,h3⟩:=hvals j p hj;rw[bT]at h2;refine⟨v,h1,?_⟩;by_cases hp:(p.2||p.1.frz)=true
   ·rw[if_pos hp]
    have hfz:p.1.fz=p.1:=by
     rcases bN _ _▸hp with hp|hp
     ·exact h3 hp
     ·exact D.WZ hp
    rw[←hfz]at h2;exact V.trf hq h2
   ·rw[if_neg hp];exact V.tr (hk _) h2
  refine⟨_,leave w ow ow2 t,retS ds2,rfl,hQ,⟨hf2.bel.os,hf2.bel.tape,hf2.bel.output,hf2.bel.size,fun b hb=>⟨?_,by unfold leave;rw[if_pos hb]⟩,fun b hb=>hnone b (hf2.new b hb)⟩,?_,fun s a=> ?_⟩
  ·cases ho:ow b with
   |none=>exact hf2.bel.block b hb (by simp[ho])
   |some q=>exact(hf2.keep b hb q (by simp[ho])).1
  ·unfold retS;split
   ·split<;>rfl
   ·rfl
  ·by_cases hone:rs.length=1
   ·have hd1:ds2.length=1:=by rw[hl1,hone]
    have hv1:vals.length=1:=by rw[hl2,hone]
    obtain⟨⟨d,b⟩,rfl⟩:=eP.1 hd1;obtain⟨v,rfl⟩:=eP.1 hv1
    ·obtain⟨v',h1,h2⟩:=part 0 (d,b) rfl;obtain rfl:v=v':=by simpa using h1
     rw[if_pos hone]at h2;simp only[retS];by_cases hp:(b||d.frz)=true
     ·rw[if_pos hp]at h2|-
      exact h2
     ·rw[if_neg hp]at h2|-
      exact h2
   ·have hd1:∀p,ds2≠[p]:=fun p e=>by rw[e]at hl1;simp at hl1;exact hone hl1.symm
    have htup:retS ds2= .tup (ds2.map fun p=>if p.2||p.1.frz then .val p.1 else .own p.1):=by
     unfold retS;split
     ·rename_i d b;exact absurd rfl (hd1 _)
     ·rfl
    rw[htup];refine⟨vals.toArray,?_,by simp[hl1,hl2],fun j x hx=> ?_⟩
    ·rw[dif_neg];simp[hl2,hone]
    ·simp only[aS,aL]at hx;obtain⟨p,hp,rfl⟩:=hx;obtain⟨v,h1,h2⟩:=part j p hp;have hv:vals.toArray.getD j undef=v:=by simp[aF,h1]
     rw[hv];by_cases hpf:(p.2||p.1.frz)=true
     ·rw[if_pos hpf]at h2|-
      exact h2
     ·rw[if_neg hpf]at h2|-
      rw[if_neg hone]at h2;exact h2
 cases e with
 |normal=>exact key hK
 |ret=>exact key hK
 |_=>exact hK.elim
def aLV {P:Program}{T:TypeId->TyE}{n:Nat}{rs:List ResultVar}{ds:List D}{Q:S->Prop}(hG:∀t,Good P T t) (hf:P.funcs[f]?=some fn) (hb:fn.body=some c) (hn':fn.ntmps=n) (hn:n<=1000000) (hd:ds.length<=n)
  (hr:fn.results=rs.toArray) (h:∀w0 ow0,OkC P n w0 ow0 none c (argSt ds) (endR T rs Q)):fA P f ds Q:=fun w ow vs t h0 h1 h2 h3 h4=>aBR (gs:=[]) hG hf hb hn' hn hd hr h w ow vs t h0 h1 h2 h3 h4 (fun p hp=>by simp at hp)
attribute [go_sem] argB endR retL retS rvOp res0 far0
def aE4 (M:List (Nat×Nat))(L:List (Nat×TyE))(t:TypeId):TyE:=match M.lookup t with
 |some m=>⟨.no,m+1,.any 0⟩
 |none=>tab L t
def ayA {P:Program}{M:List (Nat×Nat)}{L:List (Nat×TyE)}(h:alI P L)(t:TypeId):Good P (aE4 M L) t:=by
 unfold Good aE4;cases hM:M.lookup t with
 |some m=>exact .inl trivial
 |none=>
  have:=ao8 h t;unfold Good at this;exact this
def lW (P:Program):List Field->Prop
 |[]=>True
 |f::l=>(f.name≠ "_" /\∃i,P.info? f.type=some i/\0<i.size)/\lW P l
def lW.mem {P:Program}:∀{l:List Field},lW P l->∀f∈l,f.name≠ "_" /\∃i,P.info? f.type=some i/\0<i.size
 |f::l,h,g,hg=>by
  rcases aK.1 hg with rfl|hg
  ·exact h.1
  ·exact h.2.mem g hg
def FR {P:Program}{ds:List D}{u:Value}(hu:u.oneCell'=true)(h:∀(w:World) (ow:Own) (vs:Array Value),Laid w ow->vs.size=ds.length->(∀(i:Nat) (d:D),ds[i]?=some d->V P w ow d.fz [] (vs.getD i undef))->Calls P f vs w fun e w'=>e= .returned u/\Below w.heap.size w w'):
  fA P f ds (fun r=>r= .val (.one u)):=by
 intro w ow vs t ht hL hnew hvs hargs;refine(h w ow vs hL hvs hargs).mono ?_;rintro e w' ⟨rfl,hB⟩;refine⟨u,fun b=>if b<w.heap.size then ow b else none,_,rfl,rfl,⟨hB.os,hB.tape,hB.output,hB.size,fun b hb=>⟨hB.block b hb,if_pos hb⟩,fun b hb=>if_neg (by have:=hB.size;omega)⟩,rfl,fun s a=>SV.A8 hu⟩
def Agr (xs:List Operand)(s σ:St):Prop:=∀x∈xs,evS σ x=evS s x/\∀r,(evS s x).root=some r->σ r=s r
def wQ (xs:List Operand)(s:St)(y:S):Prop:=∀r,y.root=some r->∃x∈xs,(evS s x).root=some r\/(slotOf x=r/\(evS s x).fJ=true)
def Reads (P:Program)(T:TypeId->TyE)(n:Nat)(op:Op)(xs:List Operand)(u:Nat)(s:St)(K:St->Prop):Prop:=
 ∃y:S,K (s.set u y)/\wQ xs s y/\∀σ,Agr xs s σ->∀G:St->Prop,G (σ.set u y)->mM P T n op (some u) σ G
variable {y:S}
def gG {xs:List Operand}{s:St}(h:y.root=none):wQ xs s y:=fun r hr=>by rw[h]at hr;cases hr
def akY {xs:List Operand}{s:St}{r:Nat}(hy:y.root=some r)(h:∃x∈xs,(evS s x).root=some r\/(slotOf x=r/\(evS s x).fJ=true)):wQ xs s y:=fun r' hr'=>by
 rw[hy]at hr';obtain rfl:=k_Option_some_inj hr';exact h
def Agr.own {xs:List Operand}{s σ:St}{x:Operand}(h:Agr xs s σ)(hx:x∈xs)(ho:(evS s x).fJ=true):σ (slotOf x)=s (slotOf x):=by
 have h1:=(h x hx).1;cases he:evS s x with
 |own d=>rw[pE he (.inl rfl),pE (h1.trans he) (.inl rfl)]
 |_=>rw[he]at ho;cases ho
section
variable {P:Program}{T:TypeId->TyE}{n:Nat}{s:St}{K:St->Prop}{u:Nat}{xs:List Operand}
def qmove (s:St)(x:Operand):Bool:=match evS s x with
 | .own (.agg _)=>false
 | .tup _=>false
 |_=>true
def KN {x:Operand}(hx:x∈xs)(hq:qmove s x=true)(h:vU u x s K):∃y,K (s.set u y)/\wQ xs s y/\∀σ,Agr xs s σ->∀G:St->Prop,G (σ.set u y)->vU u x σ G:=by
 unfold vU at h;unfold qmove at hq;cases he:evS s x with
 |un=>rw[he]at h;exact h.elim
 |tup l=>rw[he]at hq;cases hq
 |val d=>rw[he]at h;exact⟨.val d,h,gG rfl,fun σ ha G hG=>by unfold vU;rw[(ha x hx).1,he];exact hG⟩
 |rp d=>rw[he]at h;exact⟨.rp d,h,gG rfl,fun σ ha G hG=>by unfold vU;rw[(ha x hx).1,he];exact hG⟩
 |al r p=>rw[he]at h;exact⟨.al r p,h.2,fun r' hr'=>⟨x,hx,.inl (by rw[he];exact hr')⟩,fun σ ha G hG=>by unfold vU;rw[(ha x hx).1,he];exact⟨h.1,hG⟩⟩
 |rf r p=>rw[he]at h;exact⟨.rf r p,h.2,fun r' hr'=>⟨x,hx,.inl (by rw[he];exact hr')⟩,fun σ ha G hG=>by unfold vU;rw[(ha x hx).1,he];exact⟨h.1,hG⟩⟩
 |ag r p=>rw[he]at h;exact⟨.ag r p,h.2,fun r' hr'=>⟨x,hx,.inl (by rw[he];exact hr')⟩,fun σ ha G hG=>by unfold vU;rw[(ha x hx).1,he];exact⟨h.1,hG⟩⟩
 |own d=>
  rw[he]at h hq
  have key:(∀xs,d≠ .agg xs)->∃y,K (s.set u y)/\wQ xs s y/\∀σ,Agr xs s σ->∀G:St->Prop,G (σ.set u y)->vU u x σ G:=by
   intro hd;refine⟨.al (slotOf x) [],?_,fun r hr=>⟨x,hx,.inr ⟨by simpa[S.root]using hr,by rw[he];rfl⟩⟩,fun σ ha G hG=> ?_⟩
   ·cases d with
    |agg ys=>exact absurd rfl (hd ys)
    |_=>exact h.2
   ·unfold vU;rw[(ha x hx).1,he];refine⟨h.1,?_⟩;cases d with
    |agg ys=>exact absurd rfl (hd ys)
    |_=>exact hG
  cases d with
  |agg ys=>cases hq
  |one _=>exact key (by intro xs e;cases e)
  |sl _ _=>exact key (by intro xs e;cases e)
  |bx _ _=>exact key (by intro xs e;cases e)
  |any _=>exact key (by intro xs e;cases e)
def MH {x:Operand}(hx:x∈xs){σ:St}(ha:Agr xs s σ):oF σ (slotOf x) (evS σ x)=oF s (slotOf x) (evS s x):=by
 obtain⟨h1,h2⟩:=ha x hx;rw[h1];unfold oF;cases he:evS s x with
 |al r p=>
  rw[he]at h2;simp only[h2 r rfl]
 |val d=>cases d<;>rfl
 |own d=>cases d<;>rfl
 |_=>rfl
def afC {x:Operand}(hx:x∈xs){r:Nat}{p:List Nat}(h:oF s (slotOf x) (evS s x)= .rf r p):(∃x∈xs,(evS s x).root=some r\/(slotOf x=r/\(evS s x).fJ=true))/\∀σ,Agr xs s σ->σ r=s r:=by
 have key:((evS s x).root=some r\/(slotOf x=r/\(evS s x).fJ=true)):=by
  revert h;unfold oF;cases he:evS s x with
  |al r' p'=>
   intro h;left;simp only at h;split at h
   ·split at h
    ·injection h with h1 h2;rw[h1];rfl
    ·cases h
   ·cases h
  |rf r' p'=>intro h;left;injection h with h1 h2;rw[h1];rfl
  |own d=>
   intro h;right;cases d with
   |bx o y=>injection h with h1 h2;exact⟨h1,rfl⟩
   |_=>cases h
  |val d=>
   intro h;cases d with
   |bx o y=>cases h
   |_=>cases h
  |_=>intro h;cases h
 refine⟨⟨x,hx,key⟩,fun σ ha=> ?_⟩;rcases key with key|⟨key,ho⟩
 ·exact(ha x hx).2 r key
 ·rw[←key];exact ha.own hx ho
def aw7 {σ:St}{i:Nat}{X:S}(h:∀r,X.root=some r->σ r=s r):asSl σ i X=asSl s i X:=by
 by_cases hal:∃r p,X= .al r p
 ·obtain⟨r,p,rfl⟩:=hal;simp only[asSl,h r rfl]
 ·unfold asSl;split
  ·rfl
  ·rfl
  ·rfl
  ·rfl
  ·exact absurd ⟨_,_,rfl⟩ hal
  ·rfl
def IU {x:Operand}(hx:x∈xs){σ:St}(ha:Agr xs s σ):asSl σ (slotOf x) (evS σ x)=asSl s (slotOf x) (evS s x):=by
 obtain⟨h1,h2⟩:=ha x hx;rw[h1];exact aw7 h2
def aw6 {x:Operand}(hx:x∈xs){r:Nat}{p:List Nat}{ys:List D}(h:asSl s (slotOf x) (evS s x)= .nd r p ys):∃x∈xs,(evS s x).root=some r\/(slotOf x=r/\(evS s x).fJ=true):=by
 refine⟨x,hx,?_⟩;unfold asSl at h;split at h
 ·cases h
 ·cases h
 ·rename_i he;injection h with h1 h2 h3;exact .inr ⟨h1,by rw[he];rfl⟩
 ·cases h
 ·rename_i r' p' he;split at h
  ·split at h
   ·injection h with h1 h2 h3;exact .inl (by rw[he,←h1];rfl)
   ·cases h
   ·cases h
  ·cases h
 ·cases h
def aoO {e:TyE}{x:Operand}(hx:x∈xs)(h:FN e u (oF s (slotOf x) (evS s x)) s K):
  ∃y,K (s.set u y)/\wQ xs s y/\∀σ,Agr xs s σ->∀G:St->Prop,G (σ.set u y)->FN e u (oF σ (slotOf x) (evS σ x)) σ G:=by
 cases hp:oF s (slotOf x) (evS s x)with
 |rp d=>
  rw[hp]at h;exact⟨.val d,h.2,gG rfl,fun σ ha G hG=>by rw[MH hx ha,hp];exact⟨h.1,hG⟩⟩
 |rf r p=>
  rw[hp]at h;obtain⟨hroot,hσ⟩:=afC hx hp;unfold FN at h;simp only at h;cases hs:s r with
  |own d=>
   rw[hs]at h;simp only at h;cases hm:D.sub p d with
   |none=>rw[hm]at h;exact h.elim
   |some m=>
    rw[hm]at h;obtain⟨hty,h⟩:=h;have hr:∀y,y.root=some r->wQ xs s y:=fun y hy r' hr'=>by rw[hy]at hr';obtain rfl:=k_Option_some_inj hr';exact hroot
    have key:∀(y:S),(K (s.set u y))->(y.root=none\/y.root=some r)->(∀σ,s r=σ r->∀G:St->Prop,G (σ.set u y)->FN e u (.rf r p) σ G)->∃y,K (s.set u y)/\wQ xs s y/\∀σ,Agr xs s σ->∀G:St->Prop,G (σ.set u y)->FN e u (oF σ (slotOf x) (evS σ x)) σ G:=fun y h1 h2 h3=>
     ⟨y,h1,h2.elim gG (hr y),fun σ ha G hG=>by rw[MH hx ha,hp];exact h3 σ (hσ σ ha).symm G hG⟩
    cases m with
    |any k=>exact h.elim
    |one v=>exact key _ h (.inl rfl) fun σ e' G hG=>by unfold FN;simp only;rw[←e',hs];simp only[hm];exact⟨hty,hG⟩
    |bx o y=>exact key _ h.2 (.inr rfl) fun σ e' G hG=>by unfold FN;simp only;rw[←e',hs];simp only[hm];exact⟨hty,h.1,hG⟩
    |agg ys=>
     simp only at h;by_cases hf:D.xU ys=true
     ·rw[if_pos hf]at h;exact key _ h (.inl rfl) fun σ e' G hG=>by unfold FN;simp only;rw[←e',hs];simp only[hm,hf,if_true];exact⟨hty,hG⟩
     ·rw[if_neg hf]at h;exact key _ h.2 (.inr rfl) fun σ e' G hG=>by unfold FN;simp only;rw[←e',hs];simp only[hm,hf];exact⟨hty,h.1,hG⟩
    |sl o ys=>
     cases o with
     |some e1=>exact key _ h.2 (.inr rfl) fun σ e' G hG=>by unfold FN;simp only;rw[←e',hs];simp only[hm];exact⟨hty,h.1,hG⟩
     |none=>
      simp only at h;by_cases hf:D.xU ys=true
      ·rw[if_pos hf]at h;exact key _ h (.inl rfl) fun σ e' G hG=>by unfold FN;simp only;rw[←e',hs];simp only[hm,hf,if_true];exact⟨hty,hG⟩
      ·rw[if_neg hf]at h;exact key _ h.2 (.inr rfl) fun σ e' G hG=>by unfold FN;simp only;rw[←e',hs];simp only[hm,hf];exact⟨hty,h.1,hG⟩
  |_=>rw[hs]at h;exact h.elim
 |_=>rw[hp]at h;exact h.elim
def al0 {x:Operand}{ew i:Nat}(hx:x∈xs)(h:GM ew u (asSl s (slotOf x) (evS s x)) i s K):
  ∃y,K (s.set u y)/\wQ xs s y/\∀σ,Agr xs s σ->∀G:St->Prop,G (σ.set u y)->GM ew u (asSl σ (slotOf x) (evS σ x)) i σ G:=by
 cases hp:asSl s (slotOf x) (evS s x)with
 |no=>rw[hp]at h;exact h.elim
 |fr ys=>
  rw[hp]at h;unfold GM at h;simp only at h;cases hy:ys[i]? with
  |none=>rw[hy]at h;exact h.elim
  |some y=>
   rw[hy]at h;exact⟨.rp y,h.2,gG rfl,fun σ ha G hG=>by rw[IU hx ha,hp];unfold GM;simp only[hy];exact⟨h.1,hG⟩⟩
 |nd r p ys=>
  rw[hp]at h;have hroot:=aw6 hx hp;unfold GM at h;simp only at h;cases hy:ys[i]? with
  |none=>rw[hy]at h;exact h.elim
  |some y=>
   rw[hy]at h;exact⟨.rf r (p++[i]),h.2.2,akY rfl hroot,fun σ ha G hG=>by rw[IU hx ha,hp];unfold GM;simp only[hy];exact⟨h.1,h.2.1,hG⟩⟩
def YJ {x:Operand}{off f:Nat}(hx:x∈xs)(h:CK off f u (oF s (slotOf x) (evS s x)) s K):
  ∃y,K (s.set u y)/\wQ xs s y/\∀σ,Agr xs s σ->∀G:St->Prop,G (σ.set u y)->CK off f u (oF σ (slotOf x) (evS σ x)) σ G:=by
 cases hp:oF s (slotOf x) (evS s x)with
 |rp d=>
  rw[hp]at h;unfold CK at h;cases d with
  |agg ys=>
   simp only at h;cases hy:ys[f]? with
   |none=>rw[hy]at h;exact h.elim
   |some y=>rw[hy]at h;exact⟨.rp y,h.2,gG rfl,fun σ ha G hG=>by rw[MH hx ha,hp];unfold CK;simp only[hy];exact⟨h.1,hG⟩⟩
  |_=>exact h.elim
 |rf r p=>
  rw[hp]at h;obtain⟨hroot,hσ⟩:=afC hx hp;unfold CK at h;simp only at h;cases hs:s r with
  |own d=>
   rw[hs]at h;simp only at h;cases hm:D.sub p d with
   |none=>rw[hm]at h;exact h.elim
   |some m=>
    rw[hm]at h;cases m with
    |agg ys=>
     simp only at h;cases hy:ys[f]? with
     |none=>rw[hy]at h;exact h.elim
     |some y=>
      rw[hy]at h;exact⟨.rf r (p++[f]),h.2.2,akY rfl hroot,fun σ ha G hG=>by rw[MH hx ha,hp];unfold CK;simp only;rw[hσ σ ha,hs];simp only[hm,hy];exact⟨h.1,h.2.1,hG⟩⟩
    |_=>exact h.elim
  |_=>rw[hs]at h;exact h.elim
 |_=>rw[hp]at h;exact h.elim
end
variable {op:BinOp}
def asF {k:IntKind}{a b:Int}{K:Value->Prop}(h:arithK op k a b K):∃r,K r/\∀G:Value->Prop,G r->arithK op k a b G:=by
 cases op<;>simp only[arithK]at h⊢<;>first|exact⟨_,h,fun G hG=>hG⟩|exact⟨_,h.2,fun G hG=>⟨h.1,hG⟩⟩|exact⟨_,h.2.2,fun G hG=>⟨h.1,h.2.1,hG⟩⟩|exact h.elim
def aEV {a b:ByteArray}{K:Value->Prop}(h:strK op a b K):∃r,K r/\∀G:Value->Prop,G r->strK op a b G:=by
 cases op<;>simp only[strK]at h⊢<;>first|exact⟨_,h,fun G hG=>hG⟩|exact⟨_,h.2,fun G hG=>⟨h.1,hG⟩⟩|exact h.elim
variable {v:Value}
def aAP {u:Value}{K:Value->Prop}(h:binV op u v K):∃r,K r/\∀G:Value->Prop,G r->binV op u v G:=by
 unfold binV at h|-
 split at h
 ·split at h
  ·exact⟨_,h.2,fun G hG=>⟨h.1,hG⟩⟩
  ·exact⟨_,h.2,fun G hG=>⟨h.1,hG⟩⟩
  ·rename_i h1 h2;obtain⟨hk,h⟩:=h;obtain⟨r,g1,g2⟩:=asF h;refine⟨r,g1,fun G hG=> ?_⟩;cases op<;>first|exact⟨hk,g2 G hG⟩|exact absurd rfl h1|exact absurd rfl h2
 ·exact aEV h
 ·exact h.elim
def aIL {op:UnOp}{u:Value}{K:Value->Prop}(h:unV op u K):∃r,K r/\∀G:Value->Prop,G r->unV op u G:=by
 unfold unV at h|-
 split at h<;>first|exact⟨_,h,fun G hG=>hG⟩|exact⟨_,h.2,fun G hG=>⟨h.1,hG⟩⟩|exact h.elim
def aF8 {u:Value}{K:Value->Prop}(h:eqB op u v K):∃r,K r/\∀G:Value->Prop,G r->eqB op u v G:=by
 unfold eqB at h|-
 split at h<;>first|exact⟨_,h,fun G hG=>hG⟩|exact h.elim
variable {mx:Bool}
section
variable {P:Program}{T:TypeId->TyE}{n:Nat}{s:St}{K:St->Prop}{u:Nat}{xs:List Operand}
def anQ:∀(args:List Operand) {F:List D->List Nat->Prop},(∀x∈args,x∈xs)->nN s args F->∃ds rs,F ds rs/\∀σ,Agr xs s σ->∀G:List D->List Nat->Prop,G ds rs->nN σ args G
 |[],F,_,h=>⟨[],[],h,fun σ _ G hG=>hG⟩
 |x::args,F,hx,h=>by
  have hxx:=hx x (by simp);have hrest:=fun y hy=>hx y (bC x hy)
  have go:∀(d:D) (rr:List Nat),(nN s args fun ds rs=>F (d::ds) (rr++rs))->(∀σ,Agr xs s σ->∀G:List D->List Nat->Prop,(nN σ args fun ds rs=>G (d::ds) (rr++rs))->nN σ (x::args) G)->
    ∃ds rs,F ds rs/\∀σ,Agr xs s σ->∀G:List D->List Nat->Prop,G ds rs->nN σ (x::args) G:=by
   intro d rr h1 h2;obtain⟨ds,rs,g1,g2⟩:=anQ args hrest h1;exact⟨d::ds,rr++rs,g1,fun σ ha G hG=>h2 σ ha G (g2 σ ha _ hG)⟩
  unfold nN at h;cases he:evS s x with
  |un=>rw[he]at h;exact h.elim
  |tup l=>rw[he]at h;exact h.elim
  |val d=>rw[he]at h;exact go d [] h fun σ ha G hG=>by unfold nN;rw[(ha x hxx).1,he];exact hG
  |rp d=>rw[he]at h;exact go (.bx false d) [] h fun σ ha G hG=>by unfold nN;rw[(ha x hxx).1,he];exact hG
  |own d=>rw[he]at h;exact go d [slotOf x] h fun σ ha G hG=>by unfold nN;rw[(ha x hxx).1,he];exact hG
  |al r p=>
   rw[he]at h;simp only at h;cases hs:s r with
   |own d=>
    rw[hs]at h;simp only at h;cases hm:D.sub p d with
    |none=>rw[hm]at h;exact h.elim
    |some m=>rw[hm]at h;exact go m [r] h fun σ ha G hG=>by unfold nN;rw[(ha x hxx).1,he];simp only;rw[(ha x hxx).2 r (by rw[he];rfl),hs];simp only[hm];exact hG
   |_=>rw[hs]at h;exact h.elim
  |ag r p=>
   rw[he]at h;simp only at h;cases hs:s r with
   |own d=>
    rw[hs]at h;simp only at h;cases hm:D.sub p d with
    |none=>rw[hm]at h;exact h.elim
    |some m=>rw[hm]at h;exact go m [r] h fun σ ha G hG=>by unfold nN;rw[(ha x hxx).1,he];simp only;rw[(ha x hxx).2 r (by rw[he];rfl),hs];simp only[hm];exact hG
   |_=>rw[hs]at h;exact h.elim
  |rf r p=>
   rw[he]at h;simp only at h;cases hs:s r with
   |own d=>
    rw[hs]at h;simp only at h;cases hm:D.sub p d with
    |none=>rw[hm]at h;exact h.elim
    |some m=>rw[hm]at h;exact go (.bx false m) [r] h fun σ ha G hG=>by unfold nN;rw[(ha x hxx).1,he];simp only;rw[(ha x hxx).2 r (by rw[he];rfl),hs];simp only[hm];exact hG
   |_=>rw[hs]at h;exact h.elim
def gM {op:Op}(hK:K (s.set u y))(hr:wQ xs s y)(h:∀σ,Agr xs s σ->∀G:St->Prop,G (σ.set u y)->mM P T n op (some u) σ G):Reads P T n op xs u s K:=
 ⟨y,hK,hr,h⟩
def quietOp (op:Op)(s:St):Bool:=match op with
 | .move x=>qmove s x
 | .assign x=>match evS s x with
  | .val _=>true
  |_=>false
 | .pick c x y=>(match evS s c with
  | .val (.one (.bool true))=>qmove s x
  | .val (.one (.bool false))=>qmove s y
  |_=>false)
 | .nilCheck x=>qmove s x
 | .load _ _=>true
 | .slice _ _ _ _ none=>true
 | .extract (.tmp r) k=>match s r with
  | .tup l=>match l[k]? with
   |some (.val _)=>true
   |_=>false
  |_=>false
 | .binOp _ _ _ _ _=>true
 | .unOp _ _ _=>true
 | .convert _ _ x=>match evS s x with
  | .val (.one (.string _))=>false
  |_=>true
 | .indexAddr _ _ _=>true
 | .index _ _ _=>true
 | .fieldAddr _ _ _=>true
 | .call c=>match c.callee with
  | .builtin .len=>true
  | .builtin .min=>true
  | .builtin .max=>true
  |_=>false
 |_=>false
def afO {σ:St}:∀{l:List Operand},(∀x∈l,x∈xs)->Agr xs s σ->N9 σ l=N9 s l
 |[],_,_=>rfl
 |x::l,hl,ha=>by
  unfold N9;rw[(ha x (hl x (by simp))).1,afO (fun y hy=>hl y (by simp[hy])) ha]
def YB {x:Option Operand}{z:Nat}{K:Nat->Prop}(hx:∀y,x=some y->y∈xs)(h:bndK s x z K):∃j,K j/\∀σ,Agr xs s σ->∀G:Nat->Prop,G j->bndK σ x z G:=by
 cases x with
 |none=>exact⟨z,h,fun σ _ G hG=>hG⟩
 |some x=>
  obtain⟨v,hv,h1⟩:=eY h;split at h1
  ·refine⟨_,h1.2,fun σ ha G hG=> ?_⟩;unfold bndK;simp only[(ha x (hx x rfl)).1,hv,oneK];exact⟨h1.1,hG⟩
  ·exact h1.elim
def ajZ {x:Operand}(hx:x∈xs){σ:St}(ha:Agr xs s σ):DU σ x=DU s x:=by
 unfold DU;rw[(ha x hx).1];cases he:evS s x with
 |ag r p=>simp only;rw[(ha x hx).2 r (by rw[he];rfl)]
 |val d=>cases d<;>rfl
 |own d=>cases d<;>rfl
 |_=>rfl
def aBH {t:TypeId}{a b:Option (List Value)}{K:Value->Prop}(h:aoS P op t a b K):∃r,K r/\∀G:Value->Prop,G r->aoS P op t a b G:=by
 unfold aoS at h|-
 split at h
 ·obtain⟨r,h1,h2⟩:=h;exact⟨_,h2,fun G hG=>⟨r,h1,hG⟩⟩
 ·obtain⟨r,h1,h2⟩:=h;exact⟨_,h2,fun G hG=>⟨r,h1,hG⟩⟩
 ·exact h.elim
def aDP {x:S}{z:SLv}{K:Value->Prop}(h:aqU op x z K):∃r,K r/\∀G:Value->Prop,G r->aqU op x z G:=by
 unfold aqU at h|-
 split at h
 ·rcases h with⟨h1,h2⟩|⟨h1,h2,h3⟩
  ·exact⟨_,h2,fun G hG=> .inl ⟨h1,hG⟩⟩
  ·exact⟨_,h3,fun G hG=> .inr ⟨h1,h2,hG⟩⟩
 ·rcases h with⟨h1,h2⟩|⟨h1,h2,h3⟩
  ·exact⟨_,h2,fun G hG=> .inl ⟨h1,hG⟩⟩
  ·exact⟨_,h3,fun G hG=> .inr ⟨h1,h2,hG⟩⟩
 ·exact h.elim
def aCD {K:Value->Prop}(h:apE op v K):∃r,K r/\∀G:Value->Prop,G r->apE op v G:=by
 unfold apE at h|-
 split at h<;>first|exact⟨_,h,fun G hG=>hG⟩|exact h.elim
def aDJ {u w:Value}{K:Value->Prop}(h:ayS mx u v w K):∃r,K r/\∀G:Value->Prop,G r->ayS mx u v w G:=by
 unfold ayS at h|-
 split at h
 ·exact⟨_,h,fun G hG=>hG⟩
 ·exact h.elim
def aJ8 {l:List Operand}{ts:List TypeId}(h:stepCall P T n (.builtin (if mx then .max else .min)) l ts (some u) s K):
  (∃x y,l=[x,y]/\(∀u',some u=some u'->u'<n)/\ @mmH mx (evS s x) (evS s y) ⟨fun r=>K (s.jR (some u) (.val (.one r)))⟩)\/
  (∃x y z,l=[x,y,z]/\(∀u',some u=some u'->u'<n)/\ @ayR mx (evS s x) (evS s y) (evS s z) ⟨fun r=>K (s.jR (some u) (.val (.one r)))⟩):=by
 cases mx
 ·match l,h with
  |[x,y],h=>exact .inl ⟨x,y,rfl,h⟩
  |[x,y,z],h=>exact .inr ⟨x,y,z,rfl,h⟩
  |[],h=>exact absurd h (by simp[stepCall])
  |[x],h=>exact absurd h (by simp[stepCall])
  |x::y::z::q::r,h=>exact absurd h (by simp[stepCall])
 ·match l,h with
  |[x,y],h=>exact .inl ⟨x,y,rfl,h⟩
  |[x,y,z],h=>exact .inr ⟨x,y,z,rfl,h⟩
  |[],h=>exact absurd h (by simp[stepCall])
  |[x],h=>exact absurd h (by simp[stepCall])
  |x::y::z::q::r,h=>exact absurd h (by simp[stepCall])
def aHE {u:Value}{K:Value->Prop}(h:mmK mx u v K):∃r,K r/\∀G:Value->Prop,G r->mmK mx u v G:=by
 unfold mmK at h|-
 split at h
 ·exact⟨_,h,fun G hG=>hG⟩
 ·exact h.elim
def aqP {args:Array Operand}{ts:Array TypeId}(hxs:∀x∈args.toList,x∈xs)(h:stepCall P T n (.builtin (if mx then .max else .min)) args.toList ts.toList (some u) s K):
  Reads P T n (.call ⟨.builtin (if mx then .max else .min),args,ts⟩) xs u s K:=by
 rcases aJ8 h with⟨x,y,hl,hu,h⟩|⟨x,y,z,hl,hu,h⟩
 rotate_left
 ·have hx:x∈xs:=hxs x (by rw[hl];simp);have hy:y∈xs:=hxs y (by rw[hl];simp);have hz:z∈xs:=hxs z (by rw[hl];simp);obtain⟨a,ha,h⟩:=eY h;obtain⟨b,hb,h⟩:=eY h;obtain⟨c,hc,h⟩:=eY h;obtain⟨r,h1,h2⟩:=aDJ h;refine gM (y:= .val (.one r)) h1 (gG rfl) fun σ hag G hG=> ?_;show stepCall P T n (.builtin (if mx then .max else .min)) args.toList ts.toList (some u) σ G;rw[hl];cases mx
  ·exact⟨hu,by simp only[ayR,(hag x hx).1,(hag y hy).1,(hag z hz).1,ha,hb,hc,oneK];exact h2 _ hG⟩
  ·exact⟨hu,by simp only[ayR,(hag x hx).1,(hag y hy).1,(hag z hz).1,ha,hb,hc,oneK];exact h2 _ hG⟩
 have hx:x∈xs:=hxs x (by rw[hl];simp);have hy:y∈xs:=hxs y (by rw[hl];simp);obtain⟨a,ha,h⟩:=eY h;obtain⟨b,hb,h⟩:=eY h;obtain⟨r,h1,h2⟩:=aHE h;refine gM (y:= .val (.one r)) h1 (gG rfl) fun σ hag G hG=> ?_;show stepCall P T n (.builtin (if mx then .max else .min)) args.toList ts.toList (some u) σ G;rw[hl];cases mx
 ·exact⟨hu,by simp only[mmH,(hag x hx).1,(hag y hy).1,ha,hb,oneK];exact h2 _ hG⟩
 ·exact⟨hu,by simp only[mmH,(hag x hx).1,(hag y hy).1,ha,hb,oneK];exact h2 _ hG⟩
def auX {op:Op}(hq:quietOp op s=true)(hxs:∀x∈op.operands.toList,x∈xs)(h:mM P T n op (some u) s K):Reads P T n op xs u s K:=by
 cases op<;>simp only[quietOp]at hq<;>first|(cases hq;done)|skip
 case move x=>
  have hx:=hxs x (by simp[Op.operands]);obtain⟨hu,h⟩:=h;obtain⟨y,h1,h2,h3⟩:=KN hx hq h;exact gM h1 h2 fun σ ha G hG=>⟨hu,h3 σ ha G hG⟩
 case assign x=>
  have hx:=hxs x (by simp[Op.operands]);obtain⟨hu,h⟩:=h;cases he:evS s x with
  |val d=>
   have h':K (s.set u (.val d)):=by
    unfold FB vU at h;rw[he]at h;exact h
   refine gM h' (gG rfl) fun σ ha G hG=>⟨hu,?_⟩;unfold FB vU;rw[(ha x hx).1,he];exact hG
  |_=>rw[he]at hq;cases hq
 case pick c x y=>
  have hc:=hxs c (by simp[Op.operands]);have hx:=hxs x (by simp[Op.operands]);have hy:=hxs y (by simp[Op.operands]);obtain⟨hu,h⟩:=h;obtain⟨v,hv,h⟩:=eY h;simp only[hv]at hq;split at h
  ·obtain⟨z,h1,h2,h3⟩:=KN hx hq h;exact gM h1 h2 fun σ ha G hG=>⟨hu,by unfold ajT;rw[(ha c hc).1,hv];exact h3 σ ha G hG⟩
  ·obtain⟨z,h1,h2,h3⟩:=KN hy hq h;exact gM h1 h2 fun σ ha G hG=>⟨hu,by unfold ajT;rw[(ha c hc).1,hv];exact h3 σ ha G hG⟩
  ·exact h.elim
 case load t x=>
  have hx:=hxs x (by simp[Op.operands]);obtain⟨hu,h⟩:=h;obtain⟨y,h1,h2,h3⟩:=aoO hx h;exact gM h1 h2 fun σ ha G hG=>⟨hu,h3 σ ha G hG⟩
 case nilCheck x=>
  have hx:=hxs x (by simp[Op.operands]);obtain⟨hu,hp,h⟩:=h;obtain⟨y,h1,h2,h3⟩:=KN hx hq h;exact gM h1 h2 fun σ ha G hG=>⟨hu,by rw[MH hx ha];exact hp,h3 σ ha G hG⟩
 case slice t x lo hi mx=>
  cases mx with
  |some m=>cases hq
  |none=>
  have hx:=hxs x (by simp[Op.operands]);have hlo:∀y,lo=some y->y∈xs:=fun y hy=>hxs y (by subst hy;simp[Op.operands]);have hhi:∀y,hi=some y->y∈xs:=fun y hy=>hxs y (by subst hy;simp[Op.operands]);obtain⟨hu,h⟩:=h;split at h
  ·rename_i ht;obtain⟨v,hv,h⟩:=eY h;split at h
   ·rename_i z;obtain⟨j,h1,hj⟩:=YB hhi h;obtain⟨i,h2,hi'⟩:=YB hlo h1;obtain⟨g1,g2,g3⟩:=h2;refine gM (y:= .val (.one _)) g3 (gG rfl) fun σ hag G hG=>⟨hu,?_⟩;rw[ht];simp only[(hag x hx).1,hv,oneK];exact hj σ hag _ (hi' σ hag _ ⟨g1,g2,hG⟩)
   ·exact h.elim
  ·rename_i e ht;obtain⟨hok,h⟩:=h;split at h
   ·rename_i ys hys;obtain⟨hw,h⟩:=h;obtain⟨j,h1,hj⟩:=YB hhi h;obtain⟨i,h2,hi'⟩:=YB hlo h1;obtain⟨g1,g2,g3⟩:=h2;refine gM (y:= .val _) g3 (gG rfl) fun σ hag G hG=>⟨hu,?_⟩;rw[ht];simp only;refine⟨hok,?_⟩;rw[IU hx hag,hys];exact⟨hw,hj σ hag _ (hi' σ hag _ ⟨g1,g2,hG⟩)⟩
   ·exact h.elim
  ·exact h.elim
 case extract x k=>
  cases x with
  |tmp r=>
   have hx:=hxs (.tmp r) (by simp[Op.operands]);obtain⟨hr,hu,hur,h⟩:=h;simp only at hq;cases hs:s r with
   |tup l=>
    rw[hs]at hq h;simp only at hq h;cases hl:l[k]? with
    |none=>rw[hl]at hq;cases hq
    |some y=>
     rw[hl]at hq h;cases y with
     |val d=>
      refine gM (y:= .val d) h (gG rfl) fun σ ha G hG=>⟨hr,hu,hur,?_⟩;have he:=(ha (.tmp r) hx).1;simp only[evS,if_pos hr]at he;rw[he,hs];simp only[hl];exact hG
     |_=>cases hq
   |_=>rw[hs]at hq;cases hq
  |_=>cases hq
 case binOp op t x y t'=>
  have hx:=hxs x (by simp[Op.operands]);have hy:=hxs y (by simp[Op.operands]);obtain⟨hu,h⟩:=h;split at h
  ·rename_i hb;obtain⟨a,ha,h⟩:=eY h;obtain⟨b,hb',h⟩:=eY h;obtain⟨r,h1,h2⟩:=aF8 h;exact gM (y:= .val (.one r)) h1 (gG rfl) fun σ hag G hG=>⟨hu,by rw[hb];simp only[(hag x hx).1,(hag y hy).1,ha,hb',oneK];exact h2 _ hG⟩
  ·rename_i fs hb;obtain⟨r,h1,h2⟩:=aBH h;exact gM (y:= .val (.one r)) h1 (gG rfl) fun σ hag G hG=>⟨hu,by rw[hb];simp only[ajZ hx hag,ajZ hy hag];exact h2 _ hG⟩
  ·rename_i e hb;split at h
   ·obtain⟨r,h1,h2⟩:=aDP h;exact gM (y:= .val (.one r)) h1 (gG rfl) fun σ hag G hG=>⟨hu,by rw[hb];simp only[(hag x hx).1];rw[←(hag x hx).1,IU hx hag,(hag x hx).1];exact h2 _ hG⟩
   ·exact h.elim
  ·rename_i hb;split at h
   ·obtain⟨a,ha,h⟩:=eY h;obtain⟨r,h1,h2⟩:=aCD h;exact gM (y:= .val (.one r)) h1 (gG rfl) fun σ hag G hG=>⟨hu,by rw[hb];simp only[(hag x hx).1,ha,oneK];exact h2 _ hG⟩
   ·exact h.elim
  ·rename_i n1 n2 n3 n4;obtain⟨a,ha,h⟩:=eY h;obtain⟨b,hb',h⟩:=eY h;obtain⟨r,h1,h2⟩:=aAP h;refine gM (y:= .val (.one r)) h1 (gG rfl) fun σ hag G hG=>⟨hu,?_⟩;split
   ·rename_i hb';exact absurd hb' n1
   ·rename_i fs hb';exact absurd hb' (n2 _)
   ·rename_i e hb';exact absurd hb' (n3 _)
   ·rename_i hb';exact absurd hb' n4
   ·simp only[dbin,(hag x hx).1,(hag y hy).1,ha,hb',oneK];exact h2 _ hG
 case unOp op t x=>
  have hx:=hxs x (by simp[Op.operands]);obtain⟨hu,h⟩:=h;obtain⟨a,ha,h⟩:=eY h;obtain⟨r,h1,h2⟩:=aIL h;exact gM (y:= .val (.one r)) h1 (gG rfl) fun σ hag G hG=>⟨hu,by simp only[(hag x hx).1,ha,oneK];exact h2 _ hG⟩
 case convert src t x=>
  have hx:=hxs x (by simp[Op.operands]);obtain⟨hu,hok,h⟩:=h;split at h
  ·rename_i hs ht;obtain⟨a,ha,h⟩:=eY h;split at h
   ·refine gM (y:= .val (.one _)) h (gG rfl) fun σ hag G hG=>⟨hu,hok,?_⟩;rw[hs,ht];simp only[dconvI,(hag x hx).1,ha,oneK];exact hG
   ·exact h.elim
  ·rename_i e hs ht;obtain⟨h4,h5,h6⟩:=h;split at h6
   ·rename_i l hl;refine gM (y:= .val (.one _)) h6 (gG rfl) fun σ hag G hG=>⟨hu,hok,?_⟩;rw[hs,ht];simp only;rw[IU hx hag];refine⟨h4,h5,?_⟩;rw[hl];exact hG
   ·exact h6.elim
  ·obtain⟨_,_,_,h7⟩:=h;obtain⟨v,hv,h8⟩:=eY h7;split at h8
   ·rw[hv]at hq;cases hq
   ·exact h8.elim
  ·exact h.elim
 case indexAddr t x y=>
  have hx:=hxs x (by simp[Op.operands]);have hy:=hxs y (by simp[Op.operands]);unfold mM at h;simp only at h;split at h
  ·rename_i e he;obtain⟨hu,hok,h⟩:=h;obtain⟨k,j,hj,h0,h⟩:=CW h;obtain⟨z,h1,h2,h3⟩:=al0 hx h;refine gM h1 h2 fun σ ha G hG=> ?_;unfold mM;simp only[he];exact⟨hu,hok,by rw[(ha y hy).1,hj];exact⟨h0,h3 σ ha G hG⟩⟩
  ·rename_i len e he;obtain⟨hu,hok,h⟩:=h;obtain⟨k,j,hj,h0,hj2,h⟩:=CW h;obtain⟨z,h1,h2,h3⟩:=YJ hx h;refine gM h1 h2 fun σ ha G hG=> ?_;unfold mM;simp only[he];exact⟨hu,hok,by rw[(ha y hy).1,hj];exact⟨h0,hj2,h3 σ ha G hG⟩⟩
  ·exact h.elim
 case index t x y=>
  have hx:=hxs x (by simp[Op.operands]);have hy:=hxs y (by simp[Op.operands]);obtain⟨hu,h⟩:=h;split at h
  ·rename_i ht;obtain⟨a,ha,h⟩:=eY h;split at h
   ·obtain⟨k,j,hj,h0,c,hc,h⟩:=CW h;refine gM (y:= .val (.one _)) h (gG rfl) fun σ hag G hG=>⟨hu,?_⟩;rw[ht];simp only[aJ6,(hag x hx).1,(hag y hy).1,ha,hj,oneK,ZZ];exact⟨h0,c,hc,hG⟩
   ·exact h.elim
  ·rename_i len e ht;obtain⟨hok,h⟩:=h;split at h
   ·rename_i ys hxe;obtain⟨g1,g2,h⟩:=h;obtain⟨k,j,hj,h0,hj2,h⟩:=CW h;split at h
    ·rename_i d hget;refine gM (y:= .val d) h.2 (gG rfl) fun σ hag G hG=>⟨hu,?_⟩;rw[ht];simp only[(hag x hx).1,(hag y hy).1,hxe,hj,oneK,ZZ,hget];exact⟨hok,g1,g2,h0,hj2,h.1,hG⟩
    ·exact h.elim
   ·exact h.elim
  ·exact h.elim
 case fieldAddr t x f=>
  have hx:=hxs x (by simp[Op.operands]);unfold mM at h;simp only at h;split at h
  ·rename_i fs ht;split at h
   ·rename_i off ft hf;obtain⟨hu,h⟩:=h;obtain⟨z,h1,h2,h3⟩:=YJ hx h;refine gM h1 h2 fun σ ha G hG=> ?_;unfold mM;simp only[ht,hf];exact⟨hu,h3 σ ha G hG⟩
   ·exact h.elim
  ·exact h.elim
 case call c=>
  obtain⟨cal,args,ts⟩:=c;have h:stepCall P T n cal args.toList ts.toList (some u) s K:=h;simp only at hq;split at hq
  ·unfold stepCall at h;split at h
   ·rename_i hcal;cases hcal
   ·rename_i hcal;cases hcal
   ·rename_i x t hcal ha ht;have hx:x∈xs:=hxs x (by simp only[Op.operands,Call.operands];simp;rw[←Array.mem_toList_iff,ha];simp);obtain⟨hu,h⟩:=h
    have back:∀σ (G:St->Prop),stepCall P T n (.builtin .len) [x] [t] (some u) σ G->mM P T n (.call ⟨.builtin .len,args,ts⟩) (some u) σ G:=fun σ G hg=>by
     show stepCall P T n (.builtin .len) args.toList ts.toList (some u) σ G;rw[ha,ht];exact hg
    split at h
    ·rename_i e hty;cases hs:asSl s (slotOf x) (evS s x)with
     |no=>rw[hs]at h;exact h.elim
     |fr ys=>rw[hs]at h;exact gM (y:= .val (.one _)) h (gG rfl) fun σ hag G hG=>back σ G ⟨hu,by rw[hty];simp only;rw[IU hx hag,hs];exact hG⟩
     |nd r p ys=>rw[hs]at h;exact gM (y:= .val (.one _)) h (gG rfl) fun σ hag G hG=>back σ G ⟨hu,by rw[hty];simp only;rw[IU hx hag,hs];exact hG⟩
    ·rename_i hty;obtain⟨v,hv,h⟩:=eY h;split at h
     ·exact gM (y:= .val (.one _)) h (gG rfl) fun σ hag G hG=>back σ G ⟨hu,by rw[hty];simp only[(hag x hx).1,hv,oneK];exact hG⟩
     ·exact h.elim
    ·exact h.elim
   all_goals first|exact h.elim|(rename_i hcal _ _;cases hcal;done)|(rename_i hcal _;cases hcal;done)
  ·exact aqP (mx:=false) (fun x hx=>hxs x (by simp only[Op.operands,Call.operands];simp;simpa using hx)) h
  ·exact aqP (mx:=true) (fun x hx=>hxs x (by simp only[Op.operands,Call.operands];simp;simpa using hx)) h
  ·cases hq
def avF (P:Program)(f:FuncId)(ds:List D)(rs:List Nat)[k:aa2 S]:Prop:=∃r,fA P f ds (fun r'=>r'=r)/\(rs=[]\/r.closed=true)/\S.plain r=true/\k.K r
def an5 {ds:List D}{rs:List Nat}{K:S->Prop}{r:S}(h:fA P f ds (fun r'=>r'=r))(hc:rs=[]\/r.closed=true)(hp:S.plain r=true)(hK:K r):(avF (k:=⟨K⟩) P f ds rs):=⟨r,h,hc,hp,hK⟩
def stepD (P:Program)(T:TypeId->TyE)(n:Nat)(op:Op)(u:Nat)(s:St)(K:St->Prop):Prop:=
 match op with
 | .call ⟨.value (.func f),args,_⟩=>Enters P f/\u<n/\(T (1000000+f)).w=0/\N9 s args.toList=[]/\nN s args.toList fun ds rs=>(avF (k:=⟨fun r=>K (s.set u r)⟩) P f (D.fzs ds) rs)
 |op=>quietOp op s=true/\mM P T n op (some u) s K
def ac9 {op:Op}(hxs:∀x∈op.operands.toList,x∈xs)(h:stepD P T n op u s K):Reads P T n op xs u s K:=by
 unfold stepD at h;split at h
 ·rename_i f args ts;have hargs:∀x∈args.toList,x∈xs:=fun x hx=>hxs x (by simp only[Op.operands,Call.operands];simp;right;simpa using hx);obtain⟨he,hu,hT,hcaps,h⟩:=h;obtain⟨ds,rs,⟨r,hf,hc,hp,hK⟩,hout⟩:=anQ args.toList hargs h;refine⟨r,hK,gG (by cases r<;>first|rfl|cases hp),fun σ ha G hG=> ?_⟩;show stepCall P T n (.value (.func f)) args.toList ts.toList (some u) σ G;refine⟨he,fun u' e=>by obtain rfl:=k_Option_some_inj e;exact hu,?_⟩;rw[hT,afO hargs ha];simp only[hcaps];exact hout σ ha (fun ds rs=>afK (k:=⟨fun r=>G (σ.jR (some u) r)⟩) P f (D.fzs ds) rs) ⟨_,hf,fun r' e=>by subst e;exact⟨hc,hG⟩⟩
 ·exact auX h.1 hxs h.2
end
end Go.Dv
end
section
namespace Go
def kZ:= @Array.mem_of_getElem?
def qW:= @Array.setIfInBounds_comm
def jU:= @List.mem_filterMap
def k_List_mem_singleton:= @List.mem_singleton
def qB:= @Prod.mk.inj
end Go
end
section
namespace Go.Dv
open Go.RowKit
variable [lL]
abbrev az5 (o:Oper):List Operand:=o.op.operands.toList
def DQ (P:Program)(n:Nat)(o:Oper)(u:Nat)(s:St)(y:S):Prop:=
 ∀w0 ow0 σ,Agr (az5 o) s σ->(σ u).fJ=false->Ok P n w0 ow0 o σ (fun s'=>s'=σ.put u y)
def G6 (ops:Array Oper)(o:Oper):Option (Nat×Bool):=match o.guard with
 |none=>none
 |some (j,b)=>((ops[j]?).bind (·.dst)).map fun t=>(t,b)
def Knows (ops:Array Oper)(o:Oper)(s:St):Prop:=∀t b,G6 ops o=some (t,b)->(∃l,s t= .tup l)\/∃v,s t= .val (.one v)
def PI (ops:Array Oper)(o:Oper)(s:St):Prop:=o.guard=none\/∃t b,G6 ops o=some (t,b)/\s t= .val (.one (.bool b))
def KJ (P:Program)(n:Nat)(ops:Array Oper)(o:Oper)(u:Nat)(s:St)(y:S):Prop:=
 Knows ops o s/\wQ (az5 o) s y/\(PI ops o s->DQ P n o u s y)/\(¬PI ops o s->y= .tup [])
def FK (s:St):Prop:=∀i r,(s i).root=some r->(s r).fJ=true
variable {w0:World}{ow0:Own}{s:St}{a:Act}
def Fits.cons {P:Program}{n:Nat}{w:World}{ow:Own}(h:Fits P n w0 ow0 ow s a w):FK s:=fun i r hr=>(h.slot i).root hr
variable {y z:S}
def put_comm {u v:Nat}(h:u≠v):(s.put u y).put v z=(s.put v z).put u y:=by
 funext j;simp only[St.put];by_cases h1:j=v<;>by_cases h2:j=u<;>simp_all
def pY {u j:Nat}(h:j≠u):(s.put u y) j=s j:=by simp[St.put,h]
def put_eq {u:Nat}:(s.put u y) u=y:=by simp[St.put]
variable {x:Operand}
def avQ {u:Nat}(hu:u<1000000)(h:x≠ .tmp u):evS (s.put u y) x=evS s x:=by
 cases x with
 |tmp t=>
  have:t≠u:=fun e=>h (by rw[e]);simp only[evS,pY this]
 |global g=>simp only[evS];exact pY (by omega)
 |const v=>rfl
 |func f=>rfl
def evS_root (hc:FK s){r:Nat}(h:(evS s x).root=some r):(s r).fJ=true:=by
 cases x with
 |tmp t=>
  simp only[evS]at h;split at h
  ·exact hc _ _ h
  ·cases h
 |global g=>exact hc _ _ h
 |const v=>simp only[evS]at h;split at h<;>cases h
 |func f=>cases h
def au8 {xs:List Operand}{σ:St}{u:Nat}(hc:FK s)(hu:u<1000000)(ho:(s u).fJ=false)(hx:∀x∈xs,x≠ .tmp u):Agr xs (s.put u z) σ↔Agr xs s σ:=by
 have h1:∀x∈xs,evS (s.put u z) x=evS s x:=fun x h=>avQ hu (hx x h);have h2:∀x∈xs,∀r,(evS s x).root=some r->(s.put u z) r=s r:=fun x h r hr=>pY (by rintro rfl;rw[evS_root hc hr]at ho;cases ho);constructor
 ·intro h x hxx;obtain⟨g1,g2⟩:=h x hxx;rw[h1 x hxx]at g1 g2;exact⟨g1,fun r hr=>(g2 r hr).trans (h2 x hxx r hr)⟩
 ·intro h x hxx;obtain⟨g1,g2⟩:=h x hxx;rw[h1 x hxx];exact⟨g1,fun r hr=>(g2 r hr).trans (h2 x hxx r hr).symm⟩
def auL {xs:List Operand}{u:Nat}(hu:u<1000000)(hx:∀x∈xs,x≠ .tmp u):wQ xs (s.put u z) y↔wQ xs s y:=by
 have h1:∀x∈xs,evS (s.put u z) x=evS s x:=fun x h=>avQ hu (hx x h);constructor
 ·intro h r hr;obtain⟨x,hxx,h⟩:=h r hr;rw[h1 x hxx]at h;exact⟨x,hxx,h⟩
 ·intro h r hr;obtain⟨x,hxx,h⟩:=h r hr;refine⟨x,hxx,?_⟩;rw[h1 x hxx];exact h
def FK.put {xs:List Operand}{u:Nat}(hc:FK s)(ho:(s u).fJ=false)(hr:wQ xs s y):FK (s.put u y):=by
 have own:∀r,(s r).fJ=true->((s.put u y) r).fJ=true:=fun r h=>by
  have:r≠u:=by rintro rfl;rw[h]at ho;cases ho
  rw[pY this];exact h
 intro i r h;by_cases hi:i=u
 ·subst hi;rw[put_eq]at h;obtain⟨x,_,h1|⟨h1,h2⟩⟩:=hr r h
  ·exact own r (evS_root hc h1)
  ·apply own;rw[←h1];cases he:evS s x with
   |own d=>rw[pE he (.inl rfl)];rfl
   |_=>rw[he]at h2;cases h2
 ·rw[pY hi]at h;exact own r (hc i r h)
variable {p:Pin}{Q':Exit->Act->World->Prop}
variable {yi:S}
variable {K:St->Prop}
section
variable {P:Program}{n:Nat}{ops:Array Oper}{md:Region.Mode}
def abU {o:Oper}{u:Nat}(h:u∉o.looksAt ops):∀x∈az5 o,x≠ .tmp u:=by
 rintro x hx rfl;apply h;unfold Oper.looksAt;apply List.mem_append_left;rw[jU];exact⟨_,hx,rfl⟩
def F5 {o:Oper}{u t:Nat}{b:Bool}(h:u∉o.looksAt ops)(hg:G6 ops o=some (t,b)):t≠u:=by
 rintro rfl;apply h;unfold Oper.looksAt;apply List.mem_append_right;unfold G6 at hg;cases hgd:o.guard with
 |none=>rw[hgd]at hg;cases hg
 |some g=>
  obtain⟨j,b'⟩:=g;rw[hgd]at hg;simp only[aL]at hg;obtain⟨t',h1,h2⟩:=hg;obtain⟨rfl,rfl⟩:=qB h2;simp only[h1,Option.toList_some,k_List_mem_singleton]
def UN {o:Oper}{u v:Nat}(hc:FK s)(hv:v<1000000)(ho:(s v).fJ=false)(h:v∉o.looksAt ops):KJ P n ops o u (s.put v z) y↔KJ P n ops o u s y:=by
 have hk:Knows ops o (s.put v z)↔Knows ops o s:=by
  constructor<;>intro g t b hg
  ·have:=g t b hg;rwa [pY (F5 h hg)]at this
  ·rw[pY (F5 h hg)];exact g t b hg
 have hw:PI ops o (s.put v z)↔PI ops o s:=by
  constructor
  ·rintro(g|⟨t,b,g1,g2⟩)
   ·exact .inl g
   ·rw[pY (F5 h g1)]at g2;exact .inr ⟨t,b,g1,g2⟩
  ·rintro(g|⟨t,b,g1,g2⟩)
   ·exact .inl g
   ·exact .inr ⟨t,b,g1,by rw[pY (F5 h g1)];exact g2⟩
 have hd:DQ P n o u (s.put v z) y↔DQ P n o u s y:=by
  constructor<;>intro g w0 ow0 σ ha
  ·exact g w0 ow0 σ ((au8 hc hv ho (abU h)).2 ha)
  ·exact g w0 ow0 σ ((au8 hc hv ho (abU h)).1 ha)
 unfold KJ;rw[hk,hw,hd,auL hv (abU h)]
def qD (P:Program)(n:Nat)(ops:Array Oper)(i:Nat)(K:St->Prop)(s:St):Prop:=match ops[i]? with
 |none=>K s
 |some o=>∃u y,o.dst=some u/\u<n/\(s u).fJ=false/\KJ P n ops o u s y/\K (s.put u y)
def awG {i:Nat}{K':St->Prop}(h:∀s,K s->K' s)(hh:qD P n ops i K s):qD P n ops i K' s:=by
 unfold qD at*
 split
 ·rename_i ho;simp only[ho]at hh;exact h _ hh
 ·rename_i o ho;simp only[ho]at hh;obtain⟨u,y,h1,h2,h3,h4,h5⟩:=hh;exact⟨u,y,h1,h2,h3,h4,h _ h5⟩
def aEI {j:Nat}{oi oj:Oper}{ui:Nat}(hn:n<=1000000) (hj:ops[j]?=some oj) (hap:oi.apart ops oj=true) (hdi:oi.dst=some ui) (hui:ui<n) (hc:FK s) (ho:(s ui).fJ=false)
  (hy:KJ P n ops oi ui s yi) (h:qD P n ops j K (s.put ui yi)):qD P n ops j (fun s'=>FK s'/\(s' ui).fJ=false/\KJ P n ops oi ui s' yi/\K (s'.put ui yi)) s:=by
 obtain⟨h1,h2,h3⟩:=Oper.apart_spec hap;unfold qD at h|-
 simp only[hj]at h|-
 obtain⟨uj,yj,g1,g2,g3,g4,g5⟩:=h;have hne:uj≠ui:=fun e=>h2 ui hdi (by rw[g1,e]);rw[pY hne]at g3;rw[UN hc (dZ hui hn) ho (h1 ui hdi)]at g4;refine⟨uj,yj,g1,g2,g3,g4,hc.put g3 g4.2.1,by rw[pY hne.symm];exact ho,(UN hc (dZ g2 hn) g3 (h3 uj g1)).2 hy,?_⟩;rw[put_comm hne];exact g5
def aAH (P:Program)(n:Nat)(md:Region.Mode)(ops:Array Oper)(K:St->Prop):Nat->Array Bool->St->Prop
 |0,listed,s=>Region.ready md ops listed=[]/\K s
 |fuel+1,listed,s=>(Region.ready md ops listed=[]->K s)/\∀i∈Region.ready md ops listed,qD P n ops i (aAH P n md ops K fuel (listed.setIfInBounds i true)) s
def asC {i:Nat}{oi:Oper}{ui:Nat}(hn:n<=1000000)(hi:ops[i]?=some oi)(hdi:oi.dst=some ui)(hui:ui<n):
  ∀(fuel:Nat) (listed:Array Bool) (s:St),
   (∀j oj,ops[j]?=some oj->j≠i->listed.getD j true=false->(∀e∈oj.after,Region.binds md e=true->e.on≠i)->oi.apart ops oj=true)->
   i∈Region.ready md ops listed->FK s->(s ui).fJ=false->KJ P n ops oi ui s yi->
   aAH P n md ops K fuel (listed.setIfInBounds i true) (s.put ui yi)->aAH P n md ops K (fuel+1) listed s:=by
 intro fuel
 induction fuel with
 |zero=>
  intro listed s _ hr hc ho hy H;refine⟨fun h=>(by rw[h]at hr;cases hr),fun j hj=> ?_⟩;by_cases hji:j=i
  ·subst hji;unfold qD;simp only[hi];exact⟨ui,yi,hdi,hui,ho,hy,H⟩
  ·have:=ready_mono hj hji;rw[H.1]at this;cases this
 |succ fuel ih=>
  intro listed s hfree hr hc ho hy H;refine⟨fun h=>(by rw[h]at hr;cases hr),fun j hj=> ?_⟩;by_cases hji:j=i
  ·subst hji;unfold qD;simp only[hi];exact⟨ui,yi,hdi,hui,ho,hy,H⟩
  ·have h1:=H.2 j (ready_mono hj hji);obtain⟨hjun,oj,hoj,hall⟩:=mem_ready.1 hj
   have hnot:∀e∈oj.after,Region.binds md e=true->e.on≠i:=fun e he hb heq=>by
    have h1:=hall e he hb;have h0:=(mem_ready.1 hr).1;rw[heq]at h1;rcases Nat.lt_or_ge i listed.size with h'|h'
    ·simp[h']at h0 h1;rw[h0]at h1;cases h1
    ·simp[Array.getElem?_eq_none h']at h1
   have h2:=aEI hn hoj (hfree j oj hoj hji hjun hnot) hdi hui hc ho hy h1
   have hfree':∀k ok,ops[k]?=some ok->k≠i->(listed.setIfInBounds j true).getD k true=false->
     (∀e∈ok.after,Region.binds md e=true->e.on≠i)->oi.apart ops ok=true:=fun k ok hk hki hun hno=>by
    refine hfree k ok hk hki ?_ hno;by_cases hjk:j=k
    ·subst hjk;exact hjun
    ·rw[getD_set_ne true hjk]at hun;exact hun
   refine awG (fun s' h3=>ih (listed.setIfInBounds j true) s' hfree' (ready_mono hr (k_Ne_symm hji)) h3.1 h3.2.1 h3.2.2.1 ?_) h2;rw[qW _ _ hji];exact h3.2.2.2
def ao5 {o:Oper}{A B:Prop}(h:gK ops o s A B):Knows ops o s/\(PI ops o s->A)/\(¬PI ops o s->B):=by
 unfold gK at h;cases hg:o.guard with
 |none=>
  rw[hg]at h;have:G6 ops o=none:=by simp[G6,hg]
  exact⟨fun t b e=>(by rw[this]at e;cases e),fun _=>h,fun hw=>absurd (.inl hg) hw⟩
 |some g=>
  obtain⟨j,b⟩:=g;rw[hg]at h;simp only at h;cases ht:(ops[j]?).bind (·.dst)with
  |none=>
   rw[ht]at h;have:G6 ops o=none:=by simp[G6,hg,ht]
   refine⟨fun t b e=>(by rw[this]at e;cases e),fun hw=> ?_,fun _=>h⟩;rcases hw with hw|⟨t,b',e,_⟩
   ·rw[hg]at hw;cases hw
   ·rw[this]at e;cases e
  |some t=>
   rw[ht]at h;have hgs:G6 ops o=some (t,b):=by simp[G6,hg,ht]
   rcases aB1 h with⟨l,h1,h2⟩|⟨v,h1,h2,h3⟩
   ·refine⟨fun t' b' e=> ?_,fun hw=> ?_,fun _=>h2⟩
    ·rw[hgs]at e;obtain⟨rfl,rfl⟩:=qB (k_Option_some_inj e);exact .inl ⟨l,h1⟩
    ·rcases hw with hw|⟨t',b',e,e2⟩
     ·rw[hg]at hw;cases hw
     ·rw[hgs]at e;obtain⟨rfl,rfl⟩:=qB (k_Option_some_inj e);rw[h1]at e2;cases e2
   refine⟨fun t' b' e=> ?_,fun hw=>h2 ?_,fun hw=>h3 fun e=>hw (.inr ⟨t,b,hgs,by rw[h1,e]⟩)⟩
   ·rw[hgs]at e;obtain⟨rfl,rfl⟩:=qB (k_Option_some_inj e);exact .inr ⟨v,h1⟩
   ·rcases hw with hw|⟨t',b',e,e2⟩
    ·rw[hg]at hw;cases hw
    ·rw[hgs]at e;obtain⟨rfl,rfl⟩:=qB (k_Option_some_inj e);rw[h1]at e2;simpa using e2
def aCP {o:Oper}(hk:Knows ops o s):gK ops o s (PI ops o s) (¬PI ops o s):=by
 unfold gK;cases hg:o.guard with
 |none=>exact .inl hg
 |some g=>
  obtain⟨j,b⟩:=g;simp only;cases ht:(ops[j]?).bind (·.dst)with
  |none=>
   have:G6 ops o=none:=by simp[G6,hg,ht]
   rintro(hw|⟨t,b',e,_⟩)
   ·rw[hg]at hw;cases hw
   ·rw[this]at e;cases e
  |some t=>
   have hgs:G6 ops o=some (t,b):=by simp[G6,hg,ht]
   rcases hk t b hgs with⟨l,hv⟩|⟨v,hv⟩
   ·simp only[hv,gS];rintro(hw|⟨t',b',e,e2⟩)
    ·rw[hg]at hw;cases hw
    ·rw[hgs]at e;obtain⟨rfl,rfl⟩:=qB (k_Option_some_inj e);rw[hv]at e2;cases e2
   simp only[hv,gS,oneK];refine⟨fun e=> .inr ⟨t,b,hgs,by rw[hv,e]⟩,fun hne hw=> ?_⟩;rcases hw with hw|⟨t',b',e,e2⟩
   ·rw[hg]at hw;cases hw
   ·rw[hgs]at e;obtain⟨rfl,rfl⟩:=qB (k_Option_some_inj e);rw[hv]at e2;exact hne (by simpa using e2)
def ae0 {u:Nat}(h:(s u).fJ=false):s.set u y=s.put u y:=by simp[St.set,St.free,h]
def X4 (hdst:∀o∈ops.toList,sU p o=true){i:Nat}{w:World}{K':Act->World->Prop}(hR:Rel P n w0 ow0 s a w)(hp:Pinned p a)(h:∀s' a' w',K s'->Rel P n w0 ow0 s' a' w'->Pinned p a'->K' a' w')(hh:qD P n ops i K s):wpOp P ops Q' i K' a w:=by
 unfold qD at hh;unfold wpOp;split
 ·rename_i ho;simp only[ho]at hh;exact h _ _ _ hh hR hp
 ·rename_i o ho;have hdo:sU p o=true:=hdst o (by rw[Array.mem_toList_iff];exact kZ ho);simp only[ho]at hh;obtain⟨u,y,hd,hu,hown,⟨hk,hroot,hyes,hno⟩,hK⟩:=hh;have hw:=TW hR (aCP hk);split
  ·rename_i hwa;rw[if_pos hwa]at hw;have h1:=hyes hw w0 ow0 s (fun x _=>⟨rfl,fun r _=>rfl⟩) hown a w hR (fun a' w'=>Rel P n w0 ow0 (s.put u y) a' w') Q' fun s' a' w' e hR'=>by subst e;exact hR'
   exact .inl (uE (fun a' w' hh=>h _ _ _ hK hh.1 hh.2) (ab7 hp hdo h1))
  ·rename_i hwa;rw[if_neg hwa]at hw;have:=hno hw;subst this;obtain⟨ow,hf⟩:=hR;refine h _ _ _ hK ⟨ow,?_⟩ (hp.put hdo);rw[hd];exact hf.put hu hown ⟨#[],rfl,rfl,fun k x hx=>by simp at hx⟩
def ae8 (hdst:∀o∈ops.toList,sU p o=true)(hQ:∀s a w,K s->Rel P n w0 ow0 s a w->Pinned p a->Q' .normal a w):∀(fuel:Nat) (listed:Array Bool) (s:St) (a:Act) (w:World),Rel P n w0 ow0 s a w->Pinned p a->aAH P n md ops K fuel listed s->wpAny P md ops Q' fuel listed a w
 |0,_,_,_,_,hR,hp,h=>⟨h.1,hQ _ _ _ h.2 hR hp⟩
 |fuel+1,_,_,_,_,hR,hp,h=>⟨fun h0=>hQ _ _ _ (h.1 h0) hR hp,fun i hi=>X4 hdst hR hp (fun s' a' w' hK hR' hp'=>ae8 hdst hQ fuel _ s' a' w' hR' hp' hK) (h.2 i hi)⟩
def QL0 (P:Program)(T:TypeId->TyE)(n:Nat)(ops:Array Oper):List Oper->St->(St->Prop)->Prop
 |[],s,K=>K s
 |o::l,s,K=>match o.dst with
  |none=>False
  |some u=>u<n/\(s u).fJ=false/\gK ops o s (stepD P T n o.op u s fun s'=>QL0 P T n ops l s' K) (QL0 P T n ops l (s.put u (.tup [])) K)
def aIP (P:Program)(T:TypeId->TyE)(n:Nat)(ops:Array Oper):∃f:List Oper->St->(St->Prop)->Prop,f=QL0 P T n ops:=⟨_,rfl⟩
noncomputable def QL (P:Program)(T:TypeId->TyE)(n:Nat)(ops:Array Oper):List Oper->St->(St->Prop)->Prop:=Classical.choose (aIP P T n ops)
def ajH (P:Program)(T:TypeId->TyE)(n:Nat)(ops:Array Oper):QL P T n ops=QL0 P T n ops:=iO (aIP P T n ops)
def au7 {T:TypeId->TyE}:QL P T n ops [] s K=K s:=by rw[ajH];rfl
def aFO {T:TypeId->TyE}{o:Oper}{l:List Oper}:QL P T n ops (o::l) s K=(match o.dst with
  |none=>False
  |some u=>u<n/\(s u).fJ=false/\gK ops o s (stepD P T n o.op u s fun s'=>QL P T n ops l s' K) (QL P T n ops l (s.put u (.tup [])) K)):=by rw[ajH];rfl
def anI {T:TypeId->TyE}(hG:∀t,Good P T t){o:Oper}{l:List Oper}(h:QL P T n ops (o::l) s K):∃u y,o.dst=some u/\u<n/\(s u).fJ=false/\KJ P n ops o u s y/\QL P T n ops l (s.put u y) K:=by
 rw[aFO]at h;cases hd:o.dst with
 |none=>rw[hd]at h;exact h.elim
 |some u=>
  rw[hd]at h;obtain⟨hu,ho,h⟩:=h;obtain⟨hk,hA,hB⟩:=ao5 h;by_cases hw:PI ops o s
  ·obtain⟨y,h1,h2,h3⟩:=ac9 (xs:=az5 o) (fun x hx=>hx) (hA hw);rw[ae0 ho]at h1;refine⟨u,y,rfl,hu,ho,⟨hk,h2,fun _ w0 ow0 σ ha hσ=> ?_,fun hn=>absurd hw hn⟩,h1⟩;refine step_ok hG ?_;rw[hd];exact h3 σ ha _ (ae0 hσ)
  ·exact⟨u,.tup [],rfl,hu,ho,⟨hk,gG rfl,fun h=>absurd h hw,fun _=>rfl⟩,hB hw⟩
def anM {T:TypeId->TyE}(hG:∀t,Good P T t)(hn:n<=1000000):∀(l:List Oper) (k:Nat) (listed:Array Bool) (s:St),(∀j,l[j]?=ops[k+j]?)->FK s->
  Region.lexFrom md ops l.length k listed=true->QL P T n ops l s K->aAH P n md ops K l.length listed s
 |[],_,_,_,_,_,hB,h=>⟨by simpa[Region.lexFrom]using hB,by rwa [au7]at h⟩
 |o::l,k,listed,s,hl,hc,hB,h=>by
  have h0:ops[k]?=some o:=by simpa using(hl 0).symm
  simp only[k_List_length_cons,Region.lexFrom,k_Bool_and_eq_true]at hB;obtain⟨⟨hr,hf⟩,hB'⟩:=hB;obtain⟨u,y,hd,hu,ho,hy,hrest⟩:=anI hG h
  exact asC hn h0 hd hu l.length listed s (Region.free_spec h0 hf) (by simpa using hr) hc ho hy
   (anM hG hn l (k+1) _ _ (fun j=>by have:=hl (j+1);simpa[oW,Nat.add_comm 1 j]using this) (hc.put ho hy.2.1) hB' hrest)
def aDT {T:TypeId->TyE}(hG:∀t,Good P T t) {K:Exit->St->Prop}{id:Nat}(hm:P.follows .mixedOrders=true) (hn:n<=1000000) (hB:Region.lexB .any ops=true)
  (h:QL P T n ops ops.toList s (fun s'=>K .normal s')) (hd:qC p ops.toList=true):OkC P n w0 ow0 p (.region id ops true) s K:=by
 intro a w hR hp Q hQ;simp only[Region.lexB,k_Bool_and_eq_true]at hB;have hR2:Rel P n w0 ow0 s a {w with drawn:=w.drawn+1}:=by obtain⟨ow,hf⟩:=hR;exact⟨ow,hf.drew⟩
 have hc:FK s:=by obtain⟨ow,hf⟩:=hR;exact hf.cons
 refine wp_region_any hm (ae8 (qC.one hd) (K:=fun s'=>K .normal s') (fun s' a' w' hK hR' hp'=>hQ _ _ _ _ hK hR' hp') _ _ s _ _ hR2 hp ?_);have:=anM (md:= .any) hG hn ops.toList 0 (Array.replicate ops.size false) s (by simp) hc (by simpa using hB.2) h;simpa using this
end
end Go.Dv
end
section
namespace Go
def iY:= @List.mem_of_mem_drop
end Go
end
section
namespace Go.Dv
open Go.RowKit
variable [lL]
variable {p:Pin}
section
variable {P:Program}{n:Nat}{ops:Array Oper}{md:Region.Mode}
def aAI (P:Program)(n:Nat)(md:Region.Mode)(ops:Array Oper)(m:Nat)(L:Array Bool->St->Prop):Nat->Array Bool->St->Prop
 |0,listed,s=>L listed s
 |f+1,listed,s=>Region.ready md ops listed≠[]/\∀i∈Region.ready md ops listed,i<m/\qD P n ops i (aAI P n md ops m L f (listed.setIfInBounds i true)) s
def afB (hdst:∀o∈ops.toList,sU p o=true){w0:World}{ow0:Own}{m g:Nat}{L:Array Bool->St->Prop}{Q':Exit->Act->World->Prop}(hL:∀listed s a w,L listed s->Rel P n w0 ow0 s a w->Pinned p a->wpAny P md ops Q' g listed a w):
  ∀(f:Nat) (listed:Array Bool) (s:St) (a:Act) (w:World),Rel P n w0 ow0 s a w->Pinned p a->aAI P n md ops m L f listed s->wpAny P md ops Q' (f+g) listed a w
 |0,listed,s,a,w,hR,hp,h=>by rw[bT];exact hL _ _ _ _ h hR hp
 |f+1,listed,s,a,w,hR,hp,h=>by
  rw[show f+1+g=(f+g)+1 by omega];exact⟨fun h0=>absurd h0 h.1,fun i hi=>X4 hdst hR hp (fun s' a' w' h' hR' hp'=>afB hdst hL f _ s' a' w' hR' hp' h') (h.2 i hi).2⟩
def asD {m i:Nat}{oi:Oper}{ui:Nat}{yi:S}{L:Array Bool->St->Prop}(hn6:n<=1000000) (hi:ops[i]?=some oi) (hdi:oi.dst=some ui) (hui:ui<n)
  (hs:Region.sinkB md ops m=true) (hc:Region.chainB md ops m=true) (hn:m<ops.size) (hin:i<m)
  (hdone:∀listed s,L listed s->∀j∈Region.ready md ops listed,m<=j):
  ∀(f:Nat) (listed:Array Bool) (s:St),HeadInv md ops m listed->
   (∀j oj,ops[j]?=some oj->j≠i->listed.getD j true=false->(∀e∈oj.after,Region.binds md e=true->e.on≠i)->oi.apart ops oj=true)->
   i∈Region.ready md ops listed->FK s->(s ui).fJ=false->KJ P n ops oi ui s yi->
   aAI P n md ops m L f (listed.setIfInBounds i true) (s.put ui yi)->aAI P n md ops m L (f+1) listed s:=by
 intro f
 induction f with
 |zero=>
  intro listed s inv _ hr hcs ho hy H;have hun:=(mem_ready.1 hr).1;refine⟨fun h=>(by rw[h]at hr;cases hr),fun j hj=> ?_⟩
  have hjn:j<m:=by
   rcases Nat.lt_or_ge j m with h|h
   ·exact h
   ·exact absurd hj (tail_waits hs hc hn inv _ i rfl hin hun j h)
  refine⟨hjn,?_⟩;by_cases hji:j=i
  ·subst hji;unfold qD;simp only[hi];exact⟨ui,yi,hdi,hui,ho,hy,H⟩
  ·have:=hdone _ _ H j (ready_mono hj hji);omega
 |succ f ih=>
  intro listed s inv hfree hr hcs ho hy H;have hun:=(mem_ready.1 hr).1;refine⟨fun h=>(by rw[h]at hr;cases hr),fun j hj=> ?_⟩
  have hjn:j<m:=by
   rcases Nat.lt_or_ge j m with h|h
   ·exact h
   ·exact absurd hj (tail_waits hs hc hn inv _ i rfl hin hun j h)
  refine⟨hjn,?_⟩;by_cases hji:j=i
  ·subst hji;unfold qD;simp only[hi];exact⟨ui,yi,hdi,hui,ho,hy,H⟩
  ·have h1:=(H.2 j (ready_mono hj hji)).2;obtain⟨hjun,oj,hoj,hall⟩:=mem_ready.1 hj
   have hnot:∀e∈oj.after,Region.binds md e=true->e.on≠i:=fun e he hb heq=>by
    have h1:=hall e he hb;rw[heq,getD_both hun]at h1;cases h1
   have h2:=aEI hn6 hoj (hfree j oj hoj hji hjun hnot) hdi hui hcs ho hy h1
   have hfree':∀k ok,ops[k]?=some ok->k≠i->(listed.setIfInBounds j true).getD k true=false->
     (∀e∈ok.after,Region.binds md e=true->e.on≠i)->oi.apart ops ok=true:=fun k ok hk hki hun hno=>by
    refine hfree k ok hk hki ?_ hno;by_cases hjk:j=k
    ·subst hjk;exact hjun
    ·rw[getD_set_ne true hjk]at hun;exact hun
   refine awG (fun s' h3=>ih (listed.setIfInBounds j true) s' (inv.set hj hjn) hfree' (ready_mono hr (k_Ne_symm hji)) h3.1 h3.2.1 h3.2.2.1 ?_) h2;rw[qW _ _ hji];exact h3.2.2.2
def anN {T:TypeId->TyE}(hG:∀t,Good P T t)(hn6:n<=1000000){m g:Nat}{Lq:St->Prop}(hs:Region.sinkB md ops m=true)(hc:Region.chainB md ops m=true)(hn:m<ops.size):
  ∀(l:List Oper) (k:Nat) (listed:Array Bool) (s:St),(∀j,j<l.length->l[j]?=ops[k+j]?)->k+l.length=m->HeadInv md ops m listed->FK s->
  Region.lexHead md ops g l.length k listed=true->QL P T n ops l s Lq->
  aAI P n md ops m (fun listed' s'=>Region.seqB md ops g m listed'=true/\Lq s') l.length listed s
 |[],k,listed,s,_,hk,_,_,hB,h=>by
  have:k=m:=by simpa using hk
  subst this;exact⟨by simpa[Region.lexHead]using hB,by rwa [au7]at h⟩
 |o::l,k,listed,s,hl,hk,inv,hcs,hB,h=>by
  have h0:ops[k]?=some o:=by simpa using(hl 0 (by simp)).symm
  simp only[k_List_length_cons,Region.lexHead,k_Bool_and_eq_true]at hB;obtain⟨⟨hr,hf⟩,hB'⟩:=hB;have hkn:k<m:=by simp only[k_List_length_cons]at hk;omega
  have hr':k∈Region.ready md ops listed:=by simpa using hr
  obtain⟨u,y,hd,hu,ho,hy,hrest⟩:=anI hG h
  exact asD hn6 h0 hd hu hs hc hn hkn (fun listed' s' hL=>seqB_ready hL.1) l.length listed s inv (Region.free_spec h0 hf) hr' hcs ho hy
   (anN hG hn6 hs hc hn l (k+1) _ _ (fun j hj=>by have:=hl (j+1) (by simp;omega);simpa[oW,Nat.add_comm 1 j]using this) (by simp only[k_List_length_cons]at hk;omega) (inv.set hr' hkn) (hcs.put ho hy.2.1) hB' hrest)
def ayV {T:TypeId->TyE}(hG:∀t,Good P T t) {w0:World}{ow0:Own}{s:St}{K:Exit->St->Prop}{id:Nat}{l:List Oper}(m:Nat) (hm:P.follows .mixedOrders=true) (hn:n<=1000000) (hB:Region.lexTailB .any l.toArray m=true)
  (h:QL P T n l.toArray (l.take m) s (fun s'=>vcL P T n l.toArray (l.drop m) s' fun s2=>K .normal s2)) (hd:qC p l=true):OkC P n w0 ow0 p (.region id l.toArray true) s K:=by
 intro a w hR hp Q hQ;simp only[Region.lexTailB,k_Bool_and_eq_true,decide_eq_true_eq]at hB;obtain⟨⟨⟨⟨hsel,hmn⟩,hs⟩,hc⟩,hlex⟩:=hB;have hn':m<l.length:=by simpa using hmn
 have htl:(l.take m).length=m:=by simp;omega
 have hdl:(l.drop m).length=l.toArray.size-m:=by simp
 have inv0:HeadInv .any l.toArray m (Array.replicate l.toArray.size false):=
  ⟨by simp,fun j oj _ hl=>(by rw[getD_replicate_false]at hl;cases hl),fun t _ ht=>getD_in (by simpa using ht) (getD_replicate_false _ _)⟩
 have hR2:Rel P n w0 ow0 s a {w with drawn:=w.drawn+1}:=by obtain⟨ow,hf⟩:=hR;exact⟨ow,hf.drew⟩
 have hcs:FK s:=by obtain⟨ow,hf⟩:=hR;exact hf.cons
 have H:=anN (md:= .any) (g:=l.toArray.size-m) hG hn hs hc hmn (l.take m) 0 _ s (fun j hj=>by
  have hj':j<m:=by rw[htl]at hj;exact hj
  simp[hj']) (by simpa using htl) inv0 hcs (by rw[htl];exact hlex) h
 refine wp_region_any hm ?_
 have:=afB (p:=p) (fun o ho=>qC.one hd o (by simpa using ho)) (Q':=Q) (g:=l.toArray.size-m) (w0:=w0) (ow0:=ow0) (fun listed s' a' w' hL hR' hp'=>by
  have h2:wpList P l.toArray Q (l.drop m) a' w':=OkL.wp (l.drop m) s' _ (GD hG _ _ _ hL.2) (fun o ho=>qC.one hd o (iY ho)) a' w' hR' hp' fun s2 a2 w2 hK hR3 hp3=>hQ _ _ _ _ hK hR3 hp3;have:=wpAny_of_seq (md:= .any) (Q':=Q) (l.drop m) m listed a' w' (fun j=>by simp[dX]) (by rw[hdl];exact hL.1) h2
  rwa [hdl]at this) _ _ s _ _ hR2 hp H
 rw[htl,show m+(l.toArray.size-m)=l.toArray.size by omega]at this;exact this
def QL_nil {T:TypeId->TyE}{s:St}{K:St->Prop}:QL P T n ops [] s K=K s:=by rw[ajH];rfl
def QL_put {T:TypeId->TyE}{o:Oper}{l:List Oper}{s:St}{t:Nat}{x:S}{K:St->Prop}:QL P T n ops (o::l) (s.put t x) K=(match o.dst with
  |none=>False
  |some u=>u<n/\((s.put t x) u).fJ=false/\ @gH ops o (s.put t x) ⟨stepD P T n o.op u (s.put t x) fun s'=>QL P T n ops l s' K⟩ ⟨QL P T n ops l ((s.put t x).put u (.tup [])) K⟩):=by rw[ajH];rfl
def QL_lst {T:TypeId->TyE}{o:Oper}{l:List Oper}{L:List (Nat×S)}{K:St->Prop}:QL P T n ops (o::l) (lst L) K=(match o.dst with
  |none=>False
  |some u=>u<n/\((lst L) u).fJ=false/\ @gH ops o (lst L) ⟨stepD P T n o.op u (lst L) fun s'=>QL P T n ops l s' K⟩ ⟨QL P T n ops l ((lst L).put u (.tup [])) K⟩):=by rw[ajH];rfl
def QL_arg {T:TypeId->TyE}{o:Oper}{l:List Oper}{ds:List D}{K:St->Prop}:QL P T n ops (o::l) (argSt ds) K=(match o.dst with
  |none=>False
  |some u=>u<n/\((argSt ds) u).fJ=false/\ @gH ops o (argSt ds) ⟨stepD P T n o.op u (argSt ds) fun s'=>QL P T n ops l s' K⟩ ⟨QL P T n ops l ((argSt ds).put u (.tup [])) K⟩):=by rw[ajH];rfl
end
attribute [go_sem] QL_nil QL_put QL_lst QL_arg stepD quietOp qmove
def N7 {a:Act}{d:Option Nat}{v:Value}{i:Nat}(h:d≠some i):aval (a.put d v) i=aval a i:=by
 cases d with
 |none=>rfl
 |some t=>
  have hne:t≠i:=fun e=>h (by rw[e]);unfold aval Act.put;split
  ·simp[aF,hne]
  ·rfl
def aIN {P:Program}{o:Oper}{a:Act}{w:World}{next:Act->World->Prop}{Q:Exit->Act->World->Prop}(h:o.wp P a w next Q):o.wp P a w (fun a' w'=>next a' w'/\∀i,o.dst≠some i->aval a' i=aval a i) Q:=by
 unfold Oper.wp at*
 generalize(execOp a.eval o).run P w=r at*
 cases r with
 |ok nx w'=>
  cases nx<;>simp only[Oper.upon]at h⊢<;>
   first
    |exact⟨h,fun i hi=>N7 hi⟩
    |exact⟨h,fun i hi=>(N7 (a:={a with defers:=_}) hi).trans rfl⟩
    |exact Calls.mono h (fun e w'' he=>by cases e<;>first|exact⟨he,fun i hi=>N7 hi⟩|exact he)
    |exact Rows.mono h (fun _ _ he=>⟨he,fun i hi=>N7 hi⟩)
 |halt x w'=>cases x<;>simp only[Oper.upon]at h⊢<;>exact h
def St.only (s:St)(Y:List Nat):St:=fun i=>if i∈Y then s i else .un
def St.merge (s:St)(Y:List Nat)(f:St):St:=fun i=>if i∈Y then f i else s i
def inY (Y:List Nat)(p:List Nat):Bool:=match p.getLast? with
 |some j=>decide (j∈Y)
 |none=>false
def apH {Y q:List Nat}{j:Nat}:inY Y (q++[j])=decide (j∈Y):=by simp[inY]
def ah0 (Y:List Nat)(ow:Own):Own:=fun b=>match ow b with
 |none=>none
 |some p=>if inY Y p=true then some p else some (p++[far0])
def NN {Y:List Nat}{ow:Own}{b:Nat}(h:ow b=none):ah0 Y ow b=none:=by simp[ah0,h]
def awH {Y:List Nat}{ow:Own}{b j:Nat}{q:List Nat}(h:ow b=some (q++[j]))(hj:j∈Y):ah0 Y ow b=some (q++[j]):=by simp[ah0,h,apH,hj]
def aEJ {Y:List Nat}{ow:Own}{b:Nat}{p:List Nat}(h:ow b=some p)(hp:inY Y p=false):ah0 Y ow b=some (p++[far0]):=by simp[ah0,h,hp]
section
variable {P:Program}{n:Nat}{w0 w w':World}{ow0 ow:Own}{s f:St}{a a':Act}{Y:List Nat}
def Fits.aGQ (h:Fits P n w0 ow0 ow s a w)(hfar:far0∉Y)(hin:∀i∈Y,∀r,(s i).root=some r->r∈Y):Fits P n w (ah0 Y ow) (ah0 Y ow) (s.only Y) a w:=by
 refine⟨h.nodef,h.size,h.small,h.OU.mono fun b o h1 h2=>⟨h1,NN h2⟩,⟨rfl,rfl,rfl,k_Nat_le_refl _,fun _ _ _=>rfl⟩,fun _ _ h=>h,fun b hb=>NN (h.new b hb),by simp[St.only,hfar],fun b _ q h=>⟨rfl,h⟩,fun i=> ?_⟩;by_cases hi:i∈Y
 ·simp only[St.only,if_pos hi];refine(h.slot i).keep (fun b _ hb=>⟨rfl,NN hb⟩) (fun _ b _ q hq=>⟨rfl,awH hq hi⟩) (fun j hj d hd _=> ?_) (fun j d hd=>by have:=h.slot j;rw[hd]at this;exact this);have hjY:=hin i hi j hj;exact⟨by simp[St.only,hjY,hd],rfl,fun b _ q hq=>⟨rfl,awH hq hjY⟩⟩
 ·simp only[St.only,if_neg hi];trivial
def Fits.aBY {ow1:Own}(h:Fits P n w0 ow0 ow s a w)(h':Fits P n w (ah0 Y ow) ow1 f a' w')(hfar:far0∉Y)(hun:∀i,i∉Y->f i= .un)(hout:∀i,i∉Y->∀r,(s i).root=some r->r∉Y)(ha:∀i,i∉Y->aval a' i=aval a i):∃ow',Fits P n w0 ow0 ow' (s.merge Y f) a' w':=by
 refine⟨fun b=>if b<w.heap.size/\∃p,ow b=some p/\inY Y p=false then ow b else ow1 b,?_⟩;have hout1:∀b,b<w.heap.size->∀p,ow b=some p->inY Y p=false->w'.heap[b]?=w.heap[b]?/\ow1 b=some (p++[far0]):=fun b hb p hp hf=>h'.keep b hb p (aEJ hp hf);have eqOut:∀b,b<w.heap.size->∀p,ow b=some p->inY Y p=false->(if b<w.heap.size/\∃p,ow b=some p/\inY Y p=false then ow b else ow1 b)=some p:=fun b hb p hp hf=>by rw[if_pos ⟨hb,p,hp,hf⟩,hp]
 have eqNone:∀b,ow1 b=none->(if b<w.heap.size/\∃p,ow b=some p/\inY Y p=false then ow b else ow1 b)=none:=fun b h1=>by
  split
  ·rename_i hc;obtain⟨hb,p,hp,hf⟩:=hc;rw[(hout1 b hb p hp hf).2]at h1;cases h1
  ·exact h1
 have none1:∀b,b<w.heap.size->ow b=none->w'.heap[b]?=w.heap[b]?/\ow1 b=none:=fun b hb ho=>⟨h'.bel.block b hb (NN ho),h'.own b hb (NN ho)⟩
 have keep2:∀i,i∉Y->∀b,b<w.heap.size->∀q,ow b=some (q++[i])->w'.heap[b]?=w.heap[b]?/\(if b<w.heap.size/\∃p,ow b=some p/\inY Y p=false then ow b else ow1 b)=some (q++[i]):=fun i hi b hb q hq=>by
  have hf:inY Y (q++[i])=false:=by simp[apH,hi]
  exact⟨(hout1 b hb _ hq hf).1,eqOut b hb _ hq hf⟩
 have in2:∀i,i∈Y->∀b q,ow1 b=some (q++[i])->(if b<w.heap.size/\∃p,ow b=some p/\inY Y p=false then ow b else ow1 b)=some (q++[i]):=fun i hi b q hq=>by
  split
  ·rename_i hc;obtain⟨hb,p,hp,hf⟩:=hc;rw[(hout1 b hb p hp hf).2]at hq;have:=List.append_inj_right' (k_Option_some_inj hq) rfl;simp only[mD,and_true]at this;exact absurd (this▸hi) hfar
  ·exact hq
 refine⟨h'.nodef,h'.size,h.small,h.laid,⟨h'.bel.os.trans h.bel.os,h'.bel.tape.trans h.bel.tape,h'.bel.output.trans h.bel.output,k_Nat_le_trans h.bel.size h'.bel.size,fun b hb ho=> ?_⟩,fun b hb ho=> ?_,fun b hb=>eqNone b (h'.new b hb),?_,fun b hb q ho=> ?_,fun i=> ?_⟩
 ·rw[(none1 b (dZ hb h.bel.size) (h.own b hb ho)).1];exact h.bel.block b hb ho
 ·exact eqNone b (none1 b (dZ hb h.bel.size) (h.own b hb ho)).2
 ·simp[St.merge,hfar,h.far]
 ·obtain⟨h1,h2⟩:=h.keep b hb q ho;obtain⟨h3,h4⟩:=keep2 far0 hfar b (dZ hb h.bel.size) q h2;exact⟨h3.trans h1,h4⟩
 ·by_cases hi:i∈Y
  ·simp only[St.merge,if_pos hi];refine(h'.slot i).keep (fun b _ hb=>⟨rfl,eqNone b hb⟩) (fun _ b _ q hq=>⟨rfl,in2 i hi b q hq⟩) (fun j hj d hd _=> ?_) (fun j d hd=>by have:=h'.slot j;rw[hd]at this;exact this)
   have hjY:j∈Y:=by
    by_cases hjY:j∈Y
    ·exact hjY
    ·rw[hun j hjY]at hd;cases hd
   exact⟨by simp[St.merge,hjY,hd],rfl,fun b _ q hq=>⟨rfl,in2 j hjY b q hq⟩⟩
  ·simp only[St.merge,if_neg hi];rw[ha i hi];refine(h.slot i).keep (fun b hb ho=>⟨(none1 b hb ho).1,eqNone b (none1 b hb ho).2⟩) (fun _ b hb q hq=>keep2 i hi b hb q hq) (fun j hj d hd _=> ?_) (fun j d hd=>by have:=h.slot j;rw[hd]at this;exact this);have hjY:=hout i hi j hj;exact⟨by simp[St.merge,hjY,hd],ha j hjY,fun b hb q hq=>keep2 j hjY b hb q hq⟩
end
structure FE (P:Program) (n:Nat) (o:Oper) (Y:List Nat) (s f:St):Prop where
 nog:o.guard=none
 big:∀t∈Y,t<1000000
 dst:∀u,o.dst=some u->u∈Y
 inn:∀i∈Y,∀r,(s i).root=some r->r∈Y
 out:∀i,i∉Y->∀r,(s i).root=some r->r∉Y
 un:∀i,i∉Y->f i= .un
 con:∀i r,(f i).root=some r->(f r).fJ=true
 ok:∀w0 ow0,Ok P n w0 ow0 o (s.only Y) (fun s'=>vQ P n s' f)
def FE.far {P:Program}{n:Nat}{o:Oper}{Y:List Nat}{s f:St}(h:FE P n o Y s f):far0∉Y:=fun hm=>by have:=h.big _ hm;simp[far0]at this
def aD5 {P:Program}{n:Nat}{o:Oper}{Y:List Nat}{s f:St}(h:FE P n o Y s f)(w0:World)(ow0:Own):Ok P n w0 ow0 o s (fun s'=>s'=s.merge Y f):=by
 intro a w ⟨ow,hf⟩ next Q hn
 have h1:=h.ok w (ah0 Y ow) a w ⟨_,hf.aGQ h.far h.inn⟩ (fun a' w'=>Rel P n w (ah0 Y ow) f a' w') Q fun s' a' w' ht hR=>ht.rel hR;refine uE (fun a' w' hh=> ?_) (aIN h1);obtain⟨⟨ow1,hf1⟩,ha⟩:=hh;obtain⟨ow',hf'⟩:=hf.aBY hf1 h.far h.un h.out (fun i hi=>ha i fun e=>hi (h.dst i e));exact hn _ a' w' rfl ⟨ow',hf'⟩
end Go.Dv
end
section
namespace Go
def vF:= @List.contains_eq_mem
end Go
end
section
namespace Go.Dv
open Go.RowKit
variable [lL]
variable {s f:St}{y:S}
def akK {Y:List Nat}{u:Nat}(hu:u∉Y):(s.put u y).merge Y f=(s.merge Y f).put u y:=by
 funext j;simp only[St.merge,St.put];by_cases h1:j=u
 ·subst h1;simp[hu]
 ·simp[h1]
variable {g:St}
def aqL {X Y:List Nat}(hd:∀t∈X,t∉Y):(s.merge X f).merge Y g=(s.merge Y g).merge X f:=by
 funext j;simp only[St.merge];by_cases h1:j∈X
 ·simp[h1,hd j h1]
 ·simp[h1]
def aq4 {Y:List Nat}{u:Nat}(hu:u∉Y):(s.put u y).only Y=s.only Y:=by
 funext j;simp only[St.only,St.put];by_cases h1:j=u
 ·subst h1;simp[hu]
 ·simp[h1]
def ahR {X Y:List Nat}(hd:∀t∈X,t∉Y):(s.merge X f).only Y=s.only Y:=by
 funext j;simp only[St.only,St.merge];by_cases h1:j∈Y
 ·have:j∉X:=fun h=>hd j h h1;simp[h1,this]
 ·simp[h1]
variable {p:Pin}{w0:World}{ow0:Own}{Q':Exit->Act->World->Prop}
variable {s':St}{K:St->Prop}
variable {x:Operand}
section
variable {P:Program}{n:Nat}{ops:Array Oper}{md:Region.Mode}
def ajX {Y:List Nat}(hb:∀t∈Y,t<1000000)(hx:∀t,x= .tmp t->t∉Y):evS (s.merge Y f) x=evS s x:=by
 cases x with
 |tmp t=>simp only[evS,St.merge,if_neg (hx t rfl)]
 |global g=>
  have:1000000+2*g∉Y:=fun h=>by have:=hb _ h;omega
  simp only[evS,St.merge,if_neg this]
 |const v=>rfl
 |func f=>rfl
def avP {Y:List Nat}(hb:∀t∈Y,t<1000000)(hx:∀t,x= .tmp t->t∉Y)(ho:∀i,i∉Y->∀r,(s i).root=some r->r∉Y){r:Nat}(h:(evS s x).root=some r):r∉Y:=by
 cases x with
 |tmp t=>
  simp only[evS]at h;split at h
  ·exact ho t (hx t rfl) r h
  ·cases h
 |global g=>exact ho _ (fun h=>by have:=hb _ h;omega) r h
 |const v=>simp only[evS]at h;split at h<;>cases h
 |func f=>cases h
def ajJ {xs:List Operand}{σ:St}{Y:List Nat}(hb:∀t∈Y,t<1000000)(ho:∀i,i∉Y->∀r,(s i).root=some r->r∉Y)(hx:∀x∈xs,∀t,x= .tmp t->t∉Y):Agr xs (s.merge Y f) σ↔Agr xs s σ:=by
 have h1:∀x∈xs,evS (s.merge Y f) x=evS s x:=fun x h=>ajX hb (hx x h);have h2:∀x∈xs,∀r,(evS s x).root=some r->(s.merge Y f) r=s r:=fun x h r hr=>by simp[St.merge,avP hb (hx x h) ho hr]
 constructor
 ·intro h x hxx;obtain⟨g1,g2⟩:=h x hxx;rw[h1 x hxx]at g1 g2;exact⟨g1,fun r hr=>(g2 r hr).trans (h2 x hxx r hr)⟩
 ·intro h x hxx;obtain⟨g1,g2⟩:=h x hxx;rw[h1 x hxx];exact⟨g1,fun r hr=>(g2 r hr).trans (h2 x hxx r hr).symm⟩
def am1 {xs:List Operand}{Y:List Nat}(hb:∀t∈Y,t<1000000)(hx:∀x∈xs,∀t,x= .tmp t->t∉Y):wQ xs (s.merge Y f) y↔wQ xs s y:=by
 have h1:∀x∈xs,evS (s.merge Y f) x=evS s x:=fun x h=>ajX hb (hx x h);constructor
 ·intro h r hr;obtain⟨x,hxx,h⟩:=h r hr;rw[h1 x hxx]at h;exact⟨x,hxx,h⟩
 ·intro h r hr;obtain⟨x,hxx,h⟩:=h r hr;refine⟨x,hxx,?_⟩;rw[h1 x hxx];exact h
def UA {o:Oper}{Y:List Nat}(h:∀t∈o.looksAt ops,t∉Y):∀x∈az5 o,∀t,x= .tmp t->t∉Y:=by
 rintro x hx t rfl;apply h;unfold Oper.looksAt;apply List.mem_append_left;rw[jU];exact⟨_,hx,rfl⟩
def aCY {o:Oper}{Y:List Nat}{t:Nat}{b:Bool}(h:∀t∈o.looksAt ops,t∉Y)(hg:G6 ops o=some (t,b)):t∉Y:=fun hm=>by
 by_cases h1:t∈o.looksAt ops
 ·exact h t h1 hm
 ·exact F5 h1 hg rfl
def adD {o:Oper}{u:Nat}{Y:List Nat}(hb:∀t∈Y,t<1000000)(ho:∀i,i∉Y->∀r,(s i).root=some r->r∉Y)(h:∀t∈o.looksAt ops,t∉Y):KJ P n ops o u (s.merge Y f) y↔KJ P n ops o u s y:=by
 have hm:∀t b,G6 ops o=some (t,b)->(s.merge Y f) t=s t:=fun t b hg=>by simp[St.merge,aCY h hg]
 have hk:Knows ops o (s.merge Y f)↔Knows ops o s:=by
  constructor<;>intro g t b hg
  ·have:=g t b hg;rwa [hm t b hg]at this
  ·rw[hm t b hg];exact g t b hg
 have hw:PI ops o (s.merge Y f)↔PI ops o s:=by
  constructor
  ·rintro(g|⟨t,b,g1,g2⟩)
   ·exact .inl g
   ·rw[hm t b g1]at g2;exact .inr ⟨t,b,g1,g2⟩
  ·rintro(g|⟨t,b,g1,g2⟩)
   ·exact .inl g
   ·exact .inr ⟨t,b,g1,by rw[hm t b g1];exact g2⟩
 have hd:DQ P n o u (s.merge Y f) y↔DQ P n o u s y:=by
  constructor<;>intro g w0 ow0 σ ha
  ·exact g w0 ow0 σ ((ajJ hb ho (UA h)).2 ha)
  ·exact g w0 ow0 σ ((ajJ hb ho (UA h)).1 ha)
 unfold KJ;rw[hk,hw,hd,am1 hb (UA h)]
def FE.cons {o:Oper}{Y:List Nat}(h:FE P n o Y s f)(hc:FK s):FK (s.merge Y f):=by
 intro i r hr;by_cases hi:i∈Y
 ·simp only[St.merge,if_pos hi]at hr;have h1:=h.con i r hr
  have hrY:r∈Y:=by
   by_cases hrY:r∈Y
   ·exact hrY
   ·rw[h.un r hrY]at h1;cases h1
  simpa[St.merge,hrY]using h1
 ·simp only[St.merge,if_neg hi]at hr;have hrY:=h.out i hi r hr;simpa[St.merge,hrY]using hc i r hr
def FE.put {o:Oper}{Y:List Nat}{u:Nat}(h:FE P n o Y s f)(hu:u∉Y)(hy:∀r,y.root=some r->r∉Y):FE P n o Y (s.put u y) f:=by
 refine⟨h.nog,h.big,h.dst,fun i hi r hr=> ?_,fun i hi r hr=> ?_,h.un,h.con,?_⟩
 ·have:i≠u:=by rintro rfl;exact hu hi
  rw[pY this]at hr;exact h.inn i hi r hr
 ·by_cases hiu:i=u
  ·subst hiu;rw[put_eq]at hr;exact hy r hr
  ·rw[pY hiu]at hr;exact h.out i hi r hr
 ·rw[aq4 hu];exact h.ok
def FE.aMJ {o:Oper}{Y:List Nat}{u:Nat}(h:FE P n o Y (s.put u y) f)(hu:u∉Y)(hs:(s u).root=none):FE P n o Y s f:=by
 refine⟨h.nog,h.big,h.dst,fun i hi r hr=> ?_,fun i hi r hr=> ?_,h.un,h.con,?_⟩
 ·have:i≠u:=by rintro rfl;exact hu hi
  exact h.inn i hi r (by rw[pY this];exact hr)
 ·by_cases hiu:i=u
  ·subst hiu;rw[hs]at hr;cases hr
  ·exact h.out i hi r (by rw[pY hiu];exact hr)
 ·have:=h.ok;rwa [aq4 hu]at this
def FE.merge {o o':Oper}{X Y:List Nat}(h:FE P n o Y s g)(h':FE P n o' X s f)(hd:∀t∈X,t∉Y):FE P n o Y (s.merge X f) g:=by
 refine⟨h.nog,h.big,h.dst,fun i hi r hr=> ?_,fun i hi r hr=> ?_,h.un,h.con,?_⟩
 ·have:i∉X:=fun hx=>hd i hx hi;simp only[St.merge,if_neg this]at hr;exact h.inn i hi r hr
 ·by_cases hx:i∈X
  ·simp only[St.merge,if_pos hx]at hr;have h1:=h'.con i r hr
   have:r∈X:=by
    by_cases hrX:r∈X
    ·exact hrX
    ·rw[h'.un r hrX]at h1;cases h1
   exact hd r this
  ·simp only[St.merge,if_neg hx]at hr;exact h.out i hi r hr
 ·rw[ahR hd];exact h.ok
def FE.aIM {o o':Oper}{X Y:List Nat}(h:FE P n o Y (s.merge X f) g)(h':FE P n o' X s f)(hd:∀t∈X,t∉Y):FE P n o Y s g:=by
 refine⟨h.nog,h.big,h.dst,fun i hi r hr=> ?_,fun i hi r hr=> ?_,h.un,h.con,?_⟩
 ·have:i∉X:=fun hx=>hd i hx hi;exact h.inn i hi r (by simp only[St.merge,if_neg this];exact hr)
 ·by_cases hx:i∈X
  ·exact hd r (h'.inn i hx r hr)
  ·exact h.out i hi r (by simp only[St.merge,if_neg hx];exact hr)
 ·have:=h.ok;rwa [ahR hd]at this
def qG (P:Program)(n:Nat)(ft:List (Nat×List Nat))(ops:Array Oper)(i:Nat)(K:St->Prop)(s:St):Prop:=match ops[i]? with
 |none=>K s
 |some o=>match ft.lookup i with
  |none=>∃u y,o.dst=some u/\u<n/\(s u).fJ=false/\(s u).root=none/\KJ P n ops o u s y/\K (s.put u y)
  |some Y=>∃f,FE P n o Y s f/\K (s.merge Y f)
def Did (P:Program)(n:Nat)(ft:List (Nat×List Nat))(ops:Array Oper)(i:Nat)(o:Oper)(s s':St):Prop:=match ft.lookup i with
 |none=>∃u y,o.dst=some u/\u<n/\(s u).fJ=false/\(s u).root=none/\KJ P n ops o u s y/\s'=s.put u y
 |some Y=>∃f,FE P n o Y s f/\s'=s.merge Y f
def amX {ft:List (Nat×List Nat)}{i:Nat}{o:Oper}(ho:ops[i]?=some o)(hd:Did P n ft ops i o s s')(hK:K s'):qG P n ft ops i K s:=by
 unfold qG;simp only[ho];unfold Did at hd;split
 ·rename_i hl;simp only[hl]at hd;obtain⟨u,y,h1,h2,h3,h4,h5,rfl⟩:=hd;exact⟨u,y,h1,h2,h3,h4,h5,hK⟩
 ·rename_i Y hl;simp only[hl]at hd;obtain⟨f,h1,rfl⟩:=hd;exact⟨f,h1,hK⟩
def aJN {ft:List (Nat×List Nat)}{i:Nat}{o:Oper}(ho:ops[i]?=some o)(h:qG P n ft ops i K s):∃s',Did P n ft ops i o s s'/\K s':=by
 unfold qG at h;simp only[ho]at h;cases hl:ft.lookup i with
 |none=>
  simp only[hl]at h;obtain⟨u,y,h1,h2,h3,h4,h5,h6⟩:=h;exact⟨_,(by unfold Did;simp only[hl];exact⟨u,y,h1,h2,h3,h4,h5,rfl⟩:Did P n ft ops i o s (s.put u y)),h6⟩
 |some Y=>
  simp only[hl]at h;obtain⟨f,h1,h2⟩:=h;exact⟨_,(by unfold Did;simp only[hl];exact⟨f,h1,rfl⟩:Did P n ft ops i o s (s.merge Y f)),h2⟩
def Did.cons {ft:List (Nat×List Nat)}{i:Nat}{o:Oper}(h:Did P n ft ops i o s s')(hc:FK s):FK s':=by
 unfold Did at h;split at h
 ·obtain⟨u,y,h1,h2,h3,h4,h5,rfl⟩:=h;exact hc.put h3 h5.2.1
 ·obtain⟨f,h1,rfl⟩:=h;exact h1.cons hc
def apF (ft:List (Nat×List Nat))(ops:Array Oper)(i j:Nat)(oi oj:Oper):Bool:=match ft.lookup i,ft.lookup j with
 |none,none=>oi.apart ops oj
 |none,some Y=>(oi.looksAt ops).all (fun t=> !Y.contains t)&&(match oi.dst with|some u=> !Y.contains u|none=>true)
 |some X,none=>(oj.looksAt ops).all (fun t=> !X.contains t)&&(match oj.dst with|some u=> !X.contains u|none=>true)
 |some X,some Y=>X.all (fun t=> !Y.contains t)
def aEL {xs:List Operand}{Y:List Nat}(hb:∀t∈Y,t<1000000)(ho:∀i,i∉Y->∀r,(s i).root=some r->r∉Y)(hx:∀x∈xs,∀t,x= .tmp t->t∉Y)(hr:wQ xs s y):∀r,y.root=some r->r∉Y:=by
 intro r h;obtain⟨x,hxx,h1|⟨h1,h2⟩⟩:=hr r h
 ·exact avP hb (hx x hxx) ho h1
 ·cases x with
  |tmp t=>simp only[slotOf]at h1;subst h1;exact hx _ hxx t rfl
  |global g=>simp only[slotOf]at h1;subst h1;exact fun h=>by have:=hb _ h;omega
  |const v=>simp only[evS]at h2;split at h2<;>cases h2
  |func f=>cases h2
def aA7 {ft:List (Nat×List Nat)}{i j:Nat}{oi oj:Oper}{s1 s2:St}(hn:n<=1000000)(hap:apF ft ops i j oi oj=true)(hc:FK s)(hi:Did P n ft ops i oi s s1)(hj:Did P n ft ops j oj s1 s2):
  ∃s',Did P n ft ops j oj s s'/\Did P n ft ops i oi s' s2:=by
 unfold Did apF at*
 cases li:ft.lookup i with
 |none=>
  simp only[li]at hi hap|-
  obtain⟨ui,yi,h1,h2,h3,h4,h5,rfl⟩:=hi;cases lj:ft.lookup j with
  |none=>
   simp only[lj]at hj hap|-
   obtain⟨uj,yj,g1,g2,g3,g4,g5,rfl⟩:=hj;obtain⟨a1,a2,a3⟩:=Oper.apart_spec hap;have hne:uj≠ui:=fun e=>a2 ui h1 (by rw[g1,e]);rw[pY hne]at g3 g4;rw[UN hc (dZ h2 hn) h3 (a1 ui h1)]at g5;refine⟨_,⟨uj,yj,g1,g2,g3,g4,g5,rfl⟩,ui,yi,h1,h2,by rw[pY hne.symm];exact h3,by rw[pY hne.symm];exact h4,(UN hc (dZ g2 hn) g3 (a3 uj g1)).2 h5,?_⟩;exact put_comm hne.symm
  |some Y=>
   simp only[lj]at hj hap|-
   obtain⟨f,hF,rfl⟩:=hj;simp only[h1,k_Bool_and_eq_true,aH,gF,vF,decide_eq_false_iff_not]at hap;obtain⟨hl,hu⟩:=hap;have hF':=hF.aMJ hu h4;refine⟨_,⟨f,hF',rfl⟩,ui,yi,h1,h2,by simpa[St.merge,hu]using h3,by simpa[St.merge,hu]using h4,(adD hF'.big hF'.out hl).2 h5,?_⟩;exact akK hu
 |some X=>
  simp only[li]at hi hap|-
  obtain⟨f,hF,rfl⟩:=hi;cases lj:ft.lookup j with
  |none=>
   simp only[lj]at hj hap|-
   obtain⟨uj,yj,g1,g2,g3,g4,g5,rfl⟩:=hj;simp only[g1,k_Bool_and_eq_true,aH,gF,vF,decide_eq_false_iff_not]at hap;obtain⟨hl,hu⟩:=hap;rw[adD hF.big hF.out hl]at g5;refine⟨_,⟨uj,yj,g1,g2,by simpa[St.merge,hu]using g3,by simpa[St.merge,hu]using g4,g5,rfl⟩,f,hF.put hu (aEL hF.big hF.out (UA hl) g5.2.1),?_⟩;exact(akK hu).symm
  |some Y=>
   simp only[lj]at hj hap|-
   obtain⟨g,hG,rfl⟩:=hj;simp only[aH,gF,vF,decide_eq_false_iff_not]at hap;have hG':=hG.aIM hF hap;exact⟨_,⟨g,hG',rfl⟩,f,hF.merge hG' (fun t hy hx=>hap t hx hy),aqL hap⟩
def aiR (P:Program)(n:Nat)(ft:List (Nat×List Nat))(md:Region.Mode)(ops:Array Oper)(K:St->Prop):Nat->Array Bool->St->Prop
 |0,listed,s=>Region.ready md ops listed=[]/\K s
 |fuel+1,listed,s=>(Region.ready md ops listed=[]->K s)/\∀i∈Region.ready md ops listed,qG P n ft ops i (aiR P n ft md ops K fuel (listed.setIfInBounds i true)) s
def N8 (md:Region.Mode)(ops:Array Oper)(i:Nat):Nat->Nat->Bool
 |0,_=>false
 |f+1,j=>match ops[j]? with
  |none=>false
  |some o=>o.after.any fun e=>Region.binds md e&&(e.on==i||N8 md ops i f e.on)
def Closed (md:Region.Mode)(ops:Array Oper)(listed:Array Bool):Prop:=∀j o,ops[j]?=some o->listed.getD j false=true->∀e∈o.after,Region.binds md e=true->listed.getD e.on false=true
def alW {m:Nat}:Closed md ops (Array.replicate m false):=fun j o _ h=>by
 simp only[aF,Array.getElem?_replicate]at h;split at h<;>simp at h
def Closed.set {listed:Array Bool}{i:Nat}(h:Closed md ops listed)(hi:i∈Region.ready md ops listed):Closed md ops (listed.setIfInBounds i true):=fun j o hj hl e he hb=>by
 by_cases hji:j=i
 ·subst hji;obtain⟨_,o',ho',hall⟩:=mem_ready.1 hi;rw[hj]at ho';obtain rfl:=k_Option_some_inj ho';exact getD_set_true (hall e he hb)
 ·rw[getD_set_ne false (k_Ne_symm hji)]at hl;exact getD_set_true (h j o hj hl e he hb)
def ajK {listed:Array Bool}{i:Nat}(hc:Closed md ops listed)(hi:listed.getD i false=false):∀(f:Nat) (j:Nat),(∀o,ops[j]?=some o->∀e∈o.after,Region.binds md e=true->listed.getD e.on false=true)->N8 md ops i f j=false
 |0,_,_=>rfl
 |f+1,j,h=>by
  unfold N8;cases ho:ops[j]? with
  |none=>rfl
  |some o=>
   simp only;rw[Array.any_eq_false'];intro e he;cases hb:Region.binds md e with
   |false=>simp
   |true=>
    have h1:=h o ho e he hb;have h2:e.on≠i:=fun e2=>by rw[e2,hi]at h1;cases h1
    have h3:=ajK hc hi f e.on fun o' ho' e' he' hb'=>hc e.on o' ho' h1 e' he' hb';simp[h2,h3]
def ae9 {ft:List (Nat×List Nat)}{i:Nat}{oi:Oper}(hn:n<=1000000)(hi:ops[i]?=some oi):
  ∀(fuel:Nat) (listed:Array Bool) (s s1:St),
   Closed md ops listed->(∀j oj,ops[j]?=some oj->j≠i->listed.getD j true=false->N8 md ops i ops.size j=false->apF ft ops i j oi oj=true)->
   i∈Region.ready md ops listed->FK s->Did P n ft ops i oi s s1->
   aiR P n ft md ops K fuel (listed.setIfInBounds i true) s1->aiR P n ft md ops K (fuel+1) listed s:=by
 intro fuel
 induction fuel with
 |zero=>
  intro listed s s1 _ _ hr hc hd H;refine⟨fun h=>(by rw[h]at hr;cases hr),fun j hj=> ?_⟩;by_cases hji:j=i
  ·subst hji;exact amX hi hd H
  ·have:=ready_mono hj hji;rw[H.1]at this;cases this
 |succ fuel ih=>
  intro listed s s1 hcl hfree hr hc hd H;refine⟨fun h=>(by rw[h]at hr;cases hr),fun j hj=> ?_⟩;by_cases hji:j=i
  ·subst hji;exact amX hi hd H
  ·have h1:=H.2 j (ready_mono hj hji);obtain⟨hjun,oj,hoj,hall⟩:=mem_ready.1 hj
   have hi0:listed.getD i false=false:=by
    have h0:=(mem_ready.1 hr).1;simp only[aF]at h0|-
    cases h:listed[i]? with
    |none=>rw[h]at h0;simp at h0
    |some x=>rw[h]at h0;simpa using h0
   have hnot:=ajK hcl hi0 ops.size j fun o ho e he hb=>by
    rw[hoj]at ho;obtain rfl:=k_Option_some_inj ho;exact hall e he hb
   obtain⟨s2,hj2,h2⟩:=aJN hoj h1;obtain⟨s',hjs,his⟩:=aA7 hn (hfree j oj hoj hji hjun hnot) hc hd hj2
   have hfree':∀k ok,ops[k]?=some ok->k≠i->(listed.setIfInBounds j true).getD k true=false->
     N8 md ops i ops.size k=false->apF ft ops i k oi ok=true:=fun k ok hk hki hun hno=>by
    refine hfree k ok hk hki ?_ hno;by_cases hjk:j=k
    ·subst hjk;exact hjun
    ·rw[getD_set_ne true hjk]at hun;exact hun
   refine amX hoj hjs (ih (listed.setIfInBounds j true) s' s2 (hcl.set hj) hfree' (ready_mono hr (k_Ne_symm hji)) (hjs.cons hc) his ?_);rw[qW _ _ hji];exact h2
def au5 {ft:List (Nat×List Nat)}(hdst:∀o∈ops.toList,sU p o=true){i:Nat}{a:Act}{w:World}{K':Act->World->Prop}(hR:Rel P n w0 ow0 s a w)(hp:Pinned p a)(h:∀s' a' w',K s'->Rel P n w0 ow0 s' a' w'->Pinned p a'->K' a' w')(hh:qG P n ft ops i K s):wpOp P ops Q' i K' a w:=by
 cases ho:ops[i]? with
 |none=>unfold wpOp;simp only[ho];unfold qG at hh;simp only[ho]at hh;exact h _ _ _ hh hR hp
 |some o=>
  unfold qG at hh;simp only[ho]at hh;cases hl:ft.lookup i with
  |none=>
   simp only[hl]at hh;obtain⟨u,y,h1,h2,h3,h4,h5,h6⟩:=hh;refine X4 hdst hR hp h ?_;unfold qD;simp only[ho];exact⟨u,y,h1,h2,h3,h5,h6⟩
  |some Y=>
   simp only[hl]at hh;obtain⟨f,hF,hK⟩:=hh;unfold wpOp;simp only[ho];have hdo:sU p o=true:=hdst o (by rw[Array.mem_toList_iff];exact kZ ho);have hw:Region.wanted o (yielded ops a.tmps)=true:=by simp[Region.wanted,hF.nog]
   rw[if_pos hw];have h1:=aD5 hF w0 ow0 a w hR (fun a' w'=>Rel P n w0 ow0 (s.merge Y f) a' w') Q' fun s' a' w' e hR'=>by subst e;exact hR'
   exact .inl (uE (fun a' w' hh=>h _ _ _ hK hh.1 hh.2) (ab7 hp hdo h1))
def NW {ft:List (Nat×List Nat)}(hdst:∀o∈ops.toList,sU p o=true)(hQ:∀s a w,K s->Rel P n w0 ow0 s a w->Pinned p a->Q' .normal a w):∀(fuel:Nat) (listed:Array Bool) (s:St) (a:Act) (w:World),Rel P n w0 ow0 s a w->Pinned p a->aiR P n ft md ops K fuel listed s->wpAny P md ops Q' fuel listed a w
 |0,_,_,_,_,hR,hp,h=>⟨h.1,hQ _ _ _ h.2 hR hp⟩
 |fuel+1,_,_,_,_,hR,hp,h=>⟨fun h0=>hQ _ _ _ (h.1 h0) hR hp,fun i hi=>au5 hdst hR hp (fun s' a' w' hK hR' hp'=>NW hdst hQ fuel _ s' a' w' hR' hp' hK) (h.2 i hi)⟩
end
def under (l lab:List Nat):Prop:=∃q,lab=q++l
open Classical in
noncomputable def LX (l:List Nat)(m:Nat)(ow:Own):Own:=fun b=>match ow b with
 |none=>none
 |some lab=>if h:under l lab then some (Classical.choose h++[m])else some (lab++[far0])
variable {ow:Own}
def nA {l:List Nat}{m:Nat}{b:Nat}(h:ow b=none):LX l m ow b=none:=by simp[LX,h]
def ahF {l q:List Nat}{m:Nat}{b:Nat}(h:ow b=some (q++l)):LX l m ow b=some (q++[m]):=by
 have hu:under l (q++l):=⟨q,rfl⟩;simp only[LX,h];rw[dif_pos hu];have:=iO hu;rw[←List.append_cancel_right this]
def acT {l lab:List Nat}{m:Nat}{b:Nat}(h:ow b=some lab)(hu:¬under l lab):LX l m ow b=some (lab++[far0]):=by
 simp only[LX,h];rw[dif_neg hu]
open Classical in
noncomputable def kC (w:World)(l:List Nat)(m t:Nat)(ow ow1:Own):Own:=fun b=>
 if b<w.heap.size/\(∀q,ow b≠some (q++l))then ow b else match ow1 b with
  |none=>none
  |some lab=>if lab.getLast?=some m then some (lab.dropLast++l)else if lab.getLast?=some res0 then some (lab.dropLast++[t])else none
def mutSt (ds:List D)(m:Nat)(dm:D):St:=(argSt ds).put m (.own dm)
def endM (T:TypeId->TyE)(rs:List ResultVar)(m:Nat)(Q:S->D->Prop):Exit->St->Prop
 | .normal,s=>retL T rs s fun ds s2=>match s2 m with| .own d=>Q (retS ds) d|_=>False
 | .ret,s=>retL T rs s fun ds s2=>match s2 m with| .own d=>Q (retS ds) d|_=>False
 |_,_=>False
def aBQ {P:Program}{T:TypeId->TyE}{f:FuncId}{fn:Func}{c:Code}{n:Nat}{rs:List ResultVar}{ds:List D}{m:Nat}{dm:D}{Q:S->D->Prop}(hG:∀t,Good P T t) (hf:P.funcs[f]?=some fn) (hb:fn.body=some c) (hn':fn.ntmps=n) (hn:n<=1000000) (hd:ds.length<=n)
  (hr:fn.results=rs.toArray) (h:∀w0 ow0 v,OkC P n w0 ow0 (some (m,v)) c (mutSt ds m dm) (endM T rs m Q)):D8 P f ds m dm Q:=by
 subst hn';intro w ow vs t l ht hL hnew hvs hm hargs hV;have hm6:m<1000000:=by omega
 refine calls_of_wp hf hb ?_
 have hav:∀i,i<ds.length->aval {tmps:=vs++Array.replicate (fn.ntmps-vs.size) undef,defers:=[]} i=vs.getD i undef:=by
  intro i hi;unfold aval;rw[if_pos (by omega)];simp only[aF];rw[fC (by omega)]
 have hfit:Fits P fn.ntmps w (LX l m ow) (LX l m ow) (mutSt ds m dm) {tmps:=vs++Array.replicate (fn.ntmps-vs.size) undef,defers:=[]} w:=by
  refine⟨rfl,by simp;omega,hn,(hL.mono fun b o h1 h2=>⟨h1,nA h2⟩),⟨rfl,rfl,rfl,k_Nat_le_refl _,fun _ _ _=>rfl⟩,fun _ _ h=>h,fun b hb=>nA (hnew b hb),?_,fun _ _ _ h=>⟨rfl,h⟩,fun i=> ?_⟩
  ·unfold mutSt argSt;rw[pY (by unfold far0;omega),k_List_getElem__eq_none (by unfold far0;omega)]
  ·by_cases him:i=m
   ·subst him;simp only[mutSt,put_eq,SV];rw[hav i hm];exact V.tr (fun b _=>⟨fun ho=>⟨rfl,nA ho⟩,fun q hq=>⟨rfl,ahF hq⟩⟩) hV
   ·simp only[mutSt,pY him];unfold argSt;cases hdi:ds[i]? with
    |none=>trivial
    |some d=>
     have hi:i<ds.length:=(aD.1 hdi).1;simp only[SV];rw[hav i hi];exact V.trf (fun b _ ho=>⟨rfl,nA ho⟩) (hargs i d hdi him)
 have hpin:Pinned (some (m,vs.getD m undef)) {tmps:=vs++Array.replicate (fn.ntmps-vs.size) undef,defers:=[]}:=by
  intro m' v' e;obtain⟨rfl,rfl⟩:=qB (k_Option_some_inj e);have:=hav m hm;unfold aval at this;rw[if_pos hm6]at this;exact this
 refine h w _ _ _ w ⟨_,hfit⟩ hpin _ fun e s' a' w' hK hR hp'=> ?_
 have key:(retL T rs s' fun ds s2=>match s2 m with| .own d=>Q (retS ds) d|_=>False)->bodyPost P fn (fun e w'=>∃v ow' r dm',e= .returned v/\Q r dm'/\w'.os=w.os/\w'.tape=w.tape/\w'.output=w.output/\w.heap.size<=w'.heap.size/\
   (∀b,b<w.heap.size->(∀q,ow b≠some (q++l))->w'.heap[b]?=w.heap[b]?/\ow' b=ow b)/\(∀b,w'.heap.size<=b->ow' b=none)/\V P w' ow' dm' l (vs.getD m undef)/\S.plain r=true/\∀s a,SV P w' ow' s a t r v) .ret a' w':=by
  intro hK;obtain⟨ow1,hf1⟩:=hR;obtain⟨vals,ow2,s2,ds2,hQ,hf2,hl1,hl2,hrun,hvals,hkeep⟩:=hf1.retL hG (fun k=>if rs.length=1 then[]else[k]) rs 0 hK
  have hres:(results fn a'.tmps).run P w'= .ok (if h:vals.toArray.size=1 then vals.toArray[0]else .tuple vals.toArray) w':=by
   unfold results;rw[hr];have hb:∀{α β:Type}(x:Sem α) (g:α->Sem β),Sem.run P (Sem.bind x g) w'=(Sem.run P x w').andThen fun a w'=>Sem.run P (g a) w':=fun x g=>aI ..;simp only[tC,Functor.map,aI,aU];rw[hb,hrun _ (aaQ a'.tmps P w' _ (fun _=>rfl) fun _ _=>rfl)];rfl
  refine⟨hf1.nodef,_,hres,?_⟩;cases hs2:s2 m with
  |own dm'=>
   rw[hs2]at hQ
   have hmiss:∀b,b<w.heap.size->(∀q,ow b≠some (q++l))->w'.heap[b]?=w.heap[b]?/\(ow b=none->ow2 b=none)/\(∀lab,ow b=some lab->ow2 b=some (lab++[far0])):=by
    intro b hlt hno;cases ho:ow b with
    |none=>exact⟨hf2.bel.block b hlt (nA ho),fun _=>hf2.own b hlt (nA ho),fun lab e=>by cases e⟩
    |some lab=>
     have hlab:=acT (l:=l) (m:=m) ho (fun hu=>by obtain⟨q,hq⟩:=hu;exact hno q (by rw[ho,hq]));obtain⟨g1,g2⟩:=hf2.keep b hlt lab hlab;exact⟨g1,fun e=>(by cases e),fun lab' e=>by obtain rfl:=k_Option_some_inj e;exact g2⟩
   have hnone:∀b,ow2 b=none->kC w l m t ow ow2 b=none:=by
    intro b hb;unfold kC;split
    ·rename_i hc;cases ho:ow b with
     |none=>rfl
     |some lab=>have:=(hmiss b hc.1 hc.2).2.2 lab ho;rw[hb]at this;cases this
    ·rw[hb]
   have hlast:∀b q j,ow2 b=some (q++[j])->j≠far0->¬(b<w.heap.size/\∀q,ow b≠some (q++l)):=by
    rintro b q j hq hj ⟨h1,h2⟩;obtain⟨_,g1,g2⟩:=hmiss b h1 h2;cases ho:ow b with
    |none=>rw[g1 ho]at hq;cases hq
    |some lab=>
     rw[g2 lab ho]at hq;have:=congrArg List.getLast? (k_Option_some_inj hq);simp at this;exact hj this.symm
   have hmf:m≠far0:=by unfold far0;omega
   have hmr:m≠res0:=by unfold res0;omega
   have hkm:Keeps w' ow2 [m] w' (kC w l m t ow ow2) l:=fun b _=>⟨fun ho=>⟨rfl,hnone b ho⟩,fun q hq=>⟨rfl,by
    unfold kC;rw[if_neg (hlast b q m hq hmf),hq];simp⟩⟩
   have hk:∀l2,Keeps w' ow2 (l2++[res0]) w' (kC w l m t ow ow2) (l2++[t]):=fun l2 b _=>⟨fun ho=>⟨rfl,hnone b ho⟩,fun q hq=>⟨rfl,by
    have hq':ow2 b=some ((q++l2)++[res0]):=by rw[hq];simp
    unfold kC;rw[if_neg (hlast b _ res0 hq' (by unfold res0 far0;omega)),hq'];simp[k_Ne_symm hmr]⟩⟩
   have hq:Quiet w' ow2 w' (kC w l m t ow ow2):=fun b _ ho=>⟨rfl,hnone b ho⟩;have hVm:=hf2.slot m;rw[hs2]at hVm
   have hval:aval a' m=vs.getD m undef:=by
    unfold aval;rw[if_pos hm6];exact hp' m _ rfl
   rw[hval]at hVm
   have part:∀(j:Nat) (p:D×Bool),ds2[j]?=some p->∃v,vals[j]?=some v/\(if(p.2||p.1.frz)=true then V P w' (kC w l m t ow ow2) p.1.fz [] v else V P w' (kC w l m t ow ow2) p.1 ((if rs.length=1 then[]else[j])++[t]) v):=by
    intro j p hj;obtain⟨v,h1,h2,h3⟩:=hvals j p hj;rw[bT]at h2;refine⟨v,h1,?_⟩;by_cases hp:(p.2||p.1.frz)=true
    ·rw[if_pos hp]
     have hfz:p.1.fz=p.1:=by
      rcases bN _ _▸hp with hp|hp
      ·exact h3 hp
      ·exact D.WZ hp
     rw[←hfz]at h2;exact V.trf hq h2
    ·rw[if_neg hp];exact V.tr (hk _) h2
   refine⟨_,kC w l m t ow ow2,retS ds2,dm',rfl,hQ,hf2.bel.os,hf2.bel.tape,hf2.bel.output,hf2.bel.size,fun b hb hno=>⟨(hmiss b hb hno).1,by unfold kC;rw[if_pos ⟨hb,hno⟩]⟩,fun b hb=>hnone b (hf2.new b hb),V.tr hkm hVm,?_,fun s a=> ?_⟩
   ·unfold retS;split
    ·split<;>rfl
    ·rfl
   ·by_cases hone:rs.length=1
    ·have hd1:ds2.length=1:=by rw[hl1,hone]
     have hv1:vals.length=1:=by rw[hl2,hone]
     obtain⟨⟨d,b⟩,rfl⟩:=eP.1 hd1;obtain⟨v,rfl⟩:=eP.1 hv1;obtain⟨v',h1,h2⟩:=part 0 (d,b) rfl;obtain rfl:v=v':=by simpa using h1
     rw[if_pos hone]at h2;simp only[retS];by_cases hp:(b||d.frz)=true
     ·rw[if_pos hp]at h2|-
      exact h2
     ·rw[if_neg hp]at h2|-
      exact h2
    ·have hd1:∀p,ds2≠[p]:=fun p e=>by rw[e]at hl1;simp at hl1;exact hone hl1.symm
     have htup:retS ds2= .tup (ds2.map fun p=>if p.2||p.1.frz then .val p.1 else .own p.1):=by
      unfold retS;split
      ·rename_i d b;exact absurd rfl (hd1 _)
      ·rfl
     rw[htup];refine⟨vals.toArray,?_,by simp[hl1,hl2],fun j x hx=> ?_⟩
     ·rw[dif_neg];simp[hl2,hone]
     ·simp only[aS,aL]at hx;obtain⟨p,hp,rfl⟩:=hx;obtain⟨v,h1,h2⟩:=part j p hp;have hv:vals.toArray.getD j undef=v:=by simp[aF,h1]
      rw[hv];by_cases hpf:(p.2||p.1.frz)=true
      ·rw[if_pos hpf]at h2|-
       exact h2
      ·rw[if_neg hpf]at h2|-
       rw[if_neg hone]at h2;exact h2
  |_=>rw[hs2]at hQ;exact hQ.elim
 cases e with
 |normal=>exact key hK
 |ret=>exact key hK
 |_=>exact hK.elim
attribute [go_sem] endM mutSt
end Go.Dv
end
section
namespace Go.Dv
open Go.RowKit
variable [lL]
def holdA [A:ae4]:Prop:=A.P
def holdB [B:ae5]:Prop:=B.P
def gC (c:Bool)[A:ae4][B:ae5]:Prop:=(c=true->A.P)/\(c=false->B.P)
variable {A:ae4}{B:ae5}
def gC_true : @gC true A B= @holdA A:=by simp[gC,holdA]
def gC_false : @gC false A B= @holdB B:=by simp[gC,holdB]
def gQ (x:S)[A:ae4][B:ae5]:Prop:=match x with
 | .val (.one (.bool b))=> @gC b A B
 |_=>False
def gQ_eq {b:Bool}: @gQ (.val (.one (.bool b))) A B= @gC b A B:=rfl
section
variable {P:Program}{n:Nat}{w0:World}{ow0:Own}{p:Pin}{s:St}{K:Exit->St->Prop}
def aKE {c:Operand}{x y:Code}(h: @gQ (evS s c) ⟨OkC P n w0 ow0 p x s K⟩ ⟨OkC P n w0 ow0 p y s K⟩):OkC P n w0 ow0 p (.cond c x y) s K:=by
 refine aDS ?_;unfold gQ at h;split at h
 ·rename_i b hb;rw[hb];exact h
 ·exact h.elim
end
def eB {P:Program}{f:FuncId}{ds ds':List D}{rs:List Nat}{K:S->Prop}{Q:S->Prop}(h:fA P f ds' Q)(he:ds'.map D.fz=ds.map D.fz)(hK:∀r,Q r->(rs=[]\/r.closed=true)/\K r):(afK (k:=⟨K⟩) P f ds rs):=aAU (h.fzs he) hK
attribute [go_sem] gC_true gC_false gQ_eq
end Go.Dv
namespace Go.Dv
open Go.RowKit
variable [lL]
end Go.Dv
namespace Go.Dv
end Go.Dv
end
section
namespace Go
def zQ:= @List.take_add_one
def k_List_take_of_length_le:= @List.take_of_length_le
def k_UInt8_toNat_inj:= @UInt8.toNat_inj
end Go
end
section
namespace Go.Dv
open Go.RowKit
abbrev Str:=List UInt8
def ba_size (l:Str):ByteArray.size ⟨l.toArray⟩=l.length:=by simp[ByteArray.size]
def ba_get (l:Str)(i:Nat):(⟨l.toArray⟩:ByteArray)[i]?=l[i]?:=by
 have hs:=ba_size l;by_cases h:i<l.length
 ·have h1:i<(⟨l.toArray⟩:ByteArray).size:=by omega
  rw[aB h];exact(getElem?_pos (⟨l.toArray⟩:ByteArray) i h1).trans rfl
 ·have h1:¬i<(⟨l.toArray⟩:ByteArray).size:=by omega
  rw[k_List_getElem__eq_none (by omega)];exact getElem?_neg (⟨l.toArray⟩:ByteArray) i h1
def ba_append (a b:Str):(⟨a.toArray⟩:ByteArray)++⟨b.toArray⟩=⟨(a++b).toArray⟩:=by
 ext1
 simp[ByteArray.data_append]
def ba_extract (l:Str)(a b:Nat):(⟨l.toArray⟩:ByteArray).extract a b=⟨((l.drop a).take (b-a)).toArray⟩:=by
 ext1
 simp[ByteArray.data_extract,List.extract_eq_take_drop]
abbrev ltL (a b:Str):Bool:=Op.bytesLess a b
def ba_lt (a b:Str):ak8 ⟨a.toArray⟩ ⟨b.toArray⟩=ltL a b:=by
 unfold ak8 ltL;rw[ByteArray.toList_eq,ByteArray.toList_eq]
variable {α:Type}
def take_drop_len (l:List α)(a:Nat):(l.drop a).take (l.length-a)=l.drop a:=k_List_take_of_length_le (by simp)
def aIS (z:ByteArray):z=⟨z.data.toList.toArray⟩:=by ext1;simp
abbrev dI (n:Int):D:= .one (.int .i64 n)
abbrev dB (b:Bool):D:= .one (.bool b)
abbrev dS (l:Str):D:= .one (.string ⟨l.toArray⟩)
abbrev inR (x a b:Int):Bool:=decide (a<=x/\x<=b)
variable {l:List α}{i:Nat}{c:α}
def dE (h:l[i]?=some c):l.take (i+1)=l.take i++[c]:=by
 rw[zQ,h];rfl
def bJ (h:l.length<=i:=by omega):l.take i=l:=k_List_take_of_length_le h
def aO (h:i<l.length:=by omega):∃c,l[i]?=some c:=⟨l[i],by simp[h]⟩
def dH (h:l[i]?=some c):i<l.length:=by
 rcases Nat.lt_or_ge i l.length with h'|h'
 ·exact h'
 ·rw[k_List_getElem__eq_none h']at h;cases h
attribute [go_sem] ba_size ba_get ba_append ba_extract ba_lt take_drop_len
attribute [go_sem] ByteArray.mk.injEq
end Go.Dv
namespace Go.Dv
def fzs_app (xs ys:List D):D.fzs (xs++ys)=D.fzs xs++D.fzs ys:=by simp[D.jS]
attribute [go_sem] fzs_app
def wrap_u8 (c:UInt8):IntKind.i64.wrap (c.toNat:Int)=c.toNat:=by
 have:=c.toNat_lt;simp[IntKind.wrap,IntKind.bits,IntKind.signed];omega
def u8_eq (a b:UInt8):((a.toNat:Int)=(b.toNat:Int))↔a=b:=by
 constructor
 ·intro h;exact k_UInt8_toNat_inj.1 (by omega)
 ·rintro rfl;rfl
attribute [go_sem] wrap_u8 u8_eq
end Go.Dv
namespace Go.Dv
def int_beq (a b:Int):(a==b)=decide (a=b):=by by_cases h:a=b<;>simp[h]
def int_bne (a b:Int):(a !=b)= !decide (a=b):=by by_cases h:a=b<;>simp[h]
attribute [go_sem] int_beq int_bne
end Go.Dv
end
section
namespace Go.Dv
open Go.RowKit
@[go_sem,simp] abbrev vI (x:Int):S:= .val (dI x)
@[go_sem,simp] abbrev vB (x:Bool):S:= .val (dB x)
@[go_sem,simp] abbrev wN (x:Str):S:= .val (dS x)
end Go.Dv
end
section
namespace Go.Dv
open Go.RowKit
variable [lL]
def Det (F:(St->Prop)->Prop):Prop:=∀K,F K->∃s',K s'/\F (fun s=>s=s')
def det_K (s:St):Det fun K=>K s:=fun K h=>⟨s,h,rfl⟩
def det_false:Det fun _=>False:=fun K h=>h.elim
def det_and {A:Prop}{F:(St->Prop)->Prop}(h:Det F):Det fun K=>A/\F K:=fun K ⟨ha,hf⟩=>by
 obtain⟨s,h1,h2⟩:=h K hf;exact⟨s,h1,ha,h2⟩
variable {n:Nat}{dst:Option Nat}
def HY {F:Nat->(St->Prop)->Prop}(h:∀u,Det (F u)):Det fun K=>KE n dst fun u=>F u K:=by
 cases dst with
 |none=>exact det_false
 |some u=>exact det_and (h u)
def avK {x:S}{F:Int->(St->Prop)->Prop}(h:∀u,Det (F u)):Det fun K=>ZZ x fun j=>F j K:=by
 unfold ZZ oneK;cases x with
 |val d=>cases d with
  |one v=>cases v with
   |int k j=>exact h j
   |_=>exact det_false
  |_=>exact det_false
 |_=>exact det_false
def aoL (u:Nat)(x:Operand)(s:St):Det (vU u x s):=by
 unfold vU;cases evS s x with
 |un=>exact det_false
 |val d=>exact det_K _
 |rp d=>exact det_K _
 |al r p=>exact det_and (det_K _)
 |rf r p=>exact det_and (det_K _)
 |ag r p=>exact det_and (det_K _)
 |own d=>cases d<;>exact det_and (det_K _)
 |tup l=>exact det_and (det_K _)
def asT (u:Nat)(x:Operand)(s:St):Det (FB u x s):=by
 have hm:=aoL u x s;unfold FB;cases hx:evS s x with
 |own d=>exact det_and (det_K _)
 |al r p=>
  cases p with
  |nil=>
   simp only;by_cases h:u=r
   ·simp only[h,if_true];exact det_K _
   ·simp only[h,if_false];cases s r<;>first|exact det_K _|exact det_false
  |cons _ _=>exact hm
 |_=>exact hm
def aoK (u r k:Nat)(s:St):Det (MN u r k s):=by
 unfold MN;refine det_and ?_;cases s r with
 |tup l=>
  simp only;cases l[k]? with
  |none=>exact det_false
  |some x=>cases x<;>first|exact det_K _|exact det_false
 |_=>exact det_false
def asS (e:TypeId)(ew u:Nat)(x y:Operand)(s:St):Det (TS e ew u x y s):=by
 unfold TS;refine det_and ?_;cases rowOf e (srcOf s (slotOf x) (evS s x)).data with
 |none=>exact det_false
 |some xs=>
  simp only;generalize(srcOf s (slotOf x) (evS s x)).st s=s1
  have fr:Det fun K=>match asSl s1 (slotOf y) (evS s1 y)with
   | .fr ys=>ys.all (fun d=>d.w==ew)=true/\xs.length+ys.length<=1073741824/\K ((s1.kill u).put u (.own (.sl (some e) (xs++D.fzs ys))))
   | .nd _ _ ys=>D.xU ys=true/\ys.all (fun d=>d.w==ew)=true/\xs.length+ys.length<=1073741824/\K ((s1.kill u).put u (.own (.sl (some e) (xs++ys))))
   | .no=>False:=by
   cases asSl s1 (slotOf y) (evS s1 y)with
   |fr ys=>exact det_and (det_and (det_K _))
   |nd _ _ ys=>exact det_and (det_and (det_and (det_K _)))
   |no=>exact det_false
  cases hy:evS s1 y with
  |own d=>
   rw[hy]at fr;cases d with
   |sl o ys=>cases o with
    |none=>exact fr
    |some e'=>exact det_and (det_and (det_and (det_K _)))
   |_=>exact fr
  |_=>rw[hy]at fr;exact fr
def aoM {F:List (Nat×D×Bool)->St->(St->Prop)->Prop}(hF:∀ds s,Det (F ds s))(u:Nat):∀(parts:List (Nat×Operand)) (s:St),Det fun K=>PU u parts s fun ds s'=>F ds s' K:=by
 intro parts
 induction parts generalizing F with
 |nil=>intro s;exact hF _ _
 |cons p parts ih=>
  obtain⟨i,x⟩:=p;intro s;exact det_and (det_and (ih (F:=fun ds s' K=>F ((i,(srcOf s (slotOf x) (evS s x)).data,(srcOf s (slotOf x) (evS s x)).from.isNone)::ds) s' K) (fun ds s'=>hF _ _) _))
def asU (T:TypeId->TyE)(e:TypeId)(len u:Nat)(parts:List (Nat×Operand))(s:St):Det (YH T e len u parts s):=
 aoM (F:=fun ds s' K=>IA (fun i=>some (i*(T e).w,(T e).w)) (List.replicate len (T e).z) ds/\K (s'.set u (.own (.sl (some e) (setParts (List.replicate len (T e).z) ds))))) (fun ds s=>det_and (det_K _)) u parts s
def axL (T:TypeId->TyE)(fs:List (Nat×TypeId))(zs:List D)(u:Nat)(parts:List (Nat×Operand))(s:St):Det (af1 T fs zs u parts s):=
 aoM (F:=fun ds s' K=>IA (places T fs) zs ds/\if ds.all (fun x=>x.2.2)&&D.xU (setParts zs ds)then K (s'.set u (.val (.agg (setParts zs ds))))else K (s'.set u (.own (.agg (setParts zs ds))))) (fun ds s=>det_and (by
  by_cases h:(ds.all (fun x=>x.2.2)&&D.xU (setParts zs ds))=true
  ·simp only[h,if_true];exact det_K _
  ·simp only[h];exact det_K _)) u parts s
def axN (e:TyE)(x:S)(z:Src)(s:St):Det (WF e x z s):=by
 unfold WF;cases x with
 |rf r p=>
  simp only;cases s r with
  |own d=>
   simp only;cases D.sub p d with
   |none=>exact det_false
   |some m=>
    refine det_and (det_and (det_and ?_));have rest:Det fun K=>(match z with| .no=>False|_=>True)/\z.data.w=m.w/\z.from≠some r/\K (((z.st s).kill r).put r (.own (D.upd p d z.data))):=det_and (det_and (det_and (det_K _)));cases z with
    |fr d'=>
     cases d' with
     |one u=>cases m with
      |one _=>exact det_K _
      |_=>exact rest
     |agg us=>cases m with
      |agg vs=>
       refine det_and ?_;cases(ones us&&ones vs&&(us.length==vs.length))with
       |true=>exact det_K _
       |false=>exact det_K _
      |_=>exact rest
     |sl o us=>cases o with
      |none=>cases m with
       |sl o' vs=>cases o' with
        |none=>exact det_K _
        |some _=>exact rest
       |_=>exact rest
      |some _=>exact rest
     |_=>exact rest
    |_=>exact rest
  |_=>exact det_false
 |_=>exact det_false
def detOp:Op->Bool
 | .move _=>true
 | .extract (.tmp _) _=>true
 | .assign _=>true
 | .store _ _ _=>true
 | .alloc _=>true
 | .box _ _=>true
 | .build _ _=>true
 | .buildSlice _ _ _=>true
 | .makeSlice _ _ _=>true
 | .call ⟨.builtin .append,_,_⟩=>true
 |_=>false
variable {P:Program}{op:Op}{s:St}
def aA2 {T:TypeId->TyE}(h:detOp op=true):Det (mM P T n op dst s):=by
 unfold detOp at h;unfold mM;split at h
 ·exact HY fun u=>aoL u _ s
 ·exact det_and (HY fun u=>aoK u _ _ s)
 ·exact HY fun u=>asT u _ s
 ·exact det_and (det_and (axN _ _ _ s))
 ·exact det_and (HY fun u=>det_K _)
 ·rename_i t x;simp only;refine HY fun u=> ?_;cases srcOf s (slotOf x) (evS s x)<;>first|exact det_false|exact det_K _
 ·rename_i t parts;simp only;cases(T t).ty with
  |agg fs=>cases(T t).z with
   |agg zs=>exact det_and (HY fun u=>axL T fs zs u _ s)
   |_=>exact det_false
  |_=>exact det_false
 ·rename_i t len parts;simp only;cases(T t).ty with
  |sl e=>exact det_and (det_and (det_and (det_and (HY fun u=>asU T e len u _ s))))
  |_=>exact det_false
 ·rename_i t x y;simp only;cases(T t).ty with
  |sl e=>exact det_and (avK fun l=>avK fun c=>det_and (det_and (det_and (HY fun u=>det_K _))))
  |_=>exact det_false
 ·rename_i args ts;simp only;unfold stepCall;split
  all_goals first
   |exact det_false
   |(exfalso;simp_all;done)
   |(refine det_and ?_;split<;>first|exact det_false|exact HY fun u=>det_and (det_and (asS _ _ u _ _ s)))
 ·cases h
def avG (P:Program)(f:FuncId)(ds:List D)(rs:List Nat)[k:aa2 S]:Prop:=∃r,fA P f ds (fun r'=>r'=r)/\(rs=[]\/r.closed=true)/\k.K r
variable {f:FuncId}
def aAT {ds:List D}{rs:List Nat}{K:S->Prop}{r:S}(h:fA P f ds (fun r'=>r'=r))(hc:rs=[]\/r.closed=true)(hK:K r):(avG (k:=⟨K⟩) P f ds rs):=⟨r,h,hc,hK⟩
def alU (P:Program)(f:FuncId)(ds:List D)(m:Nat)(d:D)(rs:List Nat)[k:aa2 (S×D)]:Prop:=rs=[]/\∃r d',D8 P f ds m d (fun a b=>a=r/\b=d')/\k.K (r,d')
def dcallF (s:St)(u:Option Nat)(f:FuncId)(P:Program)(args:List Operand)(K:St->Prop):Prop:=
 nN s args fun ds rs=>(avG (k:=⟨fun r=>K (s.jR u r)⟩) P f (D.fzs ds) rs)
def dcallMF (s:St)(dst:Option Nat)(f:FuncId)(P:Program)(m:Nat)(args:List Operand)(K:St->Prop):Prop:=match args[m]? with
 |some x=>match evS s x with
  | .al r []=>match s r with
   | .own d=>nN s (args.set m (.const (.bool false))) fun ds rs=>(alU (k:=⟨fun y=>dst≠some r/\(y.2.isAgg=false/\y.2.w=1)/\K (((s.F3 r).put r (.own y.2)).jR dst y.1)⟩) P f ds m d rs)
   |_=>False
  | .al r (i::p)=>match s r with
   | .own d=>D.free (i::p) d=true/\(match D.sub (i::p) d with
    |some nd=>nN s (args.set m (.const (.bool false))) fun ds rs=>(alU (k:=⟨fun y=>dst≠some r/\(y.2.isAgg=false/\y.2.w=1)/\K (((s.kill r).put r (.own (D.upd (i::p) d y.2))).jR dst y.1)⟩) P f ds m nd rs)
    |none=>False)
   |_=>False
  |_=>False
 |none=>False
def fnC (c:Callee):Option FuncId:=match c with
 | .value x=>(match x with| .func f=>some f|_=>none)
 |_=>none
def fnOf (op:Op):Option FuncId:=match op with
 | .call c=>fnC c.callee
 |_=>none
def argsOf (op:Op):List Operand:=match op with
 | .call c=>c.args.toList
 |_=>[]
def stepF (P:Program)(T:TypeId->TyE)(n:Nat)(op:Op)(dst:Option Nat)(s:St)(K:St->Prop):Prop:=match fnOf op with
 |some f=>(T (1000000+f)).w<1000/\Enters P f/\(∀u,dst=some u->u<n)/\(match(T (1000000+f)).w with
  |0=>N9 s (argsOf op)=[]/\dcallF s dst f P (argsOf op) K
  |m+1=>dcallMF (acH s ((argsOf op).set m (.const (.bool false)))) dst f P m (argsOf op) K)
 |none=>detOp op=true/\mM P T n op dst s K
def MG :∀(xs:List Operand) {F G:List D->List Nat->Prop},(∀ds rs,F ds rs->G ds rs)->nN s xs F->nN s xs G
 |[],F,G,h,hF=>h _ _ hF
 |x::xs,F,G,h,hF=>by
  unfold nN at hF|-
  cases hx:evS s x<;>simp only[hx]at hF⊢<;>try exact MG xs (fun ds rs=>h _ _) hF
  all_goals
   rename_i r p;cases hr:s r<;>simp only[hr]at hF|-
   rename_i d;cases hd:D.sub p d<;>simp only[hd]at hF|-
   exact MG xs (fun ds rs=>h _ _) hF
def MM :∀(xs:List Operand) {F:List D->List Nat->(St->Prop)->Prop},(∀ds rs,Det (F ds rs))->Det fun K=>nN s xs fun ds rs=>F ds rs K
 |[],F,h=>h _ _
 |x::xs,F,h=>by
  unfold nN
  cases hx:evS s x<;>simp only<;>first
   |exact det_false
   |exact MM xs (F:=fun ds rs=>F (_::ds) rs) fun ds rs=>h _ _
   |exact MM xs (F:=fun ds rs=>F (_::ds) (_::rs)) fun ds rs=>h _ _
   |skip
  all_goals
   rename_i r p;cases hr:s r<;>simp only<;>try exact det_false
   rename_i d
   cases hd:D.sub p d<;>simp only<;>first
    |exact det_false
    |exact MM xs (F:=fun ds rs=>F (_::ds) (_::rs)) fun ds rs=>h _ _
variable {u:Option Nat}{args:List Operand}
def asV :Det (dcallF s u f P args):=
 MM args (F:=fun ds rs K=>(avG (k:=⟨fun r=>K (s.jR u r)⟩) P f (D.fzs ds) rs)) fun ds rs K h=>by
  obtain⟨r,h1,h2,h3⟩:=h;exact⟨_,h3,r,h1,h2,rfl⟩
def aoJ {m:Nat}:Det (dcallMF s u f P m args):=by
 unfold dcallMF;split
 ·split
  ·split
   ·rename_i r _ _ d _
    exact MM _ (F:=fun ds rs K=>(alU (k:=⟨fun y=>u≠some r/\(y.2.isAgg=false/\y.2.w=1)/\K (((s.F3 r).put r (.own y.2)).jR u y.1)⟩) P f ds m d rs)) fun ds rs K h=>by
     obtain⟨h0,a,b,h1,h2,h4,h3⟩:=h;exact⟨_,h3,h0,a,b,h1,h2,h4,rfl⟩
   ·exact det_false
  ·split
   ·refine det_and ?_;split
    ·rename_i r i p _ _ d _ _ nd _
     exact MM _ (F:=fun ds rs K=>(alU (k:=⟨fun y=>u≠some r/\(y.2.isAgg=false/\y.2.w=1)/\K (((s.kill r).put r (.own (D.upd (i::p) d y.2))).jR u y.1)⟩) P f ds m nd rs)) fun ds rs K h=>by
      obtain⟨h0,a,b,h1,h2,h4,h3⟩:=h;exact⟨_,h3,h0,a,b,h1,h2,h4,rfl⟩
    ·exact det_false
   ·exact det_false
  ·exact det_false
 ·exact det_false
def axM {T:TypeId->TyE}:Det (stepF P T n op dst s):=by
 unfold stepF;split
 ·refine det_and (det_and (det_and ?_));split
  ·exact det_and asV
  ·exact aoJ
 ·intro K h;obtain⟨s1,h1,h2⟩:=aA2 h.1 K h.2;exact⟨s1,h1,h.1,h2⟩
def aEU {T:TypeId->TyE}{K:St->Prop}(h:stepF P T n op dst s K):mM P T n op dst s K:=by
 unfold stepF at h;cases hf:fnOf op with
 |none=>rw[hf]at h;exact h.2
 |some f=>
  rw[hf]at h;obtain⟨h1,h2,h3,h4⟩:=h;unfold fnOf at hf;cases op<;>simp only at hf<;>try(cases hf;done)
  rename_i c;obtain⟨cal,args,ts⟩:=c
  have hc:cal= .value (.func f):=by
   unfold fnC at hf;cases cal with
   |value x=>cases x<;>simp_all
   |_=>simp at hf
  subst hc;simp only[argsOf]at h4;unfold mM stepCall;refine⟨h2,h3,?_⟩;simp only[if_neg (show¬(T (1000000+f)).w=1000 by omega)];cases hw:(T (1000000+f)).w with
  |zero=>
   rw[hw]at h4;simp only[h4.1];refine MG _ (fun ds rs g=> ?_) h4.2;obtain⟨r,g1,g2,g3⟩:=g;exact afL g1 g2 g3
  |succ m=>
   rw[hw]at h4;simp only[if_neg (show¬1000<=m by omega)]at h4|-
   unfold dcallMF at h4;unfold abB;split at h4
   ·rename_i x hx;simp only[hx];split at h4
    ·rename_i r hxe;simp only[hxe];split at h4
     ·rename_i d hs;simp only[hs];refine MG _ (fun ds rs g=> ?_) h4;obtain⟨g0,a,b,g1,g2⟩:=g;exact⟨g0,_,g1,fun res d' hq=>by obtain⟨rfl,rfl⟩:=hq;exact g2⟩
     ·exact h4.elim
    ·rename_i r i p hxe;simp only[hxe];split at h4
     ·rename_i d hs;simp only[hs];refine⟨h4.1,?_⟩;have h5:=h4.2;split at h5
      ·rename_i nd hnd;simp only[hnd];refine MG _ (fun ds rs g=> ?_) h5;obtain⟨g0,a,b,g1,g2⟩:=g;exact⟨g0,_,g1,fun res d' hq=>by obtain⟨rfl,rfl⟩:=hq;exact g2⟩
      ·exact h5.elim
     ·exact h4.elim
    ·exact h4.elim
   ·exact h4.elim
end Go.Dv
end
section
namespace Go
def bB:= @List.mem_range
end Go
end
section
namespace Go.Dv
open Go.RowKit
variable [lL]
def putAll:List Nat->St->St->St
 |[],_,s=>s
 |t::Y,f,s=>(putAll Y f s).put t (f t)
def akX (f s:St)(i:Nat):∀Y:List Nat,putAll Y f s i=if i∈Y then f i else s i
 |[]=>by simp[putAll]
 |t::Y=>by
  simp only[putAll,St.put,akX f s i Y,aK];by_cases h:i=t
  ·subst h;simp
  ·simp[h]
def aqG (s:St):∀Y:List Nat,lst (Y.map fun t=>(t,s t))=s.only Y
 |[]=>by funext i;simp[lst,St.only]
 |t::Y=>by
  funext i;simp only[fI,lst,St.put,aqG s Y,St.only,aK];by_cases h:i=t
  ·subst h;simp
  ·simp[h]
def rootIn (Y:List Nat)(x:S):Prop:=match x.root with
 |some r=>r∈Y
 |none=>True
def rootOut (Y:List Nat)(x:S):Prop:=match x.root with
 |some r=>r∉Y
 |none=>True
def rootOwn (Y:List Nat)(s:St)(x:S):Prop:=match x.root with
 |some r=>r∈Y/\(s r).fJ=true
 |none=>True
def au0 {P:Program}{n:Nat}{s:St}{Y:List Nat}(h:∀t∈Y,rootOwn Y s (s t)):vQ P n s (s.only Y):=by
 refine arX fun i=> ?_;by_cases hi:i∈Y
 ·simp only[St.only,if_pos hi];refine .inr (.inl ⟨rfl,?_⟩);have:=h i hi;unfold rootOwn at this;cases hr:(s i).root with
  |none=>trivial
  |some r=>
   rw[hr]at this;have h2:r∈Y:=this.1;simp[St.only,h2]
 ·simp only[St.only,if_neg hi];exact .inl rfl
class aMO where
 F:St->Prop
def frK (s:St)[h:aMO]:Prop:=h.F s
variable {x:S}
variable {p:Pin}
section
variable {P:Program}{T:TypeId->TyE}{n:Nat}{ops:Array Oper}{md:Region.Mode}{ft:List (Nat×List Nat)}
def QF0 (P:Program)(T:TypeId->TyE)(n:Nat)(ft:List (Nat×List Nat))(hs:List Nat)(ops:Array Oper):List Oper->Nat->List Nat->St->(St->Prop)->Prop
 |[],_,_,s,K=>K s
 |o::l,k,Ks,s,K=>match hs.contains k with
  |true=>QF0 P T n ft hs ops l (k+1) Ks s K
  |false=>match ft.lookup k with
   |none=>match o.dst with
    |none=>False
    |some u=>u<n/\(s u).fJ=false/\(s u).root=none/\ @gH ops o s ⟨stepD P T n o.op u s fun s'=>QF0 P T n ft hs ops l (k+1) (u::Ks) s' K⟩ ⟨QF0 P T n ft hs ops l (k+1) (u::Ks) (s.put u (.tup [])) K⟩
   |some Y=>o.guard=none/\(∀t∈Y,t<1000000)/\(∀u,o.dst=some u->u∈Y)/\(∀t∈Y,rootIn Y (s t))/\(∀t∈Ks,t∈Y\/rootOut Y (s t))/\
    stepF P T n o.op o.dst (lst (Y.map fun t=>(t,s t))) fun s'=> @frK s' ⟨fun s'=>(∀t∈Y,rootOwn Y s' (s' t))/\QF0 P T n ft hs ops l (k+1) (Y++Ks) (putAll Y s' s) K⟩
def aIO (P:Program)(T:TypeId->TyE)(n:Nat)(ft:List (Nat×List Nat))(hs:List Nat)(ops:Array Oper):∃f:List Oper->Nat->List Nat->St->(St->Prop)->Prop,f=QF0 P T n ft hs ops:=⟨_,rfl⟩
noncomputable def QF (P:Program)(T:TypeId->TyE)(n:Nat)(ft:List (Nat×List Nat))(hs:List Nat)(ops:Array Oper):List Oper->Nat->List Nat->St->(St->Prop)->Prop:=Classical.choose (aIO P T n ft hs ops)
def anH (P:Program)(T:TypeId->TyE)(n:Nat)(ft:List (Nat×List Nat))(hs:List Nat)(ops:Array Oper):QF P T n ft hs ops=QF0 P T n ft hs ops:=iO (aIO P T n ft hs ops)
def alG {hs:List Nat}{k:Nat}{Ks:List Nat}{s:St}{K:St->Prop}:QF P T n ft hs ops [] k Ks s K=K s:=by rw[anH];rfl
def alF {hs:List Nat}{o:Oper}{l:List Oper}{k:Nat}{Ks:List Nat}{s:St}{K:St->Prop}:QF P T n ft hs ops (o::l) k Ks s K=(match hs.contains k with
 |true=>QF P T n ft hs ops l (k+1) Ks s K
 |false=>match ft.lookup k with
  |none=>match o.dst with
   |none=>False
   |some u=>u<n/\(s u).fJ=false/\(s u).root=none/\ @gH ops o s ⟨stepD P T n o.op u s fun s'=>QF P T n ft hs ops l (k+1) (u::Ks) s' K⟩ ⟨QF P T n ft hs ops l (k+1) (u::Ks) (s.put u (.tup [])) K⟩
  |some Y=>o.guard=none/\(∀t∈Y,t<1000000)/\(∀u,o.dst=some u->u∈Y)/\(∀t∈Y,rootIn Y (s t))/\(∀t∈Ks,t∈Y\/rootOut Y (s t))/\
   stepF P T n o.op o.dst (lst (Y.map fun t=>(t,s t))) fun s'=> @frK s' ⟨fun s'=>(∀t∈Y,rootOwn Y s' (s' t))/\QF P T n ft hs ops l (k+1) (Y++Ks) (putAll Y s' s) K⟩):=by rw[anH];rfl
def ar7 (hG:∀t,Good P T t){hs:List Nat}{o:Oper}{l:List Oper}{k:Nat}{Ks:List Nat}{s:St}{K:St->Prop}(hk:∀i,i∉Ks->s i= .un)(hh:hs.contains k=false)(h:QF P T n ft hs ops (o::l) k Ks s K):
  ∃s' Ks',Did P n ft ops k o s s'/\(∀i,i∉Ks'->s' i= .un)/\QF P T n ft hs ops l (k+1) Ks' s' K:=by
 rw[alF]at h;rw[hh]at h;simp only at h;cases hl:ft.lookup k with
 |none=>
  simp only[hl]at h;cases hd:o.dst with
  |none=>rw[hd]at h;exact h.elim
  |some u=>
   rw[hd]at h;obtain⟨hu,ho,hr,h⟩:=h;obtain⟨hkn,hA,hB⟩:=ao5 h
   have key:∀y,∀i,i∉u::Ks->(s.put u y) i= .un:=fun y i hi=>by
    simp only[aK,not_or]at hi;rw[pY hi.1];exact hk i hi.2
   by_cases hw:PI ops o s
   ·obtain⟨y,h1,h2,h3⟩:=ac9 (xs:=az5 o) (fun x hx=>hx) (hA hw);rw[ae0 ho]at h1;refine⟨s.put u y,u::Ks,?_,key y,h1⟩;unfold Did;simp only[hl];refine⟨u,y,hd,hu,ho,hr,⟨hkn,h2,fun _ w0 ow0 σ ha hσ=> ?_,fun hn=>absurd hw hn⟩,rfl⟩;refine step_ok hG ?_;rw[hd];exact h3 σ ha _ (ae0 hσ)
   ·refine⟨s.put u (.tup []),u::Ks,?_,key _,hB hw⟩;unfold Did;simp only[hl];exact⟨u,.tup [],hd,hu,ho,hr,⟨hkn,gG rfl,fun h=>absurd h hw,fun _=>rfl⟩,rfl⟩
 |some Y=>
  simp only[hl]at h;obtain⟨h1,h3,h4,h5,h6,h7⟩:=h;obtain⟨s1,⟨g1,g2⟩,g4⟩:=axM _ h7;have g3:=aEU g4;rw[aqG]at g3
  have hm:putAll Y s1 s=s.merge Y (s1.only Y):=by
   funext i;rw[akX];simp only[St.merge,St.only];by_cases hi:i∈Y<;>simp[hi]
  refine⟨s.merge Y (s1.only Y),Y++Ks,?_,fun i hi=> ?_,by rw[←hm];exact g2⟩
  ·unfold Did;simp only[hl];refine⟨s1.only Y,⟨h1,h3,h4,fun i hi r hr=> ?_,fun i hi r hr=> ?_,fun i hi=>by simp[St.only,hi],fun i r hr=> ?_,fun w0 ow0=> ?_⟩,rfl⟩
   ·have:=h5 i hi;unfold rootIn at this;rw[hr]at this;exact this
   ·by_cases hik:i∈Ks
    ·rcases h6 i hik with h|h
     ·exact absurd h hi
     ·unfold rootOut at h;rw[hr]at h;exact h
    ·rw[hk i hik]at hr;cases hr
   ·by_cases hi:i∈Y
    ·simp only[St.only,if_pos hi]at hr;have:=g1 i hi;unfold rootOwn at this;rw[hr]at this;simpa[St.only,this.1]using this.2
    ·simp only[St.only,if_neg hi]at hr;cases hr
   ·exact fun a w hR next Q hn=>(step_ok hG g3:Ok P n w0 ow0 o (s.only Y) _) a w hR next Q fun s' a' w' e hR'=>hn s' a' w' (by subst e;exact au0 g1) hR'
  ·simp only[k_List_mem_append,not_or]at hi;simp only[St.merge,if_neg hi.1];exact hk i hi.2
def aBZ (ft:List (Nat×List Nat))(md:Region.Mode)(ops:Array Oper)(listed:Array Bool)(i:Nat):Bool:=match ops[i]? with
 |none=>false
 |some oi=>(List.range ops.size).all fun j=>j==i||listed.getD j true||match ops[j]? with
   |some oj=>oj.after.any (fun e=>Region.binds md e&&e.on==i)||apF ft ops i j oi oj
   |none=>true
def atE {i:Nat}{oi:Oper}{listed:Array Bool}(hi:ops[i]?=some oi) (h:aBZ ft md ops listed i=true) (j:Nat) (oj:Oper)
  (hj:ops[j]?=some oj) (hne:j≠i) (hun:listed.getD j true=false) (hno:∀e∈oj.after,Region.binds md e=true->e.on≠i):apF ft ops i j oi oj=true:=by
 simp only[aBZ,hi,aH,bB]at h;have h1:=h j (bO.1 hj).1;simp only[hj,bN,beq_iff_eq,hne,false_or,hun,dV]at h1;rcases h1 with h1|h1
 ·obtain⟨e,he,hb⟩:=Array.any_eq_true'.1 h1;simp only[k_Bool_and_eq_true,beq_iff_eq]at hb;exact absurd hb.2 (hno e he hb.1)
 ·exact h1
def avS (ft:List (Nat×List Nat))(md:Region.Mode)(ops:Array Oper)(listed:Array Bool)(i:Nat):Bool:=match ops[i]? with
 |none=>false
 |some oi=>(List.range ops.size).all fun j=>j==i||listed.getD j true||match ops[j]? with
   |some oj=>N8 md ops i ops.size j||apF ft ops i j oi oj
   |none=>true
def agV {i:Nat}{oi:Oper}{listed:Array Bool}(hi:ops[i]?=some oi) (h:avS ft md ops listed i=true) (j:Nat) (oj:Oper)
  (hj:ops[j]?=some oj) (hne:j≠i) (hun:listed.getD j true=false) (hno:N8 md ops i ops.size j=false):apF ft ops i j oi oj=true:=by
 simp only[avS,hi,aH,bB]at h;have h1:=h j (bO.1 hj).1;simp only[hj,bN,beq_iff_eq,hne,false_or,hun,dV]at h1;rcases h1 with h1|h1
 ·rw[hno]at h1;cases h1
 ·exact h1
def acU (ft:List (Nat×List Nat))(hs:List Nat)(md:Region.Mode)(ops:Array Oper):Nat->Nat->Array Bool->Bool
 |0,_,listed=>(Region.ready md ops listed).isEmpty
 |fuel+1,k,listed=>match hs.contains k with
  |true=>acU ft hs md ops fuel (k+1) listed
  |false=>(Region.ready md ops listed).contains k&&avS ft md ops listed k&&acU ft hs md ops fuel (k+1) (listed.setIfInBounds k true)
def aCS (ft:List (Nat×List Nat))(md:Region.Mode)(ops:Array Oper):Bool:=Region.noSelect ops&&acU ft [] md ops ops.size 0 (Array.replicate ops.size false)
def left (hs:List Nat):List Oper->Nat->Nat
 |[],_=>0
 |_::l,k=>match hs.contains k with
  |true=>left hs l (k+1)
  |false=>left hs l (k+1)+1
def ap9:∀(l:List Oper) (k:Nat),left [] l k=l.length
 |[],_=>rfl
 |_::l,k=>by
  show left [] l (k+1)+1=_;rw[ap9 l (k+1)];rfl
def X8 (hG:∀t,Good P T t)(hn:n<=1000000){hs:List Nat}{K:St->Prop}:∀(l:List Oper) (k:Nat) (listed:Array Bool) (Ks:List Nat) (s:St),(∀j,l[j]?=ops[k+j]?)->Closed md ops listed->FK s->(∀i,i∉Ks->s i= .un)->
  acU ft hs md ops l.length k listed=true->QF P T n ft hs ops l k Ks s K->aiR P n ft md ops K (left hs l k) listed s
 |[],_,_,_,_,_,_,_,_,hB,h=>⟨by simpa[acU]using hB,by rwa [alG]at h⟩
 |o::l,k,listed,Ks,s,hl,hcl,hc,hk,hB,h=>by
  have h0:ops[k]?=some o:=by simpa using(hl 0).symm
  have hl':∀j,l[j]?=ops[k+1+j]?:=fun j=>by have:=hl (j+1);simpa[oW,Nat.add_comm 1 j]using this
  simp only[k_List_length_cons,acU]at hB;unfold left;cases hh:hs.contains k with
  |true=>
   rw[hh]at hB;rw[alF]at h;rw[hh]at h;exact X8 hG hn l (k+1) listed Ks s hl' hcl hc hk hB h
  |false=>
   rw[hh]at hB;simp only[k_Bool_and_eq_true]at hB;obtain⟨⟨hr,hf⟩,hB'⟩:=hB;obtain⟨s',Ks',hd,hk',hrest⟩:=ar7 hG hk hh h
   exact ae9 hn h0 (left hs l (k+1)) listed s s' hcl (agV h0 hf) (by simpa using hr) hc hd
    (X8 hG hn l (k+1) _ Ks' s' hl' (hcl.set (by simpa using hr)) (hd.cons hc) hk' hB' hrest)
def auA (hG:∀t,Good P T t) {w0:World}{ow0:Own}{s:St}{K:Exit->St->Prop}{id:Nat}{M:List (Nat×S)}{ts:List Nat}(hm:P.follows .mixedOrders=true) (hn:n<=1000000) (hB:aCS ft .any ops=true) (h0:wI (s.DN ts) M M)
  (h:QF P T n ft [] ops ops.toList 0 (M.map Prod.fst) (lst M) (fun s'=>K .normal s')) (hd:qC p ops.toList=true):OkC P n w0 ow0 p (.region id ops true) s K:=by
 refine UG ?_ (vP ts h0);intro a w hR hp Q hQ;simp only[aCS,k_Bool_and_eq_true]at hB;have hR2:Rel P n w0 ow0 (lst M) a {w with drawn:=w.drawn+1}:=by obtain⟨ow,hf⟩:=hR;exact⟨ow,hf.drew⟩
 have hc:FK (lst M):=by obtain⟨ow,hf⟩:=hR;exact hf.cons
 refine wp_region_any hm (NW (ft:=ft) (qC.one hd) (K:=fun s'=>K .normal s') (fun s' a' w' hK hR' hp'=>hQ _ _ _ _ hK hR' hp') _ _ (lst M) _ _ hR2 hp ?_);have:=X8 (md:= .any) hG hn ops.toList 0 (Array.replicate ops.size false) _ (lst M) (by simp) alW hc (fun i hi=>amO hi) (by simpa using hB.2) h;rw[ap9]at this;simpa using this
def aCG (o:Oper):Bool:=match o.guard,o.op,o.dst with
 |none,.move (.tmp _),some _=>true
 |_,_,_=>false
def OP (md:Region.Mode)(ops:Array Oper):List Nat->Array Bool->Bool
 |[],_=>true
 |i::hs,listed=>(Region.ready md ops listed).contains i&&aBZ [] md ops listed i&&(match ops[i]? with|some o=>aCG o|none=>false)&&OP md ops hs (listed.setIfInBounds i true)
def MB:List Nat->Array Bool->Array Bool
 |[],listed=>listed
 |i::hs,listed=>MB hs (listed.setIfInBounds i true)
def QM (P:Program)(T:TypeId->TyE)(n:Nat)(ops:Array Oper):List Nat->St->(St->Prop)->Prop
 |[],s,K=>K s
 |i::hs,s,K=>match ops[i]? with
  |some o=>mM P T n o.op o.dst s fun s'=> @frK s' ⟨fun s'=>QM P T n ops hs s' K⟩
  |none=>False
def MC:∀(hs:List Nat) (listed:Array Bool),OP md ops hs listed=true->Closed md ops listed->Closed md ops (MB hs listed)
 |[],_,_,h=>h
 |i::hs,listed,hB,h=>by
  simp only[OP,k_Bool_and_eq_true]at hB;exact MC hs _ hB.2 (h.set (by simpa using hB.1.1.1))
def noSelect_spec (h:Region.noSelect ops=true):∀(j:Nat) (o:Oper) cs b,ops[j]?=some o->o.op≠ .select cs b:=by
 intro j o cs b hj e;unfold Region.noSelect at h;have h1:=Array.all_eq_true_iff_forall_mem.1 h o (kZ hj);rw[e]at h1;simp at h1
def ZW (hG:∀t,Good P T t){w0:World}{ow0:Own}{Q:Exit->Act->World->Prop}(hQ:∀c a w,¬Q (.panic c) a w)(hsel:∀(j:Nat) (o:Oper) cs b,ops[j]?=some o->o.op≠ .select cs b)(hd:∀o∈ops.toList,sU p o=true){K:St->Prop}{w:World}:∀(hs:List Nat) (listed:Array Bool) (s:St) (a:Act),
  OP md ops hs listed=true->QM P T n ops hs s K->Rel P n w0 ow0 s a w->Pinned p a->
  ∃s1 a1,K s1/\Rel P n w0 ow0 s1 a1 w/\Pinned p a1/\∀fuel,wpAny P md ops Q fuel (MB hs listed) a1 w->wpAny P md ops Q (fuel+hs.length) listed a w
 |[],listed,s,a,_,h,hR,hp=>⟨s,a,h,hR,hp,fun _ h=>h⟩
 |i::hs,listed,s,a,hB,h,hR,hp=>by
  simp only[OP,k_Bool_and_eq_true]at hB;obtain⟨⟨⟨h1,h2⟩,h3⟩,h4⟩:=hB;unfold QM at h;cases hi:ops[i]? with
  |none=>rw[hi]at h;exact h.elim
  |some o=>
   rw[hi]at h h3;simp only at h h3;unfold aCG at h3;split at h3
   ·rename_i t u hgd hop hdst;have hnd:sU p o=true:=hd o (by simpa using kZ hi);have hrun:∀w,(execOp a.eval o).run P w= .ok (.value (a.eval (.tmp t))) w:=fun w=>by unfold execOp;rw[hop];rfl
    have hw:=ab7 (Q:=fun _ _ _=>True) hp hnd ((step_ok hG h:Ok P n w0 ow0 o s _) a w hR (fun a' w'=>∃s',QM P T n ops hs s' K/\Rel P n w0 ow0 s' a' w') (fun _ _ _=>True) fun s' a' w' hK hR'=>⟨s',hK,hR'⟩);unfold Oper.wp at hw;rw[hrun w]at hw;simp only[Oper.upon]at hw;obtain⟨⟨s',hK,hR'⟩,hp'⟩:=hw;obtain⟨s1,a1,g1,g2,g3,g4⟩:=ZW hG hQ hsel hd hs _ s' _ h4 hK hR' hp';refine⟨s1,a1,g1,g2,g3,fun fuel hf=> ?_⟩;rw[k_List_length_cons,←Nat.add_assoc];refine wpAny_first hi hsel (fun c a w hq=>absurd hq (hQ c _ w)) _ _ _ _ (fun j oj hj hne hun hno=> ?_) (by simpa using h1) (.inl ⟨?_,hrun⟩) (g4 fuel hf)
    ·have:=atE hi h2 j oj hj hne hun hno;simpa[apF]using this
    ·simp[Region.wanted,hgd]
   ·cases h3
def aqW (hG:∀t,Good P T t) {w0:World}{ow0:Own}{s:St}{K:Exit->St->Prop}{id:Nat}{hs:List Nat}{M:List (Nat×S)}{ts:List Nat}(hm:P.follows .mixedOrders=true) (hn:n<=1000000)
  (hB:(Region.noSelect ops&&OP .any ops hs (Array.replicate ops.size false)&&acU ft hs .any ops ops.size 0 (MB hs (Array.replicate ops.size false))&&left hs ops.toList 0+hs.length==ops.size)=true)
  (h:QM P T n ops hs s fun s'=>wI (s'.DN ts) M M/\QF P T n ft hs ops ops.toList 0 (M.map Prod.fst) (lst M) (fun s'=>K .normal s')) (hd:qC p ops.toList=true):OkC P n w0 ow0 p (.region id ops true) s K:=by
 simp only[k_Bool_and_eq_true,beq_iff_eq]at hB;obtain⟨⟨⟨hB1,hB2⟩,hB3⟩,hB4⟩:=hB;intro a w hR hp Q hQ;refine wp_mono (Q:=fun e a w=>match e with| .normal=>Q .normal a w|_=>False) ?_ fun e a w he=>(by cases e<;>first|exact he|exact he.elim);have hR2:Rel P n w0 ow0 s a {w with drawn:=w.drawn+1}:=by obtain⟨ow,hf⟩:=hR;exact⟨ow,hf.drew⟩
 refine wp_region_any hm ?_;obtain⟨s1,a1,⟨g1,g2⟩,g3,g4,g5⟩:=ZW (md:= .any) (ops:=ops) (Q:=fun e a w=>match e with| .normal=>Q .normal a w|_=>False) hG (fun c a w h=>h) (noSelect_spec hB1) (qC.one hd) hs _ _ _ hB2 h hR2 hp;have g6:=g5 (left hs ops.toList 0);rw[hB4]at g6;refine g6 ?_;have g3':=(vP ts g1).rel g3;have hc:FK (lst M):=by obtain⟨ow,hf⟩:=g3';exact hf.cons
 refine NW (ft:=ft) (qC.one hd) (K:=fun s'=>K .normal s') (Q':=fun e a w=>match e with| .normal=>Q .normal a w|_=>False) (fun s' a' w' hK hR' hp'=>hQ _ _ _ _ hK hR' hp') _ _ (lst M) _ _ g3' g4 ?_;exact X8 (md:= .any) hG hn ops.toList 0 _ _ (lst M) (by simp) (MC _ _ hB2 alW) hc (fun i hi=>amO hi) (by simpa using hB3) g2
def frK_put {s:St}{t:Nat}{F:St->Prop}: @frK (s.put t x) ⟨F⟩=F (s.put t x):=rfl
def QF_nil {hs:List Nat}{k:Nat}{Ks:List Nat}{s:St}{K:St->Prop}:QF P T n ft hs ops [] k Ks s K=K s:=by rw[anH];rfl
def QF_put {hs:List Nat}{o:Oper}{l:List Oper}{k t:Nat}{Ks:List Nat}{s:St}{K:St->Prop}:QF P T n ft hs ops (o::l) k Ks (s.put t x) K=(match hs.contains k with
 |true=>QF P T n ft hs ops l (k+1) Ks (s.put t x) K
 |false=>match ft.lookup k with
  |none=>match o.dst with
   |none=>False
   |some u=>u<n/\((s.put t x) u).fJ=false/\((s.put t x) u).root=none/\ @gH ops o (s.put t x) ⟨stepD P T n o.op u (s.put t x) fun s'=>QF P T n ft hs ops l (k+1) (u::Ks) s' K⟩ ⟨QF P T n ft hs ops l (k+1) (u::Ks) ((s.put t x).put u (.tup [])) K⟩
  |some Y=>o.guard=none/\(∀t∈Y,t<1000000)/\(∀u,o.dst=some u->u∈Y)/\(∀t'∈Y,rootIn Y ((s.put t x) t'))/\(∀t'∈Ks,t'∈Y\/rootOut Y ((s.put t x) t'))/\
   stepF P T n o.op o.dst (lst (Y.map fun t'=>(t',(s.put t x) t'))) fun s'=> @frK s' ⟨fun s'=>(∀t∈Y,rootOwn Y s' (s' t))/\QF P T n ft hs ops l (k+1) (Y++Ks) (putAll Y s' (s.put t x)) K⟩):=by rw[anH];rfl
def QF_lst {hs:List Nat}{o:Oper}{l:List Oper}{k:Nat}{Ks:List Nat}{L:List (Nat×S)}{K:St->Prop}:QF P T n ft hs ops (o::l) k Ks (lst L) K=(match hs.contains k with
 |true=>QF P T n ft hs ops l (k+1) Ks (lst L) K
 |false=>match ft.lookup k with
  |none=>match o.dst with
   |none=>False
   |some u=>u<n/\((lst L) u).fJ=false/\((lst L) u).root=none/\ @gH ops o (lst L) ⟨stepD P T n o.op u (lst L) fun s'=>QF P T n ft hs ops l (k+1) (u::Ks) s' K⟩ ⟨QF P T n ft hs ops l (k+1) (u::Ks) ((lst L).put u (.tup [])) K⟩
  |some Y=>o.guard=none/\(∀t∈Y,t<1000000)/\(∀u,o.dst=some u->u∈Y)/\(∀t'∈Y,rootIn Y ((lst L) t'))/\(∀t'∈Ks,t'∈Y\/rootOut Y ((lst L) t'))/\
   stepF P T n o.op o.dst (lst (Y.map fun t'=>(t',(lst L) t'))) fun s'=> @frK s' ⟨fun s'=>(∀t∈Y,rootOwn Y s' (s' t))/\QF P T n ft hs ops l (k+1) (Y++Ks) (putAll Y s' (lst L)) K⟩):=by rw[anH];rfl
end
def fzs_take (xs:List D)(i:Nat):D.fzs (xs.take i)=(D.fzs xs).take i:=by simp[D.jS]
def fzs_drop (xs:List D)(i:Nat):D.fzs (xs.drop i)=(D.fzs xs).drop i:=by simp[D.jS]
variable {α:Type}
def all_take (f:α->D)(l:List α)(i k:Nat):(∀x∈(l.map f).take i,x.w=k)↔∀a∈l.take i,(f a).w=k:=by rw[←List.map_take];simp only[dG,forall_exists_index,and_imp,forall_apply_eq_imp_iff₂]
def all_take_drop (f:α->D)(l:List α)(i j k:Nat):(∀x∈((l.map f).drop j).take i,x.w=k)↔∀a∈(l.drop j).take i,(f a).w=k:=by rw[←List.map_drop,←List.map_take];simp only[dG,forall_exists_index,and_imp,forall_apply_eq_imp_iff₂]
def take_drop_map {β:Type}(f:α->β)(l:List α)(a:Nat):((l.map f).drop a).take (l.length-a)=(l.map f).drop a:=k_List_take_of_length_le (by simp)
def all_drop (f:α->D)(l:List α)(j k:Nat):(∀x∈(l.map f).drop j,x.w=k)↔∀a∈l.drop j,(f a).w=k:=by rw[←List.map_drop];simp only[dG,forall_exists_index,and_imp,forall_apply_eq_imp_iff₂]
attribute [go_sem] all_drop
attribute [go_sem] take_drop_map
attribute [go_sem] fzs_take fzs_drop all_take all_take_drop
attribute [go_sem] QM QF_nil QF_put QF_lst frK_put putAll rootIn rootOut rootOwn detOp List.lookup stepF fnOf fnC argsOf dcallF dcallMF
section
variable {P:Program}{T:TypeId->TyE}{n:Nat}{w0:World}{ow0:Own}{s:St}{K:St->Prop}
def wrapV (op:BinOp)(u v:Value)(K:Value->Prop):Prop:=match u,v with
 | .int k a,.int k' b=>k=k'/\(match op with
  | .add=>K (.int k (k.wrap (a+b)))
  | .sub=>K (.int k (k.wrap (a-b)))
  | .mul=>K (.int k (k.wrap (a*b)))
  |_=>False)
 |_,_=>False
def stepW (n:Nat)(op:Op)(dst:Option Nat)(s:St)(K:St->Prop):Prop:=match op with
 | .binOp op t x y _=>(∀u,dst=some u->u<n)/\oneK (evS s x) fun u=>oneK (evS s y) fun v=>wrapV op u v fun r=>K (s.jR dst (.val (.one r)))
 |_=>False
def az4 {w:World}{op:BinOp}{t:TypeId}{x y:Operand}{u v:Value}{K:Value->Prop}(h:wrapV op u v K):∃r,(binOp op t u v).run P w= .ok r w/\r.oneCell'=true/\K r/\(eqGuard op t x y u v).run P w= .ok () w:=by
 unfold wrapV at h;split at h
 ·obtain⟨rfl,h⟩:=h;split at h
  ·exact⟨_,by simp only[binOp,Op.intArith,ne_eq,not_true_eq_false,if_false];rfl,rfl,h,rfl⟩
  ·exact⟨_,by simp only[binOp,Op.intArith,ne_eq,not_true_eq_false,if_false];rfl,rfl,h,rfl⟩
  ·exact⟨_,by simp only[binOp,Op.intArith,ne_eq,not_true_eq_false,if_false];rfl,rfl,h,rfl⟩
  ·exact h.elim
 ·exact h.elim
def stepW_ok {o:Oper}(h:stepW n o.op o.dst s K):Ok P n w0 ow0 o s K:=by
 generalize ho:o.op=op at h;unfold stepW at h;split at h
 ·rename_i op t x y t';obtain⟨h1,h⟩:=h;obtain⟨u,hu,h⟩:=eY h;obtain⟨v,hv,h⟩:=eY h;refine iI fun a w ow hf=> ?_;obtain⟨r,g1,g2,g3,hg⟩:=az4 (P:=P) (w:=w) (t:=t) (x:=x) (y:=y) h;refine⟨r,w,?_,_,g3,ow,?_⟩
  ·unfold execOp;rw[ho];simp only[(hf.one hu).1,(hf.one hv).1];simp only[aI,hg,aG,g1];rfl
  ·cases hod:o.dst with
   |none=>exact hf
   |some t=>exact hf.set (h1 t hod) (SV.A8 g2)
 ·exact h.elim
def az3 (P:Program)(T:TypeId->TyE)(n:Nat)(ws:List Nat):List Oper->Nat->St->(St->Prop)->Prop
 |[],_,s,K=>K s
 |o::l,k,s,K=>o.guard=none/\(match ws.contains k with
  |true=>stepW n o.op o.dst s fun s'=>az3 P T n ws l (k+1) s' K
  |false=>mM P T n o.op o.dst s fun s'=>az3 P T n ws l (k+1) s' K)
def aFK (P:Program)(T:TypeId->TyE)(n:Nat)(ws:List Nat):∃f:List Oper->Nat->St->(St->Prop)->Prop,f=az3 P T n ws:=⟨_,rfl⟩
noncomputable def vcW (P:Program)(T:TypeId->TyE)(n:Nat)(ws:List Nat):List Oper->Nat->St->(St->Prop)->Prop:=Classical.choose (aFK P T n ws)
def aiN (P:Program)(T:TypeId->TyE)(n:Nat)(ws:List Nat):vcW P T n ws=az3 P T n ws:=iO (aFK P T n ws)
def aw1 (hG:∀t,Good P T t){ops:Array Oper}{ws:List Nat}:∀(l:List Oper) (k:Nat) (s:St) (K:St->Prop),az3 P T n ws l k s K->OkL P n w0 ow0 ops l s K
 |[],_,s,K,h=>h
 |o::l,k,s,K,h=>by
  obtain⟨hgd,h⟩:=h;have hm:∀(s':St),az3 P T n ws l (k+1) s' K->OkL P n w0 ow0 ops l s' K:=fun s' hs'=>aw1 hG l (k+1) s' K hs';unfold OkL;have e:∀A B,gK ops o s A B=A:=fun A B=>by unfold gK;rw[hgd]
  rw[e];intro a w hR next Q hn
  split at h
  ·exact(stepW_ok h:Ok P n w0 ow0 o s _) a w hR next Q fun s' a' w' hK hR'=>hn s' a' w' (hm s' hK) hR'
  ·exact(step_ok hG h:Ok P n w0 ow0 o s _) a w hR next Q fun s' a' w' hK hR'=>hn s' a' w' (hm s' hK) hR'
def vcW_nil {ws:List Nat}{k:Nat}:vcW P T n ws [] k s K=K s:=by rw[aiN];rfl
def vcW_put {ws:List Nat}{o:Oper}{l:List Oper}{k t:Nat}:vcW P T n ws (o::l) k (s.put t x) K=(o.guard=none/\(match ws.contains k with
  |true=>stepW n o.op o.dst (s.put t x) fun s'=>vcW P T n ws l (k+1) s' K
  |false=>mM P T n o.op o.dst (s.put t x) fun s'=>vcW P T n ws l (k+1) s' K)):=by rw[aiN];rfl
def vcW_lst {ws:List Nat}{o:Oper}{l:List Oper}{k:Nat}{L:List (Nat×S)}:vcW P T n ws (o::l) k (lst L) K=(o.guard=none/\(match ws.contains k with
  |true=>stepW n o.op o.dst (lst L) fun s'=>vcW P T n ws l (k+1) s' K
  |false=>mM P T n o.op o.dst (lst L) fun s'=>vcW P T n ws l (k+1) s' K)):=by rw[aiN];rfl
def vcW_kill {ws:List Nat}{o:Oper}{l:List Oper}{k t:Nat}:vcW P T n ws (o::l) k (s.kill t) K=(o.guard=none/\(match ws.contains k with
  |true=>stepW n o.op o.dst (s.kill t) fun s'=>vcW P T n ws l (k+1) s' K
  |false=>mM P T n o.op o.dst (s.kill t) fun s'=>vcW P T n ws l (k+1) s' K)):=by rw[aiN];rfl
end
attribute [go_sem] vcW_nil vcW_put vcW_lst vcW_kill stepW wrapV
end Go.Dv
end
section
namespace Go
def yN:= @Bool.and_assoc
def jB:= @List.map_set
end Go
end
section
namespace Go.Dv
open Go.RowKit
variable [lL]
section
variable {P:Program}{w:World}{ow:Own}
end
def St.aAZ (s:St)(t:Nat)(p:List Nat):St:=match s t with
 | .own d=>match D.sub p d with
  |some nd=>if D.free p d=true/\d.isAgg=false/\nd.isAgg=false/\nd.w=1/\p≠[]then(s.kill t).put t (.own (D.upd p d nd.fz))else s
  |none=>s
 |_=>s
def fzs_tail (xs:List D):D.fzs xs.tail=(D.fzs xs).tail:=by cases xs<;>rfl
def fzs_set (xs:List D)(i:Nat)(d:D):D.fzs (xs.set i d)=(D.fzs xs).set i d.fz:=by simp[D.jS,jB]
def R5:∀(xs:List D),D.xU xs=true↔∀x∈xs,x.frz=true
 |[]=>by simp[D.xU]
 |x::xs=>by simp[D.xU,R5 xs]
def frzs_tail {xs:List D}(h:D.xU xs=true):D.xU xs.tail=true:=(R5 _).2 fun x hx=>(R5 _).1 h x (List.mem_of_mem_tail hx)
variable {i:Nat}
def aB0 {xs:List D}{d:D}(h:D.xU xs=true)(hd:d.frz=true):D.xU (xs.set i d)=true:=(R5 _).2 fun x hx=>by
 rcases jJ hx with h1|h1
 ·exact(R5 _).1 h x h1
 ·rw[h1];exact hd
def frzs_set1 {xs:List D}{v:Value}(h:D.xU xs=true):D.xU (xs.set i (.one v))=true:=aB0 h (by simp[D.frz])
def frzs_append (xs ys:List D):D.xU (xs++ys)=(D.xU xs&&D.xU ys):=by
 induction xs with
 |nil=>simp[D.xU]
 |cons x xs ih=>simp[D.xU,ih,yN]
attribute [go_sem] St.aAZ fzs_tail fzs_set frzs_tail frzs_set1 frzs_append
end Go.Dv
end
section
namespace Go
def kE:= @Bool.eq_false_iff
def gX:= @List.any_eq_false
def cZ:= @List.any_eq_true
def eD:= @List.filter_append
def fF:= @List.findIdx?_eq_some_iff_getElem
def kG:= @List.foldl_append
def fH:= @List.map_append
end Go
end
section
namespace Go.Pl
open Go.Dv
section
variable {α:Type}{l:List α}{P:α->Bool}{i:Nat}{c:α}
def fV (h:l[i]?=some c)(hp:P c=false):l.all P=false:=List.all_eq_false.2 ⟨c,aA h,by simp[hp]⟩
def bW (h:l[i]?=some c)(h2:(l.take i).all P=true)(hp:P c=true):(l.take (i+1)).all P=true:=by rw[dE h];simp[List.all_append,h2,hp]
def iX (h2:(l.take i).all P=true)(h:l.length<=i):l.all P=true:=by rwa [bJ h]at h2
def avA (h:l[i]?=some c)(hp:P c=true):l.any P=true:=cZ.2 ⟨c,aA h,hp⟩
def kN (h:l[i]?=some c)(h2:(l.take i).any P=false)(hp:P c=false):(l.take (i+1)).any P=false:=by rw[dE h];simp[List.any_append,h2,hp]
def pK (h2:(l.take i).any P=false)(h:l.length<=i):l.any P=false:=by rwa [bJ h]at h2
def ix (P:α->Bool)(l:List α):Int:=match l.findIdx? P with|some i=>i|none=> -1
def sF (h:l.any P=false):ix P l= -1:=by
 unfold ix;rw[List.findIdx?_eq_none_iff.2 (by simpa using h)]
def DZ (h:l[i]?=some c)(h2:(l.take i).any P=false)(hp:P c=true):ix P l=i:=by
 have hlt:=dH h;unfold ix
 have:l.findIdx? P=some i:=by
  rw[fF];refine⟨hlt,?_,fun j hj=> ?_⟩
  ·rw[aB hlt]at h;rw[k_Option_some_inj h];exact hp
  ·have:(l.take i)[j]?=some (l[j]'(by omega)):=by rw[bD,if_pos hj,aB (by omega)]
   have h3:=gX.1 h2 _ (aA this);simpa using h3
 rw[this]
def apJ (P:α->Bool)(l:List α): -1<=ix P l/\ix P l<l.length\/l.length=0/\ix P l= -1:=by
 unfold ix;cases h:l.findIdx? P with
 |none=>simp only;omega
 |some i=>
  have:=(fF.1 h).1;left;simp only;omega
def jC:0<=ix P l↔l.any P=true:=by
 unfold ix;cases h:l.findIdx? P with
 |none=>have:=List.findIdx?_eq_none_iff.1 h;simp;intro x hx;simpa using this x hx
 |some i=>
  obtain⟨h1,h2,_⟩:=fF.1 h;simp only[Int.natCast_nonneg,true_iff,cZ];exact⟨_,List.getElem_mem h1,h2⟩
end
structure Ver where
 a:Int
 b:Int
 same:Bool
 time:Int
structure Tst where
 feature:Int
 threshold:Int
 below:Bool
structure Rec where
 source:Int
 key:Int
 version:Int
 fields:List Str
structure Sco where
 weights:L1
 bias:Int
structure Cfg where
 rules:List (List Tst)
 sco:Sco
 surv:L1
structure Sto where
 version:Int
 recs:List Rec
 vers:List Ver
structure Con where
 a:Int
 b:Int
 same:Bool
deriving DecidableEq,Inhabited
structure Tri where
 a:Int
 b:Int
 c:Int
 w:Int
structure Clu where
 labels:L1
 cost:Int
 exact:Bool
 gap:Int
structure Mov where
 item:Int
 block:Int
 gain:Int
deriving instance DecidableEq,Inhabited for Ver
deriving instance DecidableEq,Inhabited for Tst
deriving instance DecidableEq,Inhabited for Rec
deriving instance DecidableEq,Inhabited for Tri
deriving instance DecidableEq,Inhabited for Mov
def BS (c:UInt8):Bool:=inR c.toNat 32 126
def isText (s:Str):Bool:=s.all BS&&decide (s.length<=40)
def wR (c:UInt8):Bool:= !(decide (c.toNat=124)||decide (c.toNat=59))
def kS (s:Str):Bool:=s.all wR&&isText s
def fQ (v:Ver):Bool:=inR v.a 1 399&&inR v.b 1 399&&decide (v.a<v.b)&&inR v.time 1 999
def aV (r:Rec):Bool:=r.fields.all kS&&inR r.source 0 3&&inR r.key 1 99&&inR r.version 1 999&&decide (r.fields.length=4)
def jQ (r:Rec):Int:=100*r.source+r.key
def J8 (x:Int):Bool:=inR x 0 1000
def vZ (f:L1):Bool:=f.all J8&&decide (f.length=6)
def IL (x:Int):Bool:=inR x 0 9
def mO (s:Sco):Bool:=s.weights.all IL&&decide (s.weights.length=6)&&decide (s.weights.sum>0)&&inR s.bias 0 1000
def TC (x:Int):Bool:=inR x 1 4
def rV (l:L1):Bool:=l.all TC&&decide (l.length=4)
def cmpI (a b:Int):Int:=if a<b then -1 else if a>b then 1 else 0
def gP (a b:Ver):Int:=
 if cmpI a.a b.a≠0 then cmpI a.a b.a else if cmpI a.b b.b≠0 then cmpI a.b b.b else if cmpI a.time b.time≠0 then cmpI a.time b.time else if a.same=b.same then 0 else if b.same then -1 else 1
def adj {α:Type}(R:α->α->Bool):List α->Bool
 |[]=>true
 |[_]=>true
 |a::b::l=>R a b&&adj R (b::l)
@[simp] def aMM {α:Type}(R:α->α->Bool):adj R []=true:=rfl
def lI (l:List Ver):Bool:=l.all fQ&&adj (fun a b=>decide (gP a b<0)) l&&decide (l.length<=8)
def KC (t:Tst):Bool:=inR t.feature 0 5&&inR t.threshold 1 1000
def jE (l:List Tst):Bool:=l.all KC&&adj (fun a b=>decide (a.feature<b.feature)) l&&inR l.length 1 3
def jH (r:List (List Tst)):Bool:=r.all jE&&inR r.length 1 3
def kR (c:Cfg):Bool:=jH c.rules&&mO c.sco&&rV c.surv
def iW (s:Sto):Bool:=s.recs.all aV&&adj (fun a b=>decide (jQ a<jQ b)) s.recs&&inR s.version 0 999&&decide (s.recs.length<=8)&&lI s.vers
def ab2 (s:Str):Prop:=s.length<=1048576
def zW (r:Rec):Prop:=r.fields.length<=1048576/\∀f∈r.fields,ab2 f
def aeI {α:Type}{R:α->α->Bool}:∀{l:List α},adj R l=true↔∀(i:Nat) (a b:α),l[i]?=some a->l[i+1]?=some b->R a b=true
 |[]=>by simp[adj]
 |[x]=>by simp[adj]
 |x::y::l=>by
  simp only[adj,k_Bool_and_eq_true,aeI (l:=y::l)];constructor
  ·rintro⟨h1,h2⟩ i a b ha hb;cases i with
   |zero=>simp at ha hb;subst ha;subst hb;exact h1
   |succ i=>exact h2 i a b (by simpa using ha) (by simpa using hb)
  ·intro h;exact⟨h 0 x y rfl rfl,fun i a b ha hb=>h (i+1) a b (by simpa using ha) (by simpa using hb)⟩
def LJ {α:Type}{R:α->α->Bool}{l:List α}{i:Nat}{a b:α}(ha:l[i]?=some a)(hb:l[i+1]?=some b)(h:R a b=false):adj R l=false:=by
 rw[kE];intro h';rw[aeI.1 h' i a b ha hb]at h;cases h
def wO {α:Type}{R:α->α->Bool}{l:List α}:adj R (l.take 1)=true:=by
 cases l<;>simp[adj]
def zX {α:Type}{R:α->α->Bool}{l:List α}{i:Nat}{a b:α}(h:adj R (l.take (i+1))=true)(ha:l[i]?=some a)(hb:l[i+1]?=some b)(hr:R a b=true):adj R (l.take (i+1+1))=true:=by
 rw[aeI]at h|-
 intro j x y hx hy;rw[bD]at hx hy;split at hy
 rotate_left
 ·cases hy
 rw[if_pos (by omega)]at hx;by_cases hj:j=i
 ·subst hj;rw[ha]at hx;rw[hb]at hy;obtain rfl:=k_Option_some_inj hx;obtain rfl:=k_Option_some_inj hy;exact hr
 ·exact h j x y (by rw[bD,if_pos (by omega)];exact hx) (by rw[bD,if_pos (by omega)];exact hy)
end Go.Pl
namespace Go.Pl
open Go.Dv
def rW (out:List Ver)(v:Ver):List Ver:=match out[out.length-1]? with
 |none=>out++[v]
 |some u=>if u.a≠v.a\/u.b≠v.b then out++[v]else if u.time<v.time then out.set (out.length-1) v else out
def gY (l:List Ver):List Ver:=l.foldl rW []
variable {α β:Type}{l:List α}{i:Nat}{c:α}
def dK (f:β->α->β)(b:β)(h:l[i]?=some c):(l.take (i+1)).foldl f b=f ((l.take i).foldl f b) c:=by
 rw[dE h,kG];rfl
def lV (f:α->Option β)(h:l[i]?=some c):(l.take (i+1)).filterMap f=(l.take i).filterMap f++(f c).toList:=by
 rw[dE h,List.filterMap_append];cases hf:f c<;>simp[hf]
def uI (f:α->β)(h:l[i]?=some c):(l.take (i+1)).map f=(l.take i).map f++[f c]:=by
 rw[dE h,fH];rfl
def BI (p:α->Bool)(h:l[i]?=some c):(l.take (i+1)).filter p=(l.take i).filter p++(if p c then[c]else[]):=by
 rw[dE h,eD];cases hf:p c<;>simp[hf]
def grp (x:Int)(g:L1):Bool:=g.any fun y=>decide (y=x)
def eZ (g:L2)(x:Int):Int:=ix (grp x) g
def EA (g:L2)(v:Ver):Bool:= !(decide (eZ g v.a>=0)&&decide (eZ g v.a=eZ g v.b))
abbrev place (items:L1)(x:Int):Int:=ix (fun y=>decide (y=x)) items
def KD (items:L1)(v:Ver):Option Con:=if 0<=place items v.a/\place items v.a<place items v.b then some ⟨place items v.a,place items v.b,v.same⟩else none
def IK (l:List Ver)(items:L1):List Con:=l.filterMap (KD items)
end Go.Pl
end
section
namespace Go
def aC:= @List.getD_eq_getElem?_getD
def dN:= @List.range_succ
end Go
end
section
namespace Go.Pl
open Go.Dv
variable {σ:Type}
def loopN (n:Nat)(s:σ)(f:Nat->σ->σ):σ:=(List.range n).foldl (fun s i=>f i s) s
def loopN_zero (s:σ)(f:Nat->σ->σ):loopN 0 s f=s:=rfl
def aM (n:Nat)(s:σ)(f:Nat->σ->σ):loopN (n+1) s f=f n (loopN n s f):=by simp[loopN,dN]
variable {n:Nat}
def loopN_inv (p:Nat->σ->Prop){s:σ}{f:Nat->σ->σ}(h0:p 0 s)(hs:∀i x,i<n->p i x->p (i+1) (f i x)):p n (loopN n s f):=by
 induction n with
 |zero=>exact h0
 |succ n ih=>rw[aM];exact hs n _ (Nat.lt_succ_self n) (ih fun i x hi=>hs i x (by omega))
variable {P:Nat->Bool}{i:Nat}
def nM (h:i<n)(hp:P i=false):(List.range n).all P=false:=List.all_eq_false.2 ⟨i,bB.2 h,by simp[hp]⟩
def oZ (h:(List.range i).all P=true)(hp:P i=true):(List.range (i+1)).all P=true:=by rw[dN];simp[List.all_append,hp];simpa using h
def NM (h:(List.range i).all P=true)(h1:n<=i:=by omega)(h2:i<=n:=by omega):(List.range n).all P=true:=by obtain rfl:i=n:=(by omega);exact h
def at1 (l:L1)(i:Nat):Int:=l.getD i 0
def at2 (m:L2)(i k:Nat):Int:=(m.getD i []).getD k 0
def atB (m:List (List Bool))(i k:Nat):Bool:=(m.getD i []).getD k false
variable {l:L1}{c:Int}
def aa5 (h:l[i]?=some c):at1 l i=c:=by simp[at1,aC,h]
variable {m:L2}{k:Nat}
def QR {r:L1}(h:m[i]?=some r)(h2:r[k]?=some c):at2 m i k=c:=by simp[at2,aC,h,h2]
variable {r:List Bool}
def aAL {m:List (List Bool)}{c:Bool}(h:m[i]?=some r)(h2:r[k]?=some c):atB m i k=c:=by simp[atB,aC,h,h2]
def JY (m:L2)(i k:Nat):Bool:=inR (at2 m i k) (-1000) 1000&&decide (at2 m i k=at2 m k i)&&(decide (i≠k)||decide (at2 m i k=0))
def bR (m:L2):Bool:=m.all (fun r=>decide (r.length=m.length))&&(List.range m.length).all (fun i=>(List.range m.length).all (JY m i))&&inR m.length 1 8
def DC (top:Int):L1->Bool
 |[]=>true
 |x::l=>inR x 0 (top+1)&&DC (max top x) l
def gD (l:L1):Bool:=DC (-1) l&&inR l.length 1 8
def PW (n:Int)(c:Con):Bool:=inR c.a 0 (n-1)&&inR c.b 0 (n-1)&&decide (c.a<c.b)
def cO (n:Int)(l:List Con):Bool:=l.all (PW n)&&inR n 1 8&&decide (l.length<=10)
def yZ (l:L1)(c:Con):Bool:=inR c.a 0 (l.length-1)&&inR c.b 0 (l.length-1)&&(decide (at1 l c.a.toNat=at1 l c.b.toNat)==c.same)
def tL (m:L2)(l:L1)(i k:Nat):Int:=if at2 m i k>0/\at1 l i≠at1 l k then at2 m i k else if at2 m i k<0/\at1 l i=at1 l k then-at2 m i k else 0
def AU (m:L2)(l:L1)(i:Nat)(s:Int):Int:=loopN i s fun k s=>s+tL m l i k
def dP (m:L2)(l:L1):Int:=loopN l.length 0 (AU m l)
def VD (m:List (List Bool))(i k:Nat)(v:Bool):List (List Bool):=m.set i ((m.getD i []).set k v)
def noLinks (n:Nat):List (List Bool):=List.replicate n (List.replicate n false)
def spB (M:List (List Bool))(x:Int)(a b:Nat)(o:L1):L1:=if at1 o a=x/\atB M a b=true then o.set b x else o
def spA (n:Nat)(M:List (List Bool))(x:Int)(a:Nat)(o:L1):L1:=loopN n o (spB M x a)
def spS (n:Nat)(M:List (List Bool))(x:Int)(_:Nat)(o:L1):L1:=loopN n o (spA n M x)
def spread (n:Nat)(M:List (List Bool))(x:Int)(o:L1):L1:=loopN n o (spS n M x)
def LA (n:Nat)(M:List (List Bool))(i:Nat)(s:L1×Int):L1×Int:=if 0<=at1 s.1 i then s else(spread n M s.2 (s.1.set i s.2),s.2+1)
def apQ (n:Nat)(M:List (List Bool)):L1×Int:=loopN n (List.replicate n (-1),0) (LA n M)
def mustStep (M:List (List Bool))(c:Con):List (List Bool):=if c.same then VD (VD M c.a.toNat c.b.toNat true) c.b.toNat c.a.toNat true else M
def nR (n:Nat)(l:List Con):List (List Bool):=l.foldl mustStep (noLinks n)
def eH (n:Nat)(l:List Con):L1:=(apQ n (nR n l)).1
def IV (lab:L1)(c:Con):Bool:= !c.same&&decide (at1 lab c.a.toNat=at1 lab c.b.toNat)
def xS (n:Nat)(l:List Con):Int:=if cO n l then ix (IV (eH n l)) l else -1
def eQ (n:Nat)(l:List Con):Bool:=cO n l&&decide (xS n l<0)
def posRow (m:L2)(i k:Nat)(M:List (List Bool)):List (List Bool):=VD M i k (decide (at2 m i k>0))
def aaJ (m:L2):List (List Bool):=loopN m.length (noLinks m.length) fun i M=>loopN m.length M (posRow m i)
def pX (m:L2):L1:=(apQ m.length (aaJ m)).1
def H7 (a b:L1)(i k:Nat)(M:List (List Bool)):List (List Bool):=VD M i k (decide (at1 a i=at1 a k)||decide (at1 b i=at1 b k))
def TZ (a b:L1):List (List Bool):=loopN a.length (noLinks a.length) fun i M=>loopN a.length M (H7 a b i)
def FZ (a b:L1):L1:=(apQ a.length (TZ a b)).1
def BG (items:L1)(c:Con):Option Con:=if 0<=place items c.a/\0<=place items c.b then some ⟨place items c.a,place items c.b,c.same⟩else none
def iK (l:List Con)(items:L1):List Con:=l.filterMap (BG items)
def sqB (n:Nat)(M:List (List Bool)):Prop:=M.length=n/\∀r∈M,r.length=n
def aiE (n:Nat):sqB n (noLinks n):=⟨by simp[noLinks],fun r hr=>by obtain⟨_,rfl⟩:=nZ.1 hr;simp⟩
variable {M:List (List Bool)}{v:Bool}
def sqB_set (h:sqB n M):sqB n (VD M i k v):=by
 refine⟨by simp[VD,h.1],fun r hr=> ?_⟩;rcases jJ hr with h1|rfl
 ·exact h.2 r h1
 ·by_cases hi:i<M.length
  ·simp[aC,hi];exact h.2 _ (List.getElem_mem hi)
  ·rw[VD,rD (by omega)]at hr;exact h.2 _ hr
variable {a:Nat}
def awK (h:sqB n M)(ha:a<n):∃r,M[a]?=some r/\r.length=n:=by
 obtain⟨r,hr⟩:=aO (l:=M) (i:=a) (by rw[h.1];exact ha);exact⟨r,hr,h.2 r (aA hr)⟩
def ER (h:bR m=true)(ha:a<m.length):∃r,m[a]?=some r/\r.length=m.length:=by
 obtain⟨r,hr⟩:=aO (l:=m) (i:=a) ha;simp only[bR,k_Bool_and_eq_true,aH,decide_eq_true_eq]at h;exact⟨r,hr,h.1.1 r (aA hr)⟩
def dM (h:bR m=true):1<=m.length/\m.length<=8:=by
 simp only[bR,k_Bool_and_eq_true,decide_eq_true_eq]at h;omega
def iL (h:bR m=true)(i k:Nat): -1000<=at2 m i k/\at2 m i k<=1000:=by
 by_cases hi:i<m.length
 ·by_cases hk:k<m.length
  ·simp only[bR,k_Bool_and_eq_true,aH,bB]at h;have:=h.1.2 i hi k hk;simp only[JY,k_Bool_and_eq_true,decide_eq_true_eq]at this;exact this.1.1
  ·obtain⟨r,h1,h2⟩:=ER h hi;simp[at2,aC,h1,k_List_getElem__eq_none (show r.length<=k by omega)]
 ·simp[at2,aC,k_List_getElem__eq_none (show m.length<=i by omega)]
def mV (a b:L1):Bool:=gD a&&gD b&&decide (a.length=b.length)
def apK (a b:L1):L1:=if mV a b=true then FZ a b else[]
def dJ (m:L2)(cs:List Con):L1:=if bR m=true/\cO m.length cs=true then apK (pX m) (eH m.length cs)else[]
def vJ (x:Int)(s:L1)(n:Nat):Int:=loopN n (-1) fun j a=>if at1 s j=x then(j:Int)else a
def jM (s:L1×L1)(x:Int):L1×L1:=if vJ x s.2 s.2.length<0 then(s.1++[(s.2.length:Int)],s.2++[x])else(s.1++[vJ x s.2 s.2.length],s.2)
def canon (l:L1):L1:=(l.foldl jM ([],[])).1
def lJ (h:bR m=true)(hi:i<m.length:=by omega)(hk:k<m.length:=by omega):∃r,m[i]?=some r/\r[k]?=some (at2 m i k):=by
 obtain⟨r,h1,h2⟩:=ER h hi;obtain⟨c,hc⟩:=aO (l:=r) (i:=k);exact⟨r,h1,by rw[QR h1 hc];exact hc⟩
def aY (hi:i<l.length:=by omega):l[i]?=some (at1 l i):=by
 obtain⟨c,hc⟩:=aO hi;rw[aa5 hc];exact hc
def aaR (h:M[i]?=some r):VD M i k v=M.set i (r.set k v):=by simp[VD,aC,h]
def aaU {b:Nat}(h:sqB n M)(ha:a<n:=by omega)(hb:b<n:=by omega):∃r,M[a]?=some r/\r.length=n/\r[b]?=some (atB M a b):=by
 obtain⟨r,h1,h2⟩:=awK h ha;obtain⟨c,hc⟩:=aO (l:=r) (i:=b);exact⟨r,h1,h2,by rw[aAL h1 hc];exact hc⟩
def mQ {n:Int}{l:List Con}(h:cO n l=true):1<=n/\n<=8/\l.length<=10/\∀c∈l,0<=c.a/\c.a<c.b/\c.b<n:=by
 simp only[cO,k_Bool_and_eq_true,decide_eq_true_eq,aH]at h;refine⟨h.1.2.1,h.1.2.2,h.2,fun c hc=> ?_⟩;have:=h.1.1 c hc;simp only[PW,k_Bool_and_eq_true,decide_eq_true_eq]at this;omega
def auV {x:Int}{o:L1}(h:o.length=n):(spread n M x o).length=n:=by
 refine loopN_inv (fun _ (o:L1)=>o.length=n) h fun a o _ ho=> ?_;refine loopN_inv (fun _ (o:L1)=>o.length=n) ho fun b o _ ho=> ?_;refine loopN_inv (fun _ (o:L1)=>o.length=n) ho fun c o _ ho=> ?_;unfold spB;split<;>simp[ho]
def SC (n:Nat)(M:List (List Bool)):(apQ n M).1.length=n:=by
 refine loopN_inv (fun _ (s:L1×Int)=>s.1.length=n) (by simp) fun i s _ hs=> ?_;unfold LA;split
 ·exact hs
 ·exact auV (by simp[hs])
def isPart_len (h:gD l=true):1<=l.length/\l.length<=8:=by
 simp only[gD,k_Bool_and_eq_true,decide_eq_true_eq]at h;omega
def aaI {a b:L1}(h:mV a b=true):gD a=true/\gD b=true/\a.length=b.length:=by
 simp only[mV,k_Bool_and_eq_true,decide_eq_true_eq]at h;exact⟨h.1.1,h.1.2,h.2⟩
end Go.Pl
end
section
namespace Go
def kT:= @Int.tdiv_eq_ediv_of_nonneg
end Go
end
section
namespace Go.Pl
open Go.Dv
def JR {a b:Int}(ha:0<=a:=by omega)(hb:0<=b:=by omega)(h:a<=9000000000000000000:=by omega):inI .i64 (a.tdiv b):=by
 rw[kT ha];have h1:=Int.ediv_nonneg ha hb;have h2:=Int.ediv_le_self b ha;simp only[inI];omega
def ratio (n d:Int):Int:=if d=0 then 1000 else(1000*n).tdiv d
def tK (l w:L1)(i:Nat):Bool:=inR (at1 l i) 0 1000&&inR (at1 w i) 0 1000
def yJ (l w:L1)(n:Nat):Int:=loopN n 0 fun i s=>s+at1 l i*at1 w i
def uV (w:L1)(n:Nat):Int:=loopN n 0 fun i s=>s+at1 w i
def pO (l w:L1):Int:=if l.length=w.length/\(List.range l.length).all (tK l w)=true then(if uV w l.length=0 then 0 else(yJ l w l.length).tdiv (uV w l.length))else 0
def jP (s:Sco)(f:L1):Int:=if mO s=true/\vZ f=true then pO f s.weights else 0
def qM (f:L1)(t:Tst):Bool:=vZ f&&inR t.feature 0 5&&(decide (t.threshold<=at1 f t.feature.toNat) !=t.below)
def uL (f:L1)(r:List Tst):Bool:=r.all (qM f)&&vZ f
def tN (rs:List (List Tst))(f:L1):Int:=if jH rs=true then ix (uL f) rs else -1
def iZ (rs:List (List Tst))(s:Sco)(f:L1):Int:=if jH rs=true/\mO s=true/\vZ f=true then(if 0<=tN rs f then max 1 (jP s f-s.bias)else min (-1) (jP s f-s.bias))else 0
variable {l:L1}
def EC {w:L1}(n:Nat)(h:∀i<n,tK l w i=true):0<=yJ l w n/\yJ l w n<=1000000*n:=by
 refine loopN_inv (fun n s=>0<=s/\s<=1000000*(n:Int)) (by omega) fun i s hi hs=> ?_;have:=h i hi;simp only[tK,k_Bool_and_eq_true,decide_eq_true_eq]at this;have h1:0<=at1 l i*at1 w i:=Int.mul_nonneg this.1.1 this.2.1;have h2:at1 l i*at1 w i<=1000*1000:=Int.mul_le_mul this.1.2 this.2.2 this.2.1 (by omega);omega
def EB {w:L1}(n:Nat)(h:∀i<n,tK l w i=true):0<=uV w n/\uV w n<=1000*n:=by
 refine loopN_inv (fun n s=>0<=s/\s<=1000*(n:Int)) (by omega) fun i s hi hs=> ?_;have:=h i hi;simp only[tK,k_Bool_and_eq_true,decide_eq_true_eq]at this;omega
def asO (l w:L1)(hl:Qle l):0<=pO l w/\pO l w<=1000000*1048576:=by
 unfold pO;split
 ·next h=>
  have h1:∀i<l.length,tK l w i=true:=fun i hi=>aH.1 h.2 i (bB.2 hi);have a:=EC l.length h1;have b:=EB l.length h1;split
  ·omega
  ·rw[kT a.1];refine⟨Int.ediv_nonneg a.1 b.1,?_⟩;have:=Int.ediv_le_self (uV w l.length) a.1;omega
 ·omega
def aaG (s:Sco)(f:L1)(hl:Qle f):0<=jP s f/\jP s f<=1000000*1048576:=by
 unfold jP;split
 ·exact asO _ _ hl
 ·omega
def gat (g:L2)(i:Nat):L1:=g.getD i []
def CU {g:L2}{i:Nat}{r:L1}(h:g[i]?=some r):gat g i=r:=by simp[gat,aC,h]
def AC (g:L2)(a b:Int):L2:=loopN g.length [] fun i o=>if(i:Int)≠a/\(i:Int)≠b then o++[gat g i]else o
def qA (g:L2)(x y:Int):L2:=
 if 0<=eZ g x/\eZ g x=eZ g y then AC g (eZ g x) (eZ g y)++[gat g (eZ g x).toNat]
 else AC g (eZ g x) (eZ g y)++[(if 0<=eZ g x then gat g (eZ g x).toNat else[x])++(if 0<=eZ g y then gat g (eZ g y).toNat else[y])]
def wK (l:List Ver):List Ver:=l.filter fun v=>v.same
def apart (l:List Ver):List Ver:=l.filter fun v=> !v.same
def joined (l:List Ver):L2:=(wK l).foldl (fun g v=>qA g v.a v.b) []
end Go.Pl
end
section
namespace Go.Dv
open Go.RowKit
class xD (P:Program) (T:outParam (TypeId->TyE)):Prop where
 g:∀t,Good P T t
end Go.Dv
end
section
namespace Go.Dv
open Go.RowKit Go.Pl
variable [lL]
class aJG where
 K:Exit->St->Prop
class aLC where
 c:Code
def noC (p:Pin):Code->Bool
 | .region _ ops _=>qC p ops.toList
 | .seq a b=>noC p a&&noC p b
 | .cond _ a b=>noC p a&&noC p b
 | .block _ c=>noC p c
 | .loop c=>noC p c
 |_=>true
def ES:Code->Nat
 | .region i _ _=>2*i+1
 | .block i _=>100000+i
 | .seq _ b=>ES b
 |_=>0
variable {ops:Array Oper}
def apW {i:Nat}{d:Bool}:ES (.region i ops d)=2*i+1:=rfl
def apR {i:Nat}{c:Code}:ES (.block i c)=100000+i:=rfl
def apX {a b:Code}:ES (.seq a b)=ES b:=rfl
def apS {c:Operand}{a b:Code}:ES (.cond c a b)=0:=rfl
def apV {c:Code}:ES (.loop c)=0:=rfl
def apU:ES .skip=0:=rfl
def apT {i:Nat}:ES (.exit i)=0:=rfl
def apY:ES .ret=0:=rfl
def AL:∀c:Code,noC none c=true
 | .region _ ops _=>rfl
 | .seq a b=>by simp[noC,AL a,AL b]
 | .cond _ a b=>by simp[noC,AL a,AL b]
 | .block _ c=>by simp[noC,AL c]
 | .loop c=>by simp[noC,AL c]
 | .skip=>rfl
 | .rangeFunc ..=>rfl
 | .exit _=>rfl
 | .scope _=>rfl
 | .label _=>rfl
 | .goto _=>rfl
 | .ret=>rfl
 | .refuse _=>rfl
section
def rO (P:Program)(T:TypeId->TyE)(n:Nat)(w0:World)(ow0:Own)(p:Pin)(sp:List Nat)[c:aLC](s:St)[k:aJG]:Prop:=noC p c.c=true->OkC P n w0 ow0 p c.c s k.K
def WC0 (P:Program)(T:TypeId->TyE)(n:Nat)(w0:World)(ow0:Own)(p:Pin)(sp:List Nat):Code->St->(Exit->St->Prop)->Prop
 | .skip,s,K=>K .normal s
 | .ret,s,K=>K .ret s
 | .exit i,s,K=>K (.exit i) s
 | .label _,s,K=>K .normal s
 | .seq x y,s,K=>WC0 P T n w0 ow0 p sp x s (thenK (fun s'=>if(sp.contains (ES x))=true then @rO _ P T n w0 ow0 p sp ⟨y⟩ s' ⟨K⟩else WC0 P T n w0 ow0 p sp y s' K) K)
 | .block i c,s,K=>if sp.contains (200000+i)=true then @rO _ P T n w0 ow0 p sp ⟨c⟩ s ⟨blockK i K⟩else WC0 P T n w0 ow0 p sp c s (blockK i K)
 | .cond c x y,s,K=> @gQ (evS s c) ⟨WC0 P T n w0 ow0 p sp x s K⟩ ⟨WC0 P T n w0 ow0 p sp y s K⟩
 | .region i ops false,s,K=>if sp.contains (2*i)=true then @rO _ P T n w0 ow0 p sp ⟨.region i ops false⟩ s ⟨K⟩else vcL P T n ops ops.toList s (fun s'=>K .normal s')
 |c,s,K=> @rO _ P T n w0 ow0 p sp ⟨c⟩ s ⟨K⟩
def aIQ (P:Program)(T:TypeId->TyE)(n:Nat)(w0:World)(ow0:Own)(p:Pin)(sp:List Nat):∃f:Code->St->(Exit->St->Prop)->Prop,f=WC0 P T n w0 ow0 p sp:=⟨_,rfl⟩
noncomputable def WCf (P:Program)(T:TypeId->TyE)(n:Nat)(w0:World)(ow0:Own)(p:Pin)(sp:List Nat):Code->St->(Exit->St->Prop)->Prop:=Classical.choose (aIQ P T n w0 ow0 p sp)
def GK (P:Program)(T:TypeId->TyE)(n:Nat)(w0:World)(ow0:Own)(p:Pin)(sp:List Nat):WCf P T n w0 ow0 p sp=WC0 P T n w0 ow0 p sp:=iO (aIQ P T n w0 ow0 p sp)
def WC (P:Program)(T:TypeId->TyE)(n:Nat)(w0:World)(ow0:Own)(p:Pin)(sp:List Nat)[c:aLC](s:St)[k:aJG]:Prop:=WCf P T n w0 ow0 p sp c.c s k.K
end
variable {f:FuncId}
section
variable {P:Program}{T:TypeId->TyE}{n:Nat}{w0:World}{ow0:Own}{p:Pin}{sp:List Nat}{s:St}{K:Exit->St->Prop}
def aa3 (hG:∀t,Good P T t):∀(c:Code) (s:St) (K:Exit->St->Prop),WC0 P T n w0 ow0 p sp c s K->noC p c=true->OkC P n w0 ow0 p c s K
 | .skip,s,K,h,_=>aDV h
 | .ret,s,K,h,_=>aHP h
 | .exit i,s,K,h,_=>aDU h
 | .label _,s,K,h,_=>ayW h
 | .seq x y,s,K,h,hn=>by
  simp only[noC,k_Bool_and_eq_true]at hn;unfold WC0 at h;refine amT (SI (aa3 hG x s _ h hn.1) fun e s' h'=> ?_);cases e with
  |normal=>
   simp only[thenK]at h'|-
   generalize sp.contains (ES x)=b at h';cases b with
   |true=>exact h' hn.2
   |false=>exact aa3 hG y s' K h' hn.2
  |_=>exact h'
 | .block i c,s,K,h,hn=>by
  unfold WC0 at h;split at h
  ·exact akQ (h hn)
  ·exact akQ (aa3 hG c s _ h hn)
 | .cond c x y,s,K,h,hn=>by
  simp only[noC,k_Bool_and_eq_true]at hn;unfold WC0 at h;refine aKE ?_;unfold gQ at*
  split at h
  ·exact⟨fun e=>aa3 hG x s K (h.1 e) hn.1,fun e=>aa3 hG y s K (h.2 e) hn.2⟩
  ·exact h.elim
 | .region i ops d,s,K,h,hn=>by
  cases d with
  |true=>exact h hn
  |false=>
   unfold WC0 at h;split at h
   ·exact h hn
   ·exact aDW hG h hn
 | .loop c,s,K,h,hn=>h hn
 | .rangeFunc ..,s,K,h,hn=>h hn
 | .scope _,s,K,h,hn=>h hn
 | .goto _,s,K,h,hn=>h hn
 | .refuse _,s,K,h,hn=>h hn
def wcI (hG:∀t,Good P T t)(sp:List Nat){c:Code}(h: @WC _ P T n w0 ow0 p sp ⟨c⟩ s ⟨K⟩)(hn:noC p c=true):OkC P n w0 ow0 p c s K:=by
 unfold WC at h;rw[GK]at h;exact aa3 hG c s K h hn
def PV (s:St)[k:aJG]:Prop:=k.K .normal s
def anX {t:Nat}{x:S}: @PV (s.put t x) ⟨K⟩=K .normal (s.put t x):=rfl
def anW {L:List (Nat×S)}: @PV (lst L) ⟨K⟩=K .normal (lst L):=rfl
def anV {ds:List D}: @PV (argSt ds) ⟨K⟩=K .normal (argSt ds):=rfl
def ajM {t:Nat}: @PV (s.kill t) ⟨K⟩=K .normal (s.kill t):=rfl
def wc_skip: @WC _ P T n w0 ow0 p sp ⟨.skip⟩ s ⟨K⟩=K .normal s:=by unfold WC;rw[GK];rfl
def wc_ret: @WC _ P T n w0 ow0 p sp ⟨.ret⟩ s ⟨K⟩=K .ret s:=by unfold WC;rw[GK];rfl
def wc_exit {i:Nat}: @WC _ P T n w0 ow0 p sp ⟨.exit i⟩ s ⟨K⟩=K (.exit i) s:=by unfold WC;rw[GK];rfl
def wc_label {i:Nat}: @WC _ P T n w0 ow0 p sp ⟨.label i⟩ s ⟨K⟩=K .normal s:=by unfold WC;rw[GK];rfl
def wc_loop {c:Code}: @WC _ P T n w0 ow0 p sp ⟨.loop c⟩ s ⟨K⟩= @rO _ P T n w0 ow0 p sp ⟨.loop c⟩ s ⟨K⟩:=by unfold WC;rw[GK];rfl
def wc_rf {f:Operand}{ps:Array Tmp}{a b:Code}: @WC _ P T n w0 ow0 p sp ⟨.rangeFunc f ps a b⟩ s ⟨K⟩= @rO _ P T n w0 ow0 p sp ⟨.rangeFunc f ps a b⟩ s ⟨K⟩:=by unfold WC;rw[GK];rfl
def wc_draw {i:Nat}: @WC _ P T n w0 ow0 p sp ⟨.region i ops true⟩ s ⟨K⟩= @rO _ P T n w0 ow0 p sp ⟨.region i ops true⟩ s ⟨K⟩:=by unfold WC;rw[GK];rfl
def wc_cond {c:Operand}{x y:Code}: @WC _ P T n w0 ow0 p sp ⟨.cond c x y⟩ s ⟨K⟩= @gQ (evS s c) ⟨@WC _ P T n w0 ow0 p sp ⟨x⟩ s ⟨K⟩⟩ ⟨@WC _ P T n w0 ow0 p sp ⟨y⟩ s ⟨K⟩⟩:=by unfold WC;rw[GK];rfl
def stB (b:Bool)[A:ae4][B:ae5]:Prop:=if b=true then A.P else B.P
def arM {A B:Prop}: @stB true ⟨A⟩ ⟨B⟩=A:=rfl
def ak6 {A B:Prop}: @stB false ⟨A⟩ ⟨B⟩=B:=rfl
def wc_block {i:Nat}{c:Code}: @WC _ P T n w0 ow0 p sp ⟨.block i c⟩ s ⟨K⟩= @stB (sp.contains (200000+i)) ⟨@rO _ P T n w0 ow0 p sp ⟨c⟩ s ⟨blockK i K⟩⟩ ⟨@WC _ P T n w0 ow0 p sp ⟨c⟩ s ⟨blockK i K⟩⟩:=by unfold WC;rw[GK];rfl
def wc_region {i:Nat}: @WC _ P T n w0 ow0 p sp ⟨.region i ops false⟩ s ⟨K⟩= @stB (sp.contains (2*i)) ⟨@rO _ P T n w0 ow0 p sp ⟨.region i ops false⟩ s ⟨K⟩⟩ ⟨vcL P T n ops ops.toList s (fun s'=> @PV s' ⟨K⟩)⟩:=by unfold WC;rw[GK];rfl
def wc_seq {x y:Code}: @WC _ P T n w0 ow0 p sp ⟨.seq x y⟩ s ⟨K⟩= @WC _ P T n w0 ow0 p sp ⟨x⟩ s ⟨thenK (fun s'=> @stB (sp.contains (ES x)) ⟨@rO _ P T n w0 ow0 p sp ⟨y⟩ s' ⟨K⟩⟩ ⟨@WC _ P T n w0 ow0 p sp ⟨y⟩ s' ⟨K⟩⟩) K⟩:=by unfold WC stB;rw[GK];rfl
def awQ {N:St->Prop}:thenK N K .normal s=N s:=rfl
def awP {N:St->Prop}{i:Nat}:thenK N K (.exit i) s=K (.exit i) s:=rfl
def awR {N:St->Prop}:thenK N K .ret s=K .ret s:=rfl
def anZ {i:Nat}:blockK i K .normal s=K .normal s:=rfl
def anY {i j:Nat}:blockK i K (.exit j) s=if j=i then K .normal s else K (.exit j) s:=rfl
def an0 {i:Nat}:blockK i K .ret s=K .ret s:=rfl
inductive Nx {X:Type}(I:X->List (Nat×S)) (μ:X->Nat) (ok:X->Prop) (m:Nat) (s:St):Prop
 |mk (y:X) (ts:List Nat) (h1:ok y) (h2:μ y<m) (h3:wI (s.DN ts) (I y) (I y)):Nx I μ ok m s
inductive Jn {X:Type}(I:X->List (Nat×S)) (ok:X->Prop) (s:St):Prop
 |mk (y:X) (ts:List Nat) (h1:ok y) (h3:wI (s.DN ts) (I y) (I y)):Jn I ok s
def nx {X:Type}{I:X->List (Nat×S)}{μ:X->Nat}{ok:X->Prop}{m:Nat}(y:X)(h1:ok y)(h2:μ y<m:=by show _<_;first|omega|(simp<;>omega))(h3:wI s (I y) (I y):=by simp[go_sem]): @blk St s ⟨fun s'=>Nx I μ ok m s'⟩:=⟨y,[],h1,h2,h3⟩
def nxc {X:Type}{I:X->List (Nat×S)}{μ:X->Nat}{ok:X->Prop}{m:Nat}(y:X)(ts:List Nat)(h1:ok y)(h2:μ y<m:=by show _<_;first|omega|(simp<;>omega))(h3:wI (s.DN ts) (I y) (I y):=by simp[go_sem]): @blk St s ⟨fun s'=>Nx I μ ok m s'⟩:=⟨y,ts,h1,h2,h3⟩
def jn {X:Type}{I:X->List (Nat×S)}{ok:X->Prop}(y:X)(h1:ok y)(h3:wI s (I y) (I y):=by simp[go_sem]): @blk St s ⟨fun s'=>Jn I ok s'⟩:=⟨y,[],h1,h3⟩
def jnc {X:Type}{I:X->List (Nat×S)}{ok:X->Prop}(y:X)(ts:List Nat)(h1:ok y)(h3:wI (s.DN ts) (I y) (I y):=by simp[go_sem]): @blk St s ⟨fun s'=>Jn I ok s'⟩:=⟨y,ts,h1,h3⟩
def wl [hG:xD P T] {c:Code}{X:Type}(I:X->List (Nat×S)) (μ:X->Nat) (ok:X->Prop) (x0:X) (hx:ok x0)
  (round:∀x,ok x-> @WC _ P T n w0 ow0 p sp ⟨c⟩ (lst (I x)) ⟨thenK (fun s'=> @blk St s' ⟨fun s'=>Nx I μ ok (μ x) s'⟩) K⟩) (h0:wI s (I x0) (I x0):=by simp[go_sem]): @rO _ P T n w0 ow0 p sp ⟨.loop c⟩ s ⟨K⟩:=fun hn=>
 aqY (fun x=>lst (I x)) μ ok x0 hx (vP [] h0) fun x hok=>SI (wcI hG.g sp (round x hok) hn) fun e s' h=>by
  cases e with
  |normal=>obtain⟨y,ts,h1,h2,h3⟩:=h;exact⟨y,h1,h2,vP ts h3⟩
  |_=>exact h
def wlc [hG:xD P T] {c:Code}{X:Type}(ts0:List Nat) (I:X->List (Nat×S)) (μ:X->Nat) (ok:X->Prop) (x0:X) (hx:ok x0)
  (round:∀x,ok x-> @WC _ P T n w0 ow0 p sp ⟨c⟩ (lst (I x)) ⟨thenK (fun s'=> @blk St s' ⟨fun s'=>Nx I μ ok (μ x) s'⟩) K⟩) (h0:wI (s.DN ts0) (I x0) (I x0):=by simp[go_sem]): @rO _ P T n w0 ow0 p sp ⟨.loop c⟩ s ⟨K⟩:=fun hn=>
 aqY (fun x=>lst (I x)) μ ok x0 hx (vP ts0 h0) fun x hok=>SI (wcI hG.g sp (round x hok) hn) fun e s' h=>by
  cases e with
  |normal=>obtain⟨y,ts,h1,h2,h3⟩:=h;exact⟨y,h1,h2,vP ts h3⟩
  |_=>exact h
def QJ [hG:xD P T] {x y:Code}{X:Type}(I:X->List (Nat×S)) (ok:X->Prop)
  (hx: @WC _ P T n w0 ow0 p sp ⟨x⟩ s ⟨thenK (fun s'=> @blk St s' ⟨fun s'=>Jn I ok s'⟩) K⟩) (hy:∀z,ok z-> @WC _ P T n w0 ow0 p sp ⟨y⟩ (lst (I z)) ⟨K⟩): @rO _ P T n w0 ow0 p sp ⟨.seq x y⟩ s ⟨K⟩:=fun hn=>by
 simp only[noC,k_Bool_and_eq_true]at hn;refine amT (SI (wcI hG.g sp hx hn.1) fun e s' h=> ?_);cases e with
 |normal=>obtain⟨z,ts,h1,h2⟩:=h;exact UG (wcI hG.g sp (hy z h1) hn.2) (vP ts h2)
 |_=>exact h
def aw3 [hG:xD P T] {x y:Code}{X:Type}(I:X->List (Nat×S)) (ok:X->Prop)
  (hx: @WC _ P T n w0 ow0 p sp ⟨x⟩ s ⟨thenK (fun s'=> @blk St s' ⟨fun s'=>Jn I ok s'⟩) K⟩) (hy:∀z,ok z-> @rO _ P T n w0 ow0 p sp ⟨y⟩ (lst (I z)) ⟨K⟩): @rO _ P T n w0 ow0 p sp ⟨.seq x y⟩ s ⟨K⟩:=fun hn=>by
 simp only[noC,k_Bool_and_eq_true]at hn;refine amT (SI (wcI hG.g sp hx hn.1) fun e s' h=> ?_);cases e with
 |normal=>obtain⟨z,ts,h1,h2⟩:=h;exact UG (hy z h1 hn.2) (vP ts h2)
 |_=>exact h
def jL [hG:xD P T]{s':St}{c:Code}(sp':List Nat)(ht:vQ P n s s')(h: @WC _ P T n w0 ow0 p sp' ⟨c⟩ s' ⟨K⟩): @rO _ P T n w0 ow0 p sp ⟨c⟩ s ⟨K⟩:=fun hn=>UG (wcI hG.g sp' h hn) ht
def wdr [hG:xD P T]{i:Nat}(h:QL P T n ops ops.toList s (fun s'=> @PV s' ⟨K⟩))(hB:Region.lexB .any ops=true:=by kernel_rfl)(hm:P.follows .mixedOrders=true:=by rfl)(hn:n<=1000000:=by decide): @rO _ P T n w0 ow0 p sp ⟨.region i ops true⟩ s ⟨K⟩:=fun hd=>aDT hG.g hm hn hB h hd
def wdt [hG:xD P T]{i:Nat}{l:List Oper}(m:Nat)(h:QL P T n l.toArray (l.take m) s (fun s'=>vcL P T n l.toArray (l.drop m) s' fun s2=> @PV s2 ⟨K⟩))(hB:Region.lexTailB .any l.toArray m=true:=by kernel_rfl)(hm:P.follows .mixedOrders=true:=by rfl)(hn:n<=1000000:=by decide): @rO _ P T n w0 ow0 p sp ⟨.region i l.toArray true⟩ s ⟨K⟩:=fun hd=>ayV hG.g m hm hn hB h hd
def wdf [hG:xD P T]{i:Nat}(ft:List (Nat×List Nat))(M:List (Nat×S))(ts:List Nat)(h0:wI (s.DN ts) M M)(h:QF P T n ft [] ops ops.toList 0 (M.map Prod.fst) (lst M) (fun s'=> @PV s' ⟨K⟩))(hB:aCS ft .any ops=true:=by kernel_rfl)(hm:P.follows .mixedOrders=true:=by rfl)(hn:n<=1000000:=by decide): @rO _ P T n w0 ow0 p sp ⟨.region i ops true⟩ s ⟨K⟩:=fun hd=>auA hG.g hm hn hB h0 h hd
def wdh [hG:xD P T] {i:Nat}(hs:List Nat) (ft:List (Nat×List Nat)) (M:List (Nat×S)) (ts:List Nat) (h:QM P T n ops hs s fun s'=>wI (s'.DN ts) M M/\QF P T n ft hs ops ops.toList 0 (M.map Prod.fst) (lst M) (fun s'=> @PV s' ⟨K⟩))
  (hB:(Region.noSelect ops&&OP .any ops hs (Array.replicate ops.size false)&&acU ft hs .any ops ops.size 0 (MB hs (Array.replicate ops.size false))&&left hs ops.toList 0+hs.length==ops.size)=true:=by kernel_rfl) (hm:P.follows .mixedOrders=true:=by rfl) (hn:n<=1000000:=by decide): @rO _ P T n w0 ow0 p sp ⟨.region i ops true⟩ s ⟨K⟩:=fun hd=>aqW hG.g hm hn hB h hd
def wrw [hG:xD P T](ws:List Nat){i:Nat}(h:vcW P T n ws ops.toList 0 s (fun s'=> @PV s' ⟨K⟩)): @rO _ P T n w0 ow0 p sp ⟨.region i ops false⟩ s ⟨K⟩:=fun hd=>ahN (aw1 hG.g _ _ _ _ (by rwa [aiN]at h)) hd
class az8 (c:Bool) (p q:outParam Prop):Prop where
 t:c=true->p
 f:c=false->q
instance(priority:=low) bdec0 {c:Bool}:az8 c (c=true) (c=false):=⟨id,id⟩
instance aM3 {p:Prop}[Decidable p]:az8 (decide p) p (¬p):=⟨fun h=>by simpa using h,fun h=>by simpa using h⟩
instance aM4 {p:Prop}[Decidable p]:az8 (!decide p) (¬p) p:=⟨fun h=>by simpa using h,fun h=>by simpa using h⟩
def gw {c:Bool}{A B p q:Prop}[d:az8 c p q](hA:p->A)(hB:q->B): @gC c ⟨A⟩ ⟨B⟩:=⟨fun h=>hA (d.t h),fun h=>hB (d.f h)⟩
def gv {c:Bool}{A B p q:Prop}[d:az8 c p q](hA:p->A)(hB:q->B): @gI c ⟨A⟩ ⟨B⟩:=⟨fun h=>hA (d.t h),fun h=>hB (d.f h)⟩
def holdA_eq {A:Prop}: @holdA ⟨A⟩=A:=rfl
def holdB_eq {B:Prop}: @holdB ⟨B⟩=B:=rfl
def ck {ds:List D}{rs:List Nat}{K:S->Prop}{r:S}(h:fA P f ds (fun r'=>r'=r))(hK:(rs=[]\/r.closed=true)/\K r):(afK (k:=⟨K⟩) P f ds rs):=afL h hK.1 hK.2
def ckz {ds ds':List D}{rs:List Nat}{K:S->Prop}{r:S}(h:fA P f ds' (fun r'=>r'=r))(hK:ds'.map D.fz=ds.map D.fz/\(rs=[]\/r.closed=true)/\K r):(afK (k:=⟨K⟩) P f ds rs):=afL (h.fzs hK.1) hK.2.1 hK.2.2
def cd {ds:List D}{rs:List Nat}{K:S->Prop}{r:S}(h:fA P f ds (fun r'=>r'=r))(hK:(rs=[]\/r.closed=true)/\S.plain r=true/\K r):(avF (k:=⟨K⟩) P f ds rs):=an5 h hK.1 hK.2.1 hK.2.2
def cdz {ds ds':List D}{rs:List Nat}{K:S->Prop}{r:S}(h:fA P f ds' (fun r'=>r'=r))(hK:ds'.map D.fz=ds.map D.fz/\(rs=[]\/r.closed=true)/\S.plain r=true/\K r):(avF (k:=⟨K⟩) P f ds rs):=an5 (h.fzs hK.1) hK.2.1 hK.2.2.1 hK.2.2.2
def cf {ds:List D}{rs:List Nat}{K:S->Prop}{r:S}(h:fA P f ds (fun r'=>r'=r))(hK:(rs=[]\/r.closed=true)/\K r):(avG (k:=⟨K⟩) P f ds rs):=aAT h hK.1 hK.2
end
variable {fn:Func}
def fE {P:Program}{T:TypeId->TyE}{c:Code}{n:Nat}{rs:List ResultVar}{ds:List D}{Q:S->Prop}[hG:xD P T] (sp:List Nat) (hn':fn.ntmps=n) (h:∀w0 ow0,@WC _ P T n w0 ow0 none sp ⟨c⟩ (argSt ds) ⟨endR T rs Q⟩) (hf:P.funcs[f]?=some fn:=by rfl)
  (hb:fn.body=some c:=by rfl) (hr:fn.results=rs.toArray:=by rfl) (hn:n<=1000000:=by decide) (hd:ds.length<=n:=by simp):fA P f ds Q:=aLV hG.g hf hb hn' hn hd hr fun w0 ow0=>wcI hG.g sp (h w0 ow0) (AL c)
def fM {P:Program}{T:TypeId->TyE}{c:Code}{n:Nat}{rs:List ResultVar}{ds:List D}{m:Nat}{dm:D}{Q:S->D->Prop}[hG:xD P T] (sp:List Nat) (hn':fn.ntmps=n) (h:∀w0 ow0 v,@WC _ P T n w0 ow0 (some (m,v)) sp ⟨c⟩ ((argSt ds).put m (.own dm)) ⟨endM T rs m Q⟩) (hf:P.funcs[f]?=some fn:=by rfl)
  (hb:fn.body=some c:=by rfl) (hr:fn.results=rs.toArray:=by rfl) (hd':∀v,noC (some (m,v)) c=true:=by intro;rfl) (hn:n<=1000000:=by decide) (hd:ds.length<=n:=by simp):D8 P f ds m dm Q:=aBQ hG.g hf hb hn' hn hd hr fun w0 ow0 v=>wcI hG.g sp (h w0 ow0 v) (hd' v)
def aBD {T:TypeId->TyE}{rs:List ResultVar}{Q:S->Prop}{s:St}:endR T rs Q .normal s=retL T rs s fun ds _=>Q (retS ds):=rfl
def aBE {T:TypeId->TyE}{rs:List ResultVar}{Q:S->Prop}{s:St}:endR T rs Q .ret s=retL T rs s fun ds _=>Q (retS ds):=rfl
def ai {a b:Prop}(hb:b)(ha:a:=by first|omega|assumption|(simp only[inI];omega)|exact JR):a/\b:=⟨ha,hb⟩
attribute [go_sem ↓] apW apR apX apS apV apU apT apY awQ awP awR anZ anY an0 aBD aBE anX anW anV ajM arM ak6
attribute [go_sem] S.plain wc_skip wc_ret wc_exit wc_label wc_block wc_loop wc_rf wc_draw wc_cond wc_region wc_seq holdA_eq holdB_eq
section
variable {P:Program}{n:Nat}{s:St}{X:Type}{I:X->List (Nat×S)}{μ:X->Nat}{ok:X->Prop}{m:Nat}{a b d:Prop}
def nxa (y:X)(h1:ok y)(h2:μ y<m:=by show _<_;first|omega|(simp<;>omega))(h3:wI s (I y) (I y):=by simp[go_sem])(ha:a:=by first|omega|assumption|(simp only[inI];omega)|exact JR):a/\ @blk St s ⟨fun s'=>Nx I μ ok m s'⟩:=⟨ha,nx y h1 h2 h3⟩
def nxb (y:X)(h1:ok y)(h2:μ y<m:=by show _<_;first|omega|(simp<;>omega))(h3:wI s (I y) (I y):=by simp[go_sem])(ha:a:=by first|omega|assumption|(simp only[inI];omega)|exact JR)(hb:b:=by first|omega|assumption|(simp only[inI];omega)|exact JR):a/\b/\ @blk St s ⟨fun s'=>Nx I μ ok m s'⟩:=⟨ha,hb,nx y h1 h2 h3⟩
def nxd (y:X)(h1:ok y)(h2:μ y<m:=by show _<_;first|omega|(simp<;>omega))(h3:wI s (I y) (I y):=by simp[go_sem])(ha:a:=by first|omega|assumption|(simp only[inI];omega)|exact JR)(hb:b:=by first|omega|assumption|(simp only[inI];omega)|exact JR)(hd:d:=by first|omega|assumption|(simp only[inI];omega)|exact JR):a/\b/\d/\ @blk St s ⟨fun s'=>Nx I μ ok m s'⟩:=⟨ha,hb,hd,nx y h1 h2 h3⟩
end
section
variable {P:Program}{T:TypeId->TyE}{n:Nat}{w0:World}{ow0:Own}{p:Pin}{sp:List Nat}{s:St}{K:Exit->St->Prop}{c:Code}{X:Type}
def wlt [hG:xD P T](X:Type)(F:X->List (Nat×S)×Nat×Prop)(x0:X)(hx:(F x0).2.2)(round:∀x,(F x).2.2-> @WC _ P T n w0 ow0 p sp ⟨c⟩ (lst (F x).1) ⟨thenK (fun s'=> @blk St s' ⟨fun s'=>Nx (fun x=>(F x).1) (fun x=>(F x).2.1) (fun x=>(F x).2.2) (F x).2.1 s'⟩) K⟩)(h0:wI s (F x0).1 (F x0).1:=by simp[go_sem]): @rO _ P T n w0 ow0 p sp ⟨.loop c⟩ s ⟨K⟩:=wl (fun x=>(F x).1) (fun x=>(F x).2.1) (fun x=>(F x).2.2) x0 hx round h0
def wld [hG:xD P T](ts0:List Nat)(X:Type)(F:X->List (Nat×S)×Nat×Prop)(x0:X)(hx:(F x0).2.2)(round:∀x,(F x).2.2-> @WC _ P T n w0 ow0 p sp ⟨c⟩ (lst (F x).1) ⟨thenK (fun s'=> @blk St s' ⟨fun s'=>Nx (fun x=>(F x).1) (fun x=>(F x).2.1) (fun x=>(F x).2.2) (F x).2.1 s'⟩) K⟩)(h0:wI (s.DN ts0) (F x0).1 (F x0).1:=by simp[go_sem]): @rO _ P T n w0 ow0 p sp ⟨.loop c⟩ s ⟨K⟩:=wlc ts0 (fun x=>(F x).1) (fun x=>(F x).2.1) (fun x=>(F x).2.2) x0 hx round h0
end
end Go.Dv
end
section
namespace Go
def lF:= @List.mem_cons_self
end Go
end
