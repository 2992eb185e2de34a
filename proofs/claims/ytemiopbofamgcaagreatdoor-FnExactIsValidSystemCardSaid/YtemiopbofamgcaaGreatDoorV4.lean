/- Lemmas and walks that the law leans on, part 4. No condition. -/
import Derived.Lib.IndexAny
import Derived.Lib.Strings
import Derived.Lib.IndexMore
import Derived.Lib.Replace
import Derived.Lib.IndexBytes
import Derived.Lib.FieldsP
import Derived.Lib.AtoiTie
import Derived.OpenShut
import Derived.ShutString
import Derived.ChangeOld
import Derived.Carry
import Derived.SizedLaws
import Derived.Lib.Hide
import Derived.BigQuiet
import Derived.Deep.QuietTactic
import Derived.StillTailTactics
import Derived.Deep.RegionLaw
import Derived.JoinedTies
import Derived.KernelRfl
import Derived.ChangeVars
import Derived.Handed
import Derived.LaidLaws
import Derived.Stop.LaidErr
import Derived.Test.YtemiopbofamgcaaGreatDoorCards
import Derived.Test.YtemiopbofamgcaaGreatDoorTie
import Derived.Shelf.Strings.Builder1
import Derived.Shelf.Strings.Builder2
import Derived.Shelf.Small.Utf8
import Derived.Shelf.Small.Bits
import Derived.Shelf.Small.Strs
import Derived.Shelf.Small.Wraps
import Derived.Shelf.Strings.BuilderF
import Derived.Shelf.Strings.BuilderK
import Derived.Shelf.Utf8.RuneCount
import Derived.Shelf.Strings.Builder2Cap
import Derived.Shelf.Strconv.Atoi
import Derived.Shelf.Strconv.Itoa0
import Derived.Shelf.Strconv.Itoa1
import Derived.Shelf.LaysM
import Derived.Shelf.Strconv.Itoa2
import Derived.Shelf.Strconv.AtoiErrFast
import Derived.Shelf.Strconv.ParseIntEmpty
import Derived.Shelf.Strconv.AtoiFail
import Derived.Shelf.Strconv.Clone
import Derived.Shelf.Strconv.SyntaxError
import Derived.Shelf.LaysC
import Derived.Shelf.Strconv.ToError
import Derived.Shelf.Strconv.Lower
import Derived.Shelf.Strconv.ParseUint10
import Derived.Shelf.Strconv.ParseUint10Empty
import Derived.Shelf.Strconv.ParseUint10Any
import Derived.Shelf.Strconv.ParseInt10
import Derived.Shelf.Strconv.AtoiLong
import Derived.Shelf.Strconv.AtoiInnerAll
import Derived.Shelf.Strconv.RangeError
import Derived.Shelf.Strconv.ToErrorRange
import Derived.Shelf.Strconv.AtoiAll
import Derived.Shelf.Strconv.ErrVarAll
import Derived.Shelf.Strings.Search1
import Derived.Shelf.Strings.Search2
import Derived.Shelf.Strings.Search3
import Derived.Shelf.Strings.Count
import Derived.Shelf.Strings.Shaped
import Derived.Shelf.Sort.Plain
import Derived.Shelf.Strings.Prefix
import Derived.Shelf.Strings.Split
import Derived.Shelf.Strings.Replace
import Derived.Shelf.Strings.SplitShaped
import Derived.Shelf.Unicode.Decode
import Derived.Shelf.Strings.Runes
import Derived.Shelf.Strings.RuneCount
import Derived.Shelf.Strings.IndexAny
import Derived.Shelf.Strings.AsciiSet
import Derived.Shelf.Strings.IndexAnyAll
import Derived.Shelf.Bits.Mul64
import Derived.Shelf.Unicode.DecodeSlow
import Derived.Shelf.Unicode.DecodeAny
import Derived.Shelf.Strings.FieldsFuncAny
import Derived.Shelf.Strings.FieldsFuncGrows
import Derived.Shelf.Strings.BuilderCap
import Derived.Shelf.Slices.Turned
import Derived.Shelf.Slices.Equal
import Derived.Shelf.Slices.Clone
import Derived.Shelf.Slices.CompactS
import Derived.Shelf.Slices.SearchI
import Derived.Shelf.Slices.Cells
import Derived.Shelf.Slices.In.SortNone
import Derived.Shelf.SlicesE.Clone
import Derived.Laws.CopyOwn
import Derived.LoopTactic
import Derived.Sort.Grow
import Derived.Still
import Derived.StillTactics
import Derived.Test.YtemiopbofamgcaaGreatDoorV3
set_option linter.unusedVariables false
set_option linter.unusedSimpArgs false
set_option linter.unusedSectionVars false
set_option maxRecDepth 10000
set_option maxHeartbeats 1000000
theorem Go.cSz {α:Type}{a b:α}(h:a=b:=by kernel_rfl):some a=some b:=congrArg some h
section
namespace Go.Pl
open Go.Dv
def atH (c:UInt8)(s:Str):Str:=if s.getLast?=some c then s.dropLast else s
theorem asF (c:UInt8)(s:Str):Lib.trimSuffix s [c]=atH c s:=by
 unfold Lib.trimSuffix Lib.hasSuffix atH;rcases List.eq_nil_or_concat s with rfl|⟨t,d,rfl⟩
 ·simp
 ·rw[List.concat_eq_append]
  have e:([c].isSuffixOf (t++[d]))=decide (c=d):=by
   by_cases h:c=d
   ·subst h;simp[List.isSuffixOf_iff_suffix]
   ·have h2:¬[c]<:+t++[d]:=fun hs=>h (by
     obtain⟨p,hp⟩:=hs;have:=congrArg List.getLast? hp;simpa using this)
    have:([c].isSuffixOf (t++[d]))≠true:=fun e=>h2 (List.isSuffixOf_iff_suffix.1 e);simp[h,this]
  rw[e];by_cases h:c=d
  ·subst h;simp
  ·rw[if_neg (by simpa using h),if_neg];simp only[List.getLast?_append,List.getLast?_singleton,Option.some_or,Option.some.injEq];exact fun e=>h e.symm
theorem FT:∀s:Str,Lib.containsAny s [124,59]= !s.all mX
 |[]=>rfl
 |b::l=>by
  have ih:=FT l;unfold Lib.containsAny at ih|-
  have hge:=Lib.indexAny_ge [124,59] l;unfold Lib.indexAny
  have hb:mX b= !(decide (b=124)||decide (b=59)):=by
   unfold mX;have e1:(b.toNat=124)↔b=124:=⟨fun h=>UInt8.toNat_inj.1 h,fun h=>by rw[h];rfl⟩;have e2:(b.toNat=59)↔b=59:=⟨fun h=>UInt8.toNat_inj.1 h,fun h=>by rw[h];rfl⟩;simp only[e1,e2]
  simp only[List.all_cons,hb];by_cases h:b=124\/b=59
  ·rw[if_pos (by simpa using h)];rcases h with h|h<;>simp[h]
  ·have h':b≠124/\b≠59:=⟨fun e=>h (.inl e),fun e=>h (.inr e)⟩;rw[if_neg (by simpa using h')];simp only[h'.1,h'.2,decide_false,Bool.or_self,Bool.not_false,Bool.true_and];rw[←ih];split
   ·rename_i h1;have:Lib.indexAny l [124,59]= -1:=by simpa using h1
    rw[this]
   ·rename_i h1;have:Lib.indexAny l [124,59]≠ -1:=by simpa using h1
    simp;omega
def bef (c:UInt8)(s:Str):Str:=s.takeWhile fun d=>decide (d≠c)
def aft (c:UInt8)(s:Str):Str:=(s.dropWhile fun d=>decide (d≠c)).drop 1
theorem O9 (c:UInt8):∀s:Str,Lib.indexByte s c=if c∈s then((s.takeWhile fun d=>decide (d≠c)).length:Int)else -1
 |[]=>rfl
 |b::l=>by
  unfold Lib.indexByte;rw[O9 c l];by_cases h:b=c
  ·subst h;simp
  ·have hb:¬(b==c)=true:=by simpa using h
   have hmem:c∈b::l↔c∈l:=⟨fun e=>(List.mem_cons.1 e).resolve_left (fun e=>h e.symm),fun e=>List.mem_cons_of_mem _ e⟩;rw[if_neg hb,List.takeWhile_cons_of_pos (by simpa using h)];by_cases hm:c∈l
   ·rw[if_pos hm,if_pos (hmem.2 hm),if_neg (by rw[beq_iff_eq];omega),List.length_cons];omega
   ·rw[if_neg hm,if_neg (fun e=>hm (hmem.1 e))];rfl
theorem R4 {c:UInt8}:∀{s:Str},c∈s->s=bef c s++c::aft c s/\c∉bef c s
 |[],h=>by cases h
 |d::s,h=>by
  by_cases hd:d=c
  ·subst hd;simp[bef,aft]
  ·have ih:=R4 (s:=s) ((List.mem_cons.1 h).resolve_left (fun e=>hd e.symm));unfold bef aft at ih|-
   rw[List.takeWhile_cons_of_pos (by simpa using hd),List.dropWhile_cons_of_pos (by simpa using hd)];refine⟨by rw[List.cons_append,←ih.1],fun hm=> ?_⟩;rcases List.mem_cons.1 hm with e|hm
   ·exact hd e.symm
   ·exact ih.2 hm
variable {c:UInt8}{s:Str}
theorem asT (h:c∈s):s.take (s.takeWhile fun d=>decide (d≠c)).length=bef c s/\s.drop ((s.takeWhile fun d=>decide (d≠c)).length+1)=aft c s:=by
 have hs:=(R4 h).1;have hb:(s.takeWhile fun d=>decide (d≠c))=bef c s:=rfl;rw[hb];constructor
 ·conv=>lhs;rw[hs]
  rw[show bef c (bef c s++c::aft c s)=bef c s by rw[←hs]];simp
 ·conv=>lhs;rw[hs]
  rw[show bef c (bef c s++c::aft c s)=bef c s by rw[←hs],List.drop_append,List.drop_of_length_le (by omega),show(bef c s).length+1-(bef c s).length=1 by omega];simp
theorem PZ (c:UInt8):∀(k:Nat) (s:Str),s.count c=k->Lib.replaceK [c] [] k s=s.filter fun d=> !decide (d=c)
 |0,s,h=>by
  have hm:c∉s:=List.count_eq_zero.1 h;unfold Lib.replaceK;symm;rw[List.filter_eq_self];intro d hd;simp;rintro rfl;exact hm hd
 |k+1,s,h=>by
  have hm:c∈s:=List.count_pos_iff.1 (by omega);have ht:=asT hm;have hs:=R4 hm;have h2:(bef c s++c::aft c s).count c=k+1:=by rw[←hs.1];exact h
  rw[List.count_append,List.count_eq_zero.2 hs.2,List.count_cons_self]at h2;unfold Lib.replaceK;rw[Lib.index_one,O9,if_pos hm,if_neg (by rw[beq_iff_eq];omega)];simp only[Int.toNat_natCast,List.length_singleton,ht.1,ht.2,List.append_nil];rw[PZ c k (aft c s) (by omega)]
  conv=>rhs;rw[hs.1]
  rw[List.filter_append,List.filter_cons_of_neg (by simp)];congr 1;symm;rw[List.filter_eq_self];intro d hd;simp;rintro rfl;exact hs.2 hd
theorem WS (c:UInt8)(s:Str):Lib.replaceAll s [c] []=s.filter fun d=> !decide (d=c):=by
 unfold Lib.replaceAll Lib.replace;rw[if_neg (by simp)];have:Lib.replaceNum s [c] (-1)=s.count c:=by unfold Lib.replaceNum;rw[if_pos (.inl (by omega)),Lib.count_one]
 rw[this,PZ c _ s rfl]
theorem ar6 (s:Str):aa9 s=atH 32 s:=rfl
def isSp (x:Nat):Bool:=decide (x=32)
def ext(s:Str)(x:Nat×Nat):Str:=(s.drop x.1).take (x.2-x.1)
variable {i:Nat}
theorem arS (h:s[i]?=some c)(hc:c.toNat<128):Utf8.decode (⟨s.toArray⟩:ByteArray) i=(c.toNat,1):=by
 have hi:=aS h;rw[List.getElem?_eq_getElem hi]at h;unfold Utf8.decode;simp[ByteArray.get!,hi,Option.some.inj h,hc]
def PW (s:Str)(pos:Nat):Option Nat->Str
 |none=>[]
 |some a=>(s.drop a).take (pos-a)
theorem spans_eq (hs:∀c∈s,c.toNat<128):∀(f pos:Nat) (st:Option Nat) (acc:List (Nat×Nat)),s.length-pos<=f->pos<=s.length->(∀a,st=some a->a<pos)->
  (Lib.closeSpans ⟨s.toArray⟩ (Lib.spansFromP isSp ⟨s.toArray⟩ f pos st acc)).map (ext s)=acc.map (ext s)++(M4 32 (PW s pos st) (s.drop pos)).filter fun x=>decide (x≠[])
 |f,pos,st,acc,hf,hp,hst=>by
  have hsz:(⟨s.toArray⟩:ByteArray).size=s.length:=by simp[ByteArray.size]
  by_cases hlt:pos<s.length
  ·cases f with
   |zero=>omega
   |succ f=>
    obtain⟨c,hc⟩:∃c,s[pos]?=some c:=⟨s[pos],by simp[hlt]⟩;have hca:=hs c (List.mem_of_getElem? hc);have hd:=arS hc hca;have hdr:s.drop pos=c::s.drop (pos+1):=by rw[List.drop_eq_getElem_cons hlt];rw[List.getElem?_eq_getElem hlt]at hc;rw[Option.some.inj hc]
    have ih:=fun st acc h=>spans_eq hs f (pos+1) st acc (by omega) (by omega) h;unfold Lib.spansFromP;rw[if_pos (by rw[hsz];exact hlt),hd,hdr];unfold M4
    have hct:isSp c.toNat=true↔c=32:=by
     unfold isSp;rw[decide_eq_true_eq];exact⟨fun e=>UInt8.toNat_inj.1 (by simpa using e),fun e=>by rw[e];rfl⟩
    by_cases h32:c=32
    ·rw[if_pos (hct.2 h32),if_pos h32];cases st with
     |none=>
      simp only;rw[ih none acc (fun a h=>by cases h)];simp[PW]
     |some a=>
      have ha:=hst a rfl;simp only;rw[ih none _ (fun a h=>by cases h)]
      have hne:ext s (a,pos)≠[]:=by
       intro e;have:=congrArg List.length e;simp[ext]at this;omega
      have hcw:PW s pos (some a)=ext s (a,pos):=rfl;rw[hcw,List.filter_cons_of_pos (by simpa using hne)];simp[PW]
    ·rw[if_neg (fun e=>h32 (hct.1 e)),if_neg h32];cases st with
     |none=>
      simp only;rw[ih (some pos) acc (fun a h=>by cases h;omega)];have:PW s (pos+1) (some pos)=PW s pos none++[c]:=by simp[PW,hdr]
      rw[this]
     |some a=>
      have ha:=hst a rfl;simp only;rw[ih (some a) acc (fun b h=>by cases h;omega)]
      have:PW s (pos+1) (some a)=PW s pos (some a)++[c]:=by
       simp only[PW];rw[show pos+1-a=pos-a+1 by omega];exact aU (by rw[List.getElem?_drop,show a+(pos-a)=pos by omega];exact hc)
      rw[this]
  ·obtain rfl:pos=s.length:=by omega
   have he:Lib.spansFromP isSp ⟨s.toArray⟩ f s.length st acc=(acc,st):=Lib.spansFromP_end _ _ _ _ _ _ (by rw[hsz];omega);rw[he,List.drop_length];cases st with
   |none=>simp[Lib.closeSpans,PW,M4]
   |some a=>
    have ha:=hst a rfl
    have hne:PW s s.length (some a)≠[]:=by
     intro e;have:=congrArg List.length e;simp[PW]at this;omega
    simp only[Lib.closeSpans,M4];rw[List.filter_cons_of_pos (by simpa using hne),hsz];simp[ext,PW]
theorem acG (hs:∀c∈s,c.toNat<128):(Lib.goFieldsP isSp ⟨s.toArray⟩).map (fun b=>b.data.toList)=CJ s:=by
 unfold Lib.goFieldsP Lib.spansOfP;have hsz:(⟨s.toArray⟩:ByteArray).size=s.length:=by simp[ByteArray.size]
 have:=spans_eq hs s.length 0 none [] (by omega) (by omega) (fun a h=>by cases h);rw[List.map_map]
 have he:(fun b:ByteArray=>b.data.toList)∘(fun x:Nat×Nat=>(⟨s.toArray⟩:ByteArray).extract x.1 x.2)=ext s:=by
  funext x;simp only[Function.comp_apply,Lib.extract_data,ext]
 rw[he,hsz,this];rfl
def azM (c:UInt8):Prop:=48<=c.toNat/\c.toNat<=57
theorem WB (m:Nat):azM (UInt8.ofNat (48+m % 10))/\(UInt8.ofNat (48+m % 10)).toNat=48+m % 10:=by
 have h:(UInt8.ofNat (48+m % 10)).toNat=48+m % 10:=by rw[UInt8.toNat_ofNat'];omega
 exact⟨⟨by omega,by omega⟩,h⟩
theorem ZQ:∀(m:Nat),∀c∈iP m,azM c:=by
 intro m
 induction m using Nat.strongRecOn with
 |ind m ih=>
  intro c hc;by_cases h0:m=0
  ·subst h0;rw[nJ]at hc;cases hc
  ·rw[nP h0]at hc;rcases List.mem_append.1 hc with hc|hc
   ·exact ih (m/10) (by omega) c hc
   ·obtain rfl:=List.mem_singleton.1 hc;exact(WB m).1
theorem acF {st:Int×Int}(h:azM c):zH st c=(st.1*10+(c.toNat-48),st.2+1):=if_pos h
theorem TH (m:Nat):(iP m).foldl zH (0,0)=((m:Int),((iP m).length:Int)):=by
 induction m using Nat.strongRecOn with
 |ind m ih=>
  by_cases h0:m=0
  ·subst h0;rw[nJ];rfl
  ·rw[nP h0,List.foldl_append,ih (m/10) (by omega),List.foldl_cons,List.foldl_nil,acF (WB m).1,(WB m).2];simp only[List.length_append,List.length_cons,List.length_nil];congr 1
   ·omega
theorem aa2 {m:Nat}(h:m≠0):iP m≠[]:=by rw[nP h];simp
variable {n:Int}
theorem anA (h: -999999999<=n/\n<=999999999):gV (oP n)=true/\fD (oP n)=n:=by
 have hl:=MF n.natAbs 9 (by omega)
 have key:fD (oP n)=n/\(kX (oP n)).2<=9/\(oP n).length<=10:=by
  by_cases h0:n=0
  ·subst h0;decide
  ·by_cases hn:n<0
   ·have hf:oP n=45::iP n.natAbs:=by rw[oP,if_neg h0,if_pos hn];rfl
    have hp:kX (oP n)=((n.natAbs:Int),((iP n.natAbs).length:Int)):=by
     rw[kX,hf,List.take_of_length_le (by simp;omega),List.foldl_cons,show zH (0,0) 45=(0,0)from if_neg (by decide),TH]
    refine⟨?_,by rw[hp];simp;omega,by rw[hf];simp;omega⟩;rw[fD,if_pos (by rw[hf];rfl),hp];simp only;omega
   ·have hf:oP n=iP n.natAbs:=by rw[oP,if_neg h0,if_neg hn];rfl
    have hp:kX (oP n)=((n.natAbs:Int),((iP n.natAbs).length:Int)):=by
     rw[kX,hf,List.take_of_length_le (by omega),TH]
    refine⟨?_,by rw[hp];simp;omega,by rw[hf];omega⟩;rw[fD,if_neg,hp]
    ·simp only;omega
    ·rw[hf];intro h1;have:=ZQ _ _ (List.mem_of_getElem? h1);exact absurd this.1 (by decide)
 refine⟨?_,key.1⟩;simp only[gV,Bool.and_eq_true,decide_eq_true_eq];exact⟨⟨key.2.1,key.2.2⟩,by rw[key.1]⟩
theorem vW:∀(s:Str) (st:Int×Int),0<=st.1->st.1<10^st.2.toNat->0<=st.2->0<=(s.foldl zH st).1/\(s.foldl zH st).1<10^(s.foldl zH st).2.toNat/\0<=(s.foldl zH st).2
 |[],st,h1,h2,h3=>⟨h1,h2,h3⟩
 |c::s,st,h1,h2,h3=>by
  rw[List.foldl_cons];by_cases hc:azM c
  ·rw[acF hc];refine vW s _ ?_ ?_ ?_
   ·have:=hc.1;simp only;omega
   ·have:=hc.2;simp only;rw[show(st.2+1).toNat=st.2.toNat+1 by omega,Int.pow_succ];have:=hc.1;omega
   ·simp only;omega
  ·rw[show zH st c=st from if_neg hc];exact vW s st h1 h2 h3
theorem ao6 (h:gV s=true): -999999999<=fD s/\fD s<=999999999:=by
 simp only[gV,Bool.and_eq_true,decide_eq_true_eq]at h;have hp:=vW (s.take 11) (0,0) (by simp) (by simp) (by simp);have hk:(kX s).2.toNat<=9:=by omega
 have h10:(10:Int)^(kX s).2.toNat<=1000000000:=by
  have h1:(10:Nat)^(kX s).2.toNat<=10^9:=Nat.pow_le_pow_right (by omega) hk;have h2:((10^(kX s).2.toNat:Nat):Int)<=((10^9:Nat):Int):=by exact_mod_cast h1
  simpa using h2
 have h5:0<=(kX s).1/\(kX s).1<10^(kX s).2.toNat:=⟨hp.1,hp.2.1⟩;unfold fD;split<;>omega
theorem decDigits_eq (u:Nat):Lib.decDigits u=if u=0 then[48]else iP u:=by
 induction u using Nat.strongRecOn with
 |ind u ih=>
  rw[Lib.decDigits];split
  ·rename_i h;by_cases h0:u=0
   ·subst h0;rfl
   ·rw[if_neg h0,nP h0,show u/10=0 by omega,nJ,Nat.mod_eq_of_lt h];rfl
  ·rename_i h;rw[ih (u/10) (by omega),if_neg (by omega),if_neg (by omega),nP (m:=u) (by omega)]
theorem azL (n:Int):Lib.itoa n=oP n:=by
 unfold Lib.itoa oP;by_cases h0:n=0
 ·subst h0;rw[if_neg (by omega),if_pos rfl,decDigits_eq];rfl
 ·rw[if_neg h0];by_cases hn:n<0
  ·rw[if_pos hn,if_pos hn,decDigits_eq,if_neg (by omega)];rfl
  ·rw[if_neg hn,if_neg hn,decDigits_eq,if_neg (by omega),show n.toNat=n.natAbs by omega];rfl
theorem OE:∀(l:Str) (acc n:Nat) (m:Nat),Lib.decFrom acc l=some n->Lib.decFrom acc (l++[UInt8.ofNat (48+m % 10)])=some (n*10+m % 10)
 |[],acc,n,m,h=>by
  obtain rfl:acc=n:=by simpa[Lib.decFrom]using h
  have hd:=(WB m).2
  have hv:Lib.digitVal (UInt8.ofNat (48+m % 10))=some (m % 10):=by
   unfold Lib.digitVal;rw[hd,if_pos (by omega)];congr 1;omega
  simp only[List.nil_append,Lib.decFrom,hv]
 |c::l,acc,n,m,h=>by
  simp only[List.cons_append,Lib.decFrom]at h|-
  cases hc:Lib.digitVal c with
  |none=>rw[hc]at h;cases h
  |some d=>rw[hc]at h;exact OE l _ n m h
theorem XW (u:Nat):Lib.decFrom 0 (iP u)=some u:=by
 induction u using Nat.strongRecOn with
 |ind u ih=>
  by_cases h0:u=0
  ·subst h0;rw[nJ];rfl
  ·rw[nP h0,OE _ _ _ u (ih (u/10) (by omega))];congr 1;omega
theorem KL {u:Nat}(h:u≠0):Lib.decNat (iP u)=some u:=by
 unfold Lib.decNat;rw[if_neg (by simpa using aa2 h),XW]
theorem avS (h: -999999999<=n/\n<=999999999):Lib.atoiAll (oP n)= .ok n:=by
 have hl:=MF n.natAbs 9 (by omega)
 have hlen:(oP n).length<=18:=by
  unfold oP;split
  ·simp
  ·rw[List.length_append];split<;>simp<;>omega
 rw[Lib.atoiAll_short _ hlen]
 have:Lib.atoi (oP n)=some n:=by
  by_cases h0:n=0
  ·subst h0;rfl
  ·by_cases hn:n<0
   ·have hf:oP n=45::iP n.natAbs:=by rw[oP,if_neg h0,if_pos hn];rfl
    rw[hf,Lib.atoi,if_pos (by rfl),KL (by omega),Option.map_some];congr 1;omega
   ·have hf:oP n=iP n.natAbs:=by rw[oP,if_neg h0,if_neg hn];rfl
    rw[hf];have hd:=KL (u:=n.natAbs) (by omega);cases hx:iP n.natAbs with
    |nil=>exact absurd hx (aa2 (by omega))
    |cons c r=>
     have hc:=ZQ n.natAbs c (by rw[hx];simp);have h1:¬(c==45)=true:=fun e=>absurd ((show c=45 by simpa using e)▸hc).1 (by decide);have h2:¬(c==43)=true:=fun e=>absurd ((show c=43 by simpa using e)▸hc).1 (by decide);rw[Lib.atoi,if_neg h1,if_neg h2,←hx,hd,Option.map_some];congr 1;omega
 rw[this];rfl
def bU:L1->L1->Int
 |[],[]=>0
 |[],_::_=> -1
 |_::_,[]=>1
 |a::x,b::y=>if a<b then -1 else if b<a then 1 else bU x y
theorem LM:∀{a b:L1},bU a b<=0->bU b a<=0->a=b
 |[],[],_,_=>rfl
 |[],_::_,_,h=>by simp[bU]at h
 |_::_,[],h,_=>by simp[bU]at h
 |a::x,b::y,h,h'=>by
  simp only[bU]at h h'
  have hab:a=b:=by
   split at h
   ·rename_i h1;rw[if_neg (by omega),if_pos h1]at h';omega
   ·split at h
    ·omega
    ·omega
  subst hab;rw[if_neg (by omega),if_neg (by omega)]at h h';rw[LM h h']
theorem JK:∀(a b:L1),bU a b<0↔0<bU b a
 |[],[]=>by simp[bU]
 |[],_::_=>by simp[bU]
 |_::_,[]=>by simp[bU]
 |a::x,b::y=>by
  have ih:=JK x y;simp only[bU];by_cases h1:a<b
  ·rw[if_pos h1,if_neg (by omega),if_pos h1];omega
  ·by_cases h2:b<a
   ·rw[if_neg h1,if_pos h2,if_pos h2];omega
   ·rw[if_neg h1,if_neg h2,if_neg h2,if_neg h1];exact ih
theorem SS:∀{a b c:L1},bU a b<=0->bU b c<=0->bU a c<=0
 |[],_,[],_,_=>by simp[bU]
 |[],_,_::_,_,_=>by simp[bU]
 |_::_,[],_,h,_=>by simp[bU]at h
 |_::_,_::_,[],_,h=>by simp[bU]at h
 |a::x,b::y,c::z,h,h'=>by
  have ih:=SS (a:=x) (b:=y) (c:=z);simp only[bU]at h h'|-
  split at h<;>split at h'<;>split<;>(try omega)<;>(try split at h)<;>(try split at h')<;>(try split)<;>(try omega);all_goals exact ih (by omega) (by omega)
theorem acB:∀(p x y:L1),bU (p++x) (p++y)=bU x y
 |[],_,_=>rfl
 |a::p,x,y=>by
  show(if a<a then(-1:Int)else if a<a then 1 else bU (p++x) (p++y))=_;rw[if_neg (Int.lt_irrefl a),if_neg (Int.lt_irrefl a)];exact acB p x y
variable {a b:L1}
theorem L6 (h:a.take i=b.take i):bU a b=bU (a.drop i) (b.drop i):=by
 have:=acB (a.take i) (a.drop i) (b.drop i)
 rwa [List.take_append_drop,h,List.take_append_drop]at this
theorem ahY {c d:Int}(h:a.take i=b.take i)(hc:a[i]?=some c)(hd:b[i]?=some d)(hn:c≠d):bU a b=if c<d then -1 else 1:=by
 obtain⟨h1,rfl⟩:=List.getElem?_eq_some_iff.1 hc;obtain⟨h2,rfl⟩:=List.getElem?_eq_some_iff.1 hd;rw[L6 h,List.drop_eq_getElem_cons h1,List.drop_eq_getElem_cons h2];simp only[bU];split
 ·rfl
 ·rw[if_pos (by omega)]
theorem YE (h:a.take i=b.take i)(h1:i<a.length)(h2:b.length<=i):bU a b=1:=by
 rw[L6 h,List.drop_eq_getElem_cons h1,List.drop_eq_nil_of_le h2];rfl
theorem ab2 (h:a=b.take a.length):bU a b=if a.length<b.length then -1 else 0:=by
 rw[L6 (i:=a.length) (by rw[List.take_length];exact h),List.drop_eq_nil_of_le (Nat.le_refl a.length)];cases hd:b.drop a.length with
 |nil=>rw[if_neg (by have:=List.length_drop (i:=a.length) (l:=b);rw[hd]at this;simp at this;omega)];rfl
 |cons x l=>rw[if_pos (by have:=List.length_drop (i:=a.length) (l:=b);rw[hd]at this;simp at this;omega)];rfl
theorem take_same {c:Int}(h:a.take i=b.take i)(hc:a[i]?=some c)(hd:b[i]?=some c):a.take (i+1)=b.take (i+1):=by
 rw[List.take_add_one,List.take_add_one,h,hc,hd]
def rA (l:L2):L2:=eG (fun v c=>decide (bU v c<0)) l
theorem nK (l:L2):(rA l).Perm l:=by
 have:=rU (fun v c:L1=>decide (bU v c<0)) l [];rwa [List.nil_append]at this
theorem U9 {l:L2}(h:l.Pairwise fun a b=>bU a b<=0)(v:L1):(dW (fun c=>decide (bU v c<0)) l v).Pairwise fun a b=>bU a b<=0:=by
 obtain⟨h1,h2⟩:=XT (fun c=>decide (bU v c<0)) l;unfold dW;generalize l.length-backs (fun c=>decide (bU v c<0)) l=k at h1 h2|-
 have hl:∀x∈l.take k,bU x v<=0:=by
  intro x hx
  obtain⟨c,hc⟩:∃c,(l.take k).getLast?=some c:=by
   cases hg:(l.take k).getLast? with
   |some c=>exact⟨c,rfl⟩
   |none=>rw[List.getLast?_eq_none_iff]at hg;rw[hg]at hx;cases hx
  have h3:=h2 c hc;simp only[decide_eq_false_iff_not]at h3;have h4:bU c v<=0:=by have:=JK v c;omega
  obtain⟨t,ht⟩:=List.getLast?_eq_some_iff.1 hc;have hs:(l.take k).Pairwise fun a b=>bU a b<=0:=h.sublist (List.take_sublist _ _);rw[ht]at hx hs;rcases List.mem_append.1 hx with hx|hx
  ·exact SS ((List.pairwise_append.1 hs).2.2 x hx c (by simp)) h4
  ·obtain rfl:x=c:=by simpa using hx
   exact h4
 have hr:∀x∈l.drop k,bU v x<=0:=by
  intro x hx;have h3:=h1 x hx;simp only[decide_eq_true_eq]at h3;omega
 rw[List.append_assoc,List.singleton_append];have hs:=h;rw[←List.take_append_drop k l]at hs;obtain⟨a1,a2,a3⟩:=List.pairwise_append.1 hs;refine List.pairwise_append.2 ⟨a1,List.pairwise_cons.2 ⟨hr,a2⟩,fun x hx y hy=> ?_⟩;rcases List.mem_cons.1 hy with rfl|hy
 ·exact hl x hx
 ·exact a3 x hx y hy
theorem O0 (l:L2):(rA l).Pairwise fun a b=>bU a b<=0:=by
 have key:∀(l t:L2),(t.Pairwise fun a b=>bU a b<=0)->(l.foldl (fun out v=>dW (fun c=>decide (bU v c<0)) out v) t).Pairwise fun a b=>bU a b<=0:=by
  intro l
  induction l with
  |nil=>exact fun t h=>h
  |cons v l ih=>exact fun t h=>ih _ (U9 h v)
 exact key l [] List.Pairwise.nil
theorem asR {a b:L2}(h:a.Perm b):rA a=rA b:=
 List.Perm.eq_of_pairwise (le:=fun u w=>bU u w<=0) (fun u w _ _=>LM) (O0 a) (O0 b) ((nK a).trans (h.trans (nK b).symm))
theorem apJ {a b:L2}:rA a=rA b↔a.Perm b:=
 ⟨fun h=>(nK a).symm.trans (h▸nK b),asR⟩
theorem TK:∀{a b:L2},a.Nodup->a.length=b.length->(∀x∈a,x∈b)->a.Perm b
 |[],b,_,hl,_=>by cases b<;>simp_all
 |x::a,b,hn,hl,hm=>by
  have hx:=hm x (by simp);have hp:=List.perm_cons_erase hx;rw[List.nodup_cons]at hn;refine List.Perm.trans (List.Perm.cons x (TK hn.2 ?_ fun y hy=> ?_)) hp.symm
  ·rw[List.length_erase_of_mem hx];simp at hl;omega
  ·exact(List.mem_erase_of_ne (fun h:y=x=>hn.1 (by rw[←h];exact hy))).2 (hm y (by simp[hy]))
theorem af2 {a b:L2}(hn:a.Nodup):rA a=rA b↔b.length=a.length/\∀x∈a,x∈b:=
 apJ.trans ⟨fun h=>⟨h.length_eq.symm,fun x hx=>h.mem_iff.1 hx⟩,fun h=>TK hn h.1.symm h.2⟩
structure Ent where
 id:Int
 mem:L1
deriving instance DecidableEq,Inhabited for Ent
structure MC where
 cfg:Cfg
 sto:Sto
 ents:List Ent
 next:Int
 ref:List Ver
def GI (all g:L1)(i:Nat):Bool:=inR (at1 g i) 1 399&&(decide (i=0)||decide (at1 g (i-1)<at1 g i))&& !(all.any fun y=>decide (at1 g i=y))
def XJ (all g:L1):Bool:=(List.range g.length).all (GI all g)&&decide (g.length≠0)
def sZ:L1->L2->Bool
 |all,[]=>decide (all.length<=8)
 |all,g::G=>XJ all g&&sZ (all++g) G
def idB (e:Ent):Bool:=inR e.id 1 9999
def adN (a b:Ent):Bool:=decide (a.id<b.id)
def nC (l:List Ent):Bool:=l.all idB&&adj adN l&&sZ [] (l.map Ent.mem)
theorem YD:∀(G:L2) {all:L1},8<all.length->sZ all G=false
 |[],all,h=>decide_eq_false (by omega)
 |g::G,all,h=>by rw[sZ,YD G (by rw[List.length_append];omega),Bool.and_false]
theorem avH {all g:L1}(h:XJ all g=true):g≠[]/\∀x∈g,x∉all:=by
 simp only[XJ,Bool.and_eq_true,List.all_eq_true,List.mem_range,decide_eq_true_eq]at h;refine⟨fun e=>h.2 (by rw[e];rfl),fun x hx hxa=> ?_⟩;obtain⟨i,hi⟩:=List.getElem?_of_mem hx;have h1:=h.1 i (aS hi);simp only[GI,RJ hi,Bool.and_eq_true,Bool.not_eq_true']at h1;have:=List.any_eq_false.1 h1.2 x hxa;simp at this
theorem aiG:∀{G:L2}{all:L1},sZ all G=true->G.Nodup/\(∀g∈G,g≠[]/\∀x∈g,x∉all)/\all.length+G.length<=8
 |[],all,h=>⟨List.nodup_nil,by simp,by simpa[sZ]using h⟩
 |g::G,all,h=>by
  rw[sZ,Bool.and_eq_true]at h;obtain⟨h1,h2,h3⟩:=aiG h.2;obtain⟨h4,h5⟩:=avH h.1;refine⟨List.nodup_cons.2 ⟨fun hg=> ?_,h1⟩,fun k hk=> ?_,?_⟩
  ·obtain⟨x,hx⟩:=List.exists_mem_of_ne_nil g h4;exact(h2 g hg).2 x hx (by simp[hx])
  ·rcases List.mem_cons.1 hk with rfl|hk
   ·exact⟨h4,h5⟩
   ·exact⟨(h2 k hk).1,fun x hx hxa=>(h2 k hk).2 x hx (by simp[hxa])⟩
  ·have:=List.length_pos_iff.2 h4;rw[List.length_append]at h3;simp only[List.length_cons];omega
theorem XK {l:List Ent}(h:nC l=true):(l.map Ent.mem).Nodup/\l.length<=8:=by
 simp only[nC,Bool.and_eq_true]at h;obtain⟨h1,_,h3⟩:=aiG h.2;exact⟨h1,by simpa using h3⟩
theorem YH:∀a:L1,bU a a=0
 |[]=>rfl
 |a::x=>by rw[bU,if_neg (by omega),if_neg (by omega),YH x]
theorem akJ :bU a b=0↔a=b:=
 ⟨fun h=>LM (by omega) (by have:=JK b a;have:=JK a b;omega),fun h=>by rw[h,YH]⟩
def as7 (g:L2)(e:Ent):Bool:=g.any fun y=>decide (y=e.mem)
def entOk (g:L2)(n:Int)(e:Ent):Bool:=as7 g e&&decide (e.id<n)
theorem asB {E:List Ent}(g:L2)(n:Int)(h:nC E=true):(decide (g.length=E.length)&&E.all (entOk g n))=(!(E.any fun e=>decide (n<=e.id))&&decide (rA (E.map Ent.mem)=rA g)):=by
 rw[Bool.eq_iff_iff];simp only[Bool.and_eq_true,decide_eq_true_eq,Bool.not_eq_true',List.any_eq_false,List.all_eq_true,entOk,as7,List.any_eq_true,af2 (XK h).1,List.length_map,List.mem_map];constructor
 ·rintro⟨h1,h2⟩;exact⟨fun e he=>by have:=(h2 e he).2;omega,h1,by rintro _ ⟨e,he,rfl⟩;obtain⟨y,hy,rfl⟩:=(h2 e he).1;exact hy⟩
 ·rintro⟨h1,h2,h3⟩;exact⟨h2,fun e he=>⟨⟨_,h3 _ ⟨e,he,rfl⟩,rfl⟩,by have:=h1 e he;omega⟩⟩
end Go.Pl
end
section
namespace Go.Er
open Go.ChangeShapes Go.WideShapes Go.ChangeAt Go.RowKit
variable {P:Program}{W:World}
section
variable {H:Type}{enc:TypeId×Value->H}
theorem aaO (hl:laidOutB P=true){W':World}(hb:Below W.heap.size W W'):
  ∀{ts:List TypeId}{vs:List Value}{ds:List (DataW H)}{ps:List MemPlace},(∀t∈ts,P.readableRec t=true/\t<P.types.size)->
   DataW.TrodAll enc P W 0 (fun _=>true) true ts vs ds ps->DataW.TrodAll enc P W' 0 (fun b=>decide (b<W.heap.size)) true ts vs ds ps:=by
 intro ts
 induction ts with
 |nil=>
  intro vs ds ps _ h;cases vs<;>cases ds<;>simp_all[DataW.TrodAll]
 |cons t ts ih=>
  intro vs ds ps hr h;obtain⟨v,vs',d,ds',p,q,rfl,rfl,rfl,h0,h1⟩:=trodAll_cons h;have lt0:∀x∈p,x.block<W.heap.size:=by obtain⟨m,hm⟩:=h0;exact DataW.trod_lt m _ _ _ hm
  exact trodAll_cons_mk (Below.trod hl (hr t (by simp)).1 (hr t (by simp)).2 h0 hb lt0) (ih (fun t' h'=>hr t' (by simp[h'])) h1)
theorem trodAll_length {base:Nat}{sp:Nat->Bool}{hd:Bool}:
  ∀{ts:List TypeId}{vs:List Value}{ds:List (DataW H)}{ps:List MemPlace},DataW.TrodAll enc P W base sp hd ts vs ds ps->vs.length=ts.length/\ds.length=ts.length:=by
 intro ts
 induction ts with
 |nil=>intro vs ds ps h;cases vs<;>cases ds<;>simp_all[DataW.TrodAll]
 |cons t ts ih=>
  intro vs ds ps h;obtain⟨v,vs',d,ds',p,q,rfl,rfl,rfl,h0,h1⟩:=trodAll_cons h;have:=ih h1;simp[this]
end
abbrev Ext (w w':World):Prop:=Below w.heap.size w w'
theorem Ext.refl (w:World):Ext w w:=Below.refl _ _
theorem Ext.trans {a b c:World}(h:Ext a b)(k:Ext b c):Ext a c:=Below.trans h (k.mono h.size)
theorem Ext.alloc (w:World)(o:Obj):Ext w (w.alloc o):=(Below.refl _ _).alloc (Nat.le_refl _) o
theorem Ext.setCell' {a w:World}(h:Ext a w){p:Addr}(hp:a.heap.size<=p.block)(u:Value):Ext a (w.setCell p u):=Below.setCell h hp u
theorem Ext.cells {w1:World}(hb:Ext W w1):∀b o,b<W.heap.size->w1.cell? ⟨b,o,none⟩=W.cell? ⟨b,o,none⟩:=
 fun b o h=>Below.cell hb (p:=⟨b,o,none⟩) h
def Cells (w:World)(a:Option Addr)(cs:List Value):Prop:=
 ∀i,(h:i<cs.length)->∃b o,a=some ⟨b,o,none⟩/\w.cell? ⟨b,o+i,none⟩=some cs[i]
def Ints (w:World)(a:Option Addr)(l:L1):Prop:=
 ∀i,(h:i<l.length)->∃b o,a=some ⟨b,o,none⟩/\w.cell? ⟨b,o+i,none⟩=some (.int .i64 l[i])
variable {a:Option Addr}{l:L1}
theorem Ints.cells {w:World}(h:Ints w a l):Cells w a (l.map (.int .i64)):=by
 intro i hi;obtain⟨b,o,h1,h2⟩:=h i (by simpa using hi);exact⟨b,o,h1,by simpa using h2⟩
theorem Cells.ints {w:World}(h:Cells w a (l.map (.int .i64))):Ints w a l:=by
 intro i hi;obtain⟨b,o,h1,h2⟩:=h i (by simpa using hi);exact⟨b,o,h1,by simpa using h2⟩
variable {b o:Nat}{v:Value}
theorem lt_of_cell {w:World}(h:w.cell? ⟨b,o,none⟩=some v):b<w.heap.size:=
 World.block_lt_of_cell? w ⟨b,o,none⟩ h
variable {w':World}{cs:List Value}
theorem Cells.ext {w:World}(h:Cells w a cs)(e:Ext w w'):Cells w' a cs:=by
 intro i hi;obtain⟨b,o,h1,h2⟩:=h i hi;exact⟨b,o,h1,by rw[e.cells b _ (lt_of_cell h2)];exact h2⟩
theorem Ints.ext {w:World}(h:Ints w a l)(e:Ext w w'):Ints w' a l:=(h.cells.ext e).ints
def Own1 (w:World)(B:Nat)(e:TypeId)(v:Value)(cs:List Value):Prop:=w.ownsRow B e 1 v cs.length cs
theorem Own1.nil (w:World)(B:Nat)(e:TypeId):Own1 w B e (.slice none 0 0) []:=World.ownsRow_nil w B e 1
variable {B:Nat}{e:TypeId}
theorem Own1.ext {w:World}(h:Own1 w B e v cs)(hE:Ext w w'):Own1 w' B e v cs:=by
 refine⟨h.1,?_⟩;rcases h.2 with h2|⟨g,cap,cur,hv,hg,hh,r⟩
 ·exact Or.inl h2
 ·exact Or.inr ⟨g,cap,cur,hv,hg,by rw[hE.block g (Array.getElem?_eq_some_iff.1 hh).1];exact hh,r⟩
theorem Own1.mono {w:World}{B':Nat}(h:Own1 w B e v cs)(hB:B'<=B):Own1 w B' e v cs:=by
 refine⟨h.1,?_⟩;rcases h.2 with h2|⟨g,cap,cur,hv,hg,r⟩
 ·exact Or.inl h2
 ·exact Or.inr ⟨g,cap,cur,hv,Nat.le_trans hB hg,r⟩
theorem Own1.alloc {w:World}(h:Own1 w B e v cs)(o:Obj):Own1 (w.alloc o) B e v cs:=h.ext (Ext.alloc w o)
theorem Own1.drewN {w:World}(h:Own1 w B e v cs)(n:Nat):Own1 (w.drewN n) B e v cs:=h
theorem Own1.slice {w:World}(h:Own1 w B e v cs):∃a cap,v= .slice a cs.length cap/\Cells w a cs/\(a=none->cs=[]):=by
 rcases h.2 with⟨rfl,hn⟩|⟨g,cap,cur,rfl,hg,hh,hn,hm,hs,ht⟩
 ·have:cs=[]:=List.eq_nil_of_length_eq_zero hn;subst this;exact⟨none,0,rfl,fun i hi=>by simp at hi,fun _=>rfl⟩
 ·refine⟨some ⟨g,0,none⟩,cap,rfl,fun i hi=>⟨g,0,rfl,?_⟩,fun h=>by cases h⟩;have:=World.ownsRow.cellAt (w:=w) h i (by omega);rw[Nat.zero_add,this];simp[hi]
theorem Own1.ints {w:World}(h:Own1 w B e v (l.map (.int .i64))):∃a cap,v= .slice a l.length cap/\Ints w a l:=by
 obtain⟨a,cap,h1,h2,_⟩:=h.slice;exact⟨a,cap,by simpa using h1,h2.ints⟩
theorem Own1.set {w w0:World}{n cap:Nat}(h:Own1 w w0.heap.size e (.slice (some ⟨b,0,none⟩) n cap) cs)(hE:Ext w0 w)(j:Nat)(u:Value):
  Own1 (w.setCell ⟨b,j,none⟩ u) w0.heap.size e (.slice (some ⟨b,0,none⟩) n cap) (cs.set j u)/\Ext w0 (w.setCell ⟨b,j,none⟩ u):=by
 have hn:cs.length=n:=by
  rcases h.2 with⟨h',_⟩|⟨g',cap',cur,h',_⟩<;>simp at h';omega
 subst hn;have hs:=World.ownsRow.stored (w:=w) h j u;refine⟨?_,hE.setCell' (p:=⟨b,j,none⟩) (World.ownsRow.lt h b rfl).1 u⟩;unfold Own1;rw[List.length_set];exact hs.1
theorem Own1.cellAt {w:World}{B:Nat}{e:TypeId}{b n cap:Nat}{cs:List Value}(h:Own1 w B e (.slice (some ⟨b,0,none⟩) n cap) cs)(j:Nat)(hj:j<cs.length):w.cell? ⟨b,j,none⟩=some cs[j]:=by
 have hn:cs.length=n:=by
  rcases h.2 with⟨h',_⟩|⟨g',cap',cur,h',_⟩<;>simp at h';omega
 subst hn;have:=World.ownsRow.cellAt (w:=w) h j (by omega);rw[this];simp[hj]
variable {v2:Value}
theorem Own1.kept {w:World}(h:Own1 w B e v2 cs)(hg:w.grownBy w' v.ownBlock)(hne:v2.ownBlock=none\/v2.ownBlock≠v.ownBlock):Own1 w' B e v2 cs:=
 World.ownsRow.kept h hg hne
def Apart (v v2:Value):Prop:=∀b,v.ownBlock=some b->v2.ownBlock≠some b
theorem Apart.symm (h:Apart v v2):Apart v2 v:=fun b h1 h2=>h b h2 h1
theorem Own1.lt {w:World}(h:Own1 w B e v cs)(hb:v.ownBlock=some b):b<w.heap.size:=(World.ownsRow.lt h b hb).2
theorem Own1.beside {w:World}{v':Value}{cs2:List Value}(h2:Own1 w B e v2 cs2) (hap:Apart v v2) (hg:w.grownBy w' v.ownBlock)
  (hb:(v'.ownBlock=v.ownBlock/\v.ownBlock≠none)\/v'.ownBlock=some w.heap.size):Own1 w' B e v2 cs2/\Apart v' v2:=by
 refine⟨h2.kept hg ?_,?_⟩
 ·cases h:v2.ownBlock with
  |none=>exact Or.inl rfl
  |some b=>
   right;intro h3;exact hap b h3.symm h
 ·intro b h3 h4;rcases hb with⟨h5,_⟩|h5
  ·exact hap b (h5▸h3) h4
  ·rw[h5]at h3;simp at h3;have:=h2.lt h4;omega
theorem Ext.at {w:World}(h:Ext w w')(hc:w.cell? ⟨b,o,none⟩=some v):w'.cell? ⟨b,o,none⟩=some v:=
 (h.cells b o (lt_of_cell hc)).trans hc
def Box (w:World)(b:Nat)(t:TypeId)(vs:Array Value):Prop:=w.heap[b]?=some (.cells vs t (0,0))
theorem Box.new (w:World)(t:TypeId)(vs:Array Value):Box (w.alloc (.cells vs t)) w.heap.size t vs:=heap_alloc_new w _
variable {t:TypeId}{vs:Array Value}
theorem Box.ext {w:World}(h:Box w b t vs)(e:Ext w w'):Box w' b t vs:=by
 unfold Box at*
 rw[e.block b (Array.getElem?_eq_some_iff.1 h).1];exact h
theorem Box.alloc {w:World}(h:Box w b t vs)(o:Obj):Box (w.alloc o) b t vs:=h.ext (Ext.alloc w o)
theorem Box.lt {w:World}(h:Box w b t vs):b<w.heap.size:=(Array.getElem?_eq_some_iff.1 h).1
theorem Box.cell {w:World}(h:Box w b t vs)(i:Nat):w.cell? ⟨b,i,none⟩=vs[i]?:=cell_of_row w b i vs t (0,0) h
theorem Box.free {w:World}(h:Box w b t vs)(i:Nat):w.frozen? ⟨b,i,none⟩=false:=by
 unfold Box at h;simp[World.frozen?,h]
theorem Box.set {w:World}(h:Box w b t vs)(i:Nat)(u:Value):Box (w.setCell ⟨b,i,none⟩ u) b t (vs.setIfInBounds i u):=by
 unfold Box at*
 exact heap_setCell_same w b i vs t u h
theorem Box.setOther {w:World}{c i:Nat}(h:Box w b t vs)(hne:b≠c)(u:Value):Box (w.setCell ⟨c,i,none⟩ u) b t vs:=by
 unfold Box at*
 rw[heap_setCell_other w ⟨c,i,none⟩ b u hne];exact h
theorem Box.drewN {w:World}(h:Box w b t vs)(n:Nat):Box (w.drewN n) b t vs:=h
end Go.Er
end
section
namespace Go.Er
open Go.RowKit
def adS (w:World)(a:Option Addr)(L:L2):Prop:=
 ∀i,(h:i<L.length)->∃b o ai ci,a=some ⟨b,o,none⟩/\w.cell? ⟨b,o+i,none⟩=some (.slice ai L[i].length ci)/\Ints w ai L[i]
variable {w':World}{a:Option Addr}
theorem adS.ext {w:World}{L:L2}(h:adS w a L)(e:Ext w w'):adS w' a L:=by
 intro i hi;obtain⟨b,o,ai,ci,h1,h2,h3⟩:=h i hi;exact⟨b,o,ai,ci,h1,e.at h2,h3.ext e⟩
variable {B:Nat}{e:TypeId}{v:Value}{cs:List Value}{b:Nat}
theorem Own1.setOther {w:World}(h:Own1 w B e v cs){j:Nat}(hne:v.ownBlock≠some b)(u:Value):Own1 (w.setCell ⟨b,j,none⟩ u) B e v cs:=by
 refine⟨h.1,?_⟩;rcases h.2 with h2|⟨g,cap,cur,rfl,hg,hh,r⟩
 ·exact Or.inl h2
 ·refine Or.inr ⟨g,cap,cur,rfl,hg,?_,r⟩;rw[heap_setCell_other w ⟨b,j,none⟩ g u (fun e=>hne (by simp only[Value.ownBlock];rw[e]))];exact hh
theorem Own1.shape {w:World}(h:Own1 w B e v cs)(hne:0<cs.length):∃g cap,v= .slice (some ⟨g,0,none⟩) cs.length cap:=by
 rcases h.2 with⟨_,hn⟩|⟨g,cap,cur,rfl,_⟩
 ·omega
 ·exact⟨g,cap,rfl⟩
theorem Apart.nil (v:Value):Apart (.slice none 0 0) v:=fun b h=>by simp[Value.ownBlock]at h
def Own2 (w:World)(B:Nat)(e2 e1:TypeId)(v:Value)(vs:List Value)(L:List (List Value)):Prop:=
 Own1 w B e2 v vs/\vs.length=L.length/\(∀i,(h:i<vs.length)->(h':i<L.length)->Own1 w B e1 vs[i] L[i]/\Apart vs[i] v)/\
  ∀i j,(h:i<vs.length)->(h':j<vs.length)->i≠j->Apart vs[i] vs[j]
variable {e2 e1:TypeId}{vs:List Value}{L:List (List Value)}
theorem Own2.ext {w:World}(h:Own2 w B e2 e1 v vs L)(hE:Ext w w'):Own2 w' B e2 e1 v vs L:=
 ⟨h.1.ext hE,h.2.1,fun i h1 h2=>⟨(h.2.2.1 i h1 h2).1.ext hE,(h.2.2.1 i h1 h2).2⟩,h.2.2.2⟩
variable {B':Nat}
theorem Own2.mono {w:World}(h:Own2 w B e2 e1 v vs L)(hB:B'<=B):Own2 w B' e2 e1 v vs L:=
 ⟨h.1.mono hB,h.2.1,fun i h1 h2=>⟨(h.2.2.1 i h1 h2).1.mono hB,(h.2.2.1 i h1 h2).2⟩,h.2.2.2⟩
theorem Own2.empty {w:World}(h:Own1 w B e2 v []):Own2 w B e2 e1 v [] []:=
 ⟨h,rfl,fun i h1 _=>by simp at h1,fun i j h1 _ _=>by simp at h1⟩
theorem Own2.push {w:World}{v':Value}{u:Value}(h:Own2 w B e2 e1 v vs L)
  (hu:Own1 w B e1 u cs) (huv:Apart u v) (hus:∀i,(hi:i<vs.length)->Apart u vs[i])
  (hv':Own1 w' B e2 v' (vs++[u])) (hg:w.grownBy w' v.ownBlock) (hb:(v'.ownBlock=v.ownBlock/\v.ownBlock≠none)\/v'.ownBlock=some w.heap.size):
  Own2 w' B e2 e1 v' (vs++[u]) (L++[cs]):=by
 obtain⟨h1,h2,h3,h4⟩:=h;have hbu:=hu.beside huv.symm hg hb;refine⟨hv',by simp[h2],?_,?_⟩
 ·intro i hi hi';simp only[List.length_append,List.length_cons,List.length_nil]at hi hi';by_cases hlt:i<vs.length
  ·have:=h3 i hlt (by omega);have hbi:=this.1.beside this.2.symm hg hb;simp only[List.getElem_append_left hlt,List.getElem_append_left (show i<L.length by omega)];exact⟨hbi.1,hbi.2.symm⟩
  ·have e1:(vs++[u])[i]'(by simp;omega)=u:=by rw[List.getElem_append_right (by omega)];simp
   have e2:(L++[cs])[i]'(by simp;omega)=cs:=by rw[List.getElem_append_right (by omega)];simp
   rw[e1,e2];exact⟨hbu.1,hbu.2.symm⟩
 ·intro i j hi hj hne;simp only[List.length_append,List.length_cons,List.length_nil]at hi hj;by_cases hli:i<vs.length
  ·by_cases hlj:j<vs.length
   ·simp only[List.getElem_append_left hli,List.getElem_append_left hlj];exact h4 i j hli hlj hne
   ·obtain rfl:j=vs.length:=by omega
    simp only[List.getElem_append_left hli,List.getElem_append_right (Nat.le_refl _),Nat.sub_self];exact(hus i hli).symm
  ·obtain rfl:i=vs.length:=by omega
   have hlj:j<vs.length:=by omega
   simp only[List.getElem_append_left hlj,List.getElem_append_right (Nat.le_refl _),Nat.sub_self];exact hus j hlj
variable {n k:Nat}
theorem Own2.put {w w0:World}{cap:Nat}{x:Value}(h:Own2 w w0.heap.size e2 e1 (.slice (some ⟨b,0,none⟩) n cap) vs L) (hE:Ext w0 w')
  (hk:k<vs.length) (hx:Own1 w' w0.heap.size e1 x cs) (hg:w.grownBy w' vs[k].ownBlock) (hb:(x.ownBlock=vs[k].ownBlock/\vs[k].ownBlock≠none)\/x.ownBlock=some w.heap.size):
  Own2 (w'.setCell ⟨b,k,none⟩ x) w0.heap.size e2 e1 (.slice (some ⟨b,0,none⟩) n cap) (vs.set k x) (L.set k cs)/\Ext w0 (w'.setCell ⟨b,k,none⟩ x):=by
 obtain⟨h1,h2,h3,h4⟩:=h;have hkv:=(h3 k hk (by omega)).2;have hv:=h1.beside hkv hg hb;have hset:=hv.1.set hE k x;have hne:∀y:Value,Apart y (.slice (some ⟨b,0,none⟩) n cap)->y.ownBlock≠some b:=fun y hy hyb=>hy b hyb rfl;refine⟨⟨hset.1,by simp[h2],?_,?_⟩,hset.2⟩
 ·intro i hi hi';have hi2:i<vs.length:=by simpa using hi
  have hi3:i<L.length:=by simpa using hi'
  rw[List.getElem_set,List.getElem_set];by_cases hik:k=i
  ·rw[if_pos hik,if_pos hik];exact⟨hx.setOther (hne _ hv.2) x,hv.2⟩
  ·rw[if_neg hik,if_neg hik];have:=h3 i hi2 hi3;have hbi:=this.1.beside (h4 k i hk hi2 hik) hg hb;exact⟨hbi.1.setOther (hne _ this.2) x,this.2⟩
 ·intro i j hi hj hne2;have hi2:i<vs.length:=by simpa using hi
  have hj2:j<vs.length:=by simpa using hj
  rw[List.getElem_set,List.getElem_set];by_cases hik:k=i
  ·rw[if_pos hik,if_neg (by omega)];subst hik;exact((h3 j hj2 (by omega)).1.beside (h4 k j hk hj2 hne2) hg hb).2
  ·rw[if_neg hik];by_cases hjk:k=j
   ·rw[if_pos hjk];subst hjk;exact((h3 i hi2 (by omega)).1.beside (h4 k i hk hi2 (Ne.symm hne2)) hg hb).2.symm
   ·rw[if_neg hjk];exact h4 i j hi2 hj2 hne2
def D7 (B:Nat)(w w':World):Prop:=w.heap.size<=w'.heap.size/\∀k,B<=k->k<w.heap.size->w'.heap[k]?=w.heap[k]?
theorem D7.auO {w:World}(h:Ext w w'):D7 B w w':=⟨h.size,fun k _ hk=>h.block k hk⟩
theorem D7.trans {a b c:World}(h:D7 B a b)(k:D7 B b c):D7 B a c:=
 ⟨Nat.le_trans h.1 k.1,fun i hi hk=>(k.2 i hi (Nat.lt_of_lt_of_le hk h.1)).trans (h.2 i hi hk)⟩
theorem D7.refl (B:Nat)(w:World):D7 B w w:=⟨Nat.le_refl _,fun _ _ _=>rfl⟩
theorem D7.cell {w:World}(h:D7 B w w'){o:Nat}(hb:B<=b)(hc:w.cell? ⟨b,o,none⟩=some v):w'.cell? ⟨b,o,none⟩=some v:=
 (World.cell?_of_block (a:=⟨b,o,none⟩) (h.2 b hb (lt_of_cell hc))).trans hc
theorem D7.setCell (w:World)(hb:b<B)(o:Nat)(u:Value):D7 B w (w.setCell ⟨b,o,none⟩ u):=
 ⟨by simp,fun k hk _=>heap_setCell_other w ⟨b,o,none⟩ k u (by simp;omega)⟩
abbrev Rel (α:Type):=Nat->World->List Value->α->Prop
structure UL {α:Type}(R:Rel α):Prop where
 keep:∀{B w w' vs x},D7 B w w'->R B w vs x->R B w' vs x
 mono:∀{B B' w vs x},B'<=B->R B w vs x->R B' w vs x
variable {α:Type}
theorem UL.ext {R:Rel α}(g:UL R){w:World}{x:α}(h:R B w vs x)(hE:Ext w w'):R B w' vs x:=g.keep (D7.auO hE) h
def Z7 (k:Nat)(R:Rel α)(B:Nat)(w:World)(a:Option Addr)(l:List α):Prop:=
 l.length<=maxLen/\∀i,(h:i<l.length)->∃b o vs,a=some ⟨b,o,none⟩/\B<=b/\vs.length=k/\(∀j,(hj:j<vs.length)->w.cell? ⟨b,o+i*k+j,none⟩=some vs[j])/\R B w vs l[i]
variable {l:List α}
theorem Z7.keep {R:Rel α}(g:UL R){w:World}(h:Z7 k R B w a l)(hk:D7 B w w'):Z7 k R B w' a l:=by
 refine⟨h.1,fun i hi=> ?_⟩;obtain⟨b,o,vs,h1,h2,h3,h4,h5⟩:=h.2 i hi;exact⟨b,o,vs,h1,h2,h3,fun j hj=>hk.cell h2 (h4 j hj),g.keep hk h5⟩
theorem Z7.mono {R:Rel α}(g:UL R){w:World}(h:Z7 k R B w a l)(hB:B'<=B):Z7 k R B' w a l:=by
 refine⟨h.1,fun i hi=> ?_⟩;obtain⟨b,o,vs,h1,h2,h3,h4,h5⟩:=h.2 i hi;exact⟨b,o,vs,h1,Nat.le_trans hB h2,h3,h4,g.mono hB h5⟩
theorem Z7.ext {R:Rel α}(g:UL R){w:World}(h:Z7 k R B w a l)(hE:Ext w w'):Z7 k R B w' a l:=h.keep g (D7.auO hE)
def setCells (w:World)(N:Nat):Nat->List Value->World
 |_,[]=>w
 |o,u::us=>setCells (w.setCell ⟨N,o,none⟩ u) N (o+1) us
def setMany (arr:Array Value):Nat->List Value->Array Value
 |_,[]=>arr
 |o,u::us=>setMany (arr.setIfInBounds o u) (o+1) us
theorem NE:∀(us:List Value) (arr:Array Value) (o:Nat),(setMany arr o us).size=arr.size
 |[],_,_=>rfl
 |u::us,arr,o=>by rw[setMany,NE us];simp
theorem FO:∀(us:List Value) (arr:Array Value) (o m:Nat),o+us.length<=arr.size->(setMany arr o us)[m]?=if o<=m/\m<o+us.length then us[m-o]? else arr[m]?
 |[],arr,o,m,_=>by
  have:¬(o<=m/\m<o+([]:List Value).length):=by simp
  rw[if_neg this];rfl
 |u::us,arr,o,m,h=>by
  simp only[List.length_cons]at h;rw[setMany,FO us _ (o+1) m (by simp;omega)];by_cases h1:m=o
  ·subst h1;have h2:¬(m+1<=m/\m<m+1+us.length):=by omega
   have h3:m<=m/\m<m+(u::us).length:=by simp
   rw[if_neg h2,if_pos h3];have h4:m<arr.size:=by omega
   simp[h4]
  ·by_cases h2:o+1<=m/\m<o+1+us.length
   ·have h3:o<=m/\m<o+(u::us).length:=by simp;omega
    rw[if_pos h2,if_pos h3];have h4:m-o=(m-(o+1))+1:=by omega
    rw[h4,List.getElem?_cons_succ]
   ·have h3:¬(o<=m/\m<o+(u::us).length):=by simp;omega
    rw[if_neg h2,if_neg h3];rw[Array.getElem?_setIfInBounds];have h4:¬o=m:=fun h=>h1 h.symm;rw[if_neg h4]
variable {N:Nat}
theorem Box.setCells :∀(us:List Value) {w:World}{arr:Array Value}(o:Nat),Box w N e arr->Box (setCells w N o us) N e (setMany arr o us)
 |[],_,_,_,h=>h
 |u::us,_,_,o,h=>Box.setCells us (o+1) (h.set o u)
theorem KI (hB:N<B):∀(us:List Value) (w:World) (o:Nat),D7 B w (setCells w N o us)
 |[],_,_=>⟨Nat.le_refl _,fun _ _ _=>rfl⟩
 |u::us,w,o=>(D7.setCell w hB o u).trans (KI hB us _ (o+1))
def pF (k:Nat)(R:Rel α)(N:Nat)(e:TypeId)(n:Nat)(w:World)(l:List α)(i:Nat):Prop:=
 ∃arr:Array Value,Box w N e arr/\arr.size=n*k/\∀j,(hj:j<l.length)->j<i->∃vs:List Value,vs.length=k/\(∀t,(ht:t<vs.length)->arr[j*k+t]?=some vs[t])/\R (N+1) w vs l[j]
variable {i:Nat}
theorem pF.cell {R:Rel α}{w:World}(h:pF k R N e n w l i){m:Nat}(hm:m<n*k):∃y,w.cell? ⟨N,m,none⟩=some y:=by
 obtain⟨arr,h1,h2,_⟩:=h;have h3:m<arr.size:=by omega
 exact⟨arr[m],by rw[h1.cell m];simp[h3]⟩
theorem pF.free {R:Rel α}{w:World}(h:pF k R N e n w l i)(m:Nat):w.frozen? ⟨N,m,none⟩=false:=by
 obtain⟨arr,h1,_⟩:=h;exact h1.free m
theorem pF.lt {R:Rel α}{w:World}(h:pF k R N e n w l i):N<w.heap.size:=by
 obtain⟨arr,h1,_⟩:=h;exact h1.lt
theorem pF.ext {R:Rel α}(g:UL R){w:World}(h:pF k R N e n w l i)(hE:Ext w w'):pF k R N e n w' l i:=by
 obtain⟨arr,h1,h2,h3⟩:=h;refine⟨arr,h1.ext hE,h2,fun j hj hji=> ?_⟩;obtain⟨vs,h4,h5,h6⟩:=h3 j hj hji;exact⟨vs,h4,h5,g.ext h6 hE⟩
theorem pF.start {R:Rel α}{w:World}{xs:List Value}(h:w.ownsRow B e k (.slice (some ⟨N,0,none⟩) n n) n xs)(hn:l.length<=n):pF k R N e n w l 0:=by
 rcases h.2 with⟨h1,_⟩|⟨g,cap,cur,h1,_,h2,_,_,h3,_⟩
 ·cases h1
 ·cases h1;exact⟨cur,h2,h3,fun j _ hj=>absurd hj (by omega)⟩
theorem pF.step {α:Type}{k:Nat}{R:Rel α}(g:UL R) {N:Nat}{e:TypeId}{n:Nat}{w:World}{l:List α}{i:Nat}(h:pF k R N e n w l i) (hi:i<l.length) (hn:l.length<=n)
  {us:List Value}(hu:us.length=k) (hR:R (N+1) w us l[i]):pF k R N e n (setCells w N (i*k) us) l (i+1):=by
 obtain⟨arr,h1,h2,h3⟩:=h;have hb:(i+1)*k<=n*k:=Nat.mul_le_mul_right k (by omega);have hb2:i*k+us.length<=arr.size:=by rw[h2,hu];rw[Nat.add_mul]at hb;omega
 have hkp:=KI (N:=N) (B:=N+1) (by omega) us w (i*k);refine⟨_,h1.setCells us (i*k),by rw[NE];exact h2,fun j hj hji=> ?_⟩;by_cases hji2:j=i
 ·subst hji2;refine⟨us,hu,fun t ht=> ?_,g.keep hkp hR⟩;rw[FO us arr _ _ hb2,if_pos ⟨by omega,by omega⟩];have:j*k+t-j*k=t:=by omega
  rw[this];simp[ht]
 ·obtain⟨vs,h4,h5,h6⟩:=h3 j hj (by omega);refine⟨vs,h4,fun t ht=> ?_,g.keep hkp h6⟩;have hlt:(j+1)*k<=i*k:=Nat.mul_le_mul_right k (by omega);rw[Nat.add_mul]at hlt;rw[FO us arr _ _ hb2,if_neg (by omega)];exact h5 t ht
theorem pF.done {R:Rel α}(g:UL R){w:World}(h:pF k R N e n w l l.length)(hl:l.length<=maxLen):Z7 k R N w (some ⟨N,0,none⟩) l:=by
 obtain⟨arr,h1,h2,h3⟩:=h;refine⟨hl,fun i hi=> ?_⟩;obtain⟨vs,h4,h5,h6⟩:=h3 i hi hi;refine⟨N,0,vs,rfl,Nat.le_refl _,h4,fun j hj=> ?_,g.mono (by omega) h6⟩;rw[h1.cell,Nat.zero_add];exact h5 j hj
theorem Box.keep {w:World}{t:TypeId}{vs:Array Value}(h:Box w b t vs)(hk:D7 B w w')(hb:B<=b):Box w' b t vs:=by
 have hs:=h.lt;unfold Box at*
 rw[hk.2 b hb hs];exact h
end Go.Er
end
section
namespace Go.Er
open Go.ChangeShapes Go.WideShapes Go.ChangeAt Go.RowKit
variable {n:String}{g:Nat}{t:TypeId}
section
variable {H:Type}{enc:TypeId×Value->H}
theorem aaR {P:Program}(hl:laidOutB P=true) {W W':World}(hb:Below W.heap.size W W') (hg:P.globalNamed n=some g) (ht:(P.globals[g]?).map (·.type)=some t) (hr:P.readableRec t=true/\t<P.types.size) {gs:List (DataW H)}{ps:List MemPlace}
  (h:DataW.TrodVars enc P W (fun _=>true) [n] gs ps):∃q,DataW.TrodVars enc P W' (fun b=>decide (b<W.heap.size)) [n] gs q:=by
 obtain⟨g',t',cs,fuel,d,p,rfl,h1,h2,h3,h4,rfl⟩:=trodVars_one h;obtain rfl:=Option.some.inj (hg.symm.trans h1);obtain rfl:=Option.some.inj (ht.symm.trans h2);have h0:DataW.Trod enc P W 0 (fun _=>true) true t (.agg cs) d p:=⟨fuel,h4⟩;have lt0:∀x∈p,x.block<W.heap.size:=DataW.trod_lt fuel _ _ _ h4;obtain⟨m,hm⟩:=Below.trod hl hr.1 hr.2 h0 hb lt0
 have h5:W'.var? P n=some cs:=by
  unfold World.var? at h3|-
  rw[hg]at h3|-
  simp only[Option.bind_some]at h3|-
  have hlt:g<W.heap.size:=by
   cases hx:W.heap[g]? with
   |none=>rw[hx]at h3;cases h3
   |some o=>exact(Array.getElem?_eq_some_iff.1 hx).1
  rw[hb.block g hlt];exact h3
 exact⟨_,trodVars_mk1 hg ht h5 hm⟩
theorem UQ {C:Checked}{f:FuncId}{fn:Func}{s:ChangeSpec}{os:Os}{L:List (String×DataW Unit)}(started:os.Started)
  (own:ownKnob C.prog.godebug=none) (laidOut:laidOutB C.prog=true) (noInit:C.prog.inits.idxOf? f=none) (hfn:C.prog.funcs[f]?=some fn)
  (hvars:s.vars=[n]) (hspec:∀(ds:List (DataW H)) (v:DataW H),ds.length=fn.params.size->s.fn H (ds++[v])={results:=[.lit (.bool true)],args:=ds,vars:=[v]})
  (hg:C.prog.globalNamed n=some g) (ht:(C.prog.globals[g]?).map (·.type)=some t) (hrt:C.prog.readableRec t=true/\t<C.prog.types.size)
  {tb:TypeId}(hres:fn.resultTypes= #[tb]) (hb:C.prog.underlying tb=some .bool)
  (hread:∀t∈fn.params.toList,C.prog.readableRec t=true/\t<C.prog.types.size)
  (witness:∃(w:World) (tape:Tape) (i:Input),w.os=os/\(w.forCall tape i).Shaped C.prog/\i.vars=[]/\Input.okWide C.prog (w.forCall tape i) .any w.heap.size f i/\
   ((s.pre enc C.prog fn [] false (w.forCall tape i).memory i.args/\laidMet C.prog L (w.forCall tape i).memory)/\sizedMet enc C.prog fn (OpenSpec.ofChange s) false (w.forCall tape i).memory i.args)/\({}:Assume).holds C.prog (lone (Frame.enter C.prog f i.args .normal) [] (w.forCall tape i)))
  (walk:∀(W:World) (base:Nat) (args:Array Value) (ds:List (DataW H)) (p:List MemPlace),W.ShapedOpen C.prog->
   (∀(j:Nat) t v,fn.params[j]?=some t->args[j]?=some v->Value.okWide C.prog W .any base t v)->
   DataW.TrodAll enc C.prog W 0 (fun _=>true) true fn.params.toList args.toList ds p->laidMet C.prog L W->
   Calls C.prog f args W fun e W'=>e= .returned (.bool true)/\Below W.heap.size W W'):
  ReturnsInHanded {} C os f .any (fun w args=>(s.pre enc C.prog fn [] false w args/\laidMet C.prog L w)/\sizedMet enc C.prog fn (OpenSpec.ofChange s) false w args) (s.post enc C.prog fn false true false false):=by
 refine returnsInHanded_of_calls own started noInit witness ?_;intro w tape i _ hsh _ hok hpre hholds;obtain⟨_,_,_,fn',hfn',_,_,_,_,hval⟩:=hok;obtain rfl:fn'=fn:=Option.some.inj (hfn'.symm.trans hfn);obtain⟨⟨⟨ds,gs,before,hw,hc⟩,hx⟩,hz⟩:=hpre;have hW:=DataW.Whole.of_heap (w':=w.forCall tape i) (by rfl) hw;have hL:laidMet C.prog L (w.forCall tape i):=hx.of_heap (by rfl);have hW':=hW;obtain⟨p,q,hA,hV,rfl,_,_⟩:=hW;rw[hvars]at hV;have hlen:=(trodAll_length hA).2;refine(walk (w.forCall tape i) w.heap.size i.args ds p hsh hval hA hL).mono fun e W' ⟨he,bel⟩=> ?_;subst he;obtain⟨q2,hV2⟩:=aaR laidOut bel hg ht hrt hV;obtain⟨_,_,_,_,v,_,rfl,_⟩:=trodVars_one hV;refine ChangeSpec.post_blind (v:= .bool true) ?_;have hsp:=hspec ds v (by simpa using hlen);refine⟨ds,[v],p++q,[],p,q2,hW',?_,?_,?_,bel.frame _,fun h=>by cases h⟩
 ·rw[hsp,hres];exact trodAll_mk1 (shut_bool hb _)
 ·rw[hsp];exact aaO laidOut bel hread hA
 ·rw[hsp,hvars];exact hV2
end
end Go.Er
namespace Go.Proofs.YtemiopbofamgcaaGreatDoor
open Go.Dv Go.Pl
open Go.ChangeShapes Go.WideShapes Go.ChangeAt Go.RowKit Go.Er
abbrev tables:List (String×DataW Unit):=[("math/bits.deBruijn32tab",Rows.laid_math_bits_deBruijn32tab),("math/bits.deBruijn64tab",Rows.laid_math_bits_deBruijn64tab),("internal/strconv.uint64pow10",Rows.laid_internal_strconv_uint64pow10),("unicode/utf8.acceptRanges",Rows.laid_unicode_utf8_acceptRanges),("strconv.ErrRange",Rows.laid_strconv_ErrRange),("strconv.ErrSyntax",Rows.laid_strconv_ErrSyntax),("loop.example/g01923/impl.soundCodes",Rows.laid_loop_example_g01923_impl_soundCodes),("unicode/utf8.first",Rows.laid_unicode_utf8_first)]
theorem own:ownKnob Tryz.prog.godebug=none:=by kernel_rfl
theorem laidOut:laidOutB Tryz.prog=true:=by kernel_rfl
theorem az8: "*" ++ "errors.errorString" = "*errors.errorString" :=by decide
theorem arX (u:TypeId)(h:Tryz.prog.typeName? 3 u=some "*errors.errorString"):u=381:=
 typeName_ptr_named (nm:= "errors.errorString") (by rw[az8];kernel_rfl) (by kernel_rfl) (by decide) u (by rw[az8];exact h)
theorem azQ {W:World}(hL:laidMet Tryz.prog tables W):Lib.TabIs Tryz.prog W "internal/strconv.uint64pow10" .u64 Lib.pow10Tab:=by
 have h:=hL.tail.tail;rw[show(Rows.laid_internal_strconv_uint64pow10:DataW Unit)=Lib.tabData .u64 Lib.pow10Tab by kernel_rfl]at h;exact Lib.tabIs_of_head (g:=6) (by kernel_rfl) (by kernel_rfl) Tryz.underlying390 Tryz.underlying248 (by kernel_rfl) (by kernel_rfl) h
theorem aoA {W:World}(hL:laidMet Tryz.prog tables W):Lib.TabIs Tryz.prog W "loop.example/g01923/impl.soundCodes" .i64 F4:=by
 have h:=hL.tail.tail.tail.tail.tail.tail;rw[show(Rows.laid_loop_example_g01923_impl_soundCodes:DataW Unit)=Lib.tabData .i64 F4 by kernel_rfl]at h;exact Lib.tabIs_of_head (g:=0) (by kernel_rfl) (by kernel_rfl) Tryz.underlying335 Tryz.underlying3 (by kernel_rfl) (by kernel_rfl) h
variable {P:Program}{t:TypeId}
theorem akQ {W:World}{base:Nat}{cs:Array Value}(ht:P.cellTypes P.depth t=some [t])(hu:P.underlying t=some (.int .i64))(hs:cs.size=1)(h:Row.ok P W .any base t cs):∃m,cs= #[.int .i64 m]:=by
 obtain⟨ts,h1,_,h3⟩:=h;rw[ht]at h1;obtain rfl:=Option.some.inj h1;obtain⟨v,rfl⟩:=Array.size_eq_one_iff.1 hs;obtain⟨u,hu',hv⟩:=h3 0 v rfl;obtain rfl:t=u:=by simpa using hu'
 unfold Cell.ok at hv;rw[hu]at hv;cases v with
 |int k n=>obtain⟨rfl,_⟩:=hv;exact⟨n,rfl⟩
 |_=>exact hv.elim
theorem anW {W:World}(hS:W.ShapedOpen Tryz.prog)(hL:laidMet Tryz.prog tables W):uB W:=by
 refine⟨azQ hL,?_,?_,?_,aoA hL⟩
 ·obtain⟨a,s,h,_⟩:=laid_sentinel hL.tail.tail.tail.tail.tail (g:=2) (by kernel_rfl) (by kernel_rfl) Tryz.underlying337 arX Tryz.underlying381 Tryz.underlying383 rfl rfl Tryz.underlying9 (by kernel_rfl) (by kernel_rfl);exact⟨_,_,h⟩
 ·obtain⟨a,s,h,_⟩:=laid_sentinel hL.tail.tail.tail.tail (g:=3) (by kernel_rfl) (by kernel_rfl) Tryz.underlying337 arX Tryz.underlying381 Tryz.underlying383 rfl rfl Tryz.underlying9 (by kernel_rfl) (by kernel_rfl);exact⟨_,_,h⟩
 ·obtain⟨cs,h1,h2,h3⟩:=hS.1 1 #[.int .i64 0] 3 (of_decide_eq_true (by kernel_rfl)) (by kernel_rfl);obtain⟨m,rfl⟩:=akQ (by kernel_rfl) Tryz.underlying3 h2 (h3 (by kernel_rfl));exact⟨m,by simp[World.cell?,h1]⟩
theorem apC {W W':World}(h:∀b,b<9->W'.heap[b]?=W.heap[b]?)(hg:uB W):uB W':=by
 have hv:∀(n:String) (g:Nat),Tryz.prog.globalNamed n=some g->g<9->W'.var? Tryz.prog n=W.var? Tryz.prog n:=fun n g h1 h2=>by
  unfold World.var?;rw[h1];simp only[Option.bind_some];rw[h g h2]
 obtain⟨h1,h2,h3,⟨m,h4⟩,h5⟩:=hg;refine⟨(hv _ 6 (by kernel_rfl) (by decide)).trans h1,?_,?_,⟨m,?_⟩,(hv _ 0 (by kernel_rfl) (by decide)).trans h5⟩
 ·rw[hv _ 2 (by kernel_rfl) (by decide)];exact h2
 ·rw[hv _ 3 (by kernel_rfl) (by decide)];exact h3
 ·exact(World.cell?_of_block (a:=⟨1,0,none⟩) (h 1 (by decide))).trans h4
theorem axB {W:World}(hS:W.ShapedOpen Tryz.prog)(hL:laidMet Tryz.prog tables W)(hsz:9<=W.heap.size):Laid W (fun _=>none):=by
 have hg:=anW hS hL;refine⟨(List.range 9).filterMap fun b=>(W.heap[b]?).map fun o=>(b,o),fun W' h=>apC (fun b hb=> ?_) hg,fun p hp=> ?_⟩
 ·have hb2:b<W.heap.size:=by omega
  have h1:=h (b,W.heap[b]) (List.mem_filterMap.2 ⟨b,by simpa using hb,by simp[Array.getElem?_eq_getElem hb2]⟩);rw[h1,Array.getElem?_eq_getElem hb2]
 ·obtain⟨b,_,hb⟩:=List.mem_filterMap.1 hp;simp only[Option.map_eq_some_iff]at hb;obtain⟨o,ho,rfl⟩:=hb;exact⟨ho,rfl⟩
theorem ap1 {W:World}{f:FuncId}{ds:List D}{args:Array Value}(hf:bK Tryz.prog f ds (fun r=>r= .val (dB true)))(hlaid:Laid W (fun _=>none))(hn:args.size=ds.length)(ha:∀(i:Nat) (d:D),ds[i]?=some d->V Tryz.prog W (fun _=>none) d.fz [] (args.getD i undef)):
  Calls Tryz.prog f args W fun e W'=>e= .returned (.bool true)/\Below W.heap.size W W':=by
 refine(hf W (fun _=>none) args 0 (by decide) hlaid (fun _ _=>rfl) hn ha).mono ?_;rintro e W' ⟨v,ow',r,rfl,rfl,haf,_,hsv⟩;have hv:=hsv (fun _=> .un) {tmps:= #[],defers:=[]};simp only[SV,V,D.fz,R]at hv;obtain⟨hv,_⟩:=hv;obtain rfl:v= .bool true:=by simpa using hv
 exact⟨rfl,haf.os,haf.tape,haf.output,haf.size,fun b hb=>(haf.old b hb).1⟩
def setBlock (h:Array Obj)(i:Nat)(cs:Array Value):Array Obj:=h.modify i fun
 | .cells _ t frozen=> .cells cs t frozen
 |o=>o
def BZ:DataW Unit->Array Value
 | .agg parts=>(parts.flatMap fun| .lit (.int k n)=>[Value.int k n]| .agg ps=>(ps.map fun| .lit (.int k n)=>Value.int k n|_=>undef)|_=>[]).toArray
 |_=> #[]
def amW:DataW Unit->ByteArray
 | .iface _ (.ptr (.agg [.lit (.string l)]))=>⟨l.toArray⟩
 |_=>⟨#[]⟩
noncomputable def low:Nat:=(World.holding Tryz.prog default ⟨#[],#[],[]⟩).heap.size
noncomputable def abG (os:Os):World:=
 let w0:=World.holding Tryz.prog os ⟨#[.cells #[.string (amW Rows.laid_strconv_ErrSyntax)] 383,.cells #[.string (amW Rows.laid_strconv_ErrRange)] 383],#[],[]⟩
 {w0 with heap:=setBlock (setBlock (setBlock (setBlock (setBlock (setBlock (setBlock (setBlock w0.heap 6 (BZ Rows.laid_internal_strconv_uint64pow10)) 4 (BZ Rows.laid_unicode_utf8_first)) 5 (BZ Rows.laid_unicode_utf8_acceptRanges)) 7 (BZ Rows.laid_math_bits_deBruijn32tab)) 8 (BZ Rows.laid_math_bits_deBruijn64tab)) 0 (BZ Rows.laid_loop_example_g01923_impl_soundCodes)) 2 #[.iface 381 (.pointer (some ⟨low,0,none⟩))]) 3 #[.iface 381 (.pointer (some ⟨low+1,0,none⟩))]}
theorem arK (os:Os)(args:Array Value):laidMet Tryz.prog tables ((abG os).forCall (fun _ _=>0) ⟨#[],args,[]⟩).memory:=
 laidMet_of_run' 9 (by kernel_rfl) (by kernel_rfl)
theorem aC7 {W:World}(hS:W.ShapedOpen Tryz.prog):9<=W.heap.size:=by
 obtain⟨cs,h1,_⟩:=hS.1 8 (Array.replicate 64 (.int .u8 0)) 393 (of_decide_eq_true (by kernel_rfl)) (by kernel_rfl);exact(Array.getElem?_eq_some_iff.1 h1).1
theorem aiN (h:(P.readableRec t&&decide (t<P.types.size))=true):P.readableRec t=true/\t<P.types.size:=by rw[Bool.and_eq_true,decide_eq_true_eq]at h;exact h
theorem anF:(Tryz.prog.funcs.toList.all fun f=> !f.goes)=true:=by kernel_rfl
theorem azZ (h:(P.funcs.toList.all fun f=> !f.goes)=true)(f:FuncId):P.goes f=false:=by
 have h1:∀fn∈P.funcs.toList,fn.goes=false:=fun fn hf=>by simpa using List.all_eq_true.1 h fn hf
 unfold Program.goes;rw[Bool.or_eq_false_iff,Bool.and_eq_false_iff];refine⟨?_,.inr ?_⟩
 ·rw[List.any_eq_false];intro g _;cases hg:P.funcs[g]? with
  |none=>simp
  |some fn=>simpa using h1 fn (by simpa using Array.mem_of_getElem? hg)
 ·rw[←Array.any_toList,List.any_eq_false];intro fn hf;simp[h1 fn hf]
theorem ayQ (h:(P.funcs.toList.all fun f=> !f.goes)=true){c:OpenClaim}(hs:c.start= .entering):false=c.goesBy P:=by
 unfold OpenClaim.goesBy Program.goesAt Program.goesFrom;rw[hs];cases P.funcNamed c.func with
 |none=>rfl
 |some f=>simp[azZ h f]
theorem an {a b:Bool}(h:a=true)(h':b=true):(a&&b)=true:=by rw[h,h'];rfl
section
variable {H:Type}{enc:TypeId×Value->H}{W:World}{cs:List Value}
theorem aBK (h:Tr enc Tryz.prog W 110 cs):∃v:Ver,Rd Tryz.prog W (gD v) cs:=by
 have hl:=pY Tryz.underlying110 (n:=4) (by kernel_rfl) h;have hf:=pO Tryz.underlying110 h;obtain⟨a,h0⟩:=open_int Tryz.underlying3 (hf 0 _ rfl 0 1 rfl (by kernel_rfl));obtain⟨b,h1⟩:=open_int Tryz.underlying3 (hf 1 _ rfl 1 1 rfl (by kernel_rfl));obtain⟨s,h2⟩:=open_bool Tryz.underlying4 (hf 2 _ rfl 2 1 rfl (by kernel_rfl));obtain⟨t,h3⟩:=open_int Tryz.underlying3 (hf 3 _ rfl 3 1 rfl (by kernel_rfl));exact⟨⟨a,b,s,t⟩,AB (dL h0 (dL h1 (dL h2 (dL h3 (zY hl)))))⟩
theorem awI (h:Tr enc Tryz.prog W 114 cs):∃l:List Str,auU l/\Rd Tryz.prog W (bE l) cs:=
 DX Tryz.underlying114 (k:=1) (by kernel_rfl) (by decide) (fun vs h=>aq9 Tryz.underlying9 h) h
theorem aCI (h:Tr enc Tryz.prog W 132 cs):∃r:Rec,auU r.fields/\Rd Tryz.prog W (vG r) cs:=by
 have hl:=pY Tryz.underlying132 (n:=4) (by kernel_rfl) h;have hf:=pO Tryz.underlying132 h;obtain⟨a,h0⟩:=open_int Tryz.underlying3 (hf 0 _ rfl 0 1 rfl (by kernel_rfl));obtain⟨b,h1⟩:=open_int Tryz.underlying3 (hf 1 _ rfl 1 1 rfl (by kernel_rfl));obtain⟨c,h2⟩:=open_int Tryz.underlying3 (hf 2 _ rfl 2 1 rfl (by kernel_rfl));obtain⟨l,q,h3⟩:=awI (hf 3 _ rfl 3 1 rfl (by kernel_rfl));exact⟨⟨a,b,c,l⟩,q,AB (dL h0 (dL h1 (dL h2 (dL h3 (zY hl)))))⟩
theorem axH (h:Tr enc Tryz.prog W 30 cs):∃l:List Rec,as2 l/\Rd Tryz.prog W (iL l) cs:=
 DX Tryz.underlying30 (k:=4) (by kernel_rfl) (by decide) (fun vs h=>aCI h) h
theorem amX (h:Tr enc Tryz.prog W 31 cs):∃l:List Ver,l.length<=9223372036854775807/\Rd Tryz.prog W (nVers l) cs:=by
 obtain⟨l,q,h⟩:=DX (Q:=fun _:Ver=>True) Tryz.underlying31 (k:=4) (by kernel_rfl) (by decide) (fun vs h=>by obtain⟨v,h⟩:=aBK h;exact⟨v,trivial,h⟩) h;exact⟨l,q.1,h⟩
theorem aeN (h:Tr enc Tryz.prog W 25 cs):∃l:L1,l.length<=9223372036854775807/\Rd Tryz.prog W (nInts l) cs:=by
 obtain⟨l,q,h⟩:=DX (Q:=fun _:Int=>True) Tryz.underlying25 (k:=1) (by kernel_rfl) (by decide) (fun vs h=>by obtain⟨v,h⟩:=open_int Tryz.underlying3 h;exact⟨v,trivial,h⟩) h;exact⟨l,q.1,h⟩
theorem aB6 (h:Tr enc Tryz.prog W 292 cs):∃v:Tst,Rd Tryz.prog W (qP v) cs:=by
 have hl:=pY Tryz.underlying292 (n:=3) (by kernel_rfl) h;have hf:=pO Tryz.underlying292 h;obtain⟨a,h0⟩:=open_int Tryz.underlying3 (hf 0 _ rfl 0 1 rfl (by kernel_rfl));obtain⟨b,h1⟩:=open_int Tryz.underlying3 (hf 1 _ rfl 1 1 rfl (by kernel_rfl));obtain⟨s,h2⟩:=open_bool Tryz.underlying4 (hf 2 _ rfl 2 1 rfl (by kernel_rfl));exact⟨⟨a,b,s⟩,AB (dL h0 (dL h1 (dL h2 (zY hl))))⟩
theorem awG (h:Tr enc Tryz.prog W 187 cs):∃l:List Tst,l.length<=9223372036854775807/\Rd Tryz.prog W (nH l) cs:=by
 have hl:=pY Tryz.underlying187 (n:=1) (by kernel_rfl) h;have hf:=pO Tryz.underlying187 h;obtain⟨l,q,h0⟩:=DX (Q:=fun _:Tst=>True) Tryz.underlying185 (k:=3) (by kernel_rfl) (by decide) (fun vs h=>by obtain⟨v,h⟩:=aB6 h;exact⟨v,trivial,h⟩) (hf 0 _ rfl 0 1 rfl (by kernel_rfl));exact⟨l,q.1,AB (dL h0 (zY hl))⟩
theorem auB (h:Tr enc Tryz.prog W 24 cs):∃r:List (List Tst),anN r/\Rd Tryz.prog W (fZ r) cs:=by
 have hl:=pY Tryz.underlying24 (n:=1) (by kernel_rfl) h;have hf:=pO Tryz.underlying24 h;obtain⟨l,q,h0⟩:=DX Tryz.underlying22 (k:=1) (by kernel_rfl) (by decide) (fun vs h=>awG h) (hf 0 _ rfl 0 1 rfl (by kernel_rfl));exact⟨l,q,AB (dL h0 (zY hl))⟩
theorem aBE (h:Tr enc Tryz.prog W 27 cs):∃s:Sco,s.weights.length<=9223372036854775807/\Rd Tryz.prog W (yH s) cs:=by
 have hl:=pY Tryz.underlying27 (n:=2) (by kernel_rfl) h;have hf:=pO Tryz.underlying27 h;obtain⟨l,q,h0⟩:=aeN (hf 0 _ rfl 0 1 rfl (by kernel_rfl));obtain⟨b,h1⟩:=open_int Tryz.underlying3 (hf 1 _ rfl 1 1 rfl (by kernel_rfl));exact⟨⟨l,b⟩,q,AB (dL h0 (dL h1 (zY hl)))⟩
theorem aB0 (h:Tr enc Tryz.prog W 29 cs):∃c:Cfg,(anN c.rules/\c.sco.weights.length<=9223372036854775807/\c.surv.length<=9223372036854775807)/\Rd Tryz.prog W (aaS c) cs:=by
 have hl:=pY Tryz.underlying29 (n:=4) (by kernel_rfl) h;have hf:=pO Tryz.underlying29 h;obtain⟨r,q0,h0⟩:=auB (hf 0 _ rfl 0 1 rfl (by kernel_rfl));obtain⟨s,q1,h1⟩:=aBE (hf 1 _ rfl 1 2 rfl (by kernel_rfl));obtain⟨l,q2,h2⟩:=aeN (hf 2 _ rfl 3 1 rfl (by kernel_rfl));exact⟨⟨r,s,l⟩,⟨q0,q1,q2⟩,AB (dL h0 (dL h1 (dL h2 (zY hl))))⟩
theorem aBV (h:Tr enc Tryz.prog W 33 cs):∃s:Sto,(as2 s.recs/\s.vers.length<=9223372036854775807)/\Rd Tryz.prog W (MM s) cs:=by
 have hl:=pY Tryz.underlying33 (n:=3) (by kernel_rfl) h;have hf:=pO Tryz.underlying33 h;obtain⟨v,h0⟩:=open_int Tryz.underlying3 (hf 0 _ rfl 0 1 rfl (by kernel_rfl));obtain⟨r,q1,h1⟩:=axH (hf 1 _ rfl 1 1 rfl (by kernel_rfl));obtain⟨l,q2,h2⟩:=amX (hf 2 _ rfl 2 1 rfl (by kernel_rfl));exact⟨⟨v,r,l⟩,⟨q1,q2⟩,AB (dL h0 (dL h1 (dL h2 (zY hl))))⟩
end
end Go.Proofs.YtemiopbofamgcaaGreatDoor
end
section
namespace Go.Proofs.YtemiopbofamgcaaGreatDoor
open Go.Dv Go.Pl Go.Proofs.Tryz
abbrev Q3 (m:List (List Bool)):D:= .sl none (m.map fun r=> .sl none (r.map dB))
abbrev K4 (m:List (List Bool)):D:= .sl (some 207) (m.map fun r=> .sl (some 4) (r.map dB))
variable {α:Type}{i:Nat}{c:α}
theorem drop_at {l:List α}(h:l[i]?=some c):l.drop i=c::l.drop (i+1):=by
 have hi:=aS h;rw[List.drop_eq_getElem_cons hi];congr 1;simpa[List.getElem?_eq_getElem hi]using h
variable {m:L2}
theorem aAE (h:m.all (fun r=>decide (r.length=m.length))=true)(hi:i<m.length):∃r,m[i]?=some r/\r.length=m.length:=by
 obtain⟨r,hr⟩:=aC (l:=m) hi;exact⟨r,hr,by simpa using List.all_eq_true.1 h r (List.mem_of_getElem? hr)⟩
theorem aY (m:L2)(hs:m.length<=1048576:=by first|assumption|omega|(simp;omega)|grind):Fk 102 [aM m] (.val (dB (aI m))):=by
 refine fE good [] func102 ntmps102 fun _ _=> ?_;simp[go_sem];refine wl good (fun(i:Nat)=>[(0,.val (aM m)),(3,.val (dI i))]) (fun(i:Nat)=>(m).length-i) (fun(i:Nat)=>(i<=(m).length)/\(((m).take i).all (fun r=>decide (r.length=m.length))=true)) (0) ⟨(by omega),rfl⟩ ?_;rintro i ⟨h1,h2⟩;simp[go_sem];apply gw<;>intro a
 ·obtain⟨c,hc⟩:=aC (l:=m) (i:=i) (by omega);simp[go_sem,hc];apply gw<;>intro b
  ·have hn:=bI hc (P:=(fun r=>decide (r.length=m.length))) (by first|assumption|(simp[*];done)|grind|(simp;omega));simp[go_sem];grind[aI]
  ·simp[go_sem];refine ai ?_;refine nx (i+1) ⟨(by omega),(aL hc h2 (by first|assumption|(simp[*];done)|grind|(simp;omega)))⟩
 ·simp at a;have hf:=cO h2 a;simp[go_sem];refine wl good (fun(i:Nat)=>[(0,.val (aM m)),(4,.val (dI i))]) (fun(i:Nat)=>m.length-i) (fun(i:Nat)=>(i<=m.length)/\((List.range i).all (fun i=>(List.range m.length).all (yE m i))=true)) (0) ⟨(by omega),rfl⟩ ?_;rintro i ⟨h1j,h2j⟩;simp[go_sem];apply gw<;>intro aj
  ·simp[go_sem];refine wl good (fun(k:Nat)=>[(0,.val (aM m)),(4,.val (dI i)),(5,.val (dI k))]) (fun(k:Nat)=>m.length-k) (fun(k:Nat)=>(k<=m.length)/\((List.range k).all (yE m i)=true)) (0) ⟨(by omega),rfl⟩ ?_;rintro k ⟨h1k,h2k⟩;simp[go_sem];apply gw<;>intro ak
   ·obtain⟨r,hr,hrl⟩:=aAE hf aj;obtain⟨q,hq,hql⟩:=aAE hf ak;obtain⟨c,hc⟩:=aC (l:=r) (i:=k) (by omega);obtain⟨d,hd⟩:=aC (l:=q) (i:=i) (by omega);have e1:=GG hr hc;have e2:=GG hq hd;simp[go_sem];refine wdr good ?_;simp[go_sem,hr,hc];refine cd (aG _ _ _) ?_;simp[go_sem];apply gv<;>intro e
    ·have e':=e;simp at e';have e':yE m i k=false:=by simp[yE,e1,e2];grind
     have hnk:=gP ak (P:=(yE m i)) e';have hn2:=gP aj (P:=fun i=>(List.range m.length).all (yE m i)) hnk;simp[go_sem,e];grind[aI]
    ·have e':=e;simp at e';simp[go_sem,hr,hq,hc,hd,e];apply gv<;>intro f
     ·have f':=f;have f':yE m i k=false:=by simp[yE,e1,e2];grind
      have hnk:=gP ak (P:=(yE m i)) f';have hn2:=gP aj (P:=fun i=>(List.range m.length).all (yE m i)) hnk;simp[go_sem,f];grind[aI]
     ·have f':=f;simp[go_sem,f];apply gv<;>intro g
      ·have g':=g;have gk:i=k:=by omega
       subst gk;obtain rfl:r=q:=by simpa[hr]using hq
       obtain rfl:c=d:=by simpa[hc]using hd
       simp[go_sem,hr,hc];apply gw<;>intro b
       ·have f':yE m i i=false:=by simp[yE,e1,b]
        have hnk:=gP ak (P:=(yE m i)) f';have hn2:=gP aj (P:=fun i=>(List.range m.length).all (yE m i)) hnk;simp[go_sem];grind[aI]
       ·simp[go_sem];refine ai ?_;refine nx (i+1) ⟨(by omega),(iO h2k (by simp[yE,e1,b]))⟩
      ·have g':=g;simp[go_sem,g];refine ai ?_;refine nx (k+1) ⟨(by omega),(iO h2k (by simp[yE,e1,e2];grind))⟩
   ·simp at ak;have hfk:=BF (n:=m.length) h2k (by omega) (by omega);simp[go_sem];refine ai ?_;refine nx (i+1) ⟨(by omega),(iO h2j hfk)⟩
  ·simp at aj;have hfj:=BF (n:=m.length) h2j (by omega) (by omega);simp[go_sem];refine ck (aG _ _ _) ?_;simp[go_sem];grind[aI]
theorem fI (l:L1)(hs:l.length<=1048576:=by first|assumption|omega|(simp;omega)|grind):Fk 116 [nInts l] (.val (dB (bM l))):=by
 refine fE good [] func116 ntmps116 fun _ _=> ?_;simp[go_sem];refine wl good (fun((i,t):(Nat)×(Int))=>[(0,.val (nInts l)),(3,.val (dI t)),(4,.val (dI i))]) (fun(i,t)=>(l).length-i) (fun(i,t)=>(i<=(l).length)/\(rR (-1) l=rR t (l.drop i))/\(-1<=t/\t<=i)) ((0,(-1))) ⟨(by omega),rfl,(by omega)⟩ ?_;rintro⟨i,t⟩ ⟨h1,h2,h3⟩;simp[go_sem];apply gw<;>intro a
 ·obtain⟨c,hc⟩:=aC (l:=l) (i:=i) (by omega);have hdr:=drop_at hc;rw[hdr,rR]at h2;simp[go_sem,hc];refine ai ?_;refine ck (aG _ _ _) ?_;simp[go_sem];apply gw<;>intro b
  ·simp at b;rw[show inR c 0 (t+1)=false by simp;omega]at h2;simp[go_sem];grind[bM]
  ·simp at b;rw[show inR c 0 (t+1)=true by simp;omega,Bool.true_and]at h2;simp[go_sem,hc];refine ai ?_;refine nx (i+1,max t c) ⟨(by omega),(h2),(by omega)⟩
 ·simp at a;rw[List.drop_eq_nil_of_le a]at h2;have hx:rR (-1) l=true:=h2;simp[go_sem];refine ck (aG _ _ _) ?_;simp[go_sem];grind[bM]
theorem mE (n:Int)(l:List Con)(hn: -1048576<=n/\n<=1048576:=by first|assumption|omega|(simp;omega)|grind)(hs:l.length<=1048576:=by first|assumption|omega|(simp;omega)|grind):Fk 176 [dI n,bG l] (.val (dB (aN n l))):=by
 refine fE good [] func176 ntmps176 fun _ _=> ?_;simp[go_sem];refine wl good (fun(i:Nat)=>[(0,.val (dI n)),(1,.val (bG l)),(5,.val (dI i))]) (fun(i:Nat)=>(l).length-i) (fun(i:Nat)=>(i<=(l).length)/\(((l).take i).all (EU n)=true)) (0) ⟨(by omega),rfl⟩ ?_;rintro i ⟨h1,h2⟩;simp[go_sem];apply gw<;>intro a
 ·obtain⟨c,hc⟩:=aC (l:=l) (i:=i) (by omega);simp[go_sem];refine wdr good ?_;simp[go_sem,hc];refine ai ?_;refine cd (aG _ _ _) ?_;simp[go_sem];apply gv<;>intro e
  ·have e':=e;simp at e';have hn:=bI hc (P:=(EU n)) (by simp[EU];omega);simp[go_sem,e];grind[aN]
  ·have e':=e;simp at e';simp[go_sem,hc,e];refine ai ?_;refine cd (aG _ _ _) ?_;simp[go_sem];apply gv<;>intro f
   ·have f':=f;simp at f';have hn:=bI hc (P:=(EU n)) (by simp[EU];omega);simp[go_sem,f];grind[aN]
   ·have f':=f;simp at f';simp[go_sem,hc,f];apply gw<;>intro b
    ·have hn:=bI hc (P:=(EU n)) (by simp[EU];omega);simp[go_sem];grind[aN]
    ·simp at b;simp[go_sem];refine ai ?_;refine nx (i+1) ⟨(by omega),(aL hc h2 (by simp[EU];omega))⟩
 ·simp at a;have hf:=cO h2 a;simp[go_sem];refine ck (aG _ _ _) ?_;simp[go_sem];apply gv<;>intro e
  ·have e':=e;simp at e';simp[go_sem,e];grind[aN]
  ·have e':=e;simp at e';simp[go_sem,e];grind[aN]
theorem kL (l:L1)(cs:List Con)(hs:l.length<=1048576)(hc:cs.length<=1048576):Fk 109 [nInts l,bG cs] (.val (dB (cs.all (oN l)&&bM l))):=by
 refine fE good [] func109 ntmps109 fun _ _=> ?_;simp[go_sem];refine wl good (fun(i:Nat)=>[(0,.val (nInts l)),(1,.val (bG cs)),(5,.val (dI i))]) (fun(i:Nat)=>(cs).length-i) (fun(i:Nat)=>(i<=(cs).length)/\(((cs).take i).all (oN l)=true)) (0) ⟨(by omega),rfl⟩ ?_;rintro i ⟨h1,h2⟩;simp[go_sem];apply gw<;>intro a
 ·obtain⟨c,hc⟩:=aC (l:=cs) (i:=i) (by omega);simp[go_sem];refine wdr good ?_;simp[go_sem,hc];refine ai ?_;refine cd (aG _ _ _) ?_;simp[go_sem];apply gv<;>intro e
  ·have e':=e;simp at e';have hn:=bI hc (P:=(oN l)) (by simp[oN];intros;omega);simp[go_sem,e,hn]
  ·have e':=e;simp at e';simp[go_sem,hc,e];refine ai ?_;refine cd (aG _ _ _) ?_;simp[go_sem];apply gv<;>intro f
   ·have f':=f;simp at f';have hn:=bI hc (P:=(oN l)) (by simp[oN];intros;omega);simp[go_sem,f,hn]
   ·have f':=f;simp at f';obtain⟨x,hx⟩:=aC (l:=l) (i:=c.a.toNat) (by omega);obtain⟨y,hy⟩:=aC (l:=l) (i:=c.b.toNat) (by omega);have ex:=RJ hx;have ey:=RJ hy;simp[go_sem,hc,f,hx,hy];iterate 2 refine ai ?_
    apply gw<;>intro b
    ·simp at b;have hn:=bI hc (P:=(oN l)) (by simp[oN,ex,ey];grind);simp[go_sem,hn]
    ·simp at b;simp[go_sem];refine ai ?_;refine nx (i+1) ⟨(by omega),(aL hc h2 (by simp[oN,ex,ey];grind))⟩
 ·simp at a;have hf:=cO h2 a;simp[go_sem];refine ck (fI _) ?_;simp[go_sem,hf]
theorem EI (m:L2)(l:L1)(hm:aI m=true:=by first|assumption|omega|(simp;omega)|grind)(hl:l.length=m.length:=by first|assumption|omega|(simp;omega)|grind):Fk 182 [aM m,nInts l] (.val (dI (aQ m l))):=by
 refine fE good [] func182 ntmps182 fun _ _=> ?_;have hml:=aP hm;simp[go_sem];refine wl good (fun((i,s):(Nat)×(Int))=>[(0,.val (aM m)),(1,.val (nInts l)),(5,.val (dI s)),(6,.val (dI i))]) (fun(i,s)=>l.length-i) (fun(i,s)=>(i<=l.length)/\(s=loopN i (0) (qF m l))/\(0<=s/\s<=8000*i)) ((0,0)) ⟨(by omega),rfl,(by omega)⟩ ?_;rintro⟨i,s⟩ ⟨h1,h2,h3⟩;simp[go_sem];apply gw<;>intro a
 ·have hs:=aA i (0) (qF m l);rw[←h2]at hs;simp[go_sem];refine wl good (fun((k,t):(Nat)×(Int))=>[(0,.val (aM m)),(1,.val (nInts l)),(5,.val (dI t)),(6,.val (dI i)),(7,.val (dI k))]) (fun(k,t)=>i-k) (fun(k,t)=>(k<=i)/\(t=loopN k (s) (fun k s=>s+lF m l i k))/\(s<=t/\t<=s+1000*k)) ((0,s)) ⟨(by omega),rfl,(by omega)⟩ ?_;rintro⟨k,t⟩ ⟨h1k,h2k,h3k⟩;simp[go_sem];apply gw<;>intro ak
  ·have hsk:=aA k (s) (fun k s=>s+lF m l i k);rw[←h2k]at hsk;obtain⟨r,hr,hrk⟩:=eP hm (i:=i) (k:=k) (by omega) (by omega);have hi:=aD (l:=l) (i:=i) (by omega);have hk:=aD (l:=l) (i:=k) (by omega);have hb:=bZ hm i k;simp[go_sem];refine wdr good ?_;simp[go_sem,hr,hrk];apply gv<;>intro e
   ·have e':=e;simp[go_sem,hi,hk,e];apply gw<;>intro f
    ·have hc:lF m l i k=at2 m i k:=if_pos ⟨e,f⟩;simp[go_sem,hr,hrk];refine ai ?_;refine wdr good ?_;simp[go_sem,hr,hrk];apply gv<;>intro g
     ·have g':=g;exfalso;omega
     ·have g':=g;simp at g';simp[go_sem,g];refine ai ?_;refine nx (k+1,t+at2 m i k) ⟨(by omega),(by rw[hsk,hc]),(by omega)⟩
    ·simp[go_sem];refine wdr good ?_;simp[go_sem,hr,hrk];apply gv<;>intro g
     ·have g':=g;exfalso;omega
     ·have g':=g;simp at g';have hc:lF m l i k=0:=by rw[lF,if_neg (by simp[f]),if_neg (by omega)]
      simp[go_sem,g];refine ai ?_;refine nx (k+1,t) ⟨(by omega),(by rw[hsk,hc];simp),(by omega)⟩
   ·have e':=e;simp at e';simp[go_sem,e];refine wdr good ?_;simp[go_sem,hr,hrk];apply gv<;>intro g
    ·have g':=g;simp[go_sem,hi,hk,g];apply gw<;>intro f
     ·have hc:lF m l i k= - at2 m i k:=by rw[lF,if_neg (by omega),if_pos ⟨g,f⟩]
      simp[go_sem,hr,hrk];iterate 2 refine ai ?_
      refine nx (k+1,t-at2 m i k) ⟨(by omega),(by rw[hsk,hc];omega),(by omega)⟩
     ·have hc:lF m l i k=0:=by rw[lF,if_neg (by omega),if_neg (by simp[f])]
      simp[go_sem];refine ai ?_;refine nx (k+1,t) ⟨(by omega),(by rw[hsk,hc];simp),(by omega)⟩
    ·have g':=g;simp at g';have hc:lF m l i k=0:=by rw[lF,if_neg (by omega),if_neg (by omega)]
     simp[go_sem,g];refine ai ?_;refine nx (k+1,t) ⟨(by omega),(by rw[hsk,hc];simp),(by omega)⟩
  ·simp at ak;have hik:i=k:=by omega
   subst hik;simp[go_sem];refine ai ?_;refine nx (i+1,t) ⟨(by omega),(by rw[hs,qF,h2k]),(by omega)⟩
 ·simp at a;have hi:l.length=i:=by omega
  subst hi;simp[go_sem];exact h2
theorem gJ (m:L2)(l:L1)(hm:m.length<=1048576)(hl:l.length<=1048576):Fk 113 [aM m,nInts l] (.val (dI (if aI m=true/\bM l=true/\l.length=m.length then aQ m l else -1))):=by
 refine fE good [] func113 ntmps113 fun _ _=> ?_;simp[go_sem];refine ck (aY _) ?_;simp[go_sem];apply gv<;>intro e
 ·have e':=e;simp at e';simp[go_sem,e];all_goals grind
 ·have e':=e;simp at e';simp[go_sem,e];refine ck (fI _) ?_;simp[go_sem];apply gv<;>intro f
  ·have f':=f;simp at f';simp[go_sem,f];all_goals grind
  ·have f':=f;simp at f';simp[go_sem,f];apply gw<;>intro b
   ·simp[go_sem];all_goals grind
   ·simp[go_sem];refine ck (EI _ _) ?_;simp[go_sem];all_goals grind
theorem zI (x:Int):Fk 120 [dI x] (.val (dB (inR x 0 5))):=by
 refine fE good [] func120 ntmps120 fun _ _=> ?_;simp[go_sem];refine ck (aH x 0 5) ?_;simp[go_sem]
theorem KD (x:Int):Fk 121 [dI x] (.val (dB (inR x 1 1000))):=by
 refine fE good [] func121 ntmps121 fun _ _=> ?_;simp[go_sem];refine ck (aH x 1 1000) ?_;simp[go_sem]
theorem kI (r:List (List Tst))(hs:r.length<=1048576)(hr:∀l∈r,l.length<=1048576):Fk 57 [fZ r] (.val (dB (dF r))):=by
 refine fE good [] func57 ntmps57 fun _ _=> ?_;simp[go_sem];refine wl good (fun(i:Nat)=>[(1,.own (.bx true (fZ r))),(8,.val (.sl none (r.map nH))),(9,.val (dI r.length)),(10,.val (dI i))]) (fun(i:Nat)=>(r).length-i) (fun(i:Nat)=>(i<=(r).length)/\(((r).take i).all dE=true)) (0) ⟨(by omega),rfl⟩ ?_;rintro i ⟨h1,h2⟩;simp[go_sem];apply gw<;>intro a
 ·obtain⟨c,hc⟩:=aC (l:=r) (i:=i) (by omega);have hcl:=hr c (List.mem_of_getElem? hc);simp[go_sem,hc];refine ck (aH c.length 1 3) ?_;simp[go_sem];apply gw<;>intro b
  ·simp at b;have hn:=bI hc (P:=dE) (by simp[dE];omega);simp[go_sem];grind[dF]
  ·simp at b;simp[go_sem];refine wl good (fun(k:Nat)=>[(1,.own (.bx true (fZ r))),(4,.own (.bx true (nH c))),(8,.val (.sl none (r.map nH))),(9,.val (dI r.length)),(10,.val (dI i)),(20,.val (.sl none (c.map qP))),(21,.val (dI c.length)),(22,.val (dI k))]) (fun(k:Nat)=>(c).length-k) (fun(k:Nat)=>(k<=(c).length)/\((c.take k).all xQ=true)/\(adj (fun a b=>decide (a.feature<b.feature)) (c.take k)=true)) (0) ⟨(by omega),rfl,rfl⟩ ?_;rintro k ⟨h1k,h2k,h3k⟩;simp[go_sem];apply gw<;>intro ak
   ·obtain⟨ck,hck⟩:=aC (l:=c) (i:=k) (by omega);simp[go_sem,hck];refine wdr good ?_;simp[go_sem];refine cd (zI ck.feature) ?_;simp[go_sem];apply gv<;>intro e
    ·have e':=e;simp at e';have hn:=bI hc (P:=dE) (by have:=bI hck (P:=xQ) (by simp[xQ];omega);simp[dE,this]);simp[go_sem,e];grind[dF]
    ·have e':=e;simp at e';simp[go_sem,e];refine cd (KD ck.threshold) ?_;simp[go_sem];apply gv<;>intro f
     ·have f':=f;simp at f';have hn:=bI hc (P:=dE) (by have:=bI hck (P:=xQ) (by simp[xQ];omega);simp[dE,this]);simp[go_sem,f];grind[dF]
     ·have f':=f;simp at f';simp[go_sem,f];apply gv<;>intro g
      ·have g':=g;obtain⟨p,hp⟩:=aC (l:=c) (i:=k-1) (by omega);have hi1:k-1+1=k:=by omega
       simp[go_sem,g,hp];iterate 2 refine ai ?_
       apply gw<;>intro d
       ·have hn:=bI hc (P:=dE) (by have:=zW hp (by rw[hi1];exact hck) (R:=fun a b=>decide (a.feature<b.feature)) (by simp;omega);simp[dE,this]);simp[go_sem];grind[dF]
       ·simp at d;simp[go_sem];refine ai ?_;refine nx (k+1) ⟨(by omega),(aL hck h2k (by simp[xQ];omega)),(by have:=pQ (i:=k-1) (by rw[hi1];exact h3k) hp (by rw[hi1];exact hck) (by simp;omega);rwa [hi1]at this)⟩
      ·have g':=g;simp at g';simp[go_sem,g];refine ai ?_;refine nx (k+1) ⟨(by omega),(aL hck h2k (by simp[xQ];omega)),(by obtain rfl:k=0:=(by omega);exact mU)⟩
   ·simp at ak;have hfk:=cO h2k ak;rw[aK ak]at h3k;simp[go_sem];refine ai ?_;refine nx (i+1) ⟨(by omega),(aL hc h2 (by simp[dE,hfk,h3k];omega))⟩
 ·simp at a;have hf:=cO h2 a;simp[go_sem];refine ck (aH r.length 1 3) ?_;simp[go_sem];grind[dF]
theorem iY (s:Sco)(hw:s.weights.length<=1048576):Fk 58 [yH s] (.val (dB (fC s))):=by
 refine fE good [] func58 ntmps58 fun _ _=> ?_;simp[go_sem];refine wl good (fun(i:Nat)=>[(1,.own (.bx true (yH s))),(3,.val (dI (s.weights.take i).sum)),(7,.val (nInts s.weights)),(8,.val (dI s.weights.length)),(9,.val (dI i))]) (fun(i:Nat)=>(s.weights).length-i) (fun(i:Nat)=>(i<=(s.weights).length)/\((s.weights.take i).all wJ=true)/\(0<=(s.weights.take i).sum/\(s.weights.take i).sum<=9*i)) (0) ⟨(by omega),rfl,(by simp)⟩ ?_;rintro i ⟨h1,h2,h3⟩;simp[go_sem];apply gw<;>intro a
 ·obtain⟨c,hc⟩:=aC (l:=s.weights) (i:=i) (by omega);simp[go_sem,hc];refine ck (aH c 0 9) ?_;simp[go_sem];apply gw<;>intro b
  ·simp at b;have hn:=bI hc (P:=wJ) (by simp[wJ];omega);simp[go_sem];grind[fC]
  ·simp at b;have hsum:(s.weights.take (i+1)).sum=(s.weights.take i).sum+c:=by rw[aU hc];simp
   simp[go_sem];iterate 2 refine ai ?_
   refine nx (i+1) ⟨(by omega),(aL hc h2 (by simp[wJ];omega)),(by omega)⟩ (h3:=by simp[go_sem,hc,hsum])
 ·simp at a;have hf:=cO h2 a;rw[aK a];simp[go_sem];apply gv<;>intro d
  ·have d':=d;simp[go_sem,d];apply gv<;>intro e
   ·have e':=e;simp[go_sem,e];refine ck (aH s.bias 0 1000) ?_;simp[go_sem];grind[fC]
   ·have e':=e;simp at e';simp[go_sem,e];grind[fC]
  ·have d':=d;simp[go_sem,d];grind[fC]
theorem CR (x:Int):Fk 124 [dI x] (.val (dB (inR x 1 4))):=by
 refine fE good [] func124 ntmps124 fun _ _=> ?_;simp[go_sem];refine ck (aH x 1 4) ?_;simp[go_sem]
def wQ (x:Int):Bool:= !inR x 1 4
theorem wZ (x:Int):Fk 123 [dI x] (.val (dB (wQ x))):=by
 refine fE good [] func123 ntmps123 fun _ _=> ?_;simp[go_sem];refine ck (CR x) ?_;simp[go_sem];grind[wQ]
theorem aiE (l:L1)(hl:l.length<=1048576):Fk 193 [nInts l,.one (.func (.func 123) #[] #[])] (.val (dI (ix wQ l))):=by
 refine fE good [] func193 ntmps193 fun _ _=> ?_;simp[go_sem];refine wl good (fun(i:Nat)=>[(0,.val (nInts l)),(1,.val (.one (.func (.func 123) #[] #[]))),(7,.val (dI l.length)),(8,.val (dI i))]) (fun(i:Nat)=>(l).length-i) (fun(i:Nat)=>(i<=(l).length)/\(((l).take i).any wQ=false)) (0) ⟨(by omega),rfl⟩ ?_;rintro i ⟨h1,h2⟩;simp[go_sem];apply gw<;>intro a
 ·obtain⟨c,hc⟩:=aC (l:=l) (i:=i) (by omega);simp[go_sem,hc];refine ck (wZ c) ?_;simp[go_sem];apply gw<;>intro b
  ·have hn:=vH hc h2 (by simp[b]);simp[go_sem,hn]
  ·simp[go_sem];refine ai ?_;refine nx (i+1) ⟨(by omega),(eF hc h2 (by simp[b]))⟩
 ·simp at a;have hf:=jU h2 a;have hx:=kV hf;simp[go_sem,hx]
theorem akF (l:L1)(hl:l.length<=1048576):Fk 122 [nInts l,.one (.func (.func 123) #[] #[])] (.val (dB (l.any wQ))):=by
 refine fE good [] func122 ntmps122 fun _ _=> ?_;have hq:decide (0<=ix wQ l)=l.any wQ:=by rw[Bool.eq_iff_iff,decide_eq_true_eq];exact dK
 simp[go_sem];refine ck (aiE l hl) ?_;simp[go_sem,hq]
theorem avU (l:L1):l.any wQ= !(l.all GV):=by
 induction l with
 |nil=>rfl
 |cons x l ih=>rw[List.any_cons,List.all_cons,ih,wQ,GV];simp
theorem AU (l:L1)(hl:l.length<=1048576):Fk 59 [nInts l] (.val (dB (tH l))):=by
 refine fE good [] func59 ntmps59 fun _ _=> ?_;simp[go_sem];apply gv<;>intro e
 ·have e':=e;simp[go_sem,e];refine ck (akF l hl) ?_;simp[go_sem];rw[avU,tH,decide_eq_true (show l.length=4 by omega)];simp
 ·have e':=e;simp[go_sem,e];rw[tH,decide_eq_false (show¬l.length=4 by omega)];simp
theorem EQ (c:Cfg)(hs:c.rules.length<=1048576)(hr:∀l∈c.rules,l.length<=1048576)(hw:c.sco.weights.length<=1048576)(hv:c.surv.length<=1048576):Fk 21 [aaS c] (.val (dB (eY c))):=by
 refine fE good [] func21 ntmps21 fun _ _=> ?_;simp[go_sem];refine ck (kI c.rules hs hr) ?_;simp[go_sem];apply gv<;>intro e
 ·have e':=e;simp[go_sem,e];refine ck (iY c.sco hw) ?_;simp[go_sem];apply gv<;>intro f
  ·have f':=f;simp[go_sem,f];refine ck (AU c.surv hv) ?_;simp[go_sem];grind[eY]
  ·have f':=f;simp[go_sem,f];grind[eY]
 ·have e':=e;simp[go_sem,e];simp[eY,e']
theorem uD (r:Rec)(hr:inI .i64 (eH r))(h2:inI .i64 (100*r.source)):Fk 61 [vG r] (.val (dI (eH r))):=by
 refine fE good [] func61 ntmps61 fun _ _=> ?_;simp[go_sem];refine ai ?_;exact⟨hr,rfl⟩
theorem BD (x:Int):Fk 201 [dI x] (.val (dB false)):=by
 refine fE good [] func201 ntmps201 fun _ _=> ?_;simp[go_sem]
theorem jM (x y:Int):Fk 135 [dI x,dI y] (.val (dI (cmpI x y))):=by
 refine fE good [] func135 ntmps135 fun _ _=> ?_;simp[go_sem];refine ck (BD x) ?_;simp[go_sem];refine ck (BD y) ?_;simp[go_sem];apply gw<;>intro a
 ·simp[go_sem];grind[cmpI]
 ·simp at a;simp[go_sem];apply gw<;>intro b
  ·simp[go_sem];grind[cmpI]
  ·simp at b;simp[go_sem];grind[cmpI]
def orI (l:L1):Int:=(l.find? fun x=>decide (x≠0)).getD 0
variable {l:L1}
theorem aAW {c:Int}(h:(l.take i).all (fun x=>decide (x=0))=true)(hc:l[i]?=some c)(hn:c≠0):orI l=c:=by
 have hlt:=(List.getElem?_eq_some_iff.1 hc).1;rw[List.getElem?_eq_getElem hlt]at hc;have e:l=l.take i++c::l.drop (i+1):=by rw[←Option.some.inj hc];simp
 have h2:(l.take i).find? (fun x=>decide (x≠0))=none:=by
  rw[List.find?_eq_none];intro x hx;have:=List.all_eq_true.1 h x hx;simpa using this
 rw[orI,e,List.find?_append,h2];simp[hn]
theorem aAS (h:l.all (fun x=>decide (x=0))=true):orI l=0:=by
 have h2:l.find? (fun x=>decide (x≠0))=none:=by
  rw[List.find?_eq_none];intro x hx;have:=List.all_eq_true.1 h x hx;simpa using this
 rw[orI,h2];rfl
theorem aaH (l:L1)(hl:l.length<=1048576):Fk 197 [nInts l] (.val (dI (orI l))):=by
 refine fE good [] func197 ntmps197 fun _ _=> ?_;simp[go_sem];refine wl good (fun(i:Nat)=>[(3,.val (dI 0)),(6,.val (nInts l)),(7,.val (dI l.length)),(8,.val (dI i))]) (fun(i:Nat)=>(l).length-i) (fun(i:Nat)=>(i<=(l).length)/\((l.take i).all (fun x=>decide (x=0))=true)) (0) ⟨(by omega),rfl⟩ ?_;rintro i ⟨h1,h2⟩;simp[go_sem];apply gw<;>intro a
 ·obtain⟨c,hc⟩:=aC (l:=l) (i:=i) (by omega);simp[go_sem,hc];apply gw<;>intro b
  ·have hx:=aAW h2 hc b;simp[go_sem,hx]
  ·simp[go_sem];refine ai ?_;refine nx (i+1) ⟨(by omega),(aL hc h2 (by simpa using b))⟩
 ·simp at a;have hx:orI l=0:=aAS (by rwa [aK a]at h2);simp[go_sem,hx]
theorem KF (x y:Bool):Fk 198 [dB x,dB y] (.val (dI (if x=y then 0 else if y then -1 else 1))):=by
 refine fE good [] func198 ntmps198 fun _ _=> ?_;simp[go_sem];apply gw<;>intro a
 ·simp at a;simp[go_sem];grind
 ·simp at a;simp[go_sem];apply gw<;>intro b
  ·simp[go_sem];grind
  ·simp[go_sem];grind
theorem apG (a b:Ver):orI [cmpI a.a b.a,cmpI a.b b.b,cmpI a.time b.time,if a.same=b.same then 0 else if b.same then -1 else 1]=bP a b:=by
 unfold bP orI;by_cases h1:cmpI a.a b.a=0<;>by_cases h2:cmpI a.b b.b=0<;>by_cases h3:cmpI a.time b.time=0<;>simp[h1,h2,h3];all_goals(cases a.same<;>cases b.same<;>simp)
theorem qY (a b:Ver):Fk 129 [gD a,gD b] (.val (dI (bP a b))):=by
 refine fE good [] func129 ntmps129 fun _ _=> ?_;simp[go_sem];refine wdt good 20 ?_;simp[go_sem];refine cd (jM a.a b.a) ?_;simp[go_sem];refine cd (jM a.b b.b) ?_;simp[go_sem];refine cd (jM a.time b.time) ?_;simp[go_sem];refine cd (KF a.same b.same) ?_;have hx:=apG a b;simp[go_sem];refine ck (aaH [cmpI a.a b.a,cmpI a.b b.b,cmpI a.time b.time,if a.same=b.same then 0 else if b.same then -1 else 1] (by simp)) ?_;simp[go_sem,hx]
theorem vX (l:List Ver)(hs:l.length<=1048576:=by first|assumption|omega|(simp;omega)|grind):Fk 62 [nVers l] (.val (dB (eO l))):=by
 refine fE good [] func62 ntmps62 fun _ _=> ?_;simp[go_sem];refine wl good (fun(i:Nat)=>[(0,.val (nVers l)),(5,.val (nVers l)),(6,.val (dI l.length)),(7,.val (dI i))]) (fun(i:Nat)=>(l).length-i) (fun(i:Nat)=>(i<=(l).length)/\((l.take i).all bH=true)/\(adj (fun a b=>decide (bP a b<0)) (l.take i)=true)) (0) ⟨(by omega),rfl,rfl⟩ ?_;rintro i ⟨h1,h2,h3⟩;simp[go_sem];apply gw<;>intro a
 ·obtain⟨c,hc⟩:=aC (l:=l) (i:=i) (by omega);simp[go_sem,hc];refine wdr good ?_;simp[go_sem];refine cd (DV c) ?_;simp[go_sem];apply gv<;>intro e
  ·have e':=e;simp at e';have hn:=bI hc (P:=bH) (by simpa using e);simp[go_sem,e];grind[eO]
  ·have e':=e;simp at e';simp[go_sem,e];apply gv<;>intro f
   ·have f':=f;obtain⟨p,hp⟩:=aC (l:=l) (i:=i-1) (by omega);have hi1:i-1+1=i:=by omega
    simp[go_sem,f,hp];iterate 2 refine ai ?_
    refine cd (qY p c) ?_;simp[go_sem];apply gw<;>intro b
    ·have hn:=zW hp (by rw[hi1];exact hc) (R:=fun a b=>decide (bP a b<0)) (by simp;omega);simp[go_sem];grind[eO]
    ·simp at b;simp[go_sem];refine ai ?_;refine nx (i+1) ⟨(by omega),(aL hc h2 (by simpa using e)),(by have:=pQ (i:=i-1) (by rw[hi1];exact h3) hp (by rw[hi1];exact hc) (by simp;omega);rwa [hi1]at this)⟩
   ·have f':=f;simp at f';simp[go_sem,f];refine ai ?_;refine nx (i+1) ⟨(by omega),(aL hc h2 (by simpa using e)),(by obtain rfl:i=0:=(by omega);exact mU)⟩
 ·simp at a;have hf:=cO h2 a;rw[aK a]at h3;simp[go_sem];grind[eO]
theorem iB (x n:Int)(hn: -1048576<=n/\n<=1048576:=by first|assumption|omega|(simp;omega)|grind):Fk 277 [dI x,dI n] (.val (dB (inR x 0 (n-1)))):=by
 refine fE good [] func277 ntmps277 fun _ _=> ?_;simp[go_sem];refine ai ?_;refine ck (aH x 0 (n-1)) ?_;simp[go_sem]
theorem pI (l:L1)(hs:l.length<=1048576):Fk 288 [nInts l] (.val (dB (bM l))):=by
 refine fE good [] func288 ntmps288 fun _ _=> ?_;simp[go_sem];refine wl good (fun((i,t):(Nat)×(Int))=>[(0,.val (nInts l)),(3,.val (dI (t+1))),(6,.val (nInts l)),(7,.val (dI l.length)),(8,.val (dI i))]) (fun(i,t)=>(l).length-i) (fun(i,t)=>(i<=(l).length)/\(rR (-1) l=rR t (l.drop i))/\(-1<=t/\t<=i)) ((0,(-1))) ⟨(by omega),rfl,(by omega)⟩ ?_;rintro⟨i,t⟩ ⟨h1,h2,h3⟩;simp[go_sem];apply gw<;>intro a
 ·obtain⟨c,hc⟩:=aC (l:=l) (i:=i) (by omega);have hdr:=drop_at hc;rw[hdr,rR]at h2;simp[go_sem,hc];refine ck (aH c 0 (t+1)) ?_;simp[go_sem];apply gw<;>intro b
  ·simp at b;rw[show inR c 0 (t+1)=false by simp;omega]at h2;simp[go_sem];grind[bM]
  ·simp at b;rw[show inR c 0 (t+1)=true by simp;omega,Bool.true_and]at h2;have hmx:max (t+1) (c+1)=max t c+1:=by omega
   simp[go_sem,hmx];iterate 2 refine ai ?_
   refine nx (i+1,max t c) ⟨(by omega),(h2),(by omega)⟩
 ·simp at a;rw[List.drop_eq_nil_of_le a]at h2;have hx:rR (-1) l=true:=h2;simp[go_sem];refine ck (aH l.length 1 8) ?_;simp[go_sem];grind[bM]
theorem M7 (s:Sto)(hs:s.recs.length<=1048576)(hi:∀r∈s.recs,inI .i64 (eH r)/\inI .i64 (100*r.source)):Fk 66 [MM s] (.own (aF (s.recs.map eH))):=by
 refine fE good [] func66 ntmps66 fun _ _=> ?_;simp[go_sem];refine wl good (fun((i,o):(Nat)×(L1))=>[(3,.own (aF o)),(7,.val (iL s.recs)),(8,.val (dI s.recs.length)),(9,.val (dI i))]) (fun(i,o)=>s.recs.length-i) (fun(i,o)=>(i<=s.recs.length)/\(o=(s.recs.take i).map eH)) ((0,[])) ⟨(by omega),(rfl)⟩ ?_;rintro⟨i,o⟩ ⟨h1,h2⟩;simp[go_sem];apply gw<;>intro a
 ·obtain⟨c,hc⟩:=aC a;have hm:=pU eH hc;rw[←h2]at hm;have hol:o.length=i:=by rw[h2];simp;omega
  have hci:=hi c (List.mem_of_getElem? hc);simp[go_sem,hc];refine ck (uD c hci.1 hci.2) ?_;simp[go_sem];iterate 2 refine ai ?_
  refine nx (i+1,o++[eH c]) ⟨(by omega),(hm.symm)⟩
 ·simp at a;rw[aK a]at h2;subst h2;simp[go_sem]
variable {x:Str}
theorem aBC {l:List Str}{c:Str}(hc:l[i]?=some c)(h:i<=sP l x)(hb:ltL c x=true):i+1<=sP l x:=by
 induction l generalizing i with
 |nil=>cases hc
 |cons y l ih=>
  unfold sP at*
  cases i with
  |zero=>
   obtain rfl:y=c:=by simpa using hc
   simp[hb]
  |succ i=>
   by_cases hy:ltL y x=true
   ·simp only[List.takeWhile_cons,hy,if_true,List.length_cons]at h|-
    have:=ih (i:=i) (by simpa using hc) (by omega);omega
   ·simp[hy]at h
theorem aCR {l:List Str}{c:Str}(hc:l[i]?=some c)(h:i<=sP l x)(hb:ltL c x=false):sP l x=i:=by
 induction l generalizing i with
 |nil=>cases hc
 |cons y l ih=>
  unfold sP at*
  cases i with
  |zero=>
   obtain rfl:y=c:=by simpa using hc
   simp[hb]
  |succ i=>
   by_cases hy:ltL y x=true
   ·simp only[List.takeWhile_cons,hy,if_true,List.length_cons]at h|-
    have:=ih (i:=i) (by simpa using hc) (by omega);omega
   ·simp[hy]at h
theorem pV (l:List Str)(x:Str)(again:Bool)(hl:l.length<=1048576:=by first|assumption|omega|(simp;omega)|grind):Fk 252 [bE l,dS x,dB again] (.val (bE (dP l x again))):=by
 refine fE good [13] func252 ntmps252 fun _ _=> ?_;simp[go_sem];refine wl good (fun(i:Nat)=>[(0,.val (bE l)),(1,.val (dS x)),(2,.val (dB again)),(7,.val (dI i))]) (fun(i:Nat)=>l.length-i) (fun(i:Nat)=>(i<=l.length)/\(i<=sP l x)) (0) ⟨(by omega),(by omega)⟩ ?_;rintro i ⟨h1,h2⟩;simp[go_sem];apply gv<;>intro a
 ·have a':=a;obtain⟨c,hc⟩:=aC (l:=l) (i:=i) (by omega);have hcc:l[i]=c:=by simpa[List.getElem?_eq_getElem a]using hc
  simp[go_sem,a,hcc];apply gw<;>intro b
  ·simp[go_sem];refine ai ?_;refine nx (i+1) ⟨(by omega),(aBC hc h2 b)⟩
  ·have hi:sP l x=i:=aCR hc h2 b;have htp:dP l x again=if again=false/\c=x then l else l.take i++[x]++l.drop i:=by simp[dP,hi,hc]
   simp[go_sem];apply gv<;>intro e
   ·have e':=e;simp at e';simp[go_sem,a,hcc,e];apply gw<;>intro f
    ·simp[go_sem];simp_all
    ·simp[go_sem];refine wdf good [(0,[39]),(4,[39,42,43]),(6,[44,45]),(7,[43,45,46]),(11,[46,49,50]),(12,[50,6])] [(0,.val (bE l)),(1,.val (dS x)),(7,.val (dI i))] [] (by simp[go_sem]) ?_;simp[go_sem];iterate 5 refine ai ?_
     refine eQ good [] (aR 6) ?_;simp[go_sem];simp_all
   ·have e':=e;simp at e';simp[go_sem,e];refine wdf good [(0,[39]),(4,[39,42,43]),(6,[44,45]),(7,[43,45,46]),(11,[46,49,50]),(12,[50,6])] [(0,.val (bE l)),(1,.val (dS x)),(7,.val (dI i))] [] (by simp[go_sem]) ?_;simp[go_sem];iterate 5 refine ai ?_
    refine eQ good [] (aR 6) ?_;simp[go_sem];simp_all
 ·have a':=a;simp at a';have hi:l.length=i:=by omega
  have hia:sP l x=i:=by have:=aqG l x;omega
  have htp:dP l x again=l.take i++[x]++l.drop i:=by simp[dP,hia,List.getElem?_eq_none (show l.length<=i by omega)]
  simp[go_sem,a];apply gv<;>intro e
  ·have e':=e;simp at e';simp[go_sem,a,e];refine wdf good [(0,[39]),(4,[39,42,43]),(6,[44,45]),(7,[43,45,46]),(11,[46,49,50]),(12,[50,6])] [(0,.val (bE l)),(1,.val (dS x)),(7,.val (dI i))] [] (by simp[go_sem]) ?_;simp[go_sem];iterate 5 refine ai ?_
   refine eQ good [] (aR 6) ?_;simp[go_sem];simp_all
  ·have e':=e;simp at e';simp[go_sem,e];refine wdf good [(0,[39]),(4,[39,42,43]),(6,[44,45]),(7,[43,45,46]),(11,[46,49,50]),(12,[50,6])] [(0,.val (bE l)),(1,.val (dS x)),(7,.val (dI i))] [] (by simp[go_sem]) ?_;simp[go_sem];iterate 5 refine ai ?_
   refine eQ good [] (aR 6) ?_;simp[go_sem];simp_all
abbrev oBs (l:Str):D:= .sl (some 5) (l.map dU)
abbrev dC (c:UInt8):D:= .one (.int .u8 c.toNat)
theorem GM (c:UInt8):Fk 362 [dC c] (.val (dB (nU c))):=by
 refine fE good [] func362 ntmps362 fun _ _=> ?_;simp[go_sem];apply gv<;>intro e
 ·have e':=e;simp[go_sem,e];apply gv<;>intro f
  ·have f':=f;simp[go_sem,f];grind[nU]
  ·have f':=f;simp at f';simp[go_sem,f];apply gv<;>intro g
   ·have g':=g;simp[go_sem,g];apply gv<;>intro g1
    ·have g1':=g1;simp[go_sem,g1];omega
    ·have g1':=g1;simp at g1';simp[go_sem,g1];apply gv<;>intro g2
     ·have g2':=g2;simp[go_sem,g2];grind[nU]
     ·have g2':=g2;simp at g2';simp[go_sem,g2];omega
   ·have g':=g;simp at g';simp[go_sem,g];apply gv<;>intro g3
    ·have g3':=g3;simp[go_sem,g3];omega
    ·have g3':=g3;simp at g3';simp[go_sem,g3];omega
 ·have e':=e;simp at e';simp[go_sem,e];apply gv<;>intro g4
  ·have g4':=g4;simp[go_sem,g4];apply gv<;>intro g5
   ·have g5':=g5;simp[go_sem,g5];grind[nU]
   ·have g5':=g5;simp at g5';simp[go_sem,g5];apply gv<;>intro g6
    ·have g6':=g6;simp[go_sem,g6];grind[nU]
    ·have g6':=g6;simp at g6';simp[go_sem,g6];omega
  ·have g4':=g4;simp at g4';simp[go_sem,g4];apply gv<;>intro g7
   ·have g7':=g7;simp[go_sem,g7];grind[nU]
   ·have g7':=g7;simp at g7';simp[go_sem,g7];grind[nU]
theorem nZ (s:Str)(hs:s.length<=1048576:=by first|assumption|omega|(simp;omega)|grind):Fk 314 [dS s] (.val (dS (nM s))):=by
 refine fE good [] func314 ntmps314 fun _ _=> ?_;simp[go_sem];refine wl good (fun((i,o):(Nat)×(Str))=>[(0,.val (dS s)),(3,.own (oBs o)),(4,.val (dI i))]) (fun(i,o)=>(s).length-i) (fun(i,o)=>(i<=(s).length)/\(o=(s.take i).map cB)/\(o.length=i)) ((0,[])) ⟨(by omega),rfl,rfl⟩ ?_;rintro⟨i,o⟩ ⟨h1,h2,h3⟩;simp[go_sem];apply gw<;>intro a
 ·obtain⟨c,hc⟩:=aC (l:=s) (i:=i) (by omega);have hm:=pU cB hc;rw[←h2]at hm;simp[go_sem,hc];apply gv<;>intro e
  ·have e':=e;simp[go_sem,e];apply gw<;>intro f
   ·have hu:=V5 (c:=c) (by omega) (by omega);simp[go_sem];iterate 3 refine ai ?_
    refine nx (i+1,o++[cB c]) ⟨(by omega),(by rw[hm]),(by simp;omega)⟩ (h3:=by simp[go_sem,hc,e,hu])
   ·simp at f;have hu:=JH (c:=c) (by omega);simp[go_sem];iterate 2 refine ai ?_
    refine nx (i+1,o++[cB c]) ⟨(by omega),(by rw[hm]),(by simp;omega)⟩ (h3:=by simp[go_sem,hc,e,hu])
  ·have e':=e;simp at e';have hu:=JH (c:=c) (by omega);simp[go_sem,e];iterate 2 refine ai ?_
   refine nx (i+1,o++[cB c]) ⟨(by omega),(by rw[hm]),(by simp;omega)⟩ (h3:=by simp[go_sem,hc,e,hu])
 ·simp at a;rw[aK a]at h2;simp[go_sem];grind[nM]
theorem K8 (s:Str)(hs:s.length<=1048576):Fk 313 [dS s] (.val (dS (oZ s))):=by
 refine fE good [] func313 ntmps313 fun _ _=> ?_;simp[go_sem];refine wl good (fun((i,o):(Nat)×(Str))=>[(0,.val (dS s)),(3,.own (oBs o)),(4,.val (dI i))]) (fun(i,o)=>(s).length-i) (fun(i,o)=>(i<=(s).length)/\(o=(s.take i).flatMap rV)/\(o.length<=i)) ((0,[])) ⟨(by omega),rfl,(by simp)⟩ ?_;rintro⟨i,o⟩ ⟨h1,h2,h3⟩;simp[go_sem];apply gw<;>intro a
 ·obtain⟨c,hc⟩:=aC (l:=s) (i:=i) (by omega);have hm:=acP rV hc;rw[←h2]at hm;simp[go_sem,hc];refine ck (GM _) ?_;simp[go_sem];apply gv<;>intro e
  ·have e':=e;have hu:rV c=[c]:=if_pos (.inl e);simp[go_sem,hc,e];iterate 2 refine ai ?_
   refine nx (i+1,o++[c]) ⟨(by omega),(by rw[hm,hu]),(by simp;omega)⟩
  ·have e':=e;simp[go_sem,hc,e];apply gw<;>intro f
   ·have hu:rV c=[c]:=if_pos (.inr (by omega));simp[go_sem,hc];iterate 2 refine ai ?_
    refine nx (i+1,o++[c]) ⟨(by omega),(by rw[hm,hu]),(by simp;omega)⟩
   ·simp[go_sem,hc];apply gw<;>intro g
    ·have hu:rV c=[32]:=by rw[rV,if_neg (fun h=>by rcases h with h|h;(rw[e']at h;cases h);omega),if_pos (by omega)]
     simp[go_sem];iterate 2 refine ai ?_
     refine nx (i+1,o++[32]) ⟨(by omega),(by rw[hm,hu]),(by simp;omega)⟩
    ·have hu:rV c=[]:=by rw[rV,if_neg (fun h=>by rcases h with h|h;(rw[e']at h;cases h);omega),if_neg (by omega)]
     simp[go_sem];refine ai ?_;refine nx (i+1,o) ⟨(by omega),(by rw[hm,hu];simp),(by omega)⟩
 ·simp at a;rw[aK a]at h2;simp[go_sem];grind[oZ]
theorem C9 (s:Str)(hs:s.length<=1048576):Fk 312 [dS s] (.val (dS (uW s))):=by
 refine fE good [] func312 ntmps312 fun _ _=> ?_;simp[go_sem];refine wl good (fun((i,o):(Nat)×(Str))=>[(0,.val (dS s)),(3,.own (oBs o)),(4,.val (dI i))]) (fun(i,o)=>s.length-i) (fun(i,o)=>(i<=s.length)/\(o=loopN i ([]) (kC s))/\(o.length<=2*i)/\(i=0->o=[])) ((0,[])) ⟨(by omega),rfl,(by simp),(by simp)⟩ ?_;rintro⟨i,o⟩ ⟨h1,h2,h3,h4⟩;simp[go_sem];apply gw<;>intro a
 ·have hs:=aA i ([]) (kC s);rw[←h2]at hs;obtain⟨c,hc⟩:=aC (l:=s) (i:=i) (by omega);have hg:=P8 hc;simp[go_sem,hc];apply gw<;>intro b
  ·have hu:kC s i o=(if 0<o.length/\(s.getD (i-1) 0).toNat=32 then o++[32]else o)++[c]:=by rw[kC,hg,if_neg (by omega)]
   simp[go_sem];apply gv<;>intro e
   ·have e':=e;have hi:0<i:=by rcases Nat.eq_zero_or_pos i with h|h;(have:=h4 h;subst this;simp at e);exact h
    obtain⟨d,hd⟩:=aC (l:=s) (i:=i-1) (by omega);have hdg:=P8 hd;simp[go_sem,e,hd];iterate 2 refine ai ?_
    apply gw<;>intro f
    ·have hv:kC s i o=o++[32]++[c]:=by rw[hu,if_pos ⟨by simpa using e,by rw[hdg];omega⟩]
     simp[go_sem,hc];iterate 3 refine ai ?_
     refine nx (i+1,o++[32]++[c]) ⟨(by omega),(by rw[hs,hv]),(by simp;omega),(by omega)⟩
    ·have hv:kC s i o=o++[c]:=by rw[hu,if_neg (by rw[hdg];omega)]
     simp[go_sem,hc];iterate 2 refine ai ?_
     refine nx (i+1,o++[c]) ⟨(by omega),(by rw[hs,hv]),(by simp;omega),(by omega)⟩
   ·have e':=e;simp at e';have hv:kC s i o=o++[c]:=by rw[hu,if_neg (by simp_all)]
    simp[go_sem,hc,e];iterate 2 refine ai ?_
    refine nx (i+1,o++[c]) ⟨(by omega),(by rw[hs,hv]),(by simp;omega),(by omega)⟩
  ·have hu:kC s i o=o:=by rw[kC,hg,if_pos (by omega)]
   simp[go_sem];refine ai ?_;refine nx (i+1,o) ⟨(by omega),(by rw[hs,hu]),(by omega),(by omega)⟩
 ·simp at a;have hi:s.length=i:=by omega
  subst hi;simp[go_sem];grind[uW]
theorem yG (s:Str):(normal s).length<=2*s.length:=by
 have h1:=N9 (oZ (nM s));have h2:=EB (nM s);have h3:=BB s;unfold normal;omega
theorem rP (s:Str)(hs:s.length<=65536:=by first|assumption|omega|(simp;omega)|grind):Fk 248 [dS s] (.val (dS (normal s))):=by
 refine fE good [] func248 ntmps248 fun _ _=> ?_;simp[go_sem];refine ck (nZ _) ?_;simp[go_sem];refine ck (K8 _ (by rw[BB];omega)) ?_;simp[go_sem];refine ck (C9 _ (by have:=EB (nM s);rw[BB]at this;omega)) ?_;simp[go_sem];grind[normal]
theorem auS {l:Str}{c:UInt8}(h:l[i]?=some c):l.drop i=c::l.drop (i+1):=drop_at h
theorem aaQ (s:Str)(c:UInt8)(hs:s.length<=1048576):Fk 251 [dS s,dC c] (.own (vZ (ZE c s))):=by
 refine fE good [] func251 ntmps251 fun _ _=> ?_;simp[go_sem];refine wl good (fun((i,f,o):(Nat)×(Nat)×(List Str))=>[(0,.val (dS s)),(1,.val (dC c)),(5,.own (vZ o)),(6,.val (dI f)),(7,.val (dI i))]) (fun(i,f,o)=>s.length-i) (fun(i,f,o)=>(i<=s.length)/\(f<=i)/\(o.length<=i)/\(o++M4 c ((s.drop f).take (i-f)) (s.drop i)=ZE c s)) ((0,0,[])) ⟨(by simp),(by simp),(by simp),(by simp[ZE])⟩ ?_;rintro⟨i,f,o⟩ ⟨h1,h2,h3,h4⟩;simp[go_sem];apply gw<;>intro a
 ·obtain⟨d,hd⟩:=aC (l:=s) (i:=i) (by omega);rw[auS hd]at h4;simp[go_sem,hd];apply gw<;>intro b
  ·simp[go_sem];iterate 4 refine ai ?_
   refine nx (i+1,i+1,o++[(s.drop f).take (i-f)]) ⟨(by omega),(by omega),(by simp;omega),(by simpa[M4,b]using h4)⟩
  ·have he:(s.drop f).take (i+1-f)=(s.drop f).take (i-f)++[d]:=by rw[show i+1-f=(i-f)+1 by omega];exact aU (by rw[List.getElem?_drop,show f+(i-f)=i by omega];exact hd)
   simp[go_sem];refine ai ?_;refine nx (i+1,f,o) ⟨(by omega),(by omega),(by omega),(by rw[he];simpa[M4,b]using h4)⟩
 ·simp at a;have:i=s.length:=by omega
  subst this;rw[List.drop_length,KQ]at h4;simp[go_sem];iterate 2 refine ai ?_
  rw[←h4];simp[M4]
theorem PI (c:UInt8):Fk 320 [dC c] (.val (dI (aB c))):=by
 refine fE good [] func320 ntmps320 fun _ _=> ?_;have hf:nM [c]=[cB c]:=rfl;simp[go_sem];refine ck (nZ [c]) ?_;simp[go_sem,hf];apply gw<;>intro a1
 ·have b1:(cB c).toNat=98:=by rw[a1];rfl
  simp[go_sem,a1];all_goals simp[aB,codeOf,b1]
 ·have b1:¬(cB c).toNat=98:=fun h=>a1 (UInt8.toNat_inj.1 h);simp[go_sem,a1];apply gw<;>intro a2
  ·have b2:(cB c).toNat=102:=by rw[a2];rfl
   simp[go_sem,a2];all_goals simp[aB,codeOf,b2]
  ·have b2:¬(cB c).toNat=102:=fun h=>a2 (UInt8.toNat_inj.1 h);simp[go_sem,a2];apply gw<;>intro a3
   ·have b3:(cB c).toNat=112:=by rw[a3];rfl
    simp[go_sem,a3];all_goals simp[aB,codeOf,b3]
   ·have b3:¬(cB c).toNat=112:=fun h=>a3 (UInt8.toNat_inj.1 h);simp[go_sem,a3];apply gw<;>intro a4
    ·have b4:(cB c).toNat=118:=by rw[a4];rfl
     simp[go_sem];all_goals simp[aB,codeOf,b4]
    ·have b4:¬(cB c).toNat=118:=fun h=>a4 (UInt8.toNat_inj.1 h);simp[go_sem,a4];apply gw<;>intro a5
     ·have b5:(cB c).toNat=99:=by rw[a5];rfl
      simp[go_sem,a5];all_goals simp[aB,codeOf,b5]
     ·have b5:¬(cB c).toNat=99:=fun h=>a5 (UInt8.toNat_inj.1 h);simp[go_sem,a5];apply gw<;>intro a6
      ·have b6:(cB c).toNat=103:=by rw[a6];rfl
       simp[go_sem,a6];all_goals simp[aB,codeOf,b6]
      ·have b6:¬(cB c).toNat=103:=fun h=>a6 (UInt8.toNat_inj.1 h);simp[go_sem,a6];apply gw<;>intro a7
       ·have b7:(cB c).toNat=106:=by rw[a7];rfl
        simp[go_sem,a7];all_goals simp[aB,codeOf,b7]
       ·have b7:¬(cB c).toNat=106:=fun h=>a7 (UInt8.toNat_inj.1 h);simp[go_sem,a7];apply gw<;>intro a8
        ·have b8:(cB c).toNat=107:=by rw[a8];rfl
         simp[go_sem,a8];all_goals simp[aB,codeOf,b8]
        ·have b8:¬(cB c).toNat=107:=fun h=>a8 (UInt8.toNat_inj.1 h);simp[go_sem,a8];apply gw<;>intro a9
         ·have b9:(cB c).toNat=113:=by rw[a9];rfl
          simp[go_sem,a9];all_goals simp[aB,codeOf,b9]
         ·have b9:¬(cB c).toNat=113:=fun h=>a9 (UInt8.toNat_inj.1 h);simp[go_sem,a9];apply gw<;>intro a10
          ·have b10:(cB c).toNat=115:=by rw[a10];rfl
           simp[go_sem,a10];all_goals simp[aB,codeOf,b10]
          ·have b10:¬(cB c).toNat=115:=fun h=>a10 (UInt8.toNat_inj.1 h);simp[go_sem,a10];apply gw<;>intro a11
           ·have b11:(cB c).toNat=120:=by rw[a11];rfl
            simp[go_sem,a11];all_goals simp[aB,codeOf,b11]
           ·have b11:¬(cB c).toNat=120:=fun h=>a11 (UInt8.toNat_inj.1 h);simp[go_sem,a11];apply gw<;>intro a12
            ·have b12:(cB c).toNat=122:=by rw[a12];rfl
             simp[go_sem];all_goals simp[aB,codeOf,b12]
            ·have b12:¬(cB c).toNat=122:=fun h=>a12 (UInt8.toNat_inj.1 h);simp[go_sem,a12];apply gw<;>intro a13
             ·have b13:(cB c).toNat=100:=by rw[a13];rfl
              simp[go_sem,a13];all_goals simp[aB,codeOf,b13]
             ·have b13:¬(cB c).toNat=100:=fun h=>a13 (UInt8.toNat_inj.1 h);simp[go_sem,a13];apply gw<;>intro a14
              ·have b14:(cB c).toNat=116:=by rw[a14];rfl
               simp[go_sem];all_goals simp[aB,codeOf,b14]
              ·have b14:¬(cB c).toNat=116:=fun h=>a14 (UInt8.toNat_inj.1 h);simp[go_sem,a14];apply gw<;>intro a15
               ·have b15:(cB c).toNat=108:=by rw[a15];rfl
                simp[go_sem];all_goals simp[aB,codeOf,b15]
               ·have b15:¬(cB c).toNat=108:=fun h=>a15 (UInt8.toNat_inj.1 h);simp[go_sem,a15];apply gw<;>intro a16
                ·have b16:(cB c).toNat=109:=by rw[a16];rfl
                 simp[go_sem,a16];all_goals simp[aB,codeOf,b16]
                ·have b16:¬(cB c).toNat=109:=fun h=>a16 (UInt8.toNat_inj.1 h);simp[go_sem,a16];apply gw<;>intro a17
                 ·have b17:(cB c).toNat=110:=by rw[a17];rfl
                  simp[go_sem];all_goals simp[aB,codeOf,b17]
                 ·have b17:¬(cB c).toNat=110:=fun h=>a17 (UInt8.toNat_inj.1 h);simp[go_sem,a17];apply gw<;>intro a18
                  ·have b18:(cB c).toNat=114:=by rw[a18];rfl
                   simp[go_sem];all_goals simp[aB,codeOf,b18]
                  ·have b18:¬(cB c).toNat=114:=fun h=>a18 (UInt8.toNat_inj.1 h);simp[go_sem,a18];apply gw<;>intro a19
                   ·have b19:(cB c).toNat=97:=by rw[a19];rfl
                    simp[go_sem,a19];all_goals simp[aB,codeOf,b19]
                   ·have b19:¬(cB c).toNat=97:=fun h=>a19 (UInt8.toNat_inj.1 h);simp[go_sem,a19];apply gw<;>intro a20
                    ·have b20:(cB c).toNat=101:=by rw[a20];rfl
                     simp[go_sem,a20];all_goals simp[aB,codeOf,b20]
                    ·have b20:¬(cB c).toNat=101:=fun h=>a20 (UInt8.toNat_inj.1 h);simp[go_sem,a20];apply gw<;>intro a21
                     ·have b21:(cB c).toNat=105:=by rw[a21];rfl
                      simp[go_sem,a21];all_goals simp[aB,codeOf,b21]
                     ·have b21:¬(cB c).toNat=105:=fun h=>a21 (UInt8.toNat_inj.1 h);simp[go_sem,a21];apply gw<;>intro a22
                      ·have b22:(cB c).toNat=111:=by rw[a22];rfl
                       simp[go_sem,a22];all_goals simp[aB,codeOf,b22]
                      ·have b22:¬(cB c).toNat=111:=fun h=>a22 (UInt8.toNat_inj.1 h);simp[go_sem,a22];apply gw<;>intro a23
                       ·have b23:(cB c).toNat=117:=by rw[a23];rfl
                        simp[go_sem,a23];all_goals simp[aB,codeOf,b23]
                       ·have b23:¬(cB c).toNat=117:=fun h=>a23 (UInt8.toNat_inj.1 h);simp[go_sem,a23];apply gw<;>intro a24
                        ·have b24:(cB c).toNat=121:=by rw[a24];rfl
                         simp[go_sem];all_goals simp[aB,codeOf,b24]
                        ·have b24:¬(cB c).toNat=121:=fun h=>a24 (UInt8.toNat_inj.1 h);simp[go_sem,a24];apply gw<;>intro a25
                         ·have b25:(cB c).toNat=104:=by rw[a25];rfl
                          simp[go_sem,a25];all_goals simp[aB,codeOf,b25]
                         ·have b25:¬(cB c).toNat=104:=fun h=>a25 (UInt8.toNat_inj.1 h);simp[go_sem,a25];apply gw<;>intro a26
                          ·have b26:(cB c).toNat=119:=by rw[a26];rfl
                           simp[go_sem];all_goals simp[aB,codeOf,b26]
                          ·have b26:¬(cB c).toNat=119:=fun h=>a26 (UInt8.toNat_inj.1 h);simp[go_sem,a26];all_goals simp[aB,codeOf,b1,b2,b3,b4,b5,b6,b7,b8,b9,b10,b11,b12,b13,b14,b15,b16,b17,b18,b19,b20,b21,b22,b23,b24,b25,b26]
theorem AR {l:List α}(h:l[i]?=some c):c∈l:=List.mem_of_getElem? h
theorem xL (s:Str)(hs:s.length<=65536:=by first|assumption|omega|(simp;omega)|grind):Fk 171 [dS s] (.val (bE (tokens s))):=by
 refine fE good [] func171 ntmps171 fun _ _=> ?_;simp[go_sem];refine ck (rP _) ?_;simp[go_sem];refine ck (aaQ (normal s) 32 (by have:=yG s;omega)) ?_;have hL:=(afT 32 (normal s)).1;have hn:=yG s;generalize hcs:ZE 32 (normal s)=L at hL|-
 simp[go_sem];refine wlc good [3] (fun((i,o):(Nat)×(List Str))=>[(3,.val (bE o)),(4,.own (vZ L)),(5,.val (dI i))]) (fun(i,o)=>(L).length-i) (fun(i,o)=>(i<=(L).length)/\(o=(L.take i).foldl oH [])/\(o.length<=i)) ((0,[])) ⟨(by omega),rfl,(by simp)⟩ ?_;rintro⟨i,o⟩ ⟨h1,h2,h3⟩;simp[go_sem];apply gw<;>intro a
 ·obtain⟨c,hc⟩:=aC (l:=L) (i:=i) (by omega);have hm:=bB oH [] hc;rw[←h2]at hm;simp[go_sem,hc];apply gw<;>intro b
  ·have hu:oH o c=dP o c false:=if_pos b;have hl:=kN o c false;simp[go_sem,hc];refine ck (pV _ _ _) ?_;simp[go_sem];refine ai ?_;refine nxc (i+1,dP o c false) [3] ⟨(by omega),(by rw[hm,hu]),(by omega)⟩
  ·have hu:oH o c=o:=if_neg (by simp[b]);simp[go_sem];refine ai ?_;refine nxc (i+1,o) [3] ⟨(by omega),(by rw[hm,hu]),(by omega)⟩
 ·simp at a;rw[aK a]at h2;simp[go_sem];simp[tokens,hcs,←h2]
theorem aaV (l:List Str)(x:Str)(hl:l.length<=1048576:=by first|assumption|omega|(simp;omega)|grind):Fk 366 [bE l,dS x] (.val (dB (l.any fun y=>decide (y=x)))):=by
 refine fE good [] func366 ntmps366 fun _ _=> ?_;simp[go_sem];refine wl good (fun(i:Nat)=>[(0,.val (bE l)),(1,.val (dS x)),(5,.val (dI i))]) (fun(i:Nat)=>(l).length-i) (fun(i:Nat)=>(i<=(l).length)/\(((l).take i).any (fun y=>decide (y=x))=false)) (0) ⟨(by omega),rfl⟩ ?_;rintro i ⟨h1,h2⟩;simp[go_sem];apply gw<;>intro a
 ·obtain⟨c,hc⟩:=aC (l:=l) (i:=i) (by omega);simp[go_sem,hc];apply gw<;>intro b
  ·have hn:=amH hc (P:=(fun y=>decide (y=x))) (by simp[b]);simp[go_sem,hn]
  ·simp[go_sem];refine ai ?_;refine nx (i+1) ⟨(by omega),(eF hc h2 (by simp[b]))⟩
 ·simp at a;have hf:=jU h2 a;simp[go_sem,hf]
theorem H8 (l m:List Str)(hl:l.length<=262144)(hm:m.length<=262144):Fk 318 [bE l,bE m] (.val (bE (common l m))):=by
 refine fE good [] func318 ntmps318 fun _ _=> ?_;simp[go_sem];refine wlc good [5] (fun((i,o):(Nat)×(List Str))=>[(0,.val (bE l)),(1,.val (bE m)),(5,.val (bE o)),(6,.val (dI i))]) (fun(i,o)=>(l).length-i) (fun(i,o)=>(i<=(l).length)/\(o=(l.take i).foldl (yT m) [])/\(o.length<=i)) ((0,[])) ⟨(by omega),rfl,(by simp)⟩ ?_;rintro⟨i,o⟩ ⟨h1,h2,h3⟩;simp[go_sem];apply gw<;>intro a
 ·obtain⟨c,hc⟩:=aC (l:=l) (i:=i) (by omega);have hq:=bB (yT m) [] hc;rw[←h2]at hq;simp[go_sem,hc];refine ck (aaV _ _) ?_;simp[go_sem];apply gw<;>intro b
  ·simp at b;have hu:yT m o c=dP o c false:=if_pos (by simpa using b);have hp:=kN o c false;simp[go_sem,hc];refine ck (pV _ _ _) ?_;simp[go_sem];refine ai ?_;refine nxc (i+1,dP o c false) [5] ⟨(by omega),(by rw[hq,hu]),(by omega)⟩
  ·simp at b;have hu:yT m o c=o:=if_neg (fun h=>by obtain⟨y,h1,h2⟩:=List.any_eq_true.1 h;exact b y h1 (by simpa using h2));simp[go_sem];refine ai ?_;refine nxc (i+1,o) [5] ⟨(by omega),(by rw[hq,hu]),(by omega)⟩
 ·simp at a;rw[aK a]at h2;simp[go_sem];grind[common]
theorem JY (l m:List Str)(hl:l.length<=262144)(hm:m.length<=262144):Fk 319 [bE l,bE m] (.val (bE (QP l m))):=by
 refine fE good [] func319 ntmps319 fun _ _=> ?_;simp[go_sem];refine wlc good [5] (fun((i,o):(Nat)×(List Str))=>[(0,.val (bE l)),(1,.val (bE m)),(5,.val (bE o)),(6,.val (dI i))]) (fun(i,o)=>(l).length-i) (fun(i,o)=>(i<=(l).length)/\(o=(l.take i).foldl oC [])/\(o.length<=i)) ((0,[])) ⟨(by omega),rfl,(by simp)⟩ ?_;rintro⟨i,o⟩ ⟨h1,h2,h3⟩;simp[go_sem];apply gw<;>intro a
 ·obtain⟨c,hc⟩:=aC (l:=l) (i:=i) (by omega);have hq:=bB oC [] hc;rw[←h2]at hq;have hp:=kN o c false;simp[go_sem,hc];refine ck (pV _ _ _) ?_;simp[go_sem];refine ai ?_;refine nxc (i+1,dP o c false) [5] ⟨(by omega),(by rw[hq];rfl),(by omega)⟩
 ·simp at a;rw[aK a]at h2;simp[go_sem];refine wl good (fun((i,q):(Nat)×(List Str))=>[(1,.val (bE m)),(5,.val (bE q)),(7,.val (dI i))]) (fun(i,q)=>(m).length-i) (fun(i,q)=>(i<=(m).length)/\(q=(m.take i).foldl oC o)/\(q.length<=o.length+i)) ((0,o)) ⟨(by omega),rfl,(by omega)⟩ ?_;rintro⟨i,q⟩ ⟨h1j,h2j,h3j⟩;simp[go_sem];apply gw<;>intro aj
  ·obtain⟨cj,hcj⟩:=aC (l:=m) (i:=i) (by omega);have hq:=bB oC o hcj;rw[←h2j]at hq;have hp:=kN q cj false;simp[go_sem,hcj];refine ck (pV q cj false) ?_;simp[go_sem];refine ai ?_;refine nx (i+1,dP q cj false) ⟨(by omega),(by rw[hq];rfl),(by omega)⟩
  ·simp at aj;rw[aK aj]at h2j;simp[go_sem];grind[QP]
theorem AZ (s:Str)(hs:s.length<=1048576):Fk 254 [dS s] (.val (dS (digits s))):=by
 refine fE good [] func254 ntmps254 fun _ _=> ?_;simp[go_sem];refine wl good (fun((i,o):(Nat)×(Str))=>[(0,.val (dS s)),(3,.own (oBs o)),(4,.val (dI i))]) (fun(i,o)=>(s).length-i) (fun(i,o)=>(i<=(s).length)/\(o=(s.take i).filter (fun c=>decide (48<=c.toNat/\c.toNat<=57)))/\(o.length<=i)) ((0,[])) ⟨(by omega),rfl,(by simp)⟩ ?_;rintro⟨i,o⟩ ⟨h1,h2,h3⟩;simp[go_sem];apply gw<;>intro a
 ·obtain⟨c,hc⟩:=aC (l:=s) (i:=i) (by omega);have hm:=rD (fun c:UInt8=>decide (48<=c.toNat/\c.toNat<=57)) hc;rw[←h2]at hm;simp[go_sem,hc];apply gv<;>intro e
  ·have e':=e;simp[go_sem,hc,e];apply gw<;>intro f
   ·have hd:(decide (48<=c.toNat/\c.toNat<=57))=true:=by simp;omega
    simp[go_sem,hc];iterate 2 refine ai ?_
    refine nx (i+1,o++[c]) ⟨(by omega),(by rw[hm,hd];rfl),(by simp;omega)⟩
   ·simp at f;have hd:(decide (48<=c.toNat/\c.toNat<=57))=false:=by simp;omega
    simp[go_sem];refine ai ?_;refine nx (i+1,o) ⟨(by omega),(by rw[hm,hd];simp),(by omega)⟩
  ·have e':=e;simp at e';have hd:(decide (48<=c.toNat/\c.toNat<=57))=false:=by simp;omega
   simp[go_sem,e];refine ai ?_;refine nx (i+1,o) ⟨(by omega),(by rw[hm,hd];simp),(by omega)⟩
 ·simp at a;rw[aK a]at h2;simp[go_sem];grind[digits]
theorem KR (x:Int):Fk 256 [dI x] (.val (dB (inR x 0 9999))):=by
 refine fE good [] func256 ntmps256 fun _ _=> ?_;simp[go_sem];refine ck (aG _ _ _) ?_;simp[go_sem]
abbrev ag9 (t:Tri):D:= .agg [dI t.a,dI t.b,dI t.c,dI t.w]
abbrev wY (l:List Tri):D:= .sl none (l.map ag9)
abbrev qU (l:List Tri):D:= .sl (some 217) (l.map ag9)
def rE (x:Int):Int:=if x<0 then -x else x
def aaA (m:L2)(a b c:Nat):L1:=[at2 m a b,at2 m a c,at2 m b c]
def LY (l:L1):Nat:=(l.filter fun x=>decide (x<0)).length
def FQ (l:L1):Nat:=(l.filter fun x=>decide (x>0)).length
def OM (m:L2)(a b c:Int):Bool:=aI m&&decide (0<=a)&&decide (a<b)&&decide (b<c)&&decide (c<m.length)
def nN (m:L2)(a b c:Int):Bool:=OM m a b c&&(decide (LY (aaA m a.toNat b.toNat c.toNat)=1)&&decide (FQ (aaA m a.toNat b.toNat c.toNat)=2))
def yM (x y:Int)(t:Tri):Bool:=(decide (t.a=x)&&decide (t.b=y))||(decide (t.a=x)&&decide (t.c=y))||(decide (t.b=x)&&decide (t.c=y))
def rC (l:List Tri)(x y:Int):Int:=l.foldl (fun s t=>if yM x y t=true then s+t.w else s) 0
theorem ZL {l:List Tri}{w:Int}(hw:0<=w)(h:∀t∈l, -w<=t.w/\t.w<=w)(x y:Int): -(w*l.length)<=rC l x y/\rC l x y<=w*l.length:=by
 have key:∀(l:List Tri) (s:Int),(∀t∈l, -w<=t.w/\t.w<=w)->s-w*l.length<=l.foldl (fun s t=>if yM x y t=true then s+t.w else s) s/\l.foldl (fun s t=>if yM x y t=true then s+t.w else s) s<=s+w*l.length:=by
  intro l
  induction l with
  |nil=>intro s _;simp
  |cons t l ih=>
   intro s h;have h1:=h t (by simp);have h2:=ih (if yM x y t=true then s+t.w else s) (fun t ht=>h t (List.mem_cons_of_mem _ ht));have e:w*((t::l).length:Int)=w*l.length+w:=by simp[Int.mul_add]
   rw[List.foldl_cons,e];by_cases hh:yM x y t=true
   ·simp only[hh,if_true]at h2|-;omega
   ·simp only[hh,if_false,Bool.false_eq_true]at h2|-;omega
 have:=key l 0 h;unfold rC;omega
theorem iQ (x:Int)(hx: -1048576<=x/\x<=1048576):Fk 189 [dI x] (.val (dI (rE x))):=by
 refine fE good [] func189 ntmps189 fun _ _=> ?_;simp[go_sem];apply gw<;>intro h1
 ·simp[go_sem];refine ai ?_;grind[rE]
 ·simp at h1;simp[go_sem];grind[rE]
theorem sO (m:L2)(a b c:Int)(hm:m.length<=1048576:=by first|assumption|omega|(simp;omega)|grind):Fk 262 [aM m,dI a,dI b,dI c] (.val (dB (nN m a b c))):=by
 refine fE good [] func262 ntmps262 fun _ _=> ?_;simp[go_sem];refine ck (aY m hm) ?_;simp[go_sem];apply gv<;>intro e1
 ·have e1':=e1;simp at e1';have h0:nN m a b c=false:=by simp only[nN,OM];rw[e1'];simp
  simp[go_sem,e1,h0]
 ·have e1':=e1;simp at e1';simp[go_sem,e1];apply gv<;>intro e2
  ·have e2':=e2;have h0:nN m a b c=false:=by simp only[nN,OM];rw[decide_eq_false (p:=0<=a) (by omega)];simp
   simp[go_sem,e2,h0]
  ·have e2':=e2;simp at e2';simp[go_sem,e2];apply gv<;>intro e3
   ·have e3':=e3;have h0:nN m a b c=false:=by simp only[nN,OM];rw[decide_eq_false (p:=a<b) (by omega)];simp
    simp[go_sem,e3,h0]
   ·have e3':=e3;simp at e3';simp[go_sem,e3];apply gv<;>intro e4
    ·have e4':=e4;have h0:nN m a b c=false:=by simp only[nN,OM];rw[decide_eq_false (p:=b<c) (by omega)];simp
     simp[go_sem,e4,h0]
    ·have e4':=e4;simp at e4';simp[go_sem,e4];apply gw<;>intro e5
     ·have h0:nN m a b c=false:=by simp only[nN,OM];rw[decide_eq_false (p:=c<m.length) (by omega)];simp
      simp[go_sem,h0]
     ·simp at e5;have ht:OM m a b c=true:=by simp only[OM];rw[e1'];simp;omega
      have h0:nN m a b c=(decide (LY (aaA m a.toNat b.toNat c.toNat)=1)&&decide (FQ (aaA m a.toNat b.toNat c.toNat)=2)):=by simp[nN,ht]
      obtain⟨r,hr,hrb⟩:=eP e1' (i:=a.toNat) (k:=b.toNat) (by omega) (by omega);obtain⟨r',hr',hrc⟩:=eP e1' (i:=a.toNat) (k:=c.toNat) (by omega) (by omega);obtain rfl:r=r':=by rw[hr]at hr';exact Option.some.inj hr'
      obtain⟨q,hq,hqc⟩:=eP e1' (i:=b.toNat) (k:=c.toNat) (by omega) (by omega);have hb0:0<=b:=by omega
      have hc0:0<=c:=by omega
      have hT:aaA m a.toNat b.toNat c.toNat=[at2 m a.toNat b.toNat,at2 m a.toNat c.toNat,at2 m b.toNat c.toNat]:=rfl;have hTl:(aaA m a.toNat b.toNat c.toNat).length=3:=rfl;have hn0:LY []=0:=rfl;have hp0:FQ []=0:=rfl;simp[go_sem];refine wdt good 21 ?_;simp[go_sem,hr,hrb,hrc,hq,hqc,hb0,hc0];refine ai ?_;refine wl good (fun(i:Nat)=>[(9,.val (dI (LY ((aaA m a.toNat b.toNat c.toNat).take i)))),(10,.val (dI (FQ ((aaA m a.toNat b.toNat c.toNat).take i)))),(11,.own (aF (aaA m a.toNat b.toNat c.toNat))),(12,.val (dI i))]) (fun(i:Nat)=>3-i) (fun(i:Nat)=>(i<=3)) (0) (by omega) ?_ (h0:=by simp[go_sem,e2,hr,hrb,hrc,hq,hqc,hb0,hc0,hn0,hp0,hT]);rintro i h1;clear hT;generalize aaA m a.toNat b.toNat c.toNat=T at*
      simp[go_sem];apply gw<;>intro f
      ·have hg:=aD (l:=T) (i:=i) (by omega);have hn1:=rD (fun x:Int=>decide (x<0)) hg;have hp1:=rD (fun x:Int=>decide (x>0)) hg;have hnl:(LY (T.take i))<=3:=Nat.le_trans (List.length_filter_le _ _) (by simp;omega);have hpl:(FQ (T.take i))<=3:=Nat.le_trans (List.length_filter_le _ _) (by simp;omega);simp[go_sem,hg];apply gw<;>intro g
       ·have hn2:LY (T.take (i+1))=LY (T.take i)+1:=by rw[LY,hn1,decide_eq_true g];simp[LY]
        simp[go_sem,hg];refine ai ?_;apply gw<;>intro k
        ·exfalso;omega
        ·simp at k;have hp2:FQ (T.take (i+1))=FQ (T.take i):=by rw[FQ,hp1,decide_eq_false (by omega)];simp[FQ]
         simp[go_sem];refine ai ?_;refine nx (i+1) (by first|omega|(simp;omega)|grind) (h3:=by simp[go_sem,e2,hg,hn2,hp2])
       ·simp at g;have hn2:LY (T.take (i+1))=LY (T.take i):=by rw[LY,hn1,decide_eq_false (by omega)];simp[LY]
        simp[go_sem,hg];apply gw<;>intro k
        ·have hp2:FQ (T.take (i+1))=FQ (T.take i)+1:=by rw[FQ,hp1,decide_eq_true k];simp[FQ]
         simp[go_sem];iterate 2 refine ai ?_
         refine nx (i+1) (by first|omega|(simp;omega)|grind) (h3:=by simp[go_sem,e2,hg,hn2,hp2])
        ·simp at k;have hp2:FQ (T.take (i+1))=FQ (T.take i):=by rw[FQ,hp1,decide_eq_false (by omega)];simp[FQ]
         simp[go_sem];refine ai ?_;refine nx (i+1) (by first|omega|(simp;omega)|grind) (h3:=by simp[go_sem,e2,hg,hn2,hp2])
      ·simp at f;obtain rfl:i=3:=by omega
       rw[show T.take 3=T from List.take_of_length_le (by omega)];simp[go_sem];apply gv<;>intro g
       ·have g':=g;simp[go_sem,g];rw[h0,decide_eq_true (p:=LY T=1) (by omega),Bool.true_and];exact decide_eq_decide.2 (by omega)
       ·have g':=g;simp[go_sem,g];rw[h0,decide_eq_false (p:=LY T=1) (by omega),Bool.false_and]
def P9 (n:Nat)(t:Tri):Prop:=0<=t.a/\t.a<t.b/\t.b<t.c/\t.c<n/\0<=t.w/\t.w<=1000
theorem EA {x:Int}{w:Int}(h: -w<=x/\x<=w):0<=rE x/\rE x<=w:=by unfold rE;split<;>omega
theorem aoW {a b c:Int}(h:nN m a b c=true):aI m=true/\0<=a/\a<b/\b<c/\c<m.length:=by
 simp only[nN,OM,Bool.and_eq_true,decide_eq_true_eq]at h;exact⟨h.1.1.1.1.1,h.1.1.1.1.2,h.1.1.1.2,h.1.1.2,h.1.2⟩
def w3 (m:L2)(a b c:Nat):Int:=min (rE (at2 m a b)) (min (rE (at2 m a c)) (rE (at2 m b c)))
def IK (m:L2)(a b c:Nat)(q:List Tri):List Tri:=if nN m a b c=true then q++[⟨a,b,c,w3 m a b c⟩]else q
def atX (m:L2)(a b:Nat)(p:List Tri):List Tri:=loopN (m.length-(b+1)) p fun j q=>IK m a b (b+1+j) q
def atL (m:L2)(a:Nat)(o:List Tri):List Tri:=loopN (m.length-(a+1)) o fun j p=>atX m a (a+1+j) p
def wR (m:L2):List Tri:=loopN m.length [] (atL m)
def DK (m:L2)(k:Nat)(L:List Tri):Prop:=L.length<=k/\∀t∈L,P9 m.length t
variable {a k:Nat}
theorem acC (hm:aI m=true){b c:Nat}{q:List Tri}(h:DK m k q):DK m (k+1) (IK m a b c q):=by
 unfold IK;split
 ·rename_i hb;have h1:=aoW hb;have v1:=EA (bZ hm a b);have v2:=EA (bZ hm a c);have v3:=EA (bZ hm b c);have hw:0<=w3 m a b c/\w3 m a b c<=1000:=by unfold w3;omega
  refine⟨by have:=h.1;simp;omega,fun t ht=> ?_⟩;rcases List.mem_append.1 ht with h2|h2
  ·exact h.2 t h2
  ·rw[List.mem_singleton.1 h2];unfold P9;simp only;omega
 ·exact⟨by have:=h.1;omega,h.2⟩
theorem alE (hm:aI m=true){b:Nat}{p:List Tri}(h:DK m k p):DK m (k+8) (atX m a b p):=by
 have h8:=aP hm;have:=loopN_inv (n:=m.length-(b+1)) (fun j (q:List Tri)=>DK m (k+j) q) (f:=fun j q=>IK m a b (b+1+j) q) h (fun j q _ hq=>acC hm hq);exact⟨Nat.le_trans this.1 (by omega),this.2⟩
theorem amV (hm:aI m=true){o:List Tri}(h:DK m k o):DK m (k+64) (atL m a o):=by
 have h8:=aP hm;have:=loopN_inv (n:=m.length-(a+1)) (fun j (q:List Tri)=>DK m (k+8*j) q) (f:=fun j p=>atX m a (a+1+j) p) (by simpa using h) (fun j q _ hq=>alE hm hq);exact⟨Nat.le_trans this.1 (by omega),this.2⟩
theorem ZX (hm:aI m=true)(i:Nat):DK m (64*i) (loopN i [] (atL m)):=
 loopN_inv (fun i (q:List Tri)=>DK m (64*i) q) ⟨by simp,by simp⟩ fun i q _ hq=>amV hm hq
theorem HY (m:L2)(hm:aI m=true):Fk 188 [aM m] (.own (qU (wR m))):=by
 refine fE good [] func188 ntmps188 fun _ _=> ?_;have hml:=aP hm;simp[go_sem];refine wl good (fun((a,o):(Nat)×(List Tri))=>[(0,.val (aM m)),(3,.own (qU o)),(4,.val (dI a))]) (fun(a,o)=>m.length-a) (fun(a,o)=>(a<=m.length)/\(o=loopN a ([]) (atL m))/\(DK m (64*a) o)) ((0,[])) ⟨(by omega),(rfl),(⟨by simp,by simp⟩)⟩ ?_;rintro⟨a,o⟩ ⟨h1z,h2z,h3⟩;simp[go_sem];apply gw<;>intro az
 ·have hsz:=aA a ([]) (atL m);rw[←h2z]at hsz;simp[go_sem];refine ai ?_;refine wl good (fun((b,p):(Nat)×(List Tri))=>[(0,.val (aM m)),(3,.own (qU p)),(4,.val (dI a)),(5,.val (dI b))]) (fun(b,p)=>m.length-b) (fun(b,p)=>(a<b/\b<=m.length)/\(p=loopN (b-(a+1)) o (fun j p=>atX m a (a+1+j) p))/\(DK m (64*a+8*(b-(a+1))) p)) ((a+1,o)) ⟨(by omega),(by simp[loopN_zero]),(by simpa using h3)⟩ ?_;rintro⟨b,p⟩ ⟨h4,h5,h6⟩;simp[go_sem];apply gw<;>intro f
  ·have hsb:=aA (b-(a+1)) o (fun j p=>atX m a (a+1+j) p);rw[←h5,show b-(a+1)+1=b+1-(a+1) by omega,show a+1+(b-(a+1))=b by omega]at hsb;simp[go_sem];refine ai ?_;refine wl good (fun((c,q):(Nat)×(List Tri))=>[(0,.val (aM m)),(3,.own (qU q)),(4,.val (dI a)),(5,.val (dI b)),(6,.val (dI c))]) (fun(c,q)=>m.length-c) (fun(c,q)=>(b<c/\c<=m.length)/\(q=loopN (c-(b+1)) p (fun j q=>IK m a b (b+1+j) q))/\(DK m (64*a+8*(b-(a+1))+(c-(b+1))) q)) ((b+1,p)) ⟨(by omega),(by simp[loopN_zero]),(by simpa using h6)⟩ ?_;rintro⟨c,q⟩ ⟨h7,h8,h9⟩;simp[go_sem];apply gw<;>intro g
   ·have hsc:=aA (c-(b+1)) p (fun j q=>IK m a b (b+1+j) q);rw[←h8,show c-(b+1)+1=c+1-(b+1) by omega,show b+1+(c-(b+1))=c by omega]at hsc;have hok:=acC hm (a:=a) (b:=b) (c:=c) h9;rw[show 64*a+8*(b-(a+1))+(c-(b+1))+1=64*a+8*(b-(a+1))+(c+1-(b+1)) by omega]at hok;have hq512:=h9.1;simp[go_sem];refine ck (sO m a b c) ?_;simp[go_sem];apply gw<;>intro k
    ·obtain⟨r,hr,hrb⟩:=eP hm (i:=a) (k:=b) (by omega) (by omega);obtain⟨r',hr',hrc⟩:=eP hm (i:=a) (k:=c) (by omega) (by omega);obtain rfl:r=r':=by rw[hr]at hr';exact Option.some.inj hr'
     obtain⟨s,hs',hsc'⟩:=eP hm (i:=b) (k:=c) (by omega) (by omega);have v1:=bZ hm a b;have v2:=bZ hm a c;have v3:=bZ hm b c;have hta:IK m a b c q=q++[⟨a,b,c,w3 m a b c⟩]:=if_pos k;have hw:min (rE (at2 m a b)) (min (rE (at2 m a c)) (rE (at2 m b c)))=w3 m a b c:=rfl;rw[hta]at hok;simp[go_sem];refine wdf good [(29,[36,37,38,63,64]),(30,[64,65]),(31,[35,65,66,3]),(32,[66,3])] [(0,.val (aM m)),(3,.own (qU q)),(4,.val (dI a)),(5,.val (dI b)),(6,.val (dI c))] [] (by simp[go_sem]) ?_;simp[go_sem,hr,hrb];refine cd (iQ (at2 m a b) (by omega)) ?_;simp[go_sem,hr,hrc];refine cd (iQ (at2 m a c) (by omega)) ?_;simp[go_sem,hs',hsc'];refine cd (iQ (at2 m b c) (by omega)) ?_;simp[go_sem,hw];iterate 2 refine ai ?_
     refine nx (c+1,q++[⟨a,b,c,w3 m a b c⟩]) ⟨(by omega),(by rw[hsc,hta]),(hok)⟩
    ·have hta:IK m a b c q=q:=if_neg (by simp[k]);rw[hta]at hok;simp[go_sem];refine ai ?_;refine nx (c+1,q) ⟨(by omega),(by rw[hsc,hta]),(hok)⟩
   ·simp at g;obtain rfl:c=m.length:=by omega
    have hok:=alE hm (a:=a) (b:=b) h6;simp[go_sem];refine ai ?_;refine nx (b+1,q) ⟨(by omega),(by rw[hsb,h8];rfl),(by rw[h8];rw[show 64*a+8*(b+1-(a+1))=64*a+8*(b-(a+1))+8 by omega];exact hok)⟩
  ·simp at f;obtain rfl:b=m.length:=by omega
   simp[go_sem];refine ai ?_;refine nx (a+1,p) ⟨(by omega),(by rw[hsz,h5];rfl),(by rw[h5];exact amV hm h3)⟩
 ·simp at az;have hiz:m.length=a:=by omega
  subst hiz;simp[go_sem];simp[wR,←h2z]
theorem an1 (l:List Tri)(t:Tri)(x y:Int):rC (l++[t]) x y=if yM x y t=true then rC l x y+t.w else rC l x y:=by simp[rC,List.foldl_append]
theorem an6 {l:List Tri}{t:Tri}(h:l[i]?=some t)(x y:Int):rC (l.take (i+1)) x y=if yM x y t=true then rC (l.take i) x y+t.w else rC (l.take i) x y:=by rw[aU h,an1]
theorem qE (l:List Tri)(x y:Int)(hl:l.length<=1048576:=by first|assumption|omega|(simp;omega)|grind)(hw:∀t∈l, -1048576<=t.w/\t.w<=1048576:=by first|assumption|omega|(simp;omega)|grind):Fk 190 [wY l,dI x,dI y] (.val (dI (rC l x y))):=by
 refine fE good [] func190 ntmps190 fun _ _=> ?_;simp[go_sem];refine wl good (fun((i,s):(Nat)×(Int))=>[(0,.val (wY l)),(1,.val (dI x)),(2,.val (dI y)),(7,.val (dI s)),(8,.val (dI i))]) (fun(i,s)=>l.length-i) (fun(i,s)=>(i<=l.length)/\(s=rC (l.take i) x y)/\(-(1048576*i)<=s/\s<=1048576*i)) ((0,0)) ⟨(by omega),(rfl),(by simp)⟩ ?_;rintro⟨i,s⟩ ⟨h1,h2,h3⟩;simp[go_sem];apply gw<;>intro a
 ·obtain⟨t,ht⟩:=aC a;have hwt:=hw t (AR ht);have hu:=an6 ht x y;simp[go_sem,ht];apply gv<;>intro e
  ·have e':=e;simp[go_sem,e];apply gv<;>intro f
   ·have f':=f;have hb:yM x y t=true:=by simp[yM,e,f]
    simp[go_sem,f];iterate 2 refine ai ?_
    refine nx (i+1,s+t.w) ⟨(by omega),(by rw[hu,hb,if_pos rfl,h2]),(by omega)⟩
   ·have f':=f;simp[go_sem,f];apply gv<;>intro g
    ·have g':=g;have hb:yM x y t=true:=by simp[yM,e,g]
     simp[go_sem,g];iterate 2 refine ai ?_
     refine nx (i+1,s+t.w) ⟨(by omega),(by rw[hu,hb,if_pos rfl,h2]),(by omega)⟩
    ·have g':=g;simp[go_sem,g];apply gv<;>intro k
     ·have k':=k;have hb:yM x y t=false:=by simp[yM,f,g]
      simp[go_sem,g,k];refine ai ?_;refine nx (i+1,s) ⟨(by omega),(by rw[hu,hb,if_neg (by simp),h2]),(by omega)⟩
     ·have k':=k;have hb:yM x y t=false:=by simp[yM,f,g]
      simp[go_sem,k];refine ai ?_;refine nx (i+1,s) ⟨(by omega),(by rw[hu,hb,if_neg (by simp),h2]),(by omega)⟩
  ·have e':=e;simp[go_sem,e];apply gv<;>intro k
   ·have k':=k;simp[go_sem,k];apply gw<;>intro n
    ·have hb:yM x y t=true:=by simp[yM,k,n]
     simp[go_sem];iterate 2 refine ai ?_
     refine nx (i+1,s+t.w) ⟨(by omega),(by rw[hu,hb,if_pos rfl,h2]),(by omega)⟩
    ·have hb:yM x y t=false:=by simp[yM,e,n]
     simp[go_sem];refine ai ?_;refine nx (i+1,s) ⟨(by omega),(by rw[hu,hb,if_neg (by simp),h2]),(by omega)⟩
   ·have k':=k;have hb:yM x y t=false:=by simp[yM,e,k]
    simp[go_sem,k];refine ai ?_;refine nx (i+1,s) ⟨(by omega),(by rw[hu,hb,if_neg (by simp),h2]),(by omega)⟩
 ·simp at a;obtain rfl:i=l.length:=by omega
  rw[List.take_length]at h2;simp[go_sem];omega
theorem dH (l:L1)(x:Int)(hl:l.length<=1048576:=by first|assumption|omega|(simp;omega)|grind):Fk 199 [nInts l,dI x] (.val (dI (ix (fun y=>decide (x=y)) l))):=by
 refine fE good [] func199 ntmps199 fun _ _=> ?_;simp[go_sem];refine wl good (fun(i:Nat)=>[(0,.val (nInts l)),(1,.val (dI x)),(6,.val (nInts l)),(7,.val (dI l.length)),(8,.val (dI i))]) (fun(i:Nat)=>(l).length-i) (fun(i:Nat)=>(i<=(l).length)/\(((l).take i).any (fun y=>decide (x=y))=false)) (0) ⟨(by omega),rfl⟩ ?_;rintro i ⟨h1,h2⟩;simp[go_sem];apply gw<;>intro a
 ·obtain⟨c,hc⟩:=aC (l:=l) (i:=i) (by omega);simp[go_sem,hc];apply gw<;>intro b
  ·have hn:=vH hc h2 (by simp[b]);simp[go_sem,hn]
  ·simp[go_sem];refine ai ?_;refine nx (i+1) ⟨(by omega),(eF hc h2 (by simp[b]))⟩
 ·simp at a;have hf:=jU h2 a;have hx:=kV hf;simp[go_sem,hx]
theorem lD (x:Int)(hx: -9000000000000000000<=x/\x<=9000000000000000000):Fk 219 [dI x] (.val (dI (rE x))):=by
 refine fE good [] func219 ntmps219 fun _ _=> ?_;have ha:max x (-x)=rE x:=by unfold rE;split<;>omega
 simp[go_sem,ha];simp only[inI];omega
theorem iJ (l:L1)(hl:1<=l.length/\l.length<=1048576):Fk 283 [nInts l] (.own (aF l)):=by
 refine fE good [] func283 ntmps283 fun _ _=> ?_;have hne:¬l=[]:=by rintro rfl;simp at hl
 have hle:l.length<=1073741824:=by omega
 simp[go_sem,hne,hle]
theorem lI (l:L1)(hs:l.length<=1048576):Fk 144 [nInts l] (.own (aF (canon l))):=by
 refine fE good [] func144 ntmps144 fun _ _=> ?_;simp[go_sem];refine wl good (fun((i,s):(Nat)×(L1×L1))=>[(3,.own (aF s.2)),(4,.own (aF s.1)),(8,.val (nInts l)),(9,.val (dI l.length)),(10,.val (dI i))]) (fun(i,s)=>(l).length-i) (fun(i,s)=>(i<=(l).length)/\(s=(l.take i).foldl dJ ([],[]))/\(s.1.length<=i/\s.2.length<=i)/\(s.2.Nodup)) ((0,([],[]))) ⟨(by omega),rfl,(by simp),(by simp)⟩ ?_;rintro⟨i,s⟩ ⟨h1,h2,h3,h4⟩;simp[go_sem];apply gw<;>intro a
 ·obtain⟨c,hc⟩:=aC (l:=l) (i:=i) (by omega);have hm:=bB dJ ([],[]) hc;rw[←h2]at hm;simp[go_sem,hc];refine ck (dH s.2 c (by omega)) ?_;have hli:=acE c h4 s.2.length (Nat.le_refl _);rw[List.take_length]at hli;simp[go_sem];apply gw<;>intro b
  ·have hx:dJ s c=(s.1++[(s.2.length:Int)],s.2++[c]):=if_pos (by rw[hli];exact b);have hni:c∉s.2:=fun hmem=>by have h9:s.2.any (fun y=>decide (c=y))=true:=List.any_eq_true.2 ⟨c,hmem,by simp⟩;have:=dK.2 h9;omega
   simp[go_sem];iterate 3 refine ai ?_
   refine nx (i+1,(s.1++[(s.2.length:Int)],s.2++[c])) ⟨(by omega),(by rw[hm,hx]),(by simp;omega),(by simp[List.nodup_append,h4];intro a ha e;exact hni (e▸ha))⟩
  ·simp at b;have hx:dJ s c=(s.1++[ix (fun y=>decide (c=y)) s.2],s.2):=by rw[dJ,if_neg (by rw[hli];omega),hli]
   simp[go_sem];iterate 2 refine ai ?_
   refine nx (i+1,(s.1++[ix (fun y=>decide (c=y)) s.2],s.2)) ⟨(by omega),(by rw[hm,hx]),(by simp;omega),(h4)⟩
 ·simp at a;rw[aK a]at h2;simp[go_sem];grind[canon]
def sqz (n i:Nat):L2:=List.replicate i (List.replicate n 0)++List.replicate (n-i) []
variable {n:Nat}
theorem aAV (h:i<n):(sqz n i)[i]?=some []:=by
 obtain⟨k,rfl⟩:∃k,n=i+(k+1):=⟨n-i-1,by omega⟩;rw[sqz,List.getElem?_append_right (by simp),show i+(k+1)-i=k+1 by omega];simp
theorem axF (h:i<n):(sqz n i).set i (List.replicate n 0)=sqz n (i+1):=by
 obtain⟨k,rfl⟩:∃k,n=i+(k+1):=⟨n-i-1,by omega⟩;rw[sqz,sqz,show i+(k+1)-i=k+1 by omega,show i+(k+1)-(i+1)=k by omega,List.set_append_right _ _ (by simp),List.replicate_succ' (n:=i),List.replicate_succ (n:=k)];simp
theorem lN (n:Nat)(hn:n<=1048576):Fk 149 [dI n] (.own (gN (List.replicate n (List.replicate n 0)))):=by
 refine fE good [] func149 ntmps149 fun _ _=> ?_;have hz:(sqz n 0).map aF=List.replicate n (D.sl (some 3) []):=by simp[sqz]
 simp[go_sem];refine ai ?_;refine wl good (fun(i:Nat)=>[(0,.val (dI n)),(3,.own (gN (sqz n i))),(8,.val (dI n)),(9,.val (dI i))]) (fun(i:Nat)=>n-i) (fun(i:Nat)=>(i<=n)) (0) (by omega) ?_ (h0:=by simp[go_sem,hz]);rintro i h1;simp[go_sem];apply gw<;>intro a
 ·have hat:=aAV a;have hset:=axF a;have hset2:((sqz n i).map aF).set i (D.sl (some 3) (List.replicate n (dI 0)))=(sqz n (i+1)).map aF:=by rw[←hset,List.map_set];simp[aF]
  simp[go_sem,hat,hset2];iterate 2 refine ai ?_
  refine nx (i+1) (by omega)
 ·simp at a;obtain rfl:i=n:=by omega
  have hfin:sqz i i=List.replicate i (List.replicate i 0):=by simp[sqz]
  simp[go_sem,hfin]
end Go.Proofs.YtemiopbofamgcaaGreatDoor
end
section
namespace Go.Dv
open Go.RowKit
variable [fH]
def KG:Nat->List (Nat×Option D)->St->St
 |k,(b,none)::cs,s=>(KG (k+1) cs s).put k (.rf (1000000+2*b) [0])
 |k,(_,some d)::cs,s=>(KG (k+1) cs s).put k (.rp d)
 |_,[],s=>s
def ZV:List (Nat×D)->St->St
 |(b,d)::rd,s=>(ZV rd s).put (1000000+2*b) (.rp d)
 |[],s=>s
def akO:List (Nat×D)->St->St
 |(b,d)::gs,s=>(akO gs s).put (1000000+2*b) (.own (.bx true d))
 |[],s=>s
def wSt (ds:List D)(cs:List (Nat×Option D))(rd gs:List (Nat×D)):St:=akO gs (ZV rd (KG ds.length cs (eT ds)))
def ac6:List (Nat×D)->St->(List D->Prop)->Prop
 |[],_,K=>K []
 |(b,_)::gs,s,K=>match s (1000000+2*b)with
  | .own (.bx true d)=>ac6 gs s fun ds=>K (d::ds)
  |_=>False
def aqS (T:TypeId->TyE)(rs:List ResultVar)(gs:List (Nat×D))(Q:S->List D->Prop):Exit->St->Prop
 | .normal,s=>uX T rs s fun ds s2=>ac6 gs s2 fun ds'=>Q (nV ds) ds'
 | .ret,s=>uX T rs s fun ds s2=>ac6 gs s2 fun ds'=>Q (nV ds) ds'
 |_,_=>False
theorem abV {s:St}:∀{gs:List (Nat×D)}{K:List D->Prop},ac6 gs s K->∃ds',K ds'/\ds'.length=gs.length/\∀(j:Nat) (g:Nat×D) (d':D),gs[j]?=some g->ds'[j]?=some d'->s (1000000+2*g.1)= .own (.bx true d')
 |[],K,h=>⟨[],h,rfl,fun j g d' hj=>by simp at hj⟩
 |(b,d0)::gs,K,h=>by
  unfold ac6 at h;split at h
  ·rename_i d hs;obtain⟨ds',h1,h2,h3⟩:=abV h;refine⟨d::ds',h1,by simp[h2],fun j g d' hj hj'=> ?_⟩;cases j with
   |zero=>simp at hj hj';subst hj;subst hj';exact hs
   |succ j=>exact h3 j g d' (by simpa using hj) (by simpa using hj')
  ·exact h.elim
def inG (gs:List (Nat×D))(lab:List Nat):Bool:=gs.any fun g=>lab.getLast?==some (1000000+2*g.1)
variable {gs:List (Nat×D)}
theorem auW {g:Nat×D}{q:List Nat}(hg:g∈gs):inG gs (q++[1000000+2*g.1])=true:=List.any_eq_true.2 ⟨g,hg,by simp⟩
theorem asV {lab:List Nat}(h:∀g∈gs,∀q,lab≠q++[1000000+2*g.1]):inG gs lab=false:=by
 rw[Bool.eq_false_iff];intro hi;obtain⟨g,hg,he⟩:=List.any_eq_true.1 hi
 obtain⟨q,hq⟩:∃q,lab=q++[1000000+2*g.1]:=by
  have:lab.getLast?=some (1000000+2*g.1):=by simpa using he
  exact⟨lab.dropLast,by rw[List.getLast?_eq_some_iff]at this;obtain⟨ys,rfl⟩:=this;simp⟩
 exact h g hg q hq
def KS (gs:List (Nat×D))(ow:Own):Own:=fun b=>match ow b with
 |none=>none
 |some lab=>if inG gs lab=true then some lab else some (lab++[far0])
def F3 (w:World)(gs:List (Nat×D))(t:Nat)(ow ow1:Own):Own:=fun b=>
 if b<w.heap.size/\(match ow b with|none=>true|some lab=> !inG gs lab)=true then ow b else match ow1 b with
  |none=>none
  |some lab=>if inG gs lab=true then some lab else if lab.getLast?=some res0 then some (lab.dropLast++[t])else none
theorem DI {P:Program}{w:World}{ow:Own}:∀{gs:List (Nat×D)}{s:St}{i:Nat},(∃g∈gs,i=1000000+2*g.1/\akO gs s i= .own (.bx true g.2))\/((∀g∈gs,i≠1000000+2*g.1)/\akO gs s i=s i)
 |[],s,i=> .inr ⟨fun g hg=>by simp at hg,rfl⟩
 |(b,d)::gs,s,i=>by
  by_cases hi:i=1000000+2*b
  ·exact .inl ⟨(b,d),by simp,hi,by simp[akO,St.put,hi]⟩
  ·simp only[akO,St.put,if_neg hi];rcases DI (P:=P) (w:=w) (ow:=ow) (gs:=gs) (s:=s) (i:=i)with⟨g,h1,h2,h3⟩|⟨h1,h2⟩
   ·exact .inl ⟨g,by simp[h1],h2,h3⟩
   ·refine .inr ⟨fun g hg=> ?_,h2⟩;rcases List.mem_cons.1 hg with rfl|hg
    ·exact hi
    ·exact h1 g hg
theorem LB:∀{rd:List (Nat×D)}{s:St}{i:Nat},(∃p∈rd,i=1000000+2*p.1/\ZV rd s i= .rp p.2)\/ZV rd s i=s i
 |[],s,i=> .inr rfl
 |(b,d)::rd,s,i=>by
  by_cases hi:i=1000000+2*b
  ·exact .inl ⟨(b,d),by simp,hi,by simp[ZV,St.put,hi]⟩
  ·simp only[ZV,St.put,if_neg hi];rcases LB (rd:=rd) (s:=s) (i:=i)with⟨g,h1,h2,h3⟩|h2
   ·exact .inl ⟨g,by simp[h1],h2,h3⟩
   ·exact .inr h2
theorem D6:∀{cs:List (Nat×Option D)}{k:Nat}{s:St}{i:Nat},(∃j c,cs[j]?=some c/\i=k+j/\KG k cs s i=(match c.2 with|none=> .rf (1000000+2*c.1) [0]|some d=> .rp d))\/KG k cs s i=s i
 |[],k,s,i=> .inr rfl
 |(b,none)::cs,k,s,i=>by
  by_cases hi:i=k
  ·exact .inl ⟨0,(b,none),rfl,hi,by simp[KG,St.put,hi]⟩
  ·simp only[KG,St.put,if_neg hi];rcases D6 (cs:=cs) (k:=k+1) (s:=s) (i:=i)with⟨j,c,h1,h2,h3⟩|h2
   ·exact .inl ⟨j+1,c,by simpa using h1,by omega,h3⟩
   ·exact .inr h2
 |(b,some d)::cs,k,s,i=>by
  by_cases hi:i=k
  ·exact .inl ⟨0,(b,some d),rfl,hi,by simp[KG,St.put,hi]⟩
  ·simp only[KG,St.put,if_neg hi];rcases D6 (cs:=cs) (k:=k+1) (s:=s) (i:=i)with⟨j,c,h1,h2,h3⟩|h2
   ·exact .inl ⟨j+1,c,by simpa using h1,by omega,h3⟩
   ·exact .inr h2
theorem aET {P:Program}{T:TypeId->TyE}{f:FuncId}{fn:Func}{c:Code}{n:Nat}{rs:List ResultVar}{ds:List D}{cs:List (Nat×Option D)}{rd:List (Nat×D)}{Q:S->List D->Prop}(hG:∀t,Good P T t) (hf:P.funcs[f]?=some fn) (hb:fn.body=some c) (hn':fn.ntmps=n) (hn:n<=1000000) (hd:ds.length+cs.length<=n)
  (hr:fn.results=rs.toArray) (hcs:∀c∈cs,match c.2 with|none=>∃g∈gs,g.1=c.1|some d=>∃p∈rd,p=(c.1,d)) (h:∀w0 ow0,OkC P n w0 ow0 none c (wSt ds cs rd gs) (aqS T rs gs Q)):FnW P f ds cs rd gs Q:=by
 subst hn';intro w ow vs t ht hL hnew hvs hargs hcap hrd hgs;refine calls_of_wp hf hb ?_
 have hav:∀i,i<ds.length+cs.length->aval {tmps:=vs++Array.replicate (fn.ntmps-vs.size) undef,defers:=[]} i=vs.getD i undef:=by
  intro i hi;unfold aval;rw[if_pos (by omega)];simp only[Array.getD_eq_getD_getElem?];rw[Array.getElem?_append_left (by omega)]
 have havg:∀(a:Act) (b:Nat),aval a (1000000+2*b)= .pointer (some ⟨b,0,none⟩):=fun a b=>by
  unfold aval;rw[if_neg (by omega)];have:(1000000+2*b-1000000)/2=b:=by omega
  rw[this]
 have hlnone:∀b,ow b=none->KS gs ow b=none:=fun b hb=>by simp[KS,hb]
 have hlhit:∀g∈gs,∀b q,ow b=some (q++[1000000+2*g.1])->KS gs ow b=some (q++[1000000+2*g.1]):=fun g hg b q hb=>by simp only[KS,hb];rw[if_pos (auW hg)]
 have hq0:Quiet w ow w (KS gs ow):=fun b _ ho=>⟨rfl,hlnone b ho⟩
 have hrp:∀(b:Nat) (d:D),V P w ow (D.bx false d).fz [] (.pointer (some ⟨b,0,none⟩))->∀s a i,SV P w (KS gs ow) s a i (.rp d) (.pointer (some ⟨b,0,none⟩)):=by
  intro b d h1 s a i;have h2:=V.trf (l2:=[]) hq0 h1;simp only[V,D.fz,R]at h2;obtain⟨b',off,C,e,fz,cs,g1,g2,g3,_,g5,g6,g7⟩:=h2;simp only[List.cons.injEq,Value.pointer.injEq,Option.some.injEq,and_true]at g1;obtain⟨rfl,rfl,_⟩:=Addr.mk.inj g1;exact⟨b,0,rfl,g3 trivial,C,e,fz,cs,g2,fun j hj=>g6 j (by rw[g5];exact hj),R.trf (fun b _ hb=>⟨rfl,hb⟩) g7⟩
 have hfit:Fits P fn.ntmps w (KS gs ow) (KS gs ow) (wSt ds cs rd gs) {tmps:=vs++Array.replicate (fn.ntmps-vs.size) undef,defers:=[]} w:=by
  refine⟨rfl,by simp;omega,hn,(hL.mono fun b o h1 h2=>⟨h1,hlnone b h2⟩),⟨rfl,rfl,rfl,Nat.le_refl _,fun _ _ _=>rfl⟩,fun _ _ h=>h,fun b hb=>hlnone b (hnew b hb),?_,fun _ _ _ h=>⟨rfl,h⟩,fun i=> ?_⟩
  ·have e0:eT ds far0= .un:=by unfold eT;rw[List.getElem?_eq_none (by unfold far0;omega)]
   rcases DI (P:=P) (w:=w) (ow:=ow) (gs:=gs) (s:=ZV rd (KG ds.length cs (eT ds))) (i:=far0)with⟨g,_,h2,_⟩|⟨_,h2⟩
   ·unfold far0 at h2;omega
   ·unfold wSt;rw[h2];rcases LB (rd:=rd) (s:=KG ds.length cs (eT ds)) (i:=far0)with⟨g,_,h2,_⟩|h2
    ·unfold far0 at h2;omega
    ·rw[h2];rcases D6 (cs:=cs) (k:=ds.length) (s:=eT ds) (i:=far0)with⟨j,c,h1,h2,_⟩|h2
     ·have:=(List.getElem?_eq_some_iff.1 h1).1;unfold far0 at h2;omega
     ·rw[h2];exact e0
  ·rcases DI (P:=P) (w:=w) (ow:=ow) (gs:=gs) (s:=ZV rd (KG ds.length cs (eT ds))) (i:=i)with⟨g,h1,rfl,h3⟩|⟨h1,h2⟩
   ·unfold wSt;rw[h3,havg];exact V.tr (fun b _=>⟨fun ho=>⟨rfl,hlnone b ho⟩,fun q hq=>⟨rfl,hlhit g h1 b q hq⟩⟩) (hgs g h1)
   ·have hw:wSt ds cs rd gs i=ZV rd (KG ds.length cs (eT ds)) i:=h2;rw[hw];rcases LB (rd:=rd) (s:=KG ds.length cs (eT ds)) (i:=i)with⟨p,k1,rfl,k3⟩|k2
    ·rw[k3,havg];exact hrp _ _ (hrd p k1) _ _ _
    ·rw[k2];rcases D6 (cs:=cs) (k:=ds.length) (s:=eT ds) (i:=i)with⟨j,c,e1,rfl,e3⟩|e2
     ·have hjl:=(List.getElem?_eq_some_iff.1 e1).1;rw[e3,hav _ (by omega),hcap j c e1];have hc:=hcs c (List.mem_of_getElem? e1);cases hc2:c.2 with
      |some d=>
       rw[hc2]at hc;obtain⟨p,hp,rfl⟩:=hc;exact hrp _ _ (hrd _ hp) _ _ _
      |none=>
       rw[hc2]at hc;obtain⟨g,hg,hgc⟩:=hc;rcases DI (P:=P) (w:=w) (ow:=ow) (gs:=gs) (s:=ZV rd (KG ds.length cs (eT ds))) (i:=1000000+2*c.1)with⟨g',h1',h2',h3'⟩|⟨h1',_⟩
       ·have:g'.1=c.1:=by omega
        refine⟨.bx true g'.2,g'.2,c.1,0,h3',by simp[D.sub,D.kid],?_,rfl⟩;rw[havg];simp[loc,into,aZ]
       ·exact absurd (by rw[hgc]) (h1' g hg)
     ·rw[e2];unfold eT;cases hdi:ds[i]? with
      |none=>trivial
      |some d=>
       have hi:i<ds.length:=(List.getElem?_eq_some_iff.1 hdi).1;simp only[SV];rw[hav i (by omega)];exact V.trf hq0 (hargs i d hdi)
 refine h w _ _ w ⟨_,hfit⟩ (fun m v e=>by cases e) _ fun e s' a' w' hK hR _=> ?_
 have key:(uX T rs s' fun ds s2=>ac6 gs s2 fun ds'=>Q (nV ds) ds')->bodyPost P fn (fun e w'=>∃v ow' r ds',e= .returned v/\Q r ds'/\w'.os=w.os/\w'.tape=w.tape/\w'.output=w.output/\w.heap.size<=w'.heap.size/\
   (∀b,b<w.heap.size->(∀g∈gs,∀q,ow b≠some (q++[1000000+2*g.1]))->w'.heap[b]?=w.heap[b]?/\ow' b=ow b)/\(∀b,w'.heap.size<=b->ow' b=none)/\
   ds'.length=gs.length/\(∀(j:Nat) (g:Nat×D) (d':D),gs[j]?=some g->ds'[j]?=some d'->V P w' ow' (.bx true d') [1000000+2*g.1] (.pointer (some ⟨g.1,0,none⟩)))/\S.plain r=true/\∀s a,SV P w' ow' s a t r v) .ret a' w':=by
  intro hK;obtain⟨ow1,hf1⟩:=hR;obtain⟨vals,ow2,s2,ds2,hQ,hf2,hl1,hl2,hrun,hvals,hkeep⟩:=hf1.retL hG (fun k=>if rs.length=1 then[]else[k]) rs 0 hK;obtain⟨ds',hQ,hdl,hds⟩:=abV hQ
  have hres:(results fn a'.tmps).run P w'= .ok (if h:vals.toArray.size=1 then vals.toArray[0]else .tuple vals.toArray) w':=by
   unfold results;rw[hr];have hb:∀{α β:Type}(x:Sem α) (g:α->Sem β),Sem.run P (Sem.bind x g) w'=(Sem.run P x w').andThen fun a w'=>Sem.run P (g a) w':=fun x g=>Sem.run_bind ..;simp only[List.mapM_toArray,Functor.map,Sem.run_bind,Sem.run_pure];rw[hb,hrun _ (QD a'.tmps P w' _ (fun _=>rfl) fun _ _=>rfl)];rfl
  refine⟨hf1.nodef,_,hres,?_⟩
  have hmiss:∀b,b<w.heap.size->(∀lab,ow b=some lab->inG gs lab=false)->w'.heap[b]?=w.heap[b]?/\(ow b=none->ow2 b=none)/\(∀lab,ow b=some lab->ow2 b=some (lab++[far0])):=by
   intro b hlt hno;cases ho:ow b with
   |none=>exact⟨hf2.bel.block b hlt (hlnone b ho),fun _=>hf2.own b hlt (hlnone b ho),fun lab e=>by cases e⟩
   |some lab=>
    have hlab:KS gs ow b=some (lab++[far0]):=by simp[KS,ho,hno lab ho]
    obtain⟨g1,g2⟩:=hf2.keep b hlt lab hlab;exact⟨g1,fun e=>(by cases e),fun lab' e=>by obtain rfl:=Option.some.inj e;exact g2⟩
  have hcond:∀b,(match ow b with|none=>true|some lab=> !inG gs lab)=true↔∀lab,ow b=some lab->inG gs lab=false:=by
   intro b;cases ho:ow b with
   |none=>simp
   |some lab=>simp
  have hnone:∀b,ow2 b=none->F3 w gs t ow ow2 b=none:=by
   intro b hb;unfold F3;by_cases hc:b<w.heap.size/\(match ow b with|none=>true|some lab=> !inG gs lab)=true
   ·rw[if_pos hc];cases ho:ow b with
    |none=>rfl
    |some lab=>
     have:=(hmiss b hc.1 ((hcond b).1 hc.2)).2.2 lab ho;rw[hb]at this;cases this
   ·rw[if_neg hc,hb]
  have hlast:∀b q j,ow2 b=some (q++[j])->j≠far0->¬(b<w.heap.size/\(match ow b with|none=>true|some lab=> !inG gs lab)=true):=by
   rintro b q j hq hj ⟨h1,h2⟩;obtain⟨_,g1,g2⟩:=hmiss b h1 ((hcond b).1 h2);cases ho:ow b with
   |none=>rw[g1 ho]at hq;cases hq
   |some lab=>
    rw[g2 lab ho]at hq;have:=congrArg List.getLast? (Option.some.inj hq);simp at this;exact hj this.symm
  have hkg:∀g∈gs,Keeps w' ow2 [1000000+2*g.1] w' (F3 w gs t ow ow2) [1000000+2*g.1]:=fun g hg b _=>⟨fun ho=>⟨rfl,hnone b ho⟩,fun q hq=>⟨rfl,by
   unfold F3;rw[if_neg (hlast b q _ hq (by unfold far0;omega)),hq];simp only;rw[if_pos (auW hg)]⟩⟩
  have hnr:∀q,inG gs (q++[res0])=false:=fun q=>asV fun g hg q' e=>by
   have:=congrArg List.getLast? e;simp[res0]at this;omega
  have hk:∀l2,Keeps w' ow2 (l2++[res0]) w' (F3 w gs t ow ow2) (l2++[t]):=fun l2 b _=>⟨fun ho=>⟨rfl,hnone b ho⟩,fun q hq=>⟨rfl,by
   have hq':ow2 b=some ((q++l2)++[res0]):=by rw[hq];simp
   unfold F3;rw[if_neg (hlast b _ res0 hq' (by unfold res0 far0;omega)),hq'];simp only;rw[hnr];simp⟩⟩
  have hq:Quiet w' ow2 w' (F3 w gs t ow ow2):=fun b _ ho=>⟨rfl,hnone b ho⟩
  have part:∀(j:Nat) (p:D×Bool),ds2[j]?=some p->∃v,vals[j]?=some v/\(if(p.2||p.1.frz)=true then V P w' (F3 w gs t ow ow2) p.1.fz [] v else V P w' (F3 w gs t ow ow2) p.1 ((if rs.length=1 then[]else[j])++[t]) v):=by
   intro j p hj;obtain⟨v,h1,h2,h3⟩:=hvals j p hj;rw[Nat.zero_add]at h2;refine⟨v,h1,?_⟩;by_cases hp:(p.2||p.1.frz)=true
   ·rw[if_pos hp]
    have hfz:p.1.fz=p.1:=by
     rcases Bool.or_eq_true _ _▸hp with hp|hp
     ·exact h3 hp
     ·exact D.MW hp
    rw[←hfz]at h2;exact V.trf hq h2
   ·rw[if_neg hp];exact V.tr (hk _) h2
  refine⟨_,F3 w gs t ow ow2,nV ds2,ds',rfl,hQ,hf2.bel.os,hf2.bel.tape,hf2.bel.output,hf2.bel.size,fun b hb hno=> ?_,fun b hb=>hnone b (hf2.new b hb),hdl,fun j g d' hj hj'=> ?_,?_,fun s a=> ?_⟩
  ·have hn2:∀lab,ow b=some lab->inG gs lab=false:=fun lab hl=>asV fun g hg q e=>hno g hg q (by rw[hl,e]);exact⟨(hmiss b hb hn2).1,by unfold F3;rw[if_pos ⟨hb,(hcond b).2 hn2⟩]⟩
  ·have h1:=hf2.slot (1000000+2*g.1);rw[hds j g d' hj hj',havg]at h1;exact V.tr (hkg g (List.mem_of_getElem? hj)) h1
  ·unfold nV;split
   ·split<;>rfl
   ·rfl
  ·by_cases hone:rs.length=1
   ·have hd1:ds2.length=1:=by rw[hl1,hone]
    have hv1:vals.length=1:=by rw[hl2,hone]
    obtain⟨⟨d,b⟩,rfl⟩:=List.length_eq_one_iff.1 hd1;obtain⟨v,rfl⟩:=List.length_eq_one_iff.1 hv1;obtain⟨v',h1,h2⟩:=part 0 (d,b) rfl;obtain rfl:v=v':=by simpa using h1
    rw[if_pos hone]at h2;simp only[nV];by_cases hp:(b||d.frz)=true
    ·rw[if_pos hp]at h2|-
     exact h2
    ·rw[if_neg hp]at h2|-
     exact h2
   ·have hd1:∀p,ds2≠[p]:=fun p e=>by rw[e]at hl1;simp at hl1;exact hone hl1.symm
    have htup:nV ds2= .tup (ds2.map fun p=>if p.2||p.1.frz then .val p.1 else .own p.1):=by
     unfold nV;split
     ·rename_i d b;exact absurd rfl (hd1 _)
     ·rfl
    rw[htup];refine⟨vals.toArray,?_,by simp[hl1,hl2],fun j x hx=> ?_⟩
    ·rw[dif_neg];simp[hl2,hone]
    ·simp only[List.getElem?_map,Option.map_eq_some_iff]at hx;obtain⟨p,hp,rfl⟩:=hx;obtain⟨v,h1,h2⟩:=part j p hp;have hv:vals.toArray.getD j undef=v:=by simp[Array.getD_eq_getD_getElem?,h1]
     rw[hv];by_cases hpf:(p.2||p.1.frz)=true
     ·rw[if_pos hpf]at h2|-
      exact h2
     ·rw[if_neg hpf]at h2|-
      rw[if_neg hone]at h2;exact h2
 cases e with
 |normal=>exact key hK
 |ret=>exact key hK
 |_=>exact hK.elim
attribute [go_sem] aqS wSt akO ZV KG ac6
end Go.Dv
end
section
namespace Go.Dv
open Go.RowKit Go.Pl
variable [fH]
variable {ds:List D}
theorem as9 :XD [] ds=eT ds:=rfl
variable {b:Nat}{gs:List (Nat×D)}
theorem apQ {d:D}:XD ((b,d)::gs) ds=(XD gs ds).put (1000000+2*b) (.rp d):=rfl
variable {P:Program}{f:FuncId}{fn:Func}{c:Code}{n:Nat}{rs:List ResultVar}
theorem fB {T:TypeId->TyE}{Q:S->Prop}(hG:∀t,Good P T t) (sp:List Nat) (hf:P.funcs[f]?=some fn) (hn':fn.ntmps=n) (h:∀w0 ow0,@WC _ P T n w0 ow0 none sp ⟨c⟩ (XD gs ds) ⟨ad1 T rs Q⟩)
  (hb:fn.body=some c:=by rfl) (hr:fn.results=rs.toArray:=by rfl) (hn:n<=1000000:=by decide) (hd:ds.length<=n:=by simp):qX P f ds gs Q:=auQ hG hf hb hn' hn hd hr fun w0 ow0=>wcI hG sp (h w0 ow0) (pX c)
theorem ckB {rs:List Nat}{K:S->Prop}{r:S}(h:qX P f ds gs (fun r'=>r'=r))(hK:(rs=[]\/r.closed=true)/\K r):(ajN (k:=⟨K⟩) P f ds gs rs):=aoT h hK.1 hK.2
variable {cs:List (Nat×Option D)}{rd:List (Nat×D)}{Q:S->List D->Prop}
theorem fW {T:TypeId->TyE}(hG:∀t,Good P T t) (sp:List Nat) (hf:P.funcs[f]?=some fn) (hn':fn.ntmps=n) (h:∀w0 ow0,@WC _ P T n w0 ow0 none sp ⟨c⟩ (wSt ds cs rd gs) ⟨aqS T rs gs Q⟩)
  (hb:fn.body=some c:=by rfl) (hr:fn.results=rs.toArray:=by rfl) (hn:n<=1000000:=by decide) (hd:ds.length+cs.length<=n:=by simp) (hcs:∀c∈cs,match c.2 with|none=>∃g∈gs,g.1=c.1|some d=>∃p∈rd,p=(c.1,d):=by simp):FnW P f ds cs rd gs Q:=aET hG hf hb hn' hn hd hr hcs fun w0 ow0=>wcI hG sp (h w0 ow0) (pX c)
variable {s:St}
theorem aB4 {T:TypeId->TyE}:aqS T rs gs Q .normal s=uX T rs s fun ds s2=>ac6 gs s2 fun ds'=>Q (nV ds) ds':=rfl
theorem aCU {T:TypeId->TyE}:aqS T rs gs Q .ret s=uX T rs s fun ds s2=>ac6 gs s2 fun ds'=>Q (nV ds) ds':=rfl
attribute [go_sem ↓] aB4 aCU
class aEX where
 P:Prop
def aAC [E:aEX]:Prop:=E.P
theorem NA {A:Prop}(h:A): @aAC ⟨A⟩:=h
theorem PH {bs rs:List Nat}{L:List (Nat×D)->List (Nat×D)->(List Nat->Prop)->Prop}{K:S->List D->List (Nat×D)->Prop}(h:FnW P f ds cs rd gs Q) (hc:cs.map (fun c=>c.1)=bs)
  (hL:L rd gs fun rs2=>(∀r∈rs++rs2,∀g∈gs,r≠1000000+2*g.1)/\ @aAC ⟨∀r ds',Q r ds'->(rs++rs2=[]\/(r.closed=true/\D.iH ds'=true))/\K r ds' gs⟩): @au1 _ P f ds bs rs ⟨L,K⟩:=X5 h hc hL
variable {u:Nat}{K:List Nat->St->Prop}
theorem jH {c:Nat}{cs:List Nat}(d:D)(hs:s c= .own (.bx true d))(h:∀b,jA s b->KX u ((((s.kill (1000000+2*b)).kill c).put (1000000+2*b) (.own (.bx true d))).put c (.rf (1000000+2*b) [0])) cs fun bs s'=>K (b::bs) s')(h1:u≠c:=by decide)(h2:c<1000000:=by decide):KX u s (c::cs) K:=by
 unfold KX;refine⟨h1,h2,?_⟩;rw[hs];exact h
theorem Q7 (h:K [] s):KX u s [] K:=h
def iD:List Nat->Prop
 |[]=>True
 |a::l=>(∀b∈l,¬a=b/\¬b=a)/\iD l
theorem aD4 (h:n<1000000):(n=1000000+2*b)=False:=eq_false (by omega)
theorem aEL (h:n<1000000):(1000000+2*b=n)=False:=eq_false (by omega)
theorem aDU :(1000000+2*b<1000000)=False:=eq_false (by omega)
theorem aDT {c:Nat}:(1000000+2*b=1000000+2*c)=(b=c):=propext ⟨fun h=>by omega,fun h=>by rw[h]⟩
theorem aA1 {c:Nat}:(2*b=2*c)=(b=c):=propext ⟨fun h=>by omega,fun h=>by rw[h]⟩
attribute [go_sem] aD4 aEL aDU aDT aA1
attribute [go_sem] as9 apQ
end Go.Dv
end
section
namespace Go.Proofs.YtemiopbofamgcaaGreatDoor
open Go.Dv Go.Pl Go.Proofs.Tryz
theorem bT (m:L2)(hm:m.length<=1048576)(hr:∀r∈m,r.length<=1048576):Fk 205 [aM m] (.val (dB (aI m))):=by
 refine fE good [] func205 ntmps205 fun _ _=> ?_;rw[RF];simp[go_sem];refine ck (aH m.length 1 8) ?_;simp[go_sem];apply gw<;>intro b
 ·simp at b;simp[go_sem];omega
 ·simp at b;simp[go_sem];refine wl good (fun(i:Nat)=>[(0,.val (aM m)),(11,.val (aM m)),(12,.val (dI m.length)),(13,.val (dI i))]) (fun(i:Nat)=>m.length-i) (fun(i:Nat)=>(i<=m.length)/\((List.range i).all (wB m)=true)) (0) ⟨(by omega),rfl⟩ ?_;rintro i ⟨h1,h2⟩;simp[go_sem];apply gw<;>intro a
  ·obtain⟨r,hri⟩:=aC (l:=m) (i:=i) (by omega);have hrl:=hr r (List.mem_of_getElem? hri);have hgr:=sJ hri;simp[go_sem,hri];apply gv<;>intro e
   ·have e':=e;have hn:=gP a (P:=(wB m)) (by unfold wB;rw[hgr];simp;omega);simp[go_sem,e,hn]
   ·have e':=e;obtain⟨d,hd⟩:=aC (l:=r) (i:=i) (by omega);have hdd:=GG hri hd;simp[go_sem,e,hd];apply gw<;>intro d0
    ·have hn:=gP a (P:=(wB m)) (by unfold wB;rw[hdd];simp[d0]);simp[go_sem,hn]
    ·have hmin:min i r.length=i:=by omega
     simp[go_sem,hmin,d0];refine ai ?_;refine wl good (fun(k:Nat)=>[(0,.val (aM m)),(3,.val (dI i)),(11,.val (aM m)),(12,.val (dI m.length)),(13,.val (dI i)),(32,.val (.sl none ((r.map dI).take i))),(33,.val (dI i)),(34,.val (dI k))]) (fun(k:Nat)=>i-k) (fun(k:Nat)=>(k<=i)/\((List.range k).all (O4 m i)=true)) (0) ⟨(by omega),rfl⟩ ?_;rintro k ⟨h1k,h2k⟩;simp[go_sem];apply gw<;>intro ak
     ·obtain⟨w,hw⟩:=aC (l:=r) (i:=k) (by omega);have hww:=GG hri hw;have hw2:(List.take i (List.map dI r))[k]?=some (dI w):=by rw[List.getElem?_take,if_pos (by omega),List.getElem?_map,hw];rfl
      simp[go_sem,hw2];refine ck (aH w (-1000) 1000) ?_;simp[go_sem];apply gv<;>intro f
      ·have f':=f;simp at f';have hn:=gP a (P:=wB m) (ae0 ak (by unfold O4;rw[hww];simp;omega));simp[go_sem,f,hn]
      ·have f':=f;simp at f';obtain⟨q,hq⟩:=aC (l:=m) (i:=k) (by omega);have hql:q.length=m.length:=by have:=List.all_eq_true.1 h2 k (List.mem_range.2 (by omega));simp only[wB,Bool.and_eq_true,decide_eq_true_eq]at this;rw[←sJ hq];exact this.1.1
       obtain⟨z,hz⟩:=aC (l:=q) (i:=i) (by omega);have hzz:=GG hq hz;simp[go_sem,f,hq,hz];apply gw<;>intro g
       ·have hn:=gP a (P:=wB m) (ae0 ak (by unfold O4;rw[hww,hzz];simp[g]));simp[go_sem,hn]
       ·simp[go_sem];refine ai ?_;refine nx (k+1) ⟨(by omega),(iO h2k (by unfold O4;rw[hww,hzz];simp[g];omega))⟩
     ·simp at ak;have hf:=BF (n:=i) h2k (by omega) (by omega);simp[go_sem];refine ai ?_;refine nx (i+1) ⟨(by omega),(iO h2 (anM (by rw[hgr];omega) (by rw[hdd];exact d0) hf))⟩
  ·simp at a;have hf:=BF (n:=m.length) h2 (by omega) (by omega);simp[go_sem,hf];refine ai ?_;omega
theorem aeK {α:Type}(p:α->Bool)(l:List α):(l.any fun c=> !p c)= !(l.all p):=by rw[List.not_all_eq_any_not]
theorem X4 (l:List Con)(p:Con->Bool)(g:FuncId)(b:Nat)(d:D)(F:d.fz=d)(E:Dv.Enters prog g)(U:T (1000000+g)=⟨.no,0,.any 0⟩)(G:∀c∈l,bK prog g [ah4 c,.bx false d] (fun r=>r= .val (dB (p c))))(hl:l.length<=1048576):qX prog 332 [bG l,.one (.func (.func g) #[] #[.pointer (some ⟨b,0,none⟩)])] [(b,d)] (fun res'=>res'= .val (dI (ix p l))):=by
 refine fB good [] func332 ntmps332 fun _ _=> ?_;simp[go_sem];refine wl good (fun(i:Nat)=>[(0,.val (bG l)),(1,.val (.one (.func (.func g) #[] #[.pointer (some ⟨b,0,none⟩)]))),(7,.val (dI l.length)),(8,.val (dI i)),(1000000+2*b,.rp (d))]) (fun(i:Nat)=>(l).length-i) (fun(i:Nat)=>(i<=(l).length)/\(((l).take i).any p=false)) (0) ⟨(by omega),rfl⟩ ?_;rintro i ⟨h1,h2⟩;simp[go_sem];apply gw<;>intro a
 ·obtain⟨c,hc⟩:=aC (l:=l) (i:=i) (by omega);simp[go_sem,E,U,F,hc];refine ck ((G c (List.mem_of_getElem? hc))) ?_;simp[go_sem];apply gw<;>intro e
  ·have hn:=vH hc h2 (by simp[e]);simp[go_sem,hn]
  ·simp[go_sem];refine ai ?_;refine nx (i+1) ⟨(by omega),(eF hc h2 (by simp[e]))⟩
 ·simp at a;have hf:=jU h2 a;have hx:=kV hf;simp[go_sem,hx]
theorem ab7 (l:List Con)(p:Con->Bool)(g:FuncId)(b:Nat)(d:D)(F:d.fz=d)(E:Dv.Enters prog g)(U:T (1000000+g)=⟨.no,0,.any 0⟩)(G:∀c∈l,bK prog g [ah4 c,.bx false d] (fun r=>r= .val (dB (p c))))(hl:l.length<=1048576):qX prog 275 [bG l,.one (.func (.func g) #[] #[.pointer (some ⟨b,0,none⟩)])] [(b,d)] (fun res'=>res'= .val (dB (l.any p))):=by
 refine fB good [] func275 ntmps275 fun _ _=> ?_;have hq:decide (0<=ix p l)=l.any p:=by rw[Bool.eq_iff_iff,decide_eq_true_eq];exact dK
 simp[go_sem,F];refine ckB (X4 l p g b d F E U G hl) ?_;simp[go_sem,hq]
theorem zS (c:Con)(n:Int)(hn: -1048576<=n/\n<=1048576):Fk 276 [ah4 c,.bx false (dI n)] (.val (dB (!EU n c))):=by
 refine fE good [] func276 ntmps276 fun _ _=> ?_;simp[go_sem];refine ck (iB c.a n) ?_;simp[go_sem];apply gv<;>intro e
 ·have e':=e;simp at e';simp[go_sem,e];grind[EU]
 ·have e':=e;simp at e';simp[go_sem,e];refine ck (iB c.b n) ?_;simp[go_sem];apply gv<;>intro f
  ·have f':=f;simp at f';simp[go_sem,f];grind[EU]
  ·have f':=f;simp at f';simp[go_sem,f];grind[EU]
theorem mD (n:Int)(l:List Con)(hn: -1048576<=n/\n<=1048576:=by first|assumption|omega|(simp;omega)|grind)(hl:l.length<=1048576:=by first|assumption|omega|(simp;omega)|grind):Fk 207 [dI n,bG l] (.val (dB (aN n l))):=by
 refine fE good [] func207 ntmps207 fun _ _=> ?_;simp[go_sem];refine ck (aH n 1 8) ?_;simp[go_sem];apply gv<;>intro e
 ·have e':=e;simp at e';simp[go_sem,e];grind[aN]
 ·have e':=e;simp at e';simp[go_sem,e];apply gw<;>intro f
  ·simp[go_sem];grind[aN]
  ·simp at f;simp[go_sem];intro b;refine ckB (ab7 l (fun c=> !EU n c) 276 b (dI n) rfl aDN aC2 (fun c _=>zS c n hn) hl) ?_;simp[go_sem];grind[aN]
theorem BH (m:L2)(i k:Nat)(v:Int):(m.map aF).set i (D.sl (some 3) (((gat m i).map dI).set k (dI v)))=(set2 m i k v).map aF:=by rw[set2,List.map_set];simp[aF,List.map_set]
variable {m:L2}{i k:Nat}
theorem arE {j:Nat}(v:Int)(h:¬i=j):gat (set2 m i k v) j=gat m j:=by simp[gat,set2,List.getD_eq_getElem?_getD,h]
theorem al6 {v w:Int}(h:¬i=k):((m.map aF).set i (D.sl (some 3) (((gat m i).map dI).set k (dI v)))).set k (D.sl (some 3) (((gat m k).map dI).set i (dI w)))=(set2 (set2 m i k v) k i w).map aF:=by
 rw[BH,←arE v h,BH]
theorem LH (n:Nat)(l:List Con)(hn:1<=n/\n<=8:=by first|assumption|omega|(simp;omega)|grind)(hl:l.length<=1048576:=by first|assumption|omega|(simp;omega)|grind)(hc:∀c∈l,0<=c.a/\c.a<c.b/\c.b<(n:Int):=by first|assumption|omega|(simp;omega)|grind):Fk 280 [dI n,bG l] (.own (gN (GK n l))):=by
 refine fE good [] func280 ntmps280 fun _ _=> ?_;have hz:List.replicate n (aF (List.replicate n 0))=(zeros n).map aF:=by simp[zeros]
 simp[go_sem];refine ck (lN n (by omega)) ?_;simp[go_sem,hz];refine wl good (fun((i,m):(Nat)×(L2))=>[(5,.own (gN m)),(10,.val (bG l)),(11,.val (dI l.length)),(12,.val (dI i))]) (fun(i,m)=>l.length-i) (fun(i,m)=>(i<=l.length)/\(m=(l.take i).foldl jX (zeros n))/\(sq2 n m)) ((0,zeros n)) ⟨(by omega),(by simp),(jK n)⟩ ?_ (h0:=by simp[go_sem,hz]);rintro⟨i,m⟩ ⟨h1,h2,h3⟩;simp[go_sem];apply gw<;>intro a
 ·obtain⟨c,hcc⟩:=aC (l:=l) (i:=i) (by omega);have hb:=hc c (List.mem_of_getElem? hcc);have hm:=bB jX (zeros n) hcc;rw[←h2]at hm;have ha0:0<=c.a:=hb.1;have hb0:0<=c.b:=by omega
  obtain⟨hA,hA2⟩:=kU h3 (i:=c.a.toNat) (by omega);obtain⟨hB,hB2⟩:=kU h3 (i:=c.b.toNat) (by omega);have hgA:=D8 h3 (i:=c.a.toNat) (k:=c.b.toNat) (by omega) (by omega);have hgB:=D8 h3 (i:=c.b.toNat) (k:=c.a.toNat) (by omega) (by omega);have hml:c.a.toNat<m.length:=by rw[h3.1];omega
  have hml2:c.b.toNat<m.length:=by rw[h3.1];omega
  have hne:¬c.a.toNat=c.b.toNat:=by omega
  simp[go_sem,hcc];apply gw<;>intro e
  ·have hset:=al6 (m:=m) (v:=1) (w:=1) hne;have hmm:jX m c=set2 (set2 m c.a.toNat c.b.toNat 1) c.b.toNat c.a.toNat 1:=if_pos e;rw[←hmm]at hset;simp[go_sem];refine wdf good [(15,[32,5,18,21,22,25,28,29]),(17,[33,5,18,21,22,25,28,29,32])] [(5,.own (gN m)),(7,.own (.bx true (ah4 c))),(10,.val (bG l)),(11,.val (dI l.length)),(12,.val (dI i))] [] (by simp[go_sem]) ?_;simp[go_sem,ha0,hb0,hA,hB,hgA,hgB,hne,hset];refine ai ?_;refine nx (i+1,jX m c) ⟨(by omega),(hm.symm),(O5 h3 hb)⟩
  ·have hmm:jX m c=m:=if_neg (by simp[e]);simp[go_sem];refine ai ?_;refine nx (i+1,m) ⟨(by omega),(by rw[hm,hmm]),(h3)⟩
 ·simp at a;rw[aK a]at h2;have hfin:GK n l=m:=h2.symm;simp[go_sem,hfin]
abbrev SG (b:Nat):Value:= .pointer (some ⟨b,0,none⟩)
abbrev akH (bc bo bm bv:Nat):D:= .one (.func (.func 279) #[] #[SG bc,SG bo,SG bm,SG bv])
structure ajR (a b c d:Nat):Prop where
 ab:¬a=b
 ac:¬a=c
 ad:¬a=d
 bc:¬b=c
 bd:¬b=d
 cd:¬c=d
 ba:¬b=a
 ca:¬c=a
 da:¬d=a
 cb:¬c=b
 db:¬d=b
 dc:¬d=c
def amR (n:Nat)(m:L2)(c:Int)(bc bo bm bv f:Nat):Prop:=∀(i:Nat) (o:L1),o.length=n->i<n->at1 o i<0->negs n o<=f->
 FnW prog 279 [dI i] [(bc,some (dI c)),(bo,none),(bm,some (aM m)),(bv,some (akH bc bo bm bv))] [(bc,dI c),(bm,aM m),(bv,akH bc bo bm bv)] [(bo,aF o)] (fun r ds'=>r= .tup []/\ds'=[aF (dfs n m c f i o)])
theorem dfs_keeps {n:Nat}{m:L2}{c:Int}(hc:0<=c):∀(f i:Nat) (o:L1),o.length=n->(dfs n m c f i o).length=n/\∀k,0<=at1 o k->0<=at1 (dfs n m c f i o) k
 |0,i,o,h=>⟨h,fun k hk=>hk⟩
 |f+1,i,o,h=>by
  rw[dfs];refine loopN_inv (fun _ (p:L1)=>p.length=n/\∀k,0<=at1 o k->0<=at1 p k) ⟨by simp[h],fun k hk=> ?_⟩ fun k p _ ⟨h1,h2⟩=> ?_
  ·by_cases hi:i<o.length
   ·rw[qA k hi];split<;>omega
   ·rw[List.set_eq_of_length_le (by omega)];exact hk
  ·split
   ·have:=dfs_keeps (m:=m) hc f k p h1;exact⟨this.1,fun k hk=>this.2 k (h2 k hk)⟩
   ·exact⟨h1,h2⟩
def vstep (n:Nat)(m:L2)(c:Int)(f i k:Nat)(o:L1):L1:=if 0<at2 m i k/\at1 o k<0 then dfs n m c f k o else o
variable {c:Int}
theorem afI {n:Nat}(hc:0<=c){f:Nat}{p:L1}(h:p.length=n):(vstep n m c f i k p).length=n/\negs n (vstep n m c f i k p)<=negs n p:=by
 unfold vstep;split
 ·have:=dfs_keeps (m:=m) hc f k p h;exact⟨this.1,abS fun k _ hk=>this.2 k hk⟩
 ·exact⟨h,Nat.le_refl _⟩
theorem anG (n:Nat)(m:L2)(c:Int)(f i:Nat)(o:L1):dfs n m c (f+1) i o=loopN n (o.set i c) (vstep n m c f i):=rfl
theorem avL (n:Nat)(m:L2)(c:Int)(bc bo bm bv f:Nat)(hA:ajR bc bo bm bv)(hm:aI m=true)(hn:m.length=n)(hc:0<=c/\c<=1048576)(IH:amR n m c bc bo bm bv f)(i:Nat)(o:L1)(hl:o.length=n)(hi:i<n)(h0:at1 o i<0)(hf:negs n o<=f+1):FnW prog 279 [dI i] [(bc,some (dI c)),(bo,none),(bm,some (aM m)),(bv,some (akH bc bo bm bv))] [(bc,dI c),(bm,aM m),(bv,akH bc bo bm bv)] [(bo,aF o)] (fun r ds'=>r= .tup []/\ds'=[aF (dfs n m c (f+1) i o)]):=by
 refine fW good [] func279 ntmps279 fun _ _=> ?_;obtain⟨a1,a2,a3,a4,a5,a6,a7,a8,a9,a10,a11,a12⟩:=hA;have hn8:=aP hm;obtain⟨r,hr⟩:=aC (l:=m) (i:=i) (by omega);have hoi:=aD (l:=o) (i:=i) (by omega);have hr2:=(uA hm (show i<m.length by omega));have hrl:r.length=n:=by obtain⟨r',e1,e2⟩:=hr2;rw[hr]at e1;obtain rfl:=Option.some.inj e1;omega
 have hng:=OD hl hi h0 hc.1;simp[go_sem,hr,hoi];refine wl good (fun((k,p):(Nat)×(L1))=>[(0,.val (dI i)),(1,.rp (dI c)),(2,.rf (1000000+2*bo) [0]),(3,.rp (aM m)),(4,.rp (akH bc bo bm bv)),(15,.val (nInts r)),(16,.val (dI r.length)),(17,.val (dI k)),(1000000+2*bc,.rp (dI c)),(1000000+2*bo,.own (.bx true (aF p))),(1000000+2*bm,.rp (aM m)),(1000000+2*bv,.rp (akH bc bo bm bv))]) (fun(k,p)=>n-k) (fun(k,p)=>(k<=n)/\(p=loopN k (o.set i c) (vstep n m c f i))/\(p.length=n)/\(negs n p<=f)) ((0,o.set i c)) ⟨(by omega),(rfl),(by simp[hl]),(by omega)⟩ ?_ (h0:=by simp[go_sem,a1,a2,a3,a4,a5,a6,a7,a8,a9,a10,a11,a12,hr,hoi]);rintro⟨k,p⟩ ⟨h1,h2,h3,h4⟩;simp[go_sem];apply gw<;>intro b
 ·obtain⟨w,hw⟩:=aC (l:=r) (i:=k) (by omega);have hww:=GG hr hw;have hpk:=aD (l:=p) (i:=k) (by omega);have hs:=aA k (o.set i c) (vstep n m c f i);rw[←h2]at hs;have hv:=afI (n:=n) (m:=m) (c:=c) hc.1 (f:=f) (i:=i) (k:=k) h3;simp[go_sem,hw];apply gv<;>intro d
  ·have d':=d;simp[go_sem,a7,hpk,d];apply gw<;>intro e
   ·have hst:vstep n m c f i k p=dfs n m c f k p:=if_pos ⟨by rw[hww];exact d,e⟩;simp[go_sem];refine X5 (IH k p h3 (by omega) e h4) rfl ?_;simp[go_sem,a7,a8,a9,a10,a11,a12];refine ai ?_;refine nx (k+1,dfs n m c f k p) ⟨(by omega),(by rw[hs,hst]),(by rw[←hst];exact hv.1),(by rw[←hst];omega)⟩ (h3:=by simp[go_sem,a1,a2,a3,a4,a5,a6,a7,a8,a9,a10,a11,a12,hr,hoi,hw,hpk,d])
   ·simp at e;have hst:vstep n m c f i k p=p:=if_neg (by omega);simp[go_sem];refine ai ?_;refine nx (k+1,p) ⟨(by omega),(by rw[hs,hst]),(h3),(h4)⟩ (h3:=by simp[go_sem,a1,a2,a3,a4,a5,a6,a7,a8,a9,a10,a11,a12,hr,hoi,hw,hpk,d])
  ·have d':=d;simp at d';have hst:vstep n m c f i k p=p:=if_neg (by omega);simp[go_sem,d];refine ai ?_;refine nx (k+1,p) ⟨(by omega),(by rw[hs,hst]),(h3),(h4)⟩ (h3:=by simp[go_sem,a1,a2,a3,a4,a5,a6,a7,a8,a9,a10,a11,a12,hr,hoi,hw,hpk,d])
 ·simp at b;obtain rfl:k=n:=by omega
  rw[←anG]at h2;simp[go_sem,a7,h2]
theorem avJ {n:Nat}{bc bo bm bv:Nat}(hA:ajR bc bo bm bv)(hm:aI m=true)(hn:m.length=n)(hc:0<=c/\c<=1048576):∀f,amR n m c bc bo bm bv f
 |0=>fun i o hl hi h0 hf=>by have:=OD hl hi h0 hc.1;omega
 |f+1=>fun i o hl hi h0 hf=>avL n m c bc bo bm bv f hA hm hn hc (avJ hA hm hn hc f) i o hl hi h0 hf
theorem nT (h:aI m=true):∀r∈m,r.length<=1048576:=fun r hr=>by
 have h8:=aP h;simp only[aI,Bool.and_eq_true,List.all_eq_true,decide_eq_true_eq]at h;have:=h.1.1 r hr;omega
def iW (n i:Nat):L1:=List.replicate i (-1)++List.replicate (n-i) 0
theorem aB1 {n:Nat}(h:i<n):(iW n i)[i]?=some 0:=by
 rw[iW,List.getElem?_append_right (by simp),List.length_replicate,Nat.sub_self,List.getElem?_replicate,if_pos (by omega)]
theorem ax9 {n:Nat}(h:i<n):(iW n i).set i (-1)=iW n (i+1):=by
 obtain⟨k,hk⟩:∃k,n-i=k+1:=⟨n-i-1,by omega⟩;rw[iW,iW,hk,show n-(i+1)=k by omega,List.set_append_right _ _ (by simp),List.replicate_succ' (n:=i),List.replicate_succ (n:=k)];simp
theorem jN (m:L2)(hm:aI m=true:=by first|assumption|omega|(simp;omega)|grind):Fk 209 [aM m] (.own (aF (jB m))):=by
 refine fE good [] func209 ntmps209 fun _ _=> ?_;have hn8:=aP hm;have hz:iW m.length 0=List.replicate m.length 0:=by simp[iW]
 have hz2:List.replicate m.length (dI 0)=(iW m.length 0).map dI:=by rw[hz];simp
 have hnl:∀i≤m.length,(iW m.length i).length=m.length:=fun i hi=>by simp[iW];omega
 have hnl0:=hnl 0 (by omega);simp[go_sem];refine ck (bT m (by omega) (nT hm)) ?_;simp[go_sem,hm,hz2,hnl0];refine ai ?_;refine wl good (fun(i:Nat)=>[(1,.own (.bx true (aM m))),(3,.own (.bx true (aF (iW m.length i)))),(15,.val (dI m.length)),(16,.val (dI i))]) (fun(i:Nat)=>m.length-i) (fun(i:Nat)=>(i<=m.length)) (0) (by omega) ?_;rintro i h1;simp[go_sem];apply gw<;>intro a
 ·have hat:=aB1 a;have hset:((iW m.length i).map dI).set i (dI (-1))=(iW m.length (i+1)).map dI:=by rw[←ax9 a,List.map_set]
  simp[go_sem,hat,hset];refine ai ?_;refine nx (i+1) (by omega)
 ·simp at a;simp[go_sem];refine aiX (jH (dI 0) (by simp[go_sem]) fun bc nc=> ?_);refine jH (aF (iW m.length i)) (by simp[go_sem]) fun bo no=> ?_;have d1:=jA.ne no (b':=bc) (o:=true) (d:=dI 0) (by simp[go_sem]);have e1:=d1.symm;refine jH (aM m) (by simp[go_sem]) fun bm nm=> ?_;have d2:=jA.ne nm (b':=bc) (o:=true) (d:=dI 0) (by simp[go_sem,e1]);have d3:=jA.ne nm (b':=bo) (o:=true) (d:=aF (iW m.length i)) (by simp[go_sem]);have e2:=d2.symm;have e3:=d3.symm;refine jH (.one .nilFunc) (by simp[go_sem]) fun bv nv=> ?_;have d4:=jA.ne nv (b':=bc) (o:=true) (d:=dI 0) (by simp[go_sem,e1,e2]);have d5:=jA.ne nv (b':=bo) (o:=true) (d:=aF (iW m.length i)) (by simp[go_sem,e3]);have d6:=jA.ne nv (b':=bm) (o:=true) (d:=aM m) (by simp[go_sem]);have e4:=d4.symm;have e5:=d5.symm;have e6:=d6.symm;refine Q7 ?_;simp[go_sem,e6];clear nc no nm nv;obtain rfl:i=m.length:=by omega
  have hA:ajR bc bo bm bv:=⟨e1,e2,e4,e3,e5,e6,d1,d2,d4,d3,d5,d6⟩;have hng:iW m.length m.length=List.replicate m.length (-1):=by simp[iW]
  simp[go_sem,hng];refine wl good (fun((i,o,c):(Nat)×(L1)×(Int))=>[(1,.rf (1000000+2*bm) [0]),(3,.rf (1000000+2*bo) [0]),(5,.rf (1000000+2*bc) [0]),(6,.rf (1000000+2*bv) [0]),(25,.val (dI m.length)),(26,.val (dI i)),(1000000+2*bc,.own (.bx true (dI c))),(1000000+2*bo,.own (.bx true (aF o))),(1000000+2*bm,.own (.bx true (aM m))),(1000000+2*bv,.own (.bx true (akH bc bo bm bv)))]) (fun(i,o,c)=>m.length-i) (fun(i,o,c)=>(i<=m.length)/\((o,c)=loopN i (List.replicate m.length (-1),0) (DY m.length m))/\(o.length=m.length)/\(0<=c/\c<=i)) ((0,List.replicate m.length (-1),0)) ⟨(by omega),(rfl),(by simp),(by omega)⟩ ?_ (h0:=by simp[go_sem,hm,hz2,hnl0,d1,e1,d2,e2,d3,e3,d4,e4,d5,e5,d6,e6,hng]);rintro⟨i,o,c⟩ ⟨h2,h3,h4,h5⟩;simp[go_sem];apply gw<;>intro b
  ·have hoi:=aD (l:=o) (i:=i) (by omega);have hs:=aA i (List.replicate m.length (-1),(0:Int)) (DY m.length m);rw[←h3]at hs;simp[go_sem,d1,hoi];apply gw<;>intro f
   ·have hst:DY m.length m i (o,c)=(dfs m.length m c m.length i o,c+1):=if_pos f;simp[go_sem,d4,d5,d6];refine X5 (avJ (c:=c) hA hm rfl (by omega) m.length i o h4 b f (alS _ _)) rfl ?_;simp[go_sem,d1,e1,d2,d3,d4,d5,d6];iterate 2 refine ai ?_
    refine nx (i+1,dfs m.length m c m.length i o,c+1) ⟨(by show i+1<=m.length;omega),(by rw[hs,hst]),((dfs_keeps (c:=c) (by omega) _ _ _ h4).1),(by show 0<=c+1/\c+1<=((i+1:Nat):Int);omega)⟩ (h3:=by simp[go_sem,hm,hz2,hnl0,d1,e1,d2,e2,d3,e3,d4,e4,d5,e5,d6,e6,hng,hoi])
   ·simp at f;have hst:DY m.length m i (o,c)=(o,c):=if_neg (show¬at1 o i<0 by omega);simp[go_sem];refine ai ?_;refine nx (i+1,o,c) ⟨(by omega),(by rw[hs,hst]),(h4),(by omega)⟩ (h3:=by simp[go_sem,hm,hz2,hnl0,d1,e1,d2,e2,d3,e3,d4,e4,d5,e5,d6,e6,hng,hoi])
  ·simp at b;obtain rfl:i=m.length:=by omega
   have hfin:jB m=o:=by rw[←ax4 hm];exact congrArg Prod.fst h3.symm
   simp[go_sem,d1,hfin];omega
theorem pE (n:Nat)(l:List Con)(hn:n<=1048576:=by first|assumption|omega|(simp;omega)|grind)(hl:l.length<=1048576:=by first|assumption|omega|(simp;omega)|grind)(hc:aN n l=true:=by first|assumption|omega|(simp;omega)|grind):Fk 210 [dI n,bG l] (.own (aF (aV n l))):=by
 refine fE good [] func210 ntmps210 fun _ _=> ?_;simp[go_sem];refine ck (mD n l) ?_;have hc2:=fO hc;have hm:=UF hc;have hx:=aiT hc;simp[go_sem,hc];refine ck (LH n l) ?_;simp[go_sem];refine ck (jN _) ?_;simp[go_sem];grind
theorem EW (a b:L1)(ha:a.length<=1048576)(hb:b.length<=1048576):Fk 278 [nInts a,nInts b] (.val (dB (fJ a b))):=by
 refine fE good [] func278 ntmps278 fun _ _=> ?_;simp[go_sem];refine ck (pI a ha) ?_;simp[go_sem];apply gv<;>intro e
 ·have e':=e;simp[go_sem,e];refine ck (pI b hb) ?_;simp[go_sem];apply gv<;>intro f
  ·have f':=f;simp[go_sem,f];grind[fJ]
  ·have f':=f;simp[go_sem,f];grind[fJ]
 ·have e':=e;simp[go_sem,e];grind[fJ]
theorem afD {f:Nat->Nat->Bool}(h:f i k=true):set2 m i k 1=qC f i k m:=by unfold qC;rw[if_pos h]
theorem CQ (p q:L1)(hp:p.length<=1048576)(hq:q.length<=1048576)(h:fJ p q=true):Fk 208 [nInts p,nInts q] (.own (aF (vB p q))):=by
 refine fE good [] func208 ntmps208 fun _ _=> ?_;obtain⟨hpp,hqq,hlen⟩:=OZ h;have hpl:=isPart_len hpp;have hz:List.replicate p.length (aF (List.replicate p.length 0))=(zeros p.length).map aF:=by simp[zeros]
 have hmat:=TW (q:=q) hpl;have hlab:=akP (q:=q) hpl;simp[go_sem];refine ck (EW p q hp hq) ?_;simp[go_sem,h];refine ck (lN p.length (by omega)) ?_;simp[go_sem,hz];refine wl good (fun((i,m):(Nat)×(L2))=>[(0,.val (nInts p)),(1,.val (nInts q)),(5,.own (gN m)),(16,.val (dI p.length)),(17,.val (dI i))]) (fun(i,m)=>p.length-i) (fun(i,m)=>(i<=p.length)/\(m=loopN i (zeros p.length) (Q4 p.length (sW p q)))/\(sq2 p.length m)) ((0,zeros p.length)) ⟨(by omega),(rfl),(jK _)⟩ ?_ (h0:=by simp[go_sem,h,hz]);rintro⟨i,m⟩ ⟨h1,h2,h3⟩;simp[go_sem];apply gw<;>intro a
 ·have hs:=aA i (zeros p.length) (Q4 p.length (sW p q));rw[←h2]at hs;have gp:=aD (l:=p) (i:=i) (by omega);have gq:=aD (l:=q) (i:=i) (by omega);simp[go_sem];refine wl good (fun((k,w):(Nat)×(L2))=>[(0,.val (nInts p)),(1,.val (nInts q)),(5,.own (gN w)),(6,.val (dI i)),(16,.val (dI p.length)),(17,.val (dI i)),(21,.val (dI p.length)),(22,.val (dI k))]) (fun(k,w)=>p.length-k) (fun(k,w)=>(k<=p.length)/\(w=loopN k m (qC (sW p q) i))/\(sq2 p.length w)) ((0,m)) ⟨(by omega),(rfl),(h3)⟩ ?_;rintro⟨k,w⟩ ⟨h4,h5,h6⟩;simp[go_sem];apply gw<;>intro b
  ·have hs2:=aA k m (qC (sW p q) i);rw[←h5]at hs2;have kp:=aD (l:=p) (i:=k) (by omega);have kq:=aD (l:=q) (i:=k) (by omega);have hrw:=(kU h6 (i:=i) (by omega)).1;have hgw:=D8 h6 (i:=i) (k:=k) (by omega) (by omega);have hset:=BH w i k 1;simp[go_sem];refine wdr good ?_;simp[go_sem];apply gv<;>intro e
   ·have e':=e;simp[go_sem,gp,kp,e];apply gv<;>intro f
    ·have f':=f;have ho:=afD (m:=w) (show sW p q i k=true by simp only[sW,Bool.and_eq_true,Bool.or_eq_true,decide_eq_true_eq];exact⟨by omega,.inl f⟩);simp[go_sem,hrw,hgw,hset,f];refine ai ?_;refine nx (k+1,set2 w i k 1) ⟨(by omega),(by rw[hs2,ho]),(oM h6 (by omega) 1)⟩
    ·have f':=f;simp[go_sem,gq,kq,f];apply gw<;>intro g
     ·have ho:=afD (m:=w) (show sW p q i k=true by simp only[sW,Bool.and_eq_true,Bool.or_eq_true,decide_eq_true_eq];exact⟨by omega,.inr g⟩);simp[go_sem,hrw,hgw,hset];refine ai ?_;refine nx (k+1,set2 w i k 1) ⟨(by omega),(by rw[hs2,ho]),(oM h6 (by omega) 1)⟩
     ·have ho:qC (sW p q) i k w=w:=if_neg (by simp only[sW,Bool.and_eq_true,Bool.or_eq_true,decide_eq_true_eq];omega);simp[go_sem];refine ai ?_;refine nx (k+1,w) ⟨(by omega),(by rw[hs2,ho]),(h6)⟩
   ·have e':=e;have ho:qC (sW p q) i k w=w:=if_neg (by simp only[sW,Bool.and_eq_true,Bool.or_eq_true,decide_eq_true_eq];omega);simp[go_sem,e];refine ai ?_;refine nx (k+1,w) ⟨(by omega),(by rw[hs2,ho]),(h6)⟩ (h3:=by simp[go_sem,h,hz,gp,gq,kp,kq,hrw,hgw,hset,e])
  ·simp at b;obtain rfl:k=p.length:=by omega
   simp[go_sem];refine ai ?_;refine nx (i+1,w) ⟨(by omega),(by rw[hs,h5];rfl),(h6)⟩
 ·simp at a;obtain rfl:i=p.length:=by omega
  have hfin:G8 p q=m:=h2.symm;rw[hfin]at hmat hlab;simp[go_sem];refine ck (jN m hmat) ?_;simp[go_sem,hlab]
theorem J6 (m:L2)(l:List Con)(hl:l.length<=1048576)(hm:aI m=true)(hc:aN m.length l=true):Fk 140 [aM m,bG l] (.own (aF (aO m l))):=by
 refine fE good [] func140 ntmps140 fun _ _=> ?_;have hn8:=aP hm;have hpl:=CS hm;have hml:=iC hc;have hpp:=BL hpl hn8.1 hn8.2;have hmp:=BL hml hn8.1 hn8.2;have hpair:fJ (jB m) (aV m.length l)=true:=by simp only[fJ,Bool.and_eq_true,decide_eq_true_eq];exact⟨⟨hpp,hmp⟩,by rw[hpl.1,hml.1]⟩
 have hx:=(yR hm hc).1;simp[go_sem];refine ck (bT m (by omega) (nT hm)) ?_;simp[go_sem,hm];refine ck (mD m.length l) ?_;simp[go_sem,hc];refine ck (jN m hm) ?_;simp[go_sem];refine ck (pE m.length l (by omega) hl hc) ?_;have q1:=hpl.1;have q2:=hml.1;simp[go_sem];refine ck (CQ (jB m) (aV m.length l) (by omega) (by omega) hpair) ?_;simp[go_sem,hx]
theorem asI (h:aI m=true)(l:L1)(i k:Nat):0<=lF m l i k/\lF m l i k<=1000:=by
 have:=bZ h i k;rw[aa5];split<;>omega
theorem dY (m:L2)(l:L1)(hm:aI m=true)(hl:l.length=m.length):Fk 145 [aM m,nInts l] (.val (dI (aQ m l))):=by
 refine fE good [] func145 ntmps145 fun _ _=> ?_;have hn8:=aP hm;simp[go_sem];refine wl good (fun((i,s):(Nat)×(Int))=>[(0,.val (aM m)),(1,.val (nInts l)),(5,.val (dI s)),(9,.val (dI l.length)),(10,.val (dI i))]) (fun(i,s)=>l.length-i) (fun(i,s)=>(i<=l.length)/\(s=loopN i 0 (qF m l))/\(0<=s/\s<=8000*i)) ((0,0)) ⟨(by omega),(rfl),(by omega)⟩ ?_;rintro⟨i,s⟩ ⟨h1,h2,h3⟩;simp[go_sem];apply gw<;>intro a
 ·have hs:=aA i 0 (qF m l);rw[←h2]at hs;simp[go_sem];refine wl good (fun((k,t):(Nat)×(Int))=>[(0,.val (aM m)),(1,.val (nInts l)),(5,.val (dI t)),(6,.val (dI i)),(9,.val (dI l.length)),(10,.val (dI i)),(13,.val (dI i)),(14,.val (dI k))]) (fun(k,t)=>i-k) (fun(k,t)=>(k<=i)/\(t=loopN k s (fun k s=>s+lF m l i k))/\(s<=t/\t<=s+1000*k)) ((0,s)) ⟨(by omega),(rfl),(by omega)⟩ ?_;rintro⟨k,t⟩ ⟨h4,h5,h6⟩;simp[go_sem];apply gw<;>intro b
  ·have hs2:=aA k s (fun k s=>s+lF m l i k);rw[←h5]at hs2;have gi:=aD (l:=l) (i:=i) (by omega);have gk:=aD (l:=l) (i:=k) (by omega);obtain⟨r,hr,hw⟩:=eP hm (i:=i) (k:=k) (by omega) (by omega);have hc:=asI hm l i k;have hw2:=bZ hm i k;have hcb:=aa5 m l i k;simp[go_sem];refine wdr good ?_;simp[go_sem,gi,gk];apply gw<;>intro e
   ·rw[if_pos e]at hcb;have hcs:=hcb.symm;simp[go_sem,hr,hw,hcs];iterate 3 refine ai ?_
    refine nx (k+1,t+lF m l i k) ⟨(by omega),(hs2.symm),(by omega)⟩
   ·rw[if_neg e]at hcb;have hcs:=hcb.symm;simp[go_sem,hr,hw,hcs];iterate 2 refine ai ?_
    refine nx (k+1,t+lF m l i k) ⟨(by omega),(hs2.symm),(by omega)⟩
  ·simp at b;obtain rfl:k=i:=by omega
   simp[go_sem];refine ai ?_;refine nx (k+1,t) ⟨(by omega),(by rw[hs,h5];rfl),(by omega)⟩
 ·simp at a;obtain rfl:i=l.length:=by omega
  have hfin:aQ m l=s:=h2.symm;simp[go_sem,hfin]
theorem NP (l:L1):(nInts l).fz=nInts l:=by simp[D.fz,D.IV]
theorem CY (c:Con)(p:L1)(h0:0<=c.a/\c.a<c.b)(h1:c.b<(p.length:Int)):Fk 333 [ah4 c,.bx false (nInts p)] (.val (dB (yC p c))):=by
 refine fE good [] func333 ntmps333 fun _ _=> ?_;have ha:0<=c.a:=h0.1;have hb:0<=c.b:=by omega
 have q1:=aD (l:=p) (i:=c.a.toNat) (by omega);have q2:=aD (l:=p) (i:=c.b.toNat) (by omega);simp[go_sem];refine wdt good 16 ?_;simp[go_sem];apply gv<;>intro g1
 ·have g1':=g1;simp at g1';simp[go_sem,ha,hb,q1,q2,g1];grind[yC]
 ·have g1':=g1;simp at g1';simp[go_sem,g1];grind[yC]
theorem IX (n:Nat)(l:List Con)(hn:n<=1048576:=by first|assumption|omega|(simp;omega)|grind)(hl:l.length<=1048576:=by first|assumption|omega|(simp;omega)|grind)(hc:aN n l=true:=by first|assumption|omega|(simp;omega)|grind):Fk 274 [dI n,bG l] (.val (dI (nL n l))):=by
 refine fE good [] func274 ntmps274 fun _ _=> ?_;have hc2:=fO hc;have hml:(aV n l).length=n:=(iC hc).1;have hne:¬aV n l=[]:=by intro e;rw[e]at hml;simp at hml;omega
 have hf:nL n l=ix (yC (aV n l)) l:=if_pos hc;simp[go_sem];refine ck (pE n l) ?_;simp[go_sem,hne,hf];intro b;refine ckB (X4 l (yC (aV n l)) 333 b (nInts (aV n l)) (NP _) aC1 aDX (fun c hm=>CY c (aV n l) (by have:=hc2.2.2.2 c hm;omega) (by have:=hc2.2.2.2 c hm;omega)) hl) ?_;simp[go_sem,hf]
theorem FU (n:Nat)(l:List Con)(hn:n<=1048576:=by first|assumption|omega|(simp;omega)|grind)(hl:l.length<=1048576:=by first|assumption|omega|(simp;omega)|grind):Fk 206 [dI n,bG l] (.val (dB (aX n l))):=by
 refine fE good [] func206 ntmps206 fun _ _=> ?_;simp[go_sem];refine ck (mD n l) ?_;simp[go_sem];apply gv<;>intro e
 ·have e':=e;simp[go_sem,e];refine ck (IX n l) ?_;simp[go_sem];grind[aX]
 ·have e':=e;simp[go_sem,e];grind[aX]
theorem LX (m:L2)(l:List Con)(hm:m.length<=1048576)(hr:∀r∈m,r.length<=1048576)(hl:l.length<=1048576):Fk 139 [aM m,bG l] (.val (dB (aI m&&aX m.length l))):=by
 refine fE good [] func139 ntmps139 fun _ _=> ?_;simp[go_sem];refine ck (bT m hm hr) ?_;simp[go_sem];apply gv<;>intro e
 ·have e':=e;simp[go_sem,e];refine ck (FU m.length l) ?_;simp[go_sem,e]
 ·have e':=e;simp[go_sem,e]
theorem sN (m:L2)(l:L1)(hm:aI m=true)(hl:l.length<=1048576):Fk 215 [aM m,nInts l] (.val (dI (nA m l))):=by
 refine fE good [] func215 ntmps215 fun _ _=> ?_;simp[go_sem];refine ck (bT m (by have:=aP hm;omega) (nT hm)) ?_;simp[go_sem,hm];refine ck (pI l hl) ?_;simp[go_sem];apply gv<;>intro e
 ·have e':=e;simp at e';have hp:nA m l= -1:=if_neg (by simp[e']);simp[go_sem,e,hp]
 ·have e':=e;simp at e';simp[go_sem,e];apply gw<;>intro f
  ·have hp:nA m l= -1:=if_neg (by omega);simp[go_sem,hp]
  ·have hll:l.length=m.length:=by omega
   have hp:nA m l=aQ m l:=if_pos ⟨hm,e',hll⟩;simp[go_sem];refine ck (dY m l hm hll) ?_;simp[go_sem,hp]
theorem U2 (c:Con)(l:L1)(hl:l.length<=1048576):Fk 285 [ah4 c,.bx false (nInts l)] (.val (dB (!oN l c))):=by
 refine fE good [] func285 ntmps285 fun _ _=> ?_;simp[go_sem];refine wdt good 30 ?_;simp[go_sem];refine cd (iB c.a l.length) ?_;simp[go_sem];apply gv<;>intro e
 ·have e':=e;simp at e';simp[go_sem,e];grind[oN]
 ·have e':=e;simp at e';simp[go_sem,e];refine cd (iB c.b l.length) ?_;simp[go_sem];apply gv<;>intro f
  ·have f':=f;simp at f';simp[go_sem,f];grind[oN]
  ·have f':=f;simp at f';have ha:0<=c.a:=by omega
   have hb:0<=c.b:=by omega
   have q1:=aD (l:=l) (i:=c.a.toNat) (by omega);have q2:=aD (l:=l) (i:=c.b.toNat) (by omega);simp[go_sem,e',f',q1,q2];grind[oN]
theorem uR (l:L1)(cs:List Con)(hl:l.length<=1048576:=by first|assumption|omega|(simp;omega)|grind)(hc:cs.length<=1048576:=by first|assumption|omega|(simp;omega)|grind):Fk 213 [nInts l,bG cs] (.val (dB (gW cs l))):=by
 refine fE good [] func213 ntmps213 fun _ _=> ?_;have hx:(!(cs.any fun c=> !oN l c))=gW cs l:=by rw[aeK];simp[gW]
 simp[go_sem];intro b;refine ckB (ab7 cs (fun c=> !oN l c) 285 b (nInts l) (NP _) aDL aD1 (fun c _=>U2 c l hl) hc) ?_;simp[go_sem,hx]
theorem uH (n:Nat)(hn:n<=8:=by first|assumption|omega|(simp;omega)|grind):Fk 183 [dI n] (.own (K4 (noLinks n))):=by
 refine fE good [] func183 ntmps183 fun _ _=> ?_;simp[go_sem];refine wl good (fun(i:Nat)=>[(0,.val (dI n)),(3,.own (K4 (List.replicate i (List.replicate n false)))),(4,.val (dI i))]) (fun(i:Nat)=>n-i) (fun(i:Nat)=>(i<=n)) (0) (by omega) ?_;rintro i h1;simp[go_sem];apply gw<;>intro a
 ·have hx:=List.replicate_succ' (n:=i) (a:=List.replicate n false);simp[go_sem];iterate 3 refine ai ?_
  refine nx (i+1) (by first|omega|(simp;omega)|grind) (h3:=by simp[go_sem,hx])
 ·simp at a;obtain rfl:n=i:=by omega
  simp[go_sem];all_goals(simp[noLinks];done)
theorem sG (n:Nat)(M:List (List Bool))(hn:n<=8:=by first|assumption|omega|(simp;omega)|grind)(hM:sqB n M:=by first|assumption|omega|(simp;omega)|grind):Fk 184 [dI n,Q3 M] (.own (aF (ae8 n M).1)):=by
 refine fE good [] func184 ntmps184 fun _ _=> ?_;simp[go_sem];refine wl good (fun(i:Nat)=>[(0,.val (dI n)),(1,.val (Q3 M)),(5,.own (aF (List.replicate i (-1)))),(6,.val (dI i))]) (fun(i:Nat)=>n-i) (fun(i:Nat)=>(i<=n)) (0) (by omega) ?_;rintro i h1;simp[go_sem];apply gw<;>intro a
 ·have hx:=List.replicate_succ' (n:=i) (a:=(-1:Int));simp[go_sem];iterate 2 refine ai ?_
  refine nx (i+1) (by first|omega|(simp;omega)|grind) (h3:=by simp[go_sem,hx])
 ·simp at a;obtain rfl:n=i:=by omega
  simp[go_sem];refine wl good (fun((i,s):(Nat)×(L1×Int))=>[(0,.val (dI n)),(1,.val (Q3 M)),(5,.own (aF s.1)),(7,.val (dI s.2)),(8,.val (dI i))]) (fun(i,s)=>n-i) (fun(i,s)=>(i<=n)/\(s=loopN i ((List.replicate n (-1),0)) (zC n M))/\(s.1.length=n/\0<=s.2/\s.2<=i)) ((0,(List.replicate n (-1),0))) ⟨(by omega),rfl,(by simp)⟩ ?_;rintro⟨i,s⟩ ⟨h1,h2,h3⟩;simp[go_sem];apply gw<;>intro a
  ·have hs:=aA i ((List.replicate n (-1),0)) (zC n M);rw[←h2]at hs;have hg:=aD (l:=s.1) (i:=i) (by omega);simp[go_sem,hg];apply gw<;>intro b
   ·have hx:zC n M i s=s:=if_pos b;simp[go_sem];refine ai ?_;refine nx (i+1,s) ⟨(by omega),(by rw[hs,hx]),(by omega)⟩
   ·simp at b;have hx:zC n M i s=(spread n M s.2 (s.1.set i s.2),s.2+1):=if_neg (by omega);simp[go_sem,hg];refine wl good (fun((a,o):(Nat)×(L1))=>[(0,.val (dI n)),(1,.val (Q3 M)),(5,.own (aF o)),(7,.val (dI s.2)),(8,.val (dI i)),(9,.val (dI a))]) (fun(a,o)=>n-a) (fun(a,o)=>(a<=n)/\(o=loopN a (s.1.set i s.2) (spS n M s.2))/\(o.length=n)) ((0,s.1.set i s.2)) ⟨(by omega),rfl,(by simp;omega)⟩ ?_;rintro⟨a,o⟩ ⟨h1a,h2a,h3a⟩;simp[go_sem];apply gw<;>intro aa
    ·have hsa:=aA a (s.1.set i s.2) (spS n M s.2);rw[←h2a]at hsa;simp[go_sem];refine wl good (fun((b,p):(Nat)×(L1))=>[(0,.val (dI n)),(1,.val (Q3 M)),(5,.own (aF p)),(7,.val (dI s.2)),(8,.val (dI i)),(9,.val (dI a)),(10,.val (dI b))]) (fun(b,p)=>n-b) (fun(b,p)=>(b<=n)/\(p=loopN b (o) (spA n M s.2))/\(p.length=n)) ((0,o)) ⟨(by omega),rfl,(by omega)⟩ ?_;rintro⟨b,p⟩ ⟨h1b,h2b,h3b⟩;simp[go_sem];apply gw<;>intro ab
     ·have hsb:=aA b (o) (spA n M s.2);rw[←h2b]at hsb;simp[go_sem];refine wl good (fun((c,q):(Nat)×(L1))=>[(0,.val (dI n)),(1,.val (Q3 M)),(5,.own (aF q)),(7,.val (dI s.2)),(8,.val (dI i)),(9,.val (dI a)),(10,.val (dI b)),(11,.val (dI c))]) (fun(c,q)=>n-c) (fun(c,q)=>(c<=n)/\(q=loopN c (p) (spB M s.2 b))/\(q.length=n)) ((0,p)) ⟨(by omega),rfl,(by omega)⟩ ?_;rintro⟨c,q⟩ ⟨h1c,h2c,h3c⟩;simp[go_sem];apply gw<;>intro ac
      ·have hsc:=aA c (p) (spB M s.2 b);rw[←h2c]at hsc;have hq:=aD (l:=q) (i:=b) (by omega);obtain⟨r,hr,hrl⟩:=amM hM ab;obtain⟨y,hy⟩:=aC (l:=r) (i:=c) (by omega);have ey:=avF hr hy;have hqc:=aD (l:=q) (i:=c) (by omega);simp[go_sem,hq];apply gv<;>intro e
       ·have e':=e;simp[go_sem,hr,hy,e];apply gw<;>intro f
        ·have hz:spB M s.2 b c q=q.set c s.2:=if_pos ⟨by simp_all,by simp_all⟩;simp[go_sem,hqc];refine ai ?_;refine nx (c+1,q.set c s.2) ⟨(by omega),(by rw[hsc,hz]),(by simp[h3c])⟩
        ·have hz:spB M s.2 b c q=q:=if_neg (by simp_all);simp[go_sem];refine ai ?_;refine nx (c+1,q) ⟨(by omega),(by rw[hsc,hz]),(h3c)⟩
       ·have e':=e;have hz:spB M s.2 b c q=q:=if_neg (by simp_all);simp[go_sem,e];refine ai ?_;refine nx (c+1,q) ⟨(by omega),(by rw[hsc,hz]),(h3c)⟩
      ·simp at ac;have hic:n=c:=by omega
       subst hic;simp[go_sem];refine ai ?_;refine nx (b+1,q) ⟨(by omega),(by rw[hsb,spA,h2c]),(h3c)⟩
     ·simp at ab;have hib:n=b:=by omega
      subst hib;simp[go_sem];refine ai ?_;refine nx (a+1,p) ⟨(by omega),(by rw[hsa,spS,h2b]),(h3b)⟩
    ·simp at aa;have hia:n=a:=by omega
     subst hia;simp[go_sem];iterate 2 refine ai ?_
     refine nx (i+1,(o,s.2+1)) ⟨(by omega),(by rw[hs,hx,spread,h2a]),(by simp[h3a];omega)⟩
  ·simp at a;have hi:n=i:=by omega
   subst hi;simp[go_sem];subst h2;rfl
theorem oV (n:Int)(l:List Con)(hn: -1048576<=n/\n<=1048576:=by first|assumption|omega|(simp;omega)|grind)(hs:l.length<=1048576:=by first|assumption|omega|(simp;omega)|grind):Fk 110 [dI n,bG l] (.own (aF (if aN n l=true then aV n.toNat l else[]))):=by
 refine fE good [] func110 ntmps110 fun _ _=> ?_;simp[go_sem];refine ck (mE _ _) ?_;simp[go_sem];apply gw<;>intro e
 ·simp at e;simp[go_sem];simp[e]
 ·simp at e;obtain⟨h1,h2,h3,h4⟩:=fO e;obtain⟨n,rfl⟩:∃k:Nat,n=k:=⟨n.toNat,by omega⟩;simp[go_sem];refine ck (uH n) ?_;simp[go_sem];refine wl good (fun((i,M):(Nat)×(List (List Bool)))=>[(0,.val (dI n)),(1,.val (bG l)),(5,.own (K4 M)),(6,.val (dI i))]) (fun(i,M)=>(l).length-i) (fun(i,M)=>(i<=(l).length)/\(M=(l.take i).foldl mustStep (noLinks n))/\(sqB n M)) ((0,(noLinks n))) ⟨(by simp),(rfl),(WN n)⟩ ?_;rintro⟨i,M⟩ ⟨h1,h2,h3⟩;simp[go_sem];apply gw<;>intro a
  ·obtain⟨c,hc⟩:=aC (l:=l) (i:=i) (by omega);have hm:=bB mustStep (noLinks n) hc;rw[←h2]at hm;have hb:=h4 c (List.mem_of_getElem? hc);simp[go_sem,hc];apply gw<;>intro b
   ·obtain⟨r,hr,hrl,hrc⟩:=OB (a:=c.a.toNat) (b:=c.b.toNat) h3 (by omega) (by omega);obtain⟨q,hq,hql,hqc⟩:=OB (a:=c.b.toNat) (b:=c.a.toNat) h3 (by omega) (by omega);have hne:c.a.toNat≠c.b.toNat:=by omega
    have hne2:¬c.b.toNat=c.a.toNat:=by omega
    have hz1:=QR (k:=c.b.toNat) (v:=true) hr;have hz2:=QR (M:=M.set c.a.toNat (r.set c.b.toNat true)) (i:=c.b.toNat) (k:=c.a.toNat) (v:=true) (r:=q) (by simp[hne,hq]);simp[go_sem];refine wdt good 14 ?_;simp[go_sem,hc,hr,hrc];iterate 2 refine ai ?_
    refine wdt good 14 ?_;simp[go_sem,hc,hq,hqc,hne];iterate 3 refine ai ?_
    refine nx (i+1,(M.set c.a.toNat (r.set c.b.toNat true)).set c.b.toNat (q.set c.a.toNat true)) ⟨(by omega),(by rw[hm,mustStep,if_pos b,hz1,hz2]),(by rw[←hz2,←hz1];exact sqB_set (sqB_set h3))⟩
   ·simp[go_sem];refine ai ?_;refine nx (i+1,M) ⟨(by omega),(by rw[hm,mustStep,if_neg (by simp[b])]),(h3)⟩
  ·simp at a;rw[aK a]at h2;subst h2;simp[go_sem];refine ck (sG n _) ?_;simp[go_sem];simp[e,aV,gY]
theorem xW (m:L2)(hs:m.length<=1048576:=by first|assumption|omega|(simp;omega)|grind):Fk 179 [aM m] (.own (aF (if aI m=true then jB m else[]))):=by
 refine fE good [] func179 ntmps179 fun _ _=> ?_;simp[go_sem];refine ck (aY _) ?_;simp[go_sem];apply gw<;>intro e
 ·simp at e;simp[go_sem];simp[e]
 ·simp at e;have hml:=aP e;simp[go_sem];refine ck (uH m.length) ?_;simp[go_sem];refine wl good (fun((i,M):(Nat)×(List (List Bool)))=>[(0,.val (aM m)),(3,.own (K4 M)),(4,.val (dI i))]) (fun(i,M)=>m.length-i) (fun(i,M)=>(i<=m.length)/\(M=loopN i (noLinks m.length) ((fun i M=>loopN m.length M (posRow m i))))/\(sqB m.length M)) ((0,noLinks m.length)) ⟨(by simp),(rfl),(WN _)⟩ ?_;rintro⟨i,M⟩ ⟨h1,h2,h3⟩;simp[go_sem];apply gw<;>intro a
  ·have hs:=aA i (noLinks m.length) ((fun i M=>loopN m.length M (posRow m i)));rw[←h2]at hs;simp[go_sem];refine wl good (fun((k,L):(Nat)×(List (List Bool)))=>[(0,.val (aM m)),(3,.own (K4 L)),(4,.val (dI i)),(5,.val (dI k))]) (fun(k,L)=>m.length-k) (fun(k,L)=>(k<=m.length)/\(L=loopN k (M) (posRow m i))/\(sqB m.length L)) ((0,M)) ⟨(by simp),(rfl),(h3)⟩ ?_;rintro⟨k,L⟩ ⟨h1k,h2k,h3k⟩;simp[go_sem];apply gw<;>intro ak
   ·have hsk:=aA k (M) (posRow m i);rw[←h2k]at hsk;obtain⟨r,hr,hrl,hrc⟩:=OB (a:=i) (b:=k) h3k (by omega) (by omega);obtain⟨q,hq,hqc⟩:=eP e (i:=i) (k:=k) (by omega) (by omega);have hz1:=QR (k:=k) (v:=decide (at2 m i k>0)) hr;have hsq:=sqB_set (i:=i) (k:=k) (v:=decide (at2 m i k>0)) h3k;rw[hz1]at hsq;simp[go_sem];refine wdt good 14 ?_;simp[go_sem,hr,hrc,hq,hqc];refine ai ?_;refine nx (k+1,L.set i (r.set k (decide (at2 m i k>0)))) ⟨(by omega),(by rw[hsk,posRow,hz1]),(hsq)⟩
   ·simp at ak;have hik:m.length=k:=by omega
    subst hik;simp[go_sem];refine ai ?_;refine nx (i+1,L) ⟨(by omega),(by rw[hs];exact h2k),(h3k)⟩
  ·simp at a;have hi:m.length=i:=by omega
   subst hi;simp[go_sem];refine ck (sG m.length _) ?_;simp[go_sem];simp[e,jB,NS,←h2]
variable {n:Int}{l:List Con}{C:L1}
theorem ahM (hC:(if aN n l=true then aV n.toNat l else[])=C)(b:0<C.length):aN n l=true:=by
 cases h:aN n l with
 |true=>rfl
 |false=>subst hC;simp[h]at b
theorem ac8 (hC:(if aN n l=true then aV n.toNat l else[])=C)(b:¬0<C.length):¬aN n l=true:=by
 intro h;have:=fO h;subst hC;rw[if_pos h,aV,IG]at b;omega
theorem aeU (e:¬aN n l=true):¬aN n.toNat l=true:=by
 intro h;by_cases h0:0<=n
 ·rw[show(n.toNat:Int)=n by omega]at h;exact e h
 ·have:=fO h;omega
theorem aaN (hC:(if aN n l=true then aV n.toNat l else[])=C)(e:aN n.toNat l=true):aV n.toNat l=C:=by
 by_cases h0:0<=n
 ·rw[show(n.toNat:Int)=n by omega]at e;rw[if_pos e]at hC;exact hC
 ·have:=fO e;omega
theorem HZ (n:Int)(l:List Con)(hn: -1048576<=n/\n<=1048576:=by first|assumption|omega|(simp;omega)|grind)(hs:l.length<=1048576:=by first|assumption|omega|(simp;omega)|grind):Fk 177 [dI n,bG l] (.val (dI (nL n.toNat l))):=by
 refine fE good [] func177 ntmps177 fun _ _=> ?_;simp[go_sem];refine ck (oV n l) ?_;generalize hC:(if aN n l=true then aV n.toNat l else[])=C;have hCl:C.length<=8:=by subst hC;split;(next e=>rw[aV,IG];have:=fO e;omega);simp
 simp[go_sem];refine wl good (fun(i:Nat)=>[(0,.val (dI n)),(1,.val (bG l)),(5,.own (aF C)),(6,.val (dI i))]) (fun(i:Nat)=>l.length-i) (fun(i:Nat)=>(i<=l.length)/\((l.take i).any (yC C)=false)) (0) ⟨(by omega),rfl⟩ ?_;rintro i ⟨h1,h2⟩;simp[go_sem];apply gv<;>intro a
 ·have a':=a;simp[go_sem,a];apply gw<;>intro b
  ·have e:=ahM hC b;obtain⟨h3,h4,h5,h6⟩:=fO e;rw[if_pos e]at hC;have hCn:C.length=n.toNat:=by subst hC;exact IG _ _
   obtain⟨c,hc⟩:=aC (l:=l) (i:=i) (by omega);have hb:=h6 c (List.mem_of_getElem? hc);have ha1:=aD (l:=C) (i:=c.a.toNat) (by omega);have hb1:=aD (l:=C) (i:=c.b.toNat) (by omega);simp[go_sem];refine wdr good ?_;simp[go_sem,hc];apply gv<;>intro f
   ·have f':=f;simp at f';simp[go_sem,hc,ha1,hb1,f];iterate 2 refine ai ?_
    apply gw<;>intro g
    ·have hx:ix (yC C) l=i:=vH hc h2 (by simp[yC,g];simpa using f);simp[go_sem];simp[nL,show(n.toNat:Int)=n by omega,e,hC,hx]
    ·simp[go_sem];refine ai ?_;refine nx (i+1) ⟨(by omega),(eF hc h2 (by simp[yC,g]))⟩
   ·have f':=f;simp at f';simp[go_sem,f];refine ai ?_;refine nx (i+1) ⟨(by omega),(eF hc h2 (by simp[yC];simp_all))⟩
  ·simp at b;have e:=ac8 hC (by simp[b]);have e2:=aeU e;simp[go_sem];rw[nL,if_neg e2]
 ·have a':=a;simp at a';have hx:=kV (jU h2 (by omega));simp[go_sem,a];have h:=fun e=>aaN hC e;unfold nL;split<;>simp_all
theorem vM (n:Int)(l:List Con)(hn: -1048576<=n/\n<=1048576:=by first|assumption|omega|(simp;omega)|grind)(hs:l.length<=1048576:=by first|assumption|omega|(simp;omega)|grind):Fk 103 [dI n,bG l] (.val (dB (aN n l&&decide (nL n.toNat l<0)))):=by
 refine fE good [] func103 ntmps103 fun _ _=> ?_;simp[go_sem];refine ck (mE _ _) ?_;simp[go_sem];apply gv<;>intro e
 ·have e':=e;simp[go_sem,e];refine ck (HZ _ _) ?_;simp[go_sem,e]
 ·have e':=e;simp[go_sem,e]
theorem UT (a b:L1)(ha:a.length<=1048576:=by first|assumption|omega|(simp;omega)|grind)(hb:b.length<=1048576:=by first|assumption|omega|(simp;omega)|grind):Fk 257 [nInts a,nInts b] (.val (dB (fJ a b))):=by
 refine fE good [] func257 ntmps257 fun _ _=> ?_;simp[go_sem];refine ck (fI _) ?_;simp[go_sem];apply gv<;>intro e
 ·have e':=e;simp[go_sem,e];refine ck (fI _) ?_;simp[go_sem];apply gv<;>intro f
  ·have f':=f;simp[go_sem,f];grind[fJ]
  ·have f':=f;simp[go_sem,f];grind[fJ]
 ·have e':=e;simp[go_sem,e];grind[fJ]
theorem CO (p q:L1)(ha:p.length<=1048576)(hb:q.length<=1048576):Fk 178 [nInts p,nInts q] (.own (aF (ah9 p q))):=by
 refine fE good [] func178 ntmps178 fun _ _=> ?_;simp[go_sem];refine ck (UT _ _) ?_;simp[go_sem];apply gw<;>intro e
 ·simp at e;simp[go_sem];simp[ah9,e]
 ·simp at e;obtain⟨h1,h2,h3⟩:=OZ e;have h4:=isPart_len h1;simp[go_sem];refine ck (uH p.length) ?_;simp[go_sem];refine wl good (fun((i,M):(Nat)×(List (List Bool)))=>[(0,.val (nInts p)),(1,.val (nInts q)),(5,.own (K4 M)),(6,.val (dI i))]) (fun(i,M)=>p.length-i) (fun(i,M)=>(i<=p.length)/\(M=loopN i (noLinks p.length) ((fun i M=>loopN p.length M (wP p q i))))/\(sqB p.length M)) ((0,noLinks p.length)) ⟨(by simp),(rfl),(WN _)⟩ ?_;rintro⟨i,M⟩ ⟨h1,h2,h3⟩;simp[go_sem];apply gw<;>intro a
  ·have hs:=aA i (noLinks p.length) ((fun i M=>loopN p.length M (wP p q i)));rw[←h2]at hs;simp[go_sem];refine wl good (fun((k,L):(Nat)×(List (List Bool)))=>[(0,.val (nInts p)),(1,.val (nInts q)),(5,.own (K4 L)),(6,.val (dI i)),(7,.val (dI k))]) (fun(k,L)=>p.length-k) (fun(k,L)=>(k<=p.length)/\(L=loopN k (M) (wP p q i))/\(sqB p.length L)) ((0,M)) ⟨(by simp),(rfl),(h3)⟩ ?_;rintro⟨k,L⟩ ⟨h1k,h2k,h3k⟩;simp[go_sem];apply gw<;>intro ak
   ·have hsk:=aA k (M) (wP p q i);rw[←h2k]at hsk;obtain⟨r,hr,hrl,hrc⟩:=OB (a:=i) (b:=k) h3k (by omega) (by omega);have ha1:=aD (l:=p) (i:=i) (by omega);have ha2:=aD (l:=p) (i:=k) (by omega);have hb1:=aD (l:=q) (i:=i) (by omega);have hb2:=aD (l:=q) (i:=k) (by omega);have hz1:=fun v=>QR (k:=k) (v:=v) hr;have hsq:=fun v=>sqB_set (i:=i) (k:=k) (v:=v) h3k;simp[go_sem];refine wdt good 26 ?_;simp[go_sem,hr,ha1,ha2];apply gv<;>intro e
    ·have e':=e;have hj:wP p q i k L=L.set i (r.set k true):=by rw[wP,hz1];simp[e]
     simp[go_sem,hr,hrc,e];refine ai ?_;refine nx (k+1,L.set i (r.set k true)) ⟨(by omega),(by rw[hsk,hj]),(by rw[←hz1];exact hsq _)⟩
    ·have e':=e;have hj:wP p q i k L=L.set i (r.set k (decide (at1 q i=at1 q k))):=by rw[wP,hz1];simp[e]
     simp[go_sem,hr,hrc,hb1,hb2,e];refine ai ?_;refine nx (k+1,L.set i (r.set k (decide (at1 q i=at1 q k)))) ⟨(by omega),(by rw[hsk,hj]),(by rw[←hz1];exact hsq _)⟩
   ·simp at ak;have hik:p.length=k:=by omega
    subst hik;simp[go_sem];refine ai ?_;refine nx (i+1,L) ⟨(by omega),(by rw[hs];exact h2k),(h3k)⟩
  ·simp at a;have hi:p.length=i:=by omega
   subst hi;simp[go_sem];refine ck (sG p.length _) ?_;simp[go_sem];simp[ah9,e,vB,JW,←h2]
theorem ahI (m:L2):(jB m).length=m.length:=IG _ _
theorem adF (n:Nat)(l:List Con):(aV n l).length=n:=IG _ _
theorem KE (m:L2)(cs:List Con)(hm:m.length<=1048576)(hc:cs.length<=1048576):Fk 104 [aM m,bG cs] (.own (aF (aO m cs))):=by
 refine fE good [] func104 ntmps104 fun _ _=> ?_;simp[go_sem];refine ck (aY _) ?_;simp[go_sem];apply gv<;>intro e
 ·have e':=e;simp at e';simp[go_sem,e];grind[aO]
 ·have e':=e;simp at e';simp[go_sem,e];refine ck (mE _ _) ?_;simp[go_sem];apply gw<;>intro f
  ·simp at f;simp[go_sem];grind[aO]
  ·simp at f;have hml:=aP (m:=m) (by simpa using e);simp[go_sem,e',f];refine ck (xW _) ?_;simp[go_sem,e'];refine ck (oV _ _) ?_;simp[go_sem,f];refine ck (CO (jB m) (aV m.length cs) (by rw[ahI];omega) (by rw[adF];omega)) ?_;simp[go_sem];all_goals(simp only[aO,e',f];simp)
theorem wE (l:List Con)(items:L1)(hs:l.length<=1048576)(hi:items.length<=1048576):Fk 106 [bG l,nInts items] (.own (zM (bX l items))):=by
 refine fE good [] func106 ntmps106 fun _ _=> ?_;simp[go_sem];refine wl good (fun((i,out):(Nat)×(List Con))=>[(0,.val (bG l)),(1,.val (nInts items)),(5,.own (zM out)),(6,.val (dI i))]) (fun(i,out)=>(l).length-i) (fun(i,out)=>(i<=(l).length)/\(out=(l.take i).filterMap (qK items))/\(out.length<=i)) ((0,[])) ⟨(by omega),rfl,(by simp)⟩ ?_;rintro⟨i,out⟩ ⟨h1,h2,h3⟩;simp[go_sem];apply gw<;>intro a
 ·obtain⟨c,hc⟩:=aC (l:=l) (i:=i) (by omega);have hm:=sH (qK items) hc;rw[←h2]at hm;simp[go_sem,hc];refine ck (iT _ _) ?_;simp[go_sem,hc];refine ck (iT _ _) ?_;simp[go_sem];apply gv<;>intro e
  ·have e':=e;simp[go_sem,e];apply gw<;>intro b
   ·have hv:qK items c=some ⟨place items c.a,place items c.b,c.same⟩:=if_pos ⟨by unfold place;omega,by unfold place;omega⟩;simp[go_sem,hc];iterate 2 refine ai ?_
    refine nx (i+1,out++[⟨place items c.a,place items c.b,c.same⟩]) ⟨(by omega),(by rw[hm,hv];rfl),(by simp;omega)⟩
   ·simp at b;have hv:qK items c=none:=if_neg (by rintro⟨h1,h2⟩;unfold place at h1 h2;omega);simp[go_sem];refine ai ?_;refine nx (i+1,out) ⟨(by omega),(by rw[hm,hv];simp),(by omega)⟩
  ·have e':=e;simp at e';have hv:qK items c=none:=if_neg (by rintro⟨h1,h2⟩;unfold place at h1 h2;omega);simp[go_sem,e];refine ai ?_;refine nx (i+1,out) ⟨(by omega),(by rw[hm,hv];simp),(by omega)⟩
 ·simp at a;rw[aK a]at h2;simp[go_sem];grind[bX]
theorem lK (l:L1)(hs:l.length<=1048576):Fk 112 [nInts l] (.own (aF (canon l))):=by
 refine fE good [] func112 ntmps112 fun _ _=> ?_;simp[go_sem];refine wl good (fun((i,s):(Nat)×(L1×L1))=>[(0,.val (nInts l)),(3,.own (aF s.1)),(4,.own (aF s.2)),(5,.val (dI i))]) (fun(i,s)=>(l).length-i) (fun(i,s)=>(i<=(l).length)/\(s=(l.take i).foldl dJ ([],[]))/\(s.1.length<=i/\s.2.length<=i)) ((0,([],[]))) ⟨(by omega),rfl,(by simp)⟩ ?_;rintro⟨i,s⟩ ⟨h1,h2,h3⟩;simp[go_sem];apply gw<;>intro a
 ·obtain⟨c,hc⟩:=aC (l:=l) (i:=i) (by omega);have hm:=bB dJ ([],[]) hc;rw[←h2]at hm;simp[go_sem];refine wl good (fun((j,t):(Nat)×(Int))=>[(0,.val (nInts l)),(3,.own (aF s.1)),(4,.own (aF s.2)),(5,.val (dI i)),(6,.val (dI t)),(7,.val (dI j))]) (fun(j,t)=>s.2.length-j) (fun(j,t)=>(j<=s.2.length)/\(t=loopN j (-1) ((fun j a=>if at1 s.2 j=c then(j:Int)else a)))/\(-1<=t/\t<=j)) ((0, -1)) ⟨(by omega),rfl,(by omega)⟩ ?_;rintro⟨j,t⟩ ⟨h1j,h2j,h3j⟩;simp[go_sem];apply gw<;>intro aj
  ·have hsj:=aA j (-1) ((fun j a=>if at1 s.2 j=c then(j:Int)else a));rw[←h2j]at hsj;have hj:=aD (l:=s.2) (i:=j) (by omega);simp[go_sem];refine wdr good ?_;simp[go_sem,hc,hj];apply gw<;>intro b
   ·simp[go_sem];refine ai ?_;refine nx (j+1,(j:Int)) ⟨(by omega),(by rw[hsj,if_pos b]),(by omega)⟩
   ·simp[go_sem];refine ai ?_;refine nx (j+1,t) ⟨(by omega),(by rw[hsj,if_neg b]),(by omega)⟩
  ·simp at aj;have hij:s.2.length=j:=by omega
   subst hij;simp[go_sem];apply gw<;>intro b
   ·have hx:dJ s c=(s.1++[(s.2.length:Int)],s.2++[c]):=if_pos (by rw[mG,←h2j];exact b);simp[go_sem,hc];iterate 3 refine ai ?_
    refine nx (i+1,(s.1++[(s.2.length:Int)],s.2++[c])) ⟨(by omega),(by rw[hm,hx]),(by simp;omega)⟩
   ·simp at b;have hx:dJ s c=(s.1++[t],s.2):=by rw[dJ,if_neg (by rw[mG,←h2j];omega),mG,←h2j]
    simp[go_sem];iterate 2 refine ai ?_
    refine nx (i+1,(s.1++[t],s.2)) ⟨(by omega),(by rw[hm,hx]),(by simp;omega)⟩
 ·simp at a;rw[aK a]at h2;simp[go_sem];grind[canon]
theorem tX (l:L1)(x y:Int)(hs:l.length<=1048576)(hx: -1048576<=x/\x<=1048576)(hy: -1048576<=y/\y<=1048576):Fk 186 [nInts l,dI x,dI y] (.tup [.own (aF (jY l x y)),.val (dB (pG l x y))]):=by
 refine fE good [] func186 ntmps186 fun _ _=> ?_;simp[go_sem];refine ai ?_;refine wl good (fun((i,t):(Nat)×(Int))=>[(0,.val (nInts l)),(1,.val (dI x)),(2,.val (dI y)),(8,.own (aF l)),(9,.val (dI t)),(10,.val (dI i))]) (fun(i,t)=>l.length-i) (fun(i,t)=>(i<=l.length)/\(t=loopN i ((-1)) ((fun i t=>max t (at1 l i))))) ((0,(-1))) ⟨(by omega),rfl⟩ ?_;rintro⟨i,t⟩ ⟨h1,h2⟩;simp[go_sem];apply gw<;>intro a
 ·have hs:=aA i ((-1)) ((fun i t=>max t (at1 l i)));rw[←h2]at hs;have hg:=aD a;simp[go_sem,hg];refine ai ?_;refine nx (i+1,max t (at1 l i)) ⟨(by first|omega|(simp;omega)|grind),(by first|omega|(simp;omega)|grind)⟩
 ·simp at a;have hi:l.length=i:=by omega
  subst hi;have ht:sV l=t:=h2.symm;simp[go_sem];refine ck (fI l hs) ?_;simp[go_sem];apply gv<;>intro a
  ·have a':=a;simp at a';have ho:pG l x y=false:=by simp only[pG];rw[a'];simp
   simp[go_sem,a];simp[jY,ho]
  ·have a':=a;simp at a';have htl:=aiJ a';simp[go_sem,a];refine ai ?_;refine ck (aG _ _ _) ?_;simp[go_sem];apply gv<;>intro b
   ·have b':=b;simp at b';have ho:pG l x y=false:=by simp only[pG];rw[show inR x 0 ((l.length:Int)-1)=false by simp at b|-;omega];simp
    simp[go_sem,b];simp[jY,ho]
   ·have b':=b;simp at b';simp[go_sem,b];refine ai ?_;refine ck (aG _ _ _) ?_;simp[go_sem];apply gw<;>intro d
    ·simp at d;have ho:pG l x y=false:=by simp only[pG,ht];rw[show inR y 0 (t+1)=false by simp at d|-;omega];simp
     simp[go_sem];simp[jY,ho]
    ·simp at d;have hxb:0<=x/\x<=(l.length:Int)-1:=by simp at b;omega
     have hyb:0<=y/\y<=t+1:=by omega
     have ho:pG l x y=true:=by simp only[pG,ht];rw[a'];simp;omega
     have hg:=aD (l:=l) (i:=x.toNat) (by omega);have hx0:=hxb.1;simp[go_sem,hg,hx0];refine ckz (lK (l.set x.toNat y) (by simp;omega)) ?_;simp[go_sem];simp[jY,ho]
theorem SQ (m:L2)(l:L1)(x y:Int)(hm:m.length<=1048576)(hs:l.length<=1048576)(hx: -1048576<=x/\x<=1048576)(hy: -1048576<=y/\y<=1048576):Fk 260 [aM m,nInts l,dI x,dI y] (.val (dI (BK m l x y))):=by
 refine fE good [] func260 ntmps260 fun _ _=> ?_;have hml:=JL l x y;have hp1:=rO m l;have hp2:=rO m (jY l x y);have e1:(if aI m=true/\bM l=true/\l.length=m.length then aQ m l else -1)=nA m l:=rfl;have e2:(if aI m=true/\bM (jY l x y)=true/\(jY l x y).length=m.length then aQ m (jY l x y)else -1)=nA m (jY l x y):=rfl;simp[go_sem];refine ck (tX l x y hs hx hy) ?_;simp[go_sem];refine ck ((e1▸gJ m l hm hs)) ?_;simp[go_sem];apply gv<;>intro a
 ·have a':=a;simp at a';have hg:BK m l x y=0:=if_neg (by simp[a']);simp[go_sem,a,hg]
 ·have a':=a;simp at a';simp[go_sem,a];apply gw<;>intro b
  ·have hg:BK m l x y=0:=if_neg (by omega);simp[go_sem,hg]
  ·simp at b;simp[go_sem];refine ck ((e2▸gJ m (jY l x y) hm (by omega))) ?_;have hg:BK m l x y=nA m l-nA m (jY l x y):=if_pos ⟨a',by omega⟩;simp[go_sem,hg];simp only[inI];omega
abbrev QG (b:Mov):D:= .agg [dI b.item,dI b.block,dI b.gain]
theorem ae4 (m:L2)(cs:List Con)(l:L1)(i k:Nat)(b:Mov)(h:0<=b.gain/\b.gain<=2000000):0<=(oW m cs l i k b).gain/\(oW m cs l i k b).gain<=2000000:=by
 have:=agK m l i k;unfold oW;split
 ·rename_i h2;simp only;omega
 ·exact h
theorem SN (m:L2)(cs:List Con)(l:L1)(hm:m.length<=1048576)(hcs:cs.length<=1048576)(hs:l.length<=1048575):Fk 185 [aM m,bG cs,nInts l] (.tup [.val (QG (gG m cs l)),.val (dB (decide (0<(gG m cs l).gain)))]):=by
 refine fE good [] func185 ntmps185 fun _ _=> ?_;have hp:=rO m l;have e1:(if aI m=true/\bM l=true/\l.length=m.length then aQ m l else -1)=nA m l:=rfl;have hkp:(cs.all (oN l)&&bM l)=keepP cs l:=rfl;have hcm:ag7 m cs l=(decide (0<=nA m l)&&keepP cs l):=rfl;simp[go_sem];refine ck ((e1▸gJ m l hm (by omega))) ?_;simp[go_sem];apply gv<;>intro a
 ·have a':=a;have hb:gG m cs l=⟨0,0,0⟩:=if_neg (by rw[hcm,decide_eq_false (by omega)];simp);simp[go_sem,a,hb]
 ·have a':=a;simp at a';simp[go_sem,a];refine ck ((hkp▸kL l cs (by omega) hcs)) ?_;simp[go_sem];apply gw<;>intro d
  ·simp at d;have hb:gG m cs l=⟨0,0,0⟩:=if_neg (by rw[hcm,d];simp);simp[go_sem,hb]
  ·simp at d;have hb:gG m cs l=loopN l.length ⟨0,0,0⟩ (X0 m cs l):=if_pos (by rw[hcm,decide_eq_true (by omega),d];rfl);simp[go_sem];refine wl good (fun((i,b):(Nat)×(Mov))=>[(0,.val (aM m)),(1,.val (bG cs)),(2,.val (nInts l)),(6,.own (.bx true (QG ⟨0,0,0⟩))),(8,.own (.bx true (QG b))),(9,.val (dI i))]) (fun(i,b)=>l.length-i) (fun(i,b)=>(i<=l.length)/\(b=loopN i (⟨0,0,0⟩) (X0 m cs l))/\(0<=b.gain/\b.gain<=2000000)) ((0,⟨0,0,0⟩)) ⟨(by omega),(rfl),(by simp)⟩ ?_;rintro⟨i,b⟩ ⟨h1,h2,h3⟩;simp[go_sem];apply gw<;>intro a
   ·have hs:=aA i (⟨0,0,0⟩) (X0 m cs l);rw[←h2]at hs;simp[go_sem];refine wl good (fun((k,c):(Nat)×(Mov))=>[(0,.val (aM m)),(1,.val (bG cs)),(2,.val (nInts l)),(6,.own (.bx true (QG ⟨0,0,0⟩))),(8,.own (.bx true (QG c))),(9,.val (dI i)),(10,.val (dI k))]) (fun(k,c)=>(l.length+1)-k) (fun(k,c)=>(k<=(l.length+1))/\(c=loopN k (b) (oW m cs l i))/\(0<=c.gain/\c.gain<=2000000)) ((0,b)) ⟨(by omega),(rfl),(h3)⟩ ?_;rintro⟨k,c⟩ ⟨h1k,h2k,h3k⟩;simp[go_sem];apply gw<;>intro ak
    ·have hsk:=aA k (b) (oW m cs l i);rw[←h2k]at hsk;have hml:=JL l i k;have hgl:=agK m l i k;have hkp2:(cs.all (oN (jY l i k))&&bM (jY l i k))=keepP cs (jY l i k):=rfl;have hst:=ae4 m cs l i k c h3k;simp[go_sem];refine ck (tX l i k (by omega) (by omega) (by omega)) ?_;simp[go_sem];refine ck (SQ m l i k hm (by omega) (by omega) (by omega)) ?_;simp[go_sem];apply gv<;>intro e
     ·have e':=e;simp[go_sem,e];apply gv<;>intro f
      ·have f':=f;simp[go_sem,f];refine ck ((hkp2▸kL (jY l i k) cs (by omega) hcs)) ?_;simp[go_sem];apply gw<;>intro g
       ·have hu:oW m cs l i k c=⟨i,k,BK m l i k⟩:=if_pos ⟨by simpa using e,by omega,by simpa using g⟩;rw[hu]at hst;simp[go_sem];refine ai ?_;refine nx (k+1,⟨i,k,BK m l i k⟩) ⟨(by omega),(by rw[hsk,hu]),(hst)⟩
       ·have hu:oW m cs l i k c=c:=if_neg (by simp[g]);simp[go_sem];refine ai ?_;refine nx (k+1,c) ⟨(by omega),(by rw[hsk,hu]),(h3k)⟩
      ·have f':=f;simp at f';have hu:oW m cs l i k c=c:=if_neg (by omega);simp[go_sem,f];refine ai ?_;refine nx (k+1,c) ⟨(by omega),(by rw[hsk,hu]),(h3k)⟩
     ·have e':=e;have hu:oW m cs l i k c=c:=if_neg (by simp[e]);simp[go_sem,e];refine ai ?_;refine nx (k+1,c) ⟨(by omega),(by rw[hsk,hu]),(h3k)⟩
    ·simp at ak;have hik:(l.length+1)=k:=by omega
     subst hik;simp[go_sem];refine ai ?_;refine nx (i+1,c) ⟨(by omega),(by rw[hs,X0,←h2k]),(h3k)⟩
   ·simp at a;have hi:l.length=i:=by omega
    subst hi;have hbb:gG m cs l=b:=by rw[hb,h2]
    simp[go_sem];refine eQ good [] (aR 8) ?_;simp[go_sem];refine wdf good [(4,[6,66]),(5,[69,7])] [(6,.own (.bx true (QG ⟨0,0,0⟩))),(8,.val (.bx false (QG b)))] [] (by simp[go_sem]) ?_;simp[go_sem,hbb]
theorem aoE (m:L2)(cs:List Con)(l:L1):0<=(gG m cs l).item/\(gG m cs l).item<=l.length/\0<=(gG m cs l).block/\(gG m cs l).block<=l.length:=by
 unfold gG;split
 ·refine loopN_inv (n:=l.length) (fun _ (b:Mov)=>0<=b.item/\b.item<=l.length/\0<=b.block/\b.block<=l.length) (by simp) fun i b hi hb=> ?_;refine loopN_inv (n:=l.length+1) (fun _ (b:Mov)=>0<=b.item/\b.item<=l.length/\0<=b.block/\b.block<=l.length) hb fun k c hk hc=> ?_;unfold oW;split
  ·simp only;omega
  ·exact hc
 ·simp
theorem zZ (m:L2)(cs:List Con)(l:L1)(hm:m.length<=1048576)(hcs:cs.length<=1048576)(hs:l.length<=1048575):bK prog 111 [aM m,bG cs,nInts l] (fun r'=>∃k:Int,r'= .tup [.own (aF (kE m cs 100 l)),.val (dI k)]):=by
 refine fE good [] func111 ntmps111 fun _ _=> ?_;simp[go_sem];refine ai ?_;refine wl good (fun((k,x):(Nat)×(L1))=>[(0,.val (aM m)),(1,.val (bG cs)),(8,.own (aF x)),(9,.val (dI k))]) (fun(k,x)=>100-k) (fun(k,x)=>(k<=100)/\(x.length=l.length)/\(kE m cs (100-k) x=kE m cs 100 l)) ((0,l)) ⟨(by omega),(rfl),(rfl)⟩ ?_;rintro⟨k,x⟩ ⟨h1,h2,h3⟩;simp[go_sem];apply gw<;>intro a
 ·have hbl:=aoE m cs x;have hml:=JL x (gG m cs x).item (gG m cs x).block;have hgo:kE m cs (100-k) x=if 0<(gG m cs x).gain then kE m cs (100-(k+1)) (jY x (gG m cs x).item (gG m cs x).block)else x:=by rw[show 100-k=(100-(k+1))+1 by omega,kE]
  simp[go_sem];refine ck (SN m cs x hm hcs (by omega)) ?_;simp[go_sem];apply gw<;>intro b
  ·simp at b;rw[if_neg (by simpa using b)]at hgo;simp[go_sem];simp[←h3,hgo]
  ·rw[if_pos (by simpa using b)]at hgo;simp[go_sem];refine ck (tX x (gG m cs x).item (gG m cs x).block (by omega) (by omega) (by omega)) ?_;simp[go_sem];refine ai ?_;refine nx (k+1,jY x (gG m cs x).item (gG m cs x).block) ⟨(by omega),(by omega),(by rw[←hgo,h3])⟩
 ·simp at a;obtain rfl:k=100:=by omega
  have hgo:kE m cs (100-100) x=x:=rfl;simp[go_sem];simp[←h3,hgo]
end Go.Proofs.YtemiopbofamgcaaGreatDoor
end
section
namespace Go.Dv
open Go.RowKit
variable [fH]
theorem aiK {P:Program}{n:Nat}{s:St}(k G:Nat){d:D}(h1:s k= .rf G [0])(h2:s G= .own (.bx true d))(hk:k≠far0):mI P n s ((s.PK G).put k (.val (D.bx false d.fz))):=by
 intro w0 ow0 a w ⟨ow,hf⟩;have hkG:k≠G:=by rintro rfl;rw[h1]at h2;cases h2
 have hv:aval a k=aval a G:=by
  have hV:=hf.slot k;rw[h1]at hV;obtain⟨d',m,b,off,e1,e2,e3,e4⟩:=hV;rw[h2]at e1;obtain rfl:D.bx true d=d':=by injection e1
  have hG:=hf.slot G;rw[h2]at hG;simp only[SV,V,R]at hG;obtain⟨b2,off2,C,e,fz,cs',g1,_⟩:=hG;have g1:aval a G= .pointer (some ⟨b2,off2,none⟩):=by simpa using g1
  rw[g1]at e3;simp only[loc,into,if_true,aZ,Option.some.injEq,Prod.mk.injEq]at e3;obtain⟨rfl,rfl⟩:=e3;rw[e4,g1]
 obtain⟨ow',hf'⟩:=hf.PK G;have hsG:(s.PK G) G= .val (D.bx true d).fz:=by unfold St.PK;rw[h2];simp[St.put]
 have hsk:((s.PK G) k).bD=false:=by
  unfold St.PK;rw[h2];simp only[St.put,if_neg hkG];unfold St.kill;simp[hkG,h1,S.drop,S.root,S.bD]
 refine⟨_,hf'.tell hk hsk ?_⟩;have:=hf'.slot G;rw[hsG]at this;simp only[SV,D.fz,D.NJ]at this|-
 rw[hv];exact this
end Go.Dv
end
section
namespace Go.Proofs.YtemiopbofamgcaaGreatDoor
open Go.Dv Go.Pl Go.Proofs.Tryz
theorem KP (l:L1)(x y:Int)(hl:1<=l.length/\l.length<=1048576)(hx:0<=x/\x<(l.length:Int)):Fk 287 [nInts l,dI x,dI y] (.own (aF (canon (l.set x.toNat y)))):=by
 refine fE good [] func287 ntmps287 fun _ _=> ?_;have hg:=aD (l:=l) (i:=x.toNat) (by omega);have hx0:=hx.1;simp[go_sem];refine ck (iJ l hl) ?_;simp[go_sem,hg,hx0];refine ckz (lI (l.set x.toNat y) (by simp;omega)) ?_;simp[go_sem]
variable {l:L1}
theorem ao7 (h:1<=l.length)(h0: -1<=at1 l 0):at1 l 0=loopN 1 (-1) (fun i t=>max t (at1 l i)):=by
 rw[aA,loopN_zero];omega
theorem EZ (l:L1)(hl:1<=l.length/\l.length<=1048576)(h0: -1<=at1 l 0):Fk 374 [nInts l] (.val (dI (sV l))):=by
 refine fE good [] func374 ntmps374 fun _ _=> ?_;have hg:=aD (l:=l) (i:=0) (by omega);have hn:¬(l.length:Int)<1:=by omega
 have hb:=ao7 hl.1 h0;simp[go_sem,hg,hn];refine wl good (fun((i,t):(Nat)×(Int))=>[(0,.val (nInts l)),(3,.val (dI t)),(4,.val (dI i))]) (fun(i,t)=>l.length-i) (fun(i,t)=>(1<=i/\i<=l.length)/\(t=loopN i (-1) (fun i t=>max t (at1 l i)))) ((1,at1 l 0)) ⟨(by omega),(hb)⟩ ?_;rintro⟨i,t⟩ ⟨h1,h2⟩;simp[go_sem];apply gw<;>intro a
 ·have hgi:=aD (l:=l) (i:=i) (by omega);have hs:=aA i (-1) (fun i t=>max t (at1 l i));rw[←h2]at hs;simp[go_sem,hgi];refine ai ?_;refine nx (i+1,max t (at1 l i)) ⟨(by omega),(hs.symm)⟩
 ·simp at a;obtain rfl:i=l.length:=by omega
  have hfin:sV l=t:=h2.symm;simp[go_sem,hfin]
theorem MK (l:L1)(hp:bM l=true):Fk 338 [nInts l] (.val (dI (sV l+1))):=by
 refine fE good [] func338 ntmps338 fun _ _=> ?_;have hpl:=isPart_len hp;have ht:=aiJ hp;have h0:=(isPart_iff.1 hp).1 0 (by omega);simp[go_sem];refine ck (EZ l ⟨by omega,by omega⟩ (by omega)) ?_;simp[go_sem];simp only[inI];omega
theorem VF (m:L2)(cs:List Con)(l:L1)(hm:aI m=true)(hp:bM l=true)(hl:l.length=m.length)(hc:cs.length<=1048576):Fk 337 [aM m,bG cs,nInts l] (.val (dB (gW cs l))):=by
 refine fE good [] func337 ntmps337 fun _ _=> ?_;have hpc:=A7 hm hp hl;have h0:=eB hm l;have hn8:=aP hm;simp[go_sem];refine ck (sN m l hm (by omega)) ?_;simp[go_sem,hpc,h0];refine ck (uR l cs) ?_;simp[go_sem]
variable {m:L2}
theorem aEH (hm:aI m=true)(hp:bM l=true)(hl:l.length=m.length)(i k:Nat): -1000000<=mvGain m l i k/\mvGain m l i k<=1000000:=by
 have h1:=rO m l;have h3:=eB hm l;have h4:=eB hm (canon (l.set i k));have hc:(canon (l.set i k)).length=l.length:=by rw[jE];simp
 have h2:=rO m (canon (l.set i k));rw[A7 hm hp hl]at h1;rw[A7 hm (LG (by simp;exact isPart_len hp)) (by omega)]at h2;unfold mvGain;omega
theorem ag8 {cs:List Con}{i k:Nat}{b:Mov}(hg:mvGain m l i k<=1000000)(h:0<=b.gain/\b.gain<=1000000):0<=(yA m cs l i k b).gain/\(yA m cs l i k b).gain<=1000000:=by
 unfold yA;split
 ·next hh=>exact⟨by show 0<=mvGain m l i k;omega,hg⟩
 ·exact h
theorem RD (m:L2)(cs:List Con)(l:L1)(hm:aI m=true)(hp:bM l=true)(hl:l.length=m.length)(hk:gW cs l=true)(hc:cs.length<=1048576):Fk 286 [aM m,bG cs,nInts l] (.tup [.val (QG (mvBest m cs l)),.val (dB (decide (0<(mvBest m cs l).gain)))]):=by
 refine fE good [] func286 ntmps286 fun _ _=> ?_;have hn8:=aP hm;have ht:=af8 hp;simp[go_sem];refine ck (VF m cs l hm hp hl hc) ?_;simp[go_sem,hk];refine ck (dY m l hm hl) ?_;simp[go_sem];refine wl good (fun((i,b):(Nat)×(Mov))=>[(0,.val (aM m)),(1,.val (bG cs)),(2,.val (nInts l)),(6,.own (.bx true (QG ⟨0,0,0⟩))),(8,.own (.bx true (QG b))),(9,.val (dI (aQ m l))),(24,.val (dI l.length)),(25,.val (dI i))]) (fun(i,b)=>l.length-i) (fun(i,b)=>(i<=l.length)/\(b=loopN i (⟨0,0,0⟩) (alI m cs l))/\(0<=b.gain/\b.gain<=1000000)) ((0,⟨0,0,0⟩)) ⟨(by omega),(rfl),(by simp)⟩ ?_;rintro⟨i,b⟩ ⟨h1,h2,h3⟩;simp[go_sem];apply gw<;>intro a
 ·have hs:=aA i (⟨0,0,0⟩) (alI m cs l);rw[←h2]at hs;simp[go_sem];refine wl good (fun((k,c):(Nat)×(Mov))=>[(0,.val (aM m)),(1,.val (bG cs)),(2,.val (nInts l)),(6,.own (.bx true (QG ⟨0,0,0⟩))),(8,.own (.bx true (QG c))),(9,.val (dI (aQ m l))),(10,.val (dI i)),(11,.val (dI k)),(24,.val (dI l.length)),(25,.val (dI i))]) (fun(k,c)=>(sV l+2).toNat-k) (fun(k,c)=>(k<=(sV l+2).toNat)/\(c=loopN k b (yA m cs l i))/\(0<=c.gain/\c.gain<=1000000)) ((0,b)) ⟨(by omega),(rfl),(h3)⟩ ?_;rintro⟨k,c⟩ ⟨h4,h5,h6⟩;simp[go_sem];refine ck (MK l hp) ?_;simp[go_sem];apply gw<;>intro e
  ·have hs2:=aA k b (yA m cs l i);rw[←h5]at hs2;have hcl:(canon (l.set i k)).length=l.length:=by rw[jE];simp
   have hgl:=aEH hm hp hl i k;have hst:=ag8 (cs:=cs) (k:=k) (i:=i) hgl.2 h6;have hmg:aQ m l-aQ m (canon (l.set i k))=mvGain m l i k:=rfl;simp[go_sem];refine ck (KP l i k (by omega) (by omega)) ?_;simp[go_sem];refine ck (dY m (canon (l.set i k)) hm (by omega)) ?_;simp[go_sem,hmg];refine ai ?_;apply gv<;>intro f
   ·have f':=f;simp[go_sem,f];refine ck (uR (canon (l.set i k)) cs (by omega) hc) ?_;simp[go_sem];apply gw<;>intro g
    ·have hu:yA m cs l i k c=⟨i,k,mvGain m l i k⟩:=if_pos ⟨f,g⟩;rw[hu]at hst;simp[go_sem];refine ai ?_;refine nx (k+1,⟨i,k,mvGain m l i k⟩) ⟨(by omega),(by rw[hs2,hu]),(hst)⟩
    ·have hu:yA m cs l i k c=c:=if_neg (by simp[g]);simp[go_sem];refine ai ?_;refine nx (k+1,c) ⟨(by omega),(by rw[hs2,hu]),(h6)⟩
   ·have f':=f;simp at f';have hu:yA m cs l i k c=c:=if_neg (by omega);simp[go_sem,f];refine ai ?_;refine nx (k+1,c) ⟨(by omega),(by rw[hs2,hu]),(h6)⟩
  ·simp at e;obtain rfl:k=(sV l+2).toNat:=by omega
   simp[go_sem];refine ai ?_;refine nx (i+1,c) ⟨(by omega),(by rw[hs,h5];rfl),(h6)⟩
 ·simp at a;have hi:l.length=i:=by omega
  subst hi;have hfin:mvBest m cs l=b:=h2.symm;simp[go_sem];refine wdf good [(4,[6,57]),(5,[60,7])] [(6,.own (.bx true (QG ⟨0,0,0⟩))),(8,.own (.bx true (QG b)))] [] (by simp[go_sem]) ?_;simp[go_sem,hfin]
theorem AJ (m:L2)(cs:List Con)(l:L1)(hm:aI m=true)(hp:bM l=true)(hl:l.length=m.length)(hk:gW cs l=true)(hc:cs.length<=1048576):bK prog 214 [aM m,bG cs,nInts l] (fun r=>∃k:Int,r= .tup [.own (aF (kE m cs 100 l)),.val (dI k)]):=by
 refine fE good [] func214 ntmps214 fun _ _=> ?_;have hn8:=aP hm;simp[go_sem];refine ck (iJ l ⟨by omega,by omega⟩) ?_;simp[go_sem];refine wl good (fun((i,o):(Nat)×(L1))=>[(0,.val (aM m)),(1,.val (bG cs)),(8,.own (aF o)),(14,.val (dI i))]) (fun(i,o)=>100-i) (fun(i,o)=>(i<=100)/\(kE m cs 100 l=kE m cs (100-i) o)/\(bM o=true)/\(o.length=m.length)/\(gW cs o=true)) ((0,l)) ⟨(by omega),(rfl),(hp),(hl),(hk)⟩ ?_;rintro⟨i,o⟩ ⟨h1,h2,h3,h4,h5⟩;simp[go_sem];apply gw<;>intro a
 ·have hst:=ai7 hm h3 h4 h5 (99-i);rw[show 99-i+1=100-i by omega]at hst;have hbo:=(abE (m:=m) (cs:=cs) (l:=o)).2;simp[go_sem];refine ck (RD m cs o hm h3 h4 h5 hc) ?_;simp[go_sem];apply gw<;>intro b
  ·simp at b;have hfin:kE m cs 100 l=o:=by rw[h2,hst];exact if_neg (by simpa using b)
   simp[go_sem,hfin]
  ·have hb2:0<(mvBest m cs o).gain:=by simpa using b
   have hbb:=hbo hb2;rw[if_pos hb2]at hst;simp[go_sem];refine ck (KP o (mvBest m cs o).item (mvBest m cs o).block ⟨by omega,by omega⟩ ⟨hbb.1,hbb.2.1⟩) ?_;simp[go_sem];refine ai ?_;refine nx (i+1,canon (o.set (mvBest m cs o).item.toNat (mvBest m cs o).block)) ⟨(by omega),(by rw[h2,hst,show 100-(i+1)=99-i by omega]),(LG (by simp;omega)),(by rw[jE];simp;omega),(hbb.2.2.2.2)⟩
 ·simp at a;obtain rfl:i=100:=by omega
  have hfin:kE m cs 100 l=o:=by rw[h2];rfl
  simp[go_sem,hfin]
theorem jO (l:L1)(x:Int)(hl:l.length<=1048576):Fk 131 [nInts l,dI x] (.val (dB (l.any fun y=>decide (x=y)))):=by
 refine fE good [] func131 ntmps131 fun _ _=> ?_;have hq:decide (0<=ix (fun y=>decide (x=y)) l)=l.any (fun y=>decide (x=y)):=by rw[Bool.eq_iff_iff,decide_eq_true_eq];exact dK
 simp[go_sem];refine ck (dH l x) ?_;simp[go_sem,hq]
theorem U7 (n:Int)(l:L1)(hn:1<=n/\n<=8)(ho:xG n l=true)(hl:l.length<=1048576):Fk 335 [dI n,nInts l] (.val (dB true)):=by
 refine fE good [] func335 ntmps335 fun _ _=> ?_;have hon:=ho;simp only[xG,Bool.and_eq_true,List.all_eq_true,decide_eq_true_eq]at hon;obtain⟨⟨⟨o1,o2⟩,o3⟩,o4⟩:=hon;subst o4;have o5:=o3.1;have o6:=o3.2;simp[go_sem];refine ck (aH l.length 1 8) ?_;simp[go_sem,o5,o6];refine wl good (fun(i:Nat)=>[(0,.val (dI l.length)),(1,.val (nInts l)),(16,.val (nInts l)),(17,.val (dI l.length)),(18,.val (dI i))]) (fun(i:Nat)=>l.length-i) (fun(i:Nat)=>(i<=l.length)) (0) (by omega) ?_;rintro i h1;simp[go_sem];apply gw<;>intro a
 ·obtain⟨c,hc⟩:=aC (l:=l) (i:=i) (by omega);have hcn:=o1 c (List.mem_of_getElem? hc);have hno:((l.take i).any fun y=>decide (c=y))=false:=by rw[List.any_eq_false];intro y hy;simp only[decide_eq_true_eq];rintro rfl;obtain⟨j,hj⟩:=List.getElem?_of_mem hy;have hji:=aS hj;simp at hji;rw[List.getElem?_take,if_pos (by omega)]at hj;have e1:=RJ hj;have e2:=RJ hc;have:=adE o2 (i:=j) (k:=i) (by omega) (by omega) (by rw[e1,e2]);omega
  simp[go_sem,hc];refine ck (iB c l.length) ?_;have htk:List.take i (List.map dI l)=(l.take i).map dI:=by rw[List.map_take]
  have hmin:min i l.length=i:=by omega
  simp[go_sem,hcn];refine ai ?_;refine ckz (jO (l.take i) c (by simp;omega)) ?_;simp[go_sem,hno];refine ai ?_;refine nx (i+1) (by omega)
 ·simp at a;simp[go_sem]
end Go.Proofs.YtemiopbofamgcaaGreatDoor
end
section
namespace Go.Proofs
open Tryz
open Go.Shelf
def Tryz.ahR:Go.Shelf.Ren:=⟨fun|125=>157|128=>240|129=>241|n=>n,fun|46=>181|3=>3|51=>246|53=>248|4=>4|5=>5|9=>9|n=>n,fun|n=>n⟩
theorem Tryz.ayI:Go.Proofs.Lays.n125 Tryz.prog Tryz.ahR:={
 mixed:=by kernel_rfl
 f125:=func157.trans cSz
 f128:=func240.trans cSz
 f129:=func241.trans cSz
 t3:=underlying3
 a3:=isAgg3
 z3:=sizeOf3
 v3:=zeroValue3
 t4:=underlying4
 a4:=isAgg4
 z4:=sizeOf4
 v4:=zeroValue4
 t5:=underlying5
 a5:=isAgg5
 z5:=sizeOf5
 v5:=zeroValue5
 t9:=underlying9
 a9:=isAgg9
 z9:=sizeOf9
 v9:=zeroValue9
 t46:=underlying181
 a46:=isAgg181
 z46:=sizeOf181
 v46:=zeroValue181
 t51:=underlying246
 a51:=isAgg246
 z51:=sizeOf246
 v51:=zeroValue246
 t53:=underlying248
 a53:=isAgg248
 z53:=sizeOf248
 v53:=zeroValue248}
theorem Tryz.bits_Len (x:Int)(w:World)(h0:0<=x)(h1:x<=18446744073709551615):
  Calls Tryz.prog 157 #[.int .u64 x] w fun e w'=>e= .returned (.int .i64 (Lib.bitLen x.toNat))/\w'=w:=Any.bits_Len Tryz.ayI x w h0 h1
def Tryz.acS:Go.Shelf.Ren:=⟨fun|171=>410|243=>427|246=>438|283=>444|284=>445|285=>446|286=>447|129=>241|317=>449|318=>450|319=>451|320=>452|337=>453|338=>454|n=>n,fun|3=>3|9=>9|2=>2|4=>4|171=>384|0=>0|53=>248|37=>287|5=>5|173=>386|212=>390|51=>246|20=>20|213=>391|46=>181|232=>392|233=>393|n=>n,fun|17=>6|18=>7|19=>8|n=>n⟩
theorem Tryz.arA:Go.Proofs.LaysM.n171 Tryz.prog Tryz.acS:={
 mixed:=by kernel_rfl
 f129:=func241.trans cSz
 f171:=func410.trans cSz
 f243:=func427.trans cSz
 f246:=func438.trans cSz
 f283:=func444.trans cSz
 f284:=func445.trans cSz
 f285:=func446.trans cSz
 f286:=func447.trans cSz
 f317:=func449.trans cSz
 f318:=func450.trans cSz
 f319:=func451.trans cSz
 f320:=func452.trans cSz
 f337:=func453.trans cSz
 f338:=func454.trans cSz
 t0:=underlying0
 a0:=isAgg0
 z0:=sizeOf0
 v0:=zeroValue0
 t2:=underlying2
 a2:=isAgg2
 z2:=sizeOf2
 v2:=zeroValue2
 t3:=underlying3
 a3:=isAgg3
 z3:=sizeOf3
 v3:=zeroValue3
 t4:=underlying4
 a4:=isAgg4
 z4:=sizeOf4
 v4:=zeroValue4
 t5:=underlying5
 a5:=isAgg5
 z5:=sizeOf5
 v5:=zeroValue5
 t9:=underlying9
 a9:=isAgg9
 z9:=sizeOf9
 v9:=zeroValue9
 t20:=underlying20
 a20:=isAgg20
 z20:=sizeOf20
 v20:=zeroValue20
 t37:=underlying287
 a37:=isAgg287
 z37:=sizeOf287
 v37:=zeroValue287
 t46:=underlying181
 a46:=isAgg181
 z46:=sizeOf181
 v46:=zeroValue181
 t51:=underlying246
 a51:=isAgg246
 z51:=sizeOf246
 v51:=zeroValue246
 t53:=underlying248
 a53:=isAgg248
 z53:=sizeOf248
 v53:=zeroValue248
 t171:=underlying384
 a171:=isAgg384
 z171:=sizeOf384
 v171:=zeroValue384
 t173:=underlying386
 a173:=isAgg386
 z173:=sizeOf386
 v173:=zeroValue386
 t212:=underlying390
 a212:=isAgg390
 z212:=sizeOf390
 v212:=zeroValue390
 t213:=underlying391
 a213:=isAgg391
 z213:=sizeOf391
 t232:=underlying392
 a232:=isAgg392
 z232:=sizeOf392
 v232:=zeroValue392
 t233:=underlying393
 a233:=isAgg393
 z233:=sizeOf393
 v233:=zeroValue393
 g17:=by kernel_rfl
 g18:=by kernel_rfl
 g19:=by kernel_rfl
 i0:=by kernel_rfl
 i2:=by kernel_rfl
 i3:=by kernel_rfl
 i4:=by kernel_rfl
 i5:=by kernel_rfl
 i9:=by kernel_rfl
 i20:=by kernel_rfl
 i37:=by kernel_rfl
 i46:=by kernel_rfl
 i51:=by kernel_rfl
 i53:=by kernel_rfl
 i171:=by kernel_rfl
 i173:=by kernel_rfl
 i212:=by kernel_rfl
 i232:=by kernel_rfl
 i233:=by kernel_rfl
 m17:=by kernel_rfl
 m18:=by kernel_rfl
 m19:=by kernel_rfl}
open Go.RowKit Go.Sort Go.Lib in
theorem Tryz.strconv_Itoa (n:Int)(h0: -9223372036854775808<=n)(h1:n<=9223372036854775807)(w:World)(htab:Lib.TabIs Tryz.prog w "internal/strconv.uint64pow10" .u64 Lib.pow10Tab):
  Calls Tryz.prog 410 #[.int .i64 n] w fun e w'=>e= .returned (.string ⟨(Lib.itoa n).toArray⟩)/\∃k os,w'=grow (w.drewN k) os:=Any.strconv_Itoa Tryz.arA n h0 h1 w htab
def Tryz.ac9:Go.Shelf.Ren:=⟨fun|172=>389|244=>408|245=>409|247=>422|279=>423|280=>424|281=>425|282=>426|287=>435|316=>436|171=>410|205=>437|321=>442|322=>443|243=>427|246=>438|283=>444|284=>445|285=>446|286=>447|129=>241|317=>449|318=>450|319=>451|320=>452|337=>453|338=>454|n=>n,fun|9=>9|3=>3|75=>337|76=>338|4=>4|5=>5|167=>360|37=>287|0=>0|85=>361|2=>2|168=>363|53=>248|175=>368|46=>181|210=>371|127=>366|145=>383|143=>381|21=>21|171=>384|173=>386|212=>390|51=>246|20=>20|213=>391|232=>392|233=>393|80=>357|n=>n,fun|15=>2|16=>3|17=>6|18=>7|19=>8|n=>n⟩
theorem Tryz.X6:Go.Proofs.LaysC.n172 Tryz.prog Tryz.ac9:={
 mixed:=by kernel_rfl
 f129:=func241.trans cSz
 f171:=func410.trans cSz
 f172:=func389.trans cSz
 f205:=func437.trans cSz
 f243:=func427.trans cSz
 f244:=func408.trans cSz
 f245:=func409.trans cSz
 f246:=func438.trans cSz
 f247:=func422.trans cSz
 f279:=func423.trans cSz
 f280:=func424.trans cSz
 f281:=func425.trans cSz
 f282:=func426.trans cSz
 f283:=func444.trans cSz
 f284:=func445.trans cSz
 f285:=func446.trans cSz
 f286:=func447.trans cSz
 f287:=func435.trans cSz
 f316:=func436.trans cSz
 f317:=func449.trans cSz
 f318:=func450.trans cSz
 f319:=func451.trans cSz
 f320:=func452.trans cSz
 f321:=func442.trans cSz
 f322:=func443.trans cSz
 f337:=func453.trans cSz
 f338:=func454.trans cSz
 t0:=underlying0
 a0:=isAgg0
 z0:=sizeOf0
 v0:=zeroValue0
 t2:=underlying2
 a2:=isAgg2
 z2:=sizeOf2
 v2:=zeroValue2
 t3:=underlying3
 a3:=isAgg3
 z3:=sizeOf3
 v3:=zeroValue3
 t4:=underlying4
 a4:=isAgg4
 z4:=sizeOf4
 v4:=zeroValue4
 t5:=underlying5
 a5:=isAgg5
 z5:=sizeOf5
 v5:=zeroValue5
 t9:=underlying9
 a9:=isAgg9
 z9:=sizeOf9
 v9:=zeroValue9
 t20:=underlying20
 a20:=isAgg20
 z20:=sizeOf20
 v20:=zeroValue20
 t21:=underlying21
 a21:=isAgg21
 z21:=sizeOf21
 v21:=zeroValue21
 t37:=underlying287
 a37:=isAgg287
 z37:=sizeOf287
 v37:=zeroValue287
 t46:=underlying181
 a46:=isAgg181
 z46:=sizeOf181
 v46:=zeroValue181
 t51:=underlying246
 a51:=isAgg246
 z51:=sizeOf246
 v51:=zeroValue246
 t53:=underlying248
 a53:=isAgg248
 z53:=sizeOf248
 v53:=zeroValue248
 t75:=underlying337
 a75:=isAgg337
 z75:=sizeOf337
 v75:=zeroValue337
 t76:=underlying338
 a76:=isAgg338
 z76:=sizeOf338
 v76:=zeroValue338
 t85:=underlying361
 a85:=isAgg361
 z85:=sizeOf361
 v85:=zeroValue361
 t127:=underlying366
 a127:=isAgg366
 z127:=sizeOf366
 v127:=zeroValue366
 t143:=underlying381
 a143:=isAgg381
 z143:=sizeOf381
 v143:=zeroValue381
 t145:=underlying383
 a145:=isAgg383
 z145:=sizeOf383
 v145:=zeroValue383
 t167:=underlying360
 a167:=isAgg360
 z167:=sizeOf360
 v167:=zeroValue360
 t168:=underlying363
 a168:=isAgg363
 z168:=sizeOf363
 v168:=zeroValue363
 t171:=underlying384
 a171:=isAgg384
 z171:=sizeOf384
 v171:=zeroValue384
 t173:=underlying386
 a173:=isAgg386
 z173:=sizeOf386
 v173:=zeroValue386
 t175:=underlying368
 a175:=isAgg368
 z175:=sizeOf368
 v175:=zeroValue368
 t210:=underlying371
 a210:=isAgg371
 z210:=sizeOf371
 v210:=zeroValue371
 t212:=underlying390
 a212:=isAgg390
 z212:=sizeOf390
 v212:=zeroValue390
 t213:=underlying391
 a213:=isAgg391
 z213:=sizeOf391
 t232:=underlying392
 a232:=isAgg392
 z232:=sizeOf392
 v232:=zeroValue392
 t233:=underlying393
 a233:=isAgg393
 z233:=sizeOf393
 v233:=zeroValue393
 g15:=by kernel_rfl
 g16:=by kernel_rfl
 g17:=by kernel_rfl
 g18:=by kernel_rfl
 g19:=by kernel_rfl
 t80:=underlying357
 a80:=isAgg357
 z80:=sizeOf357
 v80:=zeroValue357
 i0:=by kernel_rfl
 i2:=by kernel_rfl
 i3:=by kernel_rfl
 i4:=by kernel_rfl
 i5:=by kernel_rfl
 i9:=by kernel_rfl
 i20:=by kernel_rfl
 i21:=by kernel_rfl
 i37:=by kernel_rfl
 i46:=by kernel_rfl
 i51:=by kernel_rfl
 i53:=by kernel_rfl
 i75:=by kernel_rfl
 i76:=by kernel_rfl
 i80:=by kernel_rfl
 i85:=by kernel_rfl
 i127:=by kernel_rfl
 i143:=by kernel_rfl
 i145:=by kernel_rfl
 i167:=by kernel_rfl
 i168:=by kernel_rfl
 i171:=by kernel_rfl
 i173:=by kernel_rfl
 i175:=by kernel_rfl
 i210:=by kernel_rfl
 i212:=by kernel_rfl
 i232:=by kernel_rfl
 i233:=by kernel_rfl
 m15:=by kernel_rfl
 m16:=by kernel_rfl
 m17:=by kernel_rfl
 m18:=by kernel_rfl
 m19:=by kernel_rfl
 c0:=by kernel_rfl
 c2:=by kernel_rfl
 c3:=by kernel_rfl
 c4:=by kernel_rfl
 c5:=by kernel_rfl
 c9:=by kernel_rfl
 c20:=by kernel_rfl
 c21:=by kernel_rfl
 c37:=by kernel_rfl
 c46:=by kernel_rfl
 c51:=by kernel_rfl
 c53:=by kernel_rfl
 c75:=by kernel_rfl
 c76:=by kernel_rfl
 c80:=by kernel_rfl
 c85:=by kernel_rfl
 c127:=by kernel_rfl
 c143:=by kernel_rfl
 c145:=by kernel_rfl
 c167:=by kernel_rfl
 c168:=by kernel_rfl
 c171:=by kernel_rfl
 c173:=by kernel_rfl
 c175:=by kernel_rfl
 c210:=by kernel_rfl
 c212:=by kernel_rfl
 c213:=by kernel_rfl
 c232:=by kernel_rfl
 c233:=by kernel_rfl}
open Go.RowKit in
theorem Tryz.strconv_Atoi_ok (s:ByteArray)(hmax:s.size<=9223372036854775806)(v:Int)(h:Lib.atoiAll s.data.toList= .ok v)(w:World):
  Calls Tryz.prog 389 #[.string s] w fun e w'=>e= .returned (.tuple #[.int .i64 v,.nilIface])/\(w'=w\/∃t,w'=Lib.bytesWorld w 5 t):=Any.strconv_Atoi_ok Tryz.X6 s hmax v h w
open Go.RowKit in
theorem Tryz.strconv_Atoi_syntax_var (s:ByteArray)(hlim:s.size<=281474976710656)(h1:∀v,Lib.atoiAll s.data.toList≠ .ok v)(h2:Lib.atoiAll s.data.toList≠ .range)(tp:TypeId)(p:Value)(w:World)(hvar:w.var? Tryz.prog "strconv.ErrSyntax" =some #[.iface tp p]):
  Calls Tryz.prog 389 #[.string s] w fun e w'=>∃N,e= .returned (.tuple #[.int .i64 0,.iface 363 (.pointer (some ⟨N,0,none⟩))])/\w.heap.size<=N/\w'.heap[N]?=some (.cells #[.string ⟨#[65,116,111,105]⟩,.string s,.iface tp p] 371 (0,0))/\Below w.heap.size w w':=by
 cases hx:Lib.atoiAll s.data.toList with
 |ok v=>exact absurd hx (h1 v)
 |range=>exact absurd hx h2
 |_=>exact Any.strconv_Atoi_syntax_var Tryz.X6 s hlim hx tp p w hvar
open Go.RowKit in
theorem Tryz.strconv_Atoi_range_var (s:ByteArray)(hlim:s.size<=281474976710656)(h:Lib.atoiAll s.data.toList= .range)(tp:TypeId)(p:Value)(w:World)(hvar:w.var? Tryz.prog "strconv.ErrRange" =some #[.iface tp p]):
  Calls Tryz.prog 389 #[.string s] w fun e w'=>∃N,e= .returned (.tuple #[.int .i64 (Lib.atoiSat s.data.toList),.iface 363 (.pointer (some ⟨N,0,none⟩))])/\w.heap.size<=N/\w'.heap[N]?=some (.cells #[.string ⟨#[65,116,111,105]⟩,.string s,.iface tp p] 371 (0,0))/\Below w.heap.size w w':=Any.strconv_Atoi_range_var Tryz.X6 s hlim h tp p w hvar
def Tryz.ae9:Go.Shelf.Ren:=⟨fun|190=>351|125=>157|258=>387|128=>240|129=>241|302=>399|303=>400|304=>401|305=>402|306=>403|307=>404|308=>405|309=>406|310=>407|333=>418|329=>306|330=>307|334=>419|335=>420|336=>421|344=>434|n=>n,fun|31=>114|9=>9|3=>3|46=>181|0=>0|51=>246|53=>248|4=>4|183=>239|182=>238|131=>243|5=>5|218=>278|222=>282|228=>311|229=>312|n=>n,fun|n=>n⟩
theorem Tryz.ayF:Go.Proofs.Lays.n190 Tryz.prog Tryz.ae9:={
 mixed:=by kernel_rfl
 f125:=func157.trans cSz
 f128:=func240.trans cSz
 f129:=func241.trans cSz
 f190:=func351.trans cSz
 f258:=func387.trans cSz
 f302:=func399.trans cSz
 f303:=func400.trans cSz
 f304:=func401.trans cSz
 f305:=func402.trans cSz
 f306:=func403.trans cSz
 f307:=func404.trans cSz
 f308:=func405.trans cSz
 f309:=func406.trans cSz
 f310:=func407.trans cSz
 f329:=func306.trans cSz
 f330:=func307.trans cSz
 f333:=func418.trans cSz
 f334:=func419.trans cSz
 f335:=func420.trans cSz
 f336:=func421.trans cSz
 f344:=func434.trans cSz
 t0:=underlying0
 a0:=isAgg0
 z0:=sizeOf0
 v0:=zeroValue0
 t3:=underlying3
 a3:=isAgg3
 z3:=sizeOf3
 v3:=zeroValue3
 t4:=underlying4
 a4:=isAgg4
 z4:=sizeOf4
 v4:=zeroValue4
 t5:=underlying5
 a5:=isAgg5
 z5:=sizeOf5
 v5:=zeroValue5
 t9:=underlying9
 a9:=isAgg9
 z9:=sizeOf9
 v9:=zeroValue9
 t31:=underlying114
 a31:=isAgg114
 z31:=sizeOf114
 v31:=zeroValue114
 t46:=underlying181
 a46:=isAgg181
 z46:=sizeOf181
 v46:=zeroValue181
 t51:=underlying246
 a51:=isAgg246
 z51:=sizeOf246
 v51:=zeroValue246
 t53:=underlying248
 a53:=isAgg248
 z53:=sizeOf248
 v53:=zeroValue248
 t131:=underlying243
 a131:=isAgg243
 z131:=sizeOf243
 v131:=zeroValue243
 t182:=underlying238
 a182:=isAgg238
 z182:=sizeOf238
 v182:=zeroValue238
 t183:=underlying239
 a183:=isAgg239
 z183:=sizeOf239
 v183:=zeroValue239
 t218:=underlying278
 a218:=isAgg278
 z218:=sizeOf278
 v218:=zeroValue278
 t222:=underlying282
 a222:=isAgg282
 z222:=sizeOf282
 v222:=zeroValue282
 t228:=underlying311
 a228:=isAgg311
 z228:=sizeOf311
 v228:=zeroValue311
 t229:=underlying312
 a229:=isAgg312
 z229:=sizeOf312
 v229:=zeroValue312}
open Go.Sort Go.RowKit in
theorem Tryz.slices_Sort_string (blk off cap:Nat)(ss:List (List UInt8))(w:World)(hH:Holds encStr w blk off ss.toArray)(hblk:blk<w.heap.size)(hsz:ss.length<4611686018427387904):
  Calls Tryz.prog 351 #[.slice (some ⟨blk,off,none⟩) ss.length cap] w fun e w'=>
   e= .returned (.tuple #[])/\∃n os,w'=grow (putRow encStr (Sort.ahead w n) blk off (ss.mergeSort fun x y=>decide (x<=y)).toArray) os:=Any.slices_Sort_string Tryz.ayF blk off cap ss w hH hblk hsz
def Tryz.af6:Go.Shelf.Ren:=⟨fun|100=>304|207=>358|n=>n,fun|9=>9|4=>4|3=>3|n=>n,fun|n=>n⟩
theorem Tryz.awE:Go.Proofs.Lays.n100 Tryz.prog Tryz.af6:={
 mixed:=by kernel_rfl
 f100:=func304.trans cSz
 f207:=func358.trans cSz
 t3:=underlying3
 a3:=isAgg3
 z3:=sizeOf3
 v3:=zeroValue3
 t4:=underlying4
 a4:=isAgg4
 z4:=sizeOf4
 v4:=zeroValue4
 t9:=underlying9
 a9:=isAgg9
 z9:=sizeOf9
 v9:=zeroValue9}
open Go.RowKit Go.Lib in
theorem Tryz.strings_HasSuffix (s p:ByteArray)(w:World)(hs:s.size<=9223372036854775807):
  Calls Tryz.prog 304 #[.string s,.string p] w fun e w'=>e= .returned (.bool (Lib.hasSuffix s.data.toList p.data.toList))/\w'=w:=Any.strings_HasSuffix Tryz.awE s p w hs
def Tryz.af0:Go.Shelf.Ren:=⟨fun|102=>378|209=>395|207=>358|n=>n,fun|9=>9|4=>4|3=>3|n=>n,fun|n=>n⟩
theorem Tryz.azO:Go.Proofs.Lays.n102 Tryz.prog Tryz.af0:={
 mixed:=by kernel_rfl
 f102:=func378.trans cSz
 f207:=func358.trans cSz
 f209:=func395.trans cSz
 t3:=underlying3
 a3:=isAgg3
 z3:=sizeOf3
 v3:=zeroValue3
 t4:=underlying4
 a4:=isAgg4
 z4:=sizeOf4
 v4:=zeroValue4
 t9:=underlying9
 a9:=isAgg9
 z9:=sizeOf9
 v9:=zeroValue9}
open Go.RowKit Go.Lib in
theorem Tryz.strings_TrimSuffix (s p:ByteArray)(w:World)(hs:s.size<=9223372036854775807):
  Calls Tryz.prog 378 #[.string s,.string p] w fun e w'=>e= .returned (.string ⟨(Lib.trimSuffix s.data.toList p.data.toList).toArray⟩)/\w'=w:=Any.strings_TrimSuffix Tryz.azO s p w hs
def Tryz.TU:Go.Shelf.Ren:=⟨fun|155=>380|154=>396|138=>412|165=>413|143=>414|166=>415|197=>416|169=>417|195=>428|218=>429|240=>430|241=>431|219=>432|260=>433|276=>439|277=>440|217=>391|225=>370|224=>369|267=>441|266=>411|314=>448|n=>n,fun|9=>9|3=>3|4=>4|72=>354|0=>0|76=>338|105=>355|21=>21|5=>5|70=>352|20=>20|37=>287|75=>337|127=>366|164=>374|46=>181|119=>377|139=>380|138=>379|146=>340|51=>246|80=>357|n=>n,fun|1=>1|3=>4|4=>5|n=>n⟩
theorem Tryz.ayE:Go.Proofs.Lays.n155 Tryz.prog Tryz.TU:={
 mixed:=by kernel_rfl
 f138:=func412.trans cSz
 f143:=func414.trans cSz
 f154:=func396.trans cSz
 f155:=func380.trans cSz
 f165:=func413.trans cSz
 f166:=func415.trans cSz
 f169:=func417.trans cSz
 f195:=func428.trans cSz
 f197:=func416.trans cSz
 f217:=func391.trans cSz
 f218:=func429.trans cSz
 f219:=func432.trans cSz
 f224:=func369.trans cSz
 f225:=func370.trans cSz
 f240:=func430.trans cSz
 f241:=func431.trans cSz
 f260:=func433.trans cSz
 f266:=func411.trans cSz
 f267:=func441.trans cSz
 f276:=func439.trans cSz
 f277:=func440.trans cSz
 f314:=func448.trans cSz
 t0:=underlying0
 a0:=isAgg0
 z0:=sizeOf0
 v0:=zeroValue0
 t3:=underlying3
 a3:=isAgg3
 z3:=sizeOf3
 v3:=zeroValue3
 t4:=underlying4
 a4:=isAgg4
 z4:=sizeOf4
 v4:=zeroValue4
 t5:=underlying5
 a5:=isAgg5
 z5:=sizeOf5
 v5:=zeroValue5
 t9:=underlying9
 a9:=isAgg9
 z9:=sizeOf9
 v9:=zeroValue9
 t20:=underlying20
 a20:=isAgg20
 z20:=sizeOf20
 v20:=zeroValue20
 t21:=underlying21
 a21:=isAgg21
 z21:=sizeOf21
 v21:=zeroValue21
 t37:=underlying287
 a37:=isAgg287
 z37:=sizeOf287
 v37:=zeroValue287
 t46:=underlying181
 a46:=isAgg181
 z46:=sizeOf181
 v46:=zeroValue181
 t51:=underlying246
 a51:=isAgg246
 z51:=sizeOf246
 v51:=zeroValue246
 t70:=underlying352
 a70:=isAgg352
 z70:=sizeOf352
 v70:=zeroValue352
 t72:=underlying354
 a72:=isAgg354
 z72:=sizeOf354
 v72:=zeroValue354
 t75:=underlying337
 a75:=isAgg337
 z75:=sizeOf337
 v75:=zeroValue337
 t76:=underlying338
 a76:=isAgg338
 z76:=sizeOf338
 v76:=zeroValue338
 t105:=underlying355
 a105:=isAgg355
 z105:=sizeOf355
 v105:=zeroValue355
 t119:=underlying377
 a119:=isAgg377
 z119:=sizeOf377
 t127:=underlying366
 a127:=isAgg366
 z127:=sizeOf366
 v127:=zeroValue366
 t138:=underlying379
 a138:=isAgg379
 z138:=sizeOf379
 v138:=zeroValue379
 t139:=underlying380
 a139:=isAgg380
 z139:=sizeOf380
 v139:=zeroValue380
 t146:=underlying340
 a146:=isAgg340
 z146:=sizeOf340
 v146:=zeroValue340
 t164:=underlying374
 a164:=isAgg374
 z164:=sizeOf374
 v164:=zeroValue374
 g1:=by kernel_rfl
 g3:=by kernel_rfl
 g4:=by kernel_rfl}
theorem Tryz.NY:Builder.Extra Tryz.prog Tryz.TU:={
 sizeBuilder:=by kernel_rfl
 liesBuilder:=by kernel_rfl
 t5:=underlying5
 a5:=isAgg5
 z5:=sizeOf5
 v5:=zeroValue5
 infoByte:=by kernel_rfl
 cellsByte:=by kernel_rfl
 sizeByte:=by kernel_rfl
 neB5:=by decide}
open Go.RowKit Go.Lib in
theorem Tryz.strings_ReplaceAll (s old new:ByteArray)(m:Int)(w:World)(hs:s.size<4294967281)(hm:w.cell? ⟨1,0,none⟩=some (.int .i64 m))(h1:1<=old.size)(hlen:s.size+Lib.countB s old*new.size<=140737488355328):
  Calls Tryz.prog 380 #[.string s,.string old,.string new] w fun e w'=>
   e= .returned (.string ⟨(Lib.replaceAll s.data.toList old.data.toList new.data.toList).toArray⟩)/\Below w.heap.size w w':=Any.strings_ReplaceAll Tryz.ayE Tryz.NY s old new m w hs hm h1 hlen
def Tryz.aeV:Go.Shelf.Ren:=⟨fun|150=>196|153=>264|152=>324|226=>325|227=>326|228=>327|137=>367|119=>368|224=>369|225=>370|217=>391|266=>411|n=>n,fun|9=>9|4=>4|3=>3|5=>5|21=>21|117=>296|116=>295|0=>0|46=>181|124=>320|n=>n,fun|n=>n⟩
theorem Tryz.az2:Go.Proofs.Lays.n150 Tryz.prog Tryz.aeV:={
 mixed:=by kernel_rfl
 f119:=func368.trans cSz
 f137:=func367.trans cSz
 f150:=func196.trans cSz
 f152:=func324.trans cSz
 f153:=func264.trans cSz
 f217:=func391.trans cSz
 f224:=func369.trans cSz
 f225:=func370.trans cSz
 f226:=func325.trans cSz
 f227:=func326.trans cSz
 f228:=func327.trans cSz
 f266:=func411.trans cSz
 t0:=underlying0
 a0:=isAgg0
 z0:=sizeOf0
 v0:=zeroValue0
 t3:=underlying3
 a3:=isAgg3
 z3:=sizeOf3
 v3:=zeroValue3
 t4:=underlying4
 a4:=isAgg4
 z4:=sizeOf4
 v4:=zeroValue4
 t5:=underlying5
 a5:=isAgg5
 z5:=sizeOf5
 v5:=zeroValue5
 t9:=underlying9
 a9:=isAgg9
 z9:=sizeOf9
 v9:=zeroValue9
 t21:=underlying21
 a21:=isAgg21
 z21:=sizeOf21
 v21:=zeroValue21
 t46:=underlying181
 a46:=isAgg181
 z46:=sizeOf181
 v46:=zeroValue181
 t116:=underlying295
 a116:=isAgg295
 z116:=sizeOf295
 t117:=underlying296
 a117:=isAgg296
 z117:=sizeOf296
 v117:=zeroValue296
 t124:=underlying320
 a124:=isAgg320
 z124:=sizeOf320
 v124:=zeroValue320}
open Go.RowKit Go.Lib in
theorem Tryz.strings_ContainsAny_laid (s chars:ByteArray)(w:World)(hs:s.size<4294967281)(hcs:chars.size<4294967281)(has:∀(j:Nat) b,s.data.toList[j]?=some b->b.toNat<128)(hac:∀(j:Nat) b,chars.data.toList[j]?=some b->b.toNat<128):
  Calls Tryz.prog 196 #[.string s,.string chars] w fun e w'=>e= .returned (.bool (Lib.containsAny s.data.toList chars.data.toList))/\Below w.heap.size w w':=Any.strings_ContainsAny_laid Tryz.az2 (by kernel_rfl) s chars w hs hcs has hac
def Tryz.afK:Go.Shelf.Ren:=⟨fun|212=>373|263=>392|264=>393|n=>n,fun|46=>181|51=>246|146=>340|53=>248|148=>342|n=>n,fun|n=>n⟩
theorem Tryz.axM:Go.Proofs.Lays.n212 Tryz.prog Tryz.afK:={
 mixed:=by kernel_rfl
 f212:=func373.trans cSz
 f263:=func392.trans cSz
 f264:=func393.trans cSz
 t46:=underlying181
 a46:=isAgg181
 z46:=sizeOf181
 v46:=zeroValue181
 t51:=underlying246
 a51:=isAgg246
 z51:=sizeOf246
 v51:=zeroValue246
 t53:=underlying248
 a53:=isAgg248
 z53:=sizeOf248
 v53:=zeroValue248
 t146:=underlying340
 a146:=isAgg340
 z146:=sizeOf340
 v146:=zeroValue340
 t148:=underlying342
 a148:=isAgg342
 z148:=sizeOf342
 v148:=zeroValue342}
open Go.RowKit Go.Lib in
theorem Tryz.bits_Mul (x y:Nat)(hx:x<18446744073709551616)(hy:y<18446744073709551616)(w:World):
  Calls Tryz.prog 373 #[.int .u64 x,.int .u64 y] w fun e w'=>e= .returned (.tuple #[.int .u64 ((x*y/18446744073709551616:Nat):Int),.int .u64 ((x*y % 18446744073709551616:Nat):Int)])/\w'=w:=Any.bits_Mul Tryz.axM x y hx hy w
def Tryz.agF:Go.Shelf.Ren:=⟨fun|229=>353|n=>n,fun|9=>9|40=>310|31=>114|152=>332|3=>3|0=>0|4=>4|21=>21|154=>334|n=>n,fun|n=>n⟩
theorem Tryz.az1:Go.Proofs.Lays.n229 Tryz.prog Tryz.agF:={
 mixed:=by kernel_rfl
 f229:=func353.trans cSz
 t0:=underlying0
 a0:=isAgg0
 z0:=sizeOf0
 v0:=zeroValue0
 t3:=underlying3
 a3:=isAgg3
 z3:=sizeOf3
 v3:=zeroValue3
 t4:=underlying4
 a4:=isAgg4
 z4:=sizeOf4
 v4:=zeroValue4
 t9:=underlying9
 a9:=isAgg9
 z9:=sizeOf9
 v9:=zeroValue9
 t21:=underlying21
 a21:=isAgg21
 z21:=sizeOf21
 v21:=zeroValue21
 t31:=underlying114
 a31:=isAgg114
 z31:=sizeOf114
 v31:=zeroValue114
 t40:=underlying310
 a40:=isAgg310
 z40:=sizeOf310
 v40:=zeroValue310
 t152:=underlying332
 a152:=isAgg332
 z152:=sizeOf332
 v152:=zeroValue332
 t154:=underlying334
 a154:=isAgg334
 z154:=sizeOf334
 v154:=zeroValue334}
open Go.RowKit Go.Lib in
theorem Tryz.strings_FieldsFunc_grows (g:Nat)(lb:Array Value)(eg:∀args w,(callFunc g args).run Tryz.prog w= .ok (.enter g args) w)(p:Nat->Bool)(s:ByteArray)(w:World)(hs:s.size<=4294967296)(hp:PredGrows Tryz.prog g lb p w):
  Calls Tryz.prog 353 #[.string s,.func (.func g) #[] lb] w fun e w'=>∃A,e= .returned (.slice (some ⟨A,0,none⟩) (Lib.goFieldsP p s).length (Lib.goFieldsP p s).length)/\w.heap.size<=A/\
   w'.ownsRow w.heap.size 9 1 (.slice (some ⟨A,0,none⟩) (Lib.goFieldsP p s).length (Lib.goFieldsP p s).length) (Lib.goFieldsP p s).length ((Lib.goFieldsP p s).map Value.string)/\Below w.heap.size w w':=Any.strings_FieldsFunc_grows Tryz.az1 g lb eg p s w hs hp (by kernel_rfl) (by kernel_rfl)
def Tryz.aaC:Go.Shelf.Ren:=⟨fun|16=>350|n=>n,fun|24=>114|9=>9|4=>4|n=>n,fun|n=>n⟩
theorem Tryz.SE:Go.Proofs.Lays2.n16 Tryz.prog Tryz.aaC:={
 mixed:=by kernel_rfl
 f16:=func350.trans cSz
 t4:=underlying4
 a4:=isAgg4
 z4:=sizeOf4
 v4:=zeroValue4
 t9:=underlying9
 a9:=isAgg9
 z9:=sizeOf9
 v9:=zeroValue9
 t24:=underlying114
 a24:=isAgg114
 z24:=sizeOf114
 v24:=zeroValue114
 i9:=by kernel_rfl}
open Go.RowKit Go.Lib in
theorem Tryz.slices_Clone_string (b off n c:Nat)(zs:List ByteArray)(w:World)(hz:n<=zs.length)(hbig:n*16<=140737488355328)(hc:∀j,j<zs.length->w.cell? ⟨b,off+j,none⟩=some (.string (zs.getD j ByteArray.empty))):
  Calls Tryz.prog 350 #[.slice (some ⟨b,off,none⟩) n c] w fun e w'=>∃v',e= .returned v'/\w'.ownsRow w.heap.size 9 1 v' n ((zs.take n).map (Value.string))/\v'≠ .slice none 0 0/\Below w.heap.size w w':=Any.slices_Clone_string Tryz.SE b off n c zs w hz hbig hc
open Go.RowKit Go.Lib in
theorem Tryz.slices_Clone_string_nil (n c:Nat)(w:World):
  Calls Tryz.prog 350 #[.slice none n c] w fun e w'=>e= .returned (.slice none 0 0)/\w'=w:=Any.slices_Clone_string_nil Tryz.SE n c w
open Go.RowKit Go.Lib in
theorem Tryz.slices_Clone_string_zero (a:Addr)(c:Nat)(w:World):
  Calls Tryz.prog 350 #[.slice (some a) 0 c] w fun e w'=>∃v',e= .returned v'/\w'.ownsRow w.heap.size 9 1 v' 0 []/\v'≠ .slice none 0 0/\Below w.heap.size w w':=Any.slices_Clone_string_zero Tryz.SE a c w
def Tryz.ahC:Go.Shelf.Ren:=⟨fun|194=>352|n=>n,fun|31=>114|9=>9|3=>3|4=>4|0=>0|n=>n,fun|n=>n⟩
theorem Tryz.amL:Go.Proofs.Lays.n194 Tryz.prog Tryz.ahC:={
 mixed:=by kernel_rfl
 f194:=func352.trans cSz
 t0:=underlying0
 a0:=isAgg0
 z0:=sizeOf0
 v0:=zeroValue0
 t3:=underlying3
 a3:=isAgg3
 z3:=sizeOf3
 v3:=zeroValue3
 t4:=underlying4
 a4:=isAgg4
 z4:=sizeOf4
 v4:=zeroValue4
 t9:=underlying9
 a9:=isAgg9
 z9:=sizeOf9
 v9:=zeroValue9
 t31:=underlying114
 a31:=isAgg114
 z31:=sizeOf114
 v31:=zeroValue114}
open Go.RowKit Go.Lib Go.Sort in
theorem Tryz.slices_Compact_string (blk off cap:Nat)(zs:List (List UInt8))(w:World)(hH:Holds encStr w blk off zs.toArray)(hsz:zs.length<=9223372036854775807)(hcap:zs.length<=cap):
  Calls Tryz.prog 352 #[.slice (some ⟨blk,off,none⟩) zs.length cap] w fun e w'=>e= .returned (.slice (some ⟨blk,off,none⟩) (Lib.compact zs).length cap)/\∃q,w'=putRow encStr (Sort.ahead w q) blk off (Lib.compact zs++List.replicate (zs.length-(Lib.compact zs).length) []).toArray:=Any.slices_Compact_string Tryz.amL blk off cap zs w hH hsz hcap
open Go.RowKit Go.Lib Go.Sort in
theorem Tryz.slices_Compact_string_empty (a:Option Addr)(cap:Nat)(w:World):
  Calls Tryz.prog 352 #[.slice a 0 cap] w fun e w'=>e= .returned (.slice a 0 cap)/\w'=w:=Any.slices_Compact_string_empty Tryz.amL a cap w
end Go.Proofs
end
section
namespace Go.Proofs.YtemiopbofamgcaaGreatDoor
open Go.Dv Go.Pl Go.RowKit Go.Proofs.Tryz
def jR (n k:Nat)(v:Int):List Value:=List.replicate k (.int .i64 v)++List.replicate (n-k) (.int .i64 0)
variable {n k:Nat}
theorem anD {v:Int}(h:k<=n):(jR n k v).length=n:=by simp[jR];omega
theorem apU (n:Nat)(v:Int):jR n n v=List.replicate n (.int .i64 v):=by simp[jR]
theorem PG {j:Nat}{v:Int}(h:k+j<=n):splice (jR n k v) k (List.replicate j (.int .i64 v))=jR n (k+j) v:=by
 have h1:(jR n k v).take k=List.replicate k (.int .i64 v):=by unfold jR;rw[List.take_left' (by simp)]
 have h2:(jR n k v).drop (k+j)=List.replicate (n-(k+j)) (.int .i64 0):=by
  unfold jR;rw[List.drop_append,List.drop_eq_nil_of_le (by simp),List.nil_append,List.drop_replicate,List.length_replicate];congr 1;omega
 rw[splice,h1,List.length_replicate,h2,←List.append_assoc,List.replicate_append_replicate];rfl
theorem at5 {z:Value}(n:Nat)(v:Int)(hz:z.cells= #[.int .i64 0]):madeCells z.cells (n*1)=(jR n 0 v).toArray:=by
 rw[hz];apply Array.toList_inj.1;apply List.ext_getElem?;intro i;by_cases hi:i<n<;>simp[madeCells,jR,hi,Nat.mod_one]
theorem akR (v:Int)(n b off cap:Nat)(w:World)(hn:1<=n/\n<=8)(hc:w.cell? ⟨b,off,none⟩=some (.int .i64 v))(hb:b<w.heap.size):
  Calls prog 336 #[.slice (some ⟨b,off,none⟩) 1 cap,.int .i64 n] w fun e w'=>∃g,e= .returned (.slice (some ⟨g,0,none⟩) n n)/\w.heap.size<=g/\w'.heap[g]?=some (.cells (List.replicate n (Value.int .i64 v)).toArray 3 (0,0))/\Below w.heap.size w w':=by
 go_enter func336,ntmps336;have e1:(1*n/18446744073709551616:Nat)=0:=by omega
 have e2:(1*n % 18446744073709551616:Nat)=n:=by omega
 have hm:∀w,Calls prog 373 #[.int .u64 1,.int .u64 n] w fun e w'=>e= .returned (.tuple #[.int .u64 0,.int .u64 n])/\w'=w:=fun w=>by have:=Tryz.bits_Mul 1 n (by omega) (by omega) w;rw[e1,e2]at this;exact this
 obtain⟨hu,i,zv,hi,hsz,hz,hflat,_⟩:=(good 3).of (fun x h e=>by rw[e]at h;cases h);have hby:i.bytes<=4096:=by rename_i h;exact h.2.2.1
 have hzc:zv.cells= #[.int .i64 0]:=by
  have h9:some zv.cells.toList=some [Value.int .i64 0]:=hflat.symm;exact Array.toList_inj.1 (Option.some.inj h9)
 have hsz1:i.size=1:=hsz
 have hmk:∀w,(Instr.makeSlice 25 (.int .i64 (n:Int)) (.int .i64 (n:Int))).run prog w= .ok (.slice (some ⟨w.heap.size,0,none⟩) n n) (w.alloc (.cells (jR n 0 v).toArray 3)):=fun w=>by
  have:=run_make (P:=prog) (w:=w) 25 3 i zv underlying25 hi hz .i64 .i64 n n (by omega) (by omega) (by have:(i.bytes:Int)<=4096:=(by omega);have h2:(i.bytes:Int)*n<=4096*n:=Int.mul_le_mul_of_nonneg_right this (by omega);omega) (by omega);rw[this,hsz1];simp only[Int.toNat_natCast];rw[at5 n v hzc]
 have g1:¬(9223372036854775807<(n:Int)):=by omega
 have g2:¬((n:Int)<0):=by omega
 have hinfo:(prog.info? 3).map (·.size)=some 1:=by rw[hi];simp[hsz1]
 have hinf:=hinfo;clear hinfo hi hz hflat hzc hsz hu hby
 have hn0:(w.alloc (.cells (jR n 0 v).toArray 3)).heap[w.heap.size]?=some (.cells (jR n 0 v).toArray 3 (0,0)):=heap_alloc_new w _
 have hc0:(w.alloc (.cells (jR n 0 v).toArray 3)).cell? ⟨b,off,none⟩=some (.int .i64 v):=by
  have e:(w.alloc (.cells (jR n 0 v).toArray 3)).heap[b]?=w.heap[b]?:=by show(w.heap.push _)[b]?=_;rw[Array.getElem?_push,if_neg (by omega)]
  simp only[World.cell?,e]at hc|-;exact hc
 have hsp0:(splice (jR n 0 v) 0 [Value.int .i64 v])=jR n 1 v:=by have:=PG (n:=n) (k:=0) (j:=1) (v:=v) (by omega);simpa using this
 obtain⟨wa,hwa⟩:∃wa,wa=(w.alloc (.cells (jR n 0 v).toArray 3)):=⟨_,rfl⟩;have hBa:Below w.heap.size w wa:=hwa▸(Below.refl _ w).alloc (Nat.le_refl _) _;have hmk1:=hmk w;rw[←hwa]at hn0 hc0 hmk1
 have hcp:(Builtin.copy_ #[25,25] 3 #[.slice (some ⟨w.heap.size,0,none⟩) n n,.slice (some ⟨b,off,none⟩) 1 cap]).run prog wa= .ok (goInt 1) (wa.setRow w.heap.size (jR n 1 v).toArray):=by
  have h:=run_copy_row (P:=prog) wa 25 25 3 3 w.heap.size 0 n n ⟨b,off,none⟩ 1 cap (jR n 0 v).toArray 3 [.int .i64 v] underlying25 hinf hn0 (by simp[Nat.min_def];omega) (fun j u hj=> ?_) (by simp[jR];omega) (by simp[Value.oneCell'])
  ·rw[←hsp0];exact h
  ·match j,hj with
   |0,hj=>
    obtain rfl:Value.int .i64 v=u:=by simpa using hj
    exact hc0
   |j+1,hj=>simp at hj
 obtain⟨w2,hw2⟩:∃w2,w2=(wa.setRow w.heap.size (jR n 1 v).toArray):=⟨_,rfl⟩;have hB2:Below w.heap.size w w2:=hw2▸below_setRow hBa (Nat.le_refl _) _;have hg2:w2.heap[w.heap.size]?=some (.cells (jR n 1 v).toArray 3 (0,0)):=by rw[hw2];exact setRow_heap _ _ _ _ _ _ hn0
 rw[←hw2]at hcp;clear hmk hn0 hc0 hBa hwa hw2 hsp0
 go_wp2_with (first|(go_at_call 373;refine(hm _).mono ?_;rintro e w1 ⟨rfl,hw1⟩;obtain rfl:=hw1.symm))
 go_loopw [8] (fun x w'=>∃k:Nat,x= .int .i64 k/\1<=k/\k<=n/\w'.heap[w.heap.size]?=some (.cells (jR n k v).toArray 3 (0,0))/\Below w.heap.size w w') (fun x _=>match x with| .int _ i=>n-i.toNat|_=>0)
 case atStart=>exact⟨1,rfl,Nat.le_refl _,hn.1,hg2,hB2⟩
 case round=>
  obtain⟨k,rfl,hk1,hk2,hgk,hBk⟩:=hrel
  go_wp2
  ·obtain⟨cs,hcs⟩:∃cs,cs=List.replicate (min k (n-k)) (Value.int .i64 v):=⟨_,rfl⟩;have hl:cs.length=min k (n-k):=by simp[hcs]
   have hrow:∀j u,cs[j]?=some u->wr.cell? ((⟨w.heap.size,0,none⟩:Addr).add j)=some u:=by
    intro j u hj;have hlt:j<min k (n-k):=by rw[←hl];exact(List.getElem?_eq_some_iff.1 hj).1
    obtain rfl:Value.int .i64 v=u:=by rw[hcs]at hj;simpa[List.getElem?_replicate,hlt]using hj
    rcases Nat.eq_zero_or_pos j with rfl|hj0
    ·simp[World.cell?,Addr.add,hgk,jR,List.getElem?_append,show 0<k by omega]
    ·simp[World.cell?,Addr.add,hgk,jR,List.getElem?_append,show j<k by omega,show¬j=0 by omega]
   have hsp:splice (jR n k v) k cs=jR n (k+min k (n-k)) v:=by rw[hcs];exact PG (by omega)
   have h1c:∀x∈cs,x.oneCell'=true:=by intro x hx;rw[hcs]at hx;obtain rfl:=(List.mem_replicate.1 hx).2;rfl
   clear hcs
   go_region_law (refine step_copy_splice rfl (.tmp 41) (.tmp 44) 25 25 rfl 3 underlying25 hinf (some ⟨w.heap.size,k,none⟩) (some ⟨w.heap.size,0,none⟩) (n-k) (n-k) k n (by simp[Act.eval,Act.put,show¬n=k by omega]) (by simp[Act.eval,Act.put]) w.heap.size k (jR n k v) 3 hgk cs hl (fun _=>⟨rfl,_,rfl,hrow⟩) (by rw[hl,anD hk2];omega) h1c w.heap.size w hBk.drew (Nat.le_refl _) ?_;intro w4 hg4 hb4;replace hg4:=hg4.out;rw[hsp]at hg4)
   go_wp2
   have hw:IntKind.i64.wrap ((k:Int)+((min k (n-k):Nat):Int))=((k+min k (n-k):Nat):Int):=by simp[IntKind.wrap,IntKind.bits,IntKind.signed];omega
   rw[hw];refine⟨⟨k+min k (n-k),rfl,by omega,by omega,rfl⟩,?_⟩;simp only[Int.toNat_natCast];omega
  ·obtain rfl:k=n:=by omega
   rw[apU]at hgk;refine bodyPost_ret (v:= .slice (some ⟨w.heap.size,0,none⟩) k k) ?_ rfl ⟨w.heap.size,rfl,Nat.le_refl _,hgk,hBk⟩;simp[results,Tryz.f336,loadVar]
variable {ow:Own}{u v:Value}
theorem DN {w:World}(h:V prog w ow (D.fz (.one u)) [] v):v=u:=by
 simp only[D.fz,V,R]at h;simpa using h.1
variable {vs:Array Value}
theorem Q5 {w:World}(hs:vs.size=1)(h:∀(i:Nat) (d:D),[D.one u][i]?=some d->V prog w ow d.fz [] (vs.getD i undef)):vs= #[u]:=by
 have h0:=DN (h 0 _ rfl);apply Array.ext
 ·simpa using hs
 ·intro i h1 h2;obtain rfl:i=0:=by simpa using h2
  simpa[Array.getD_eq_getD_getElem?,h1]using h0
theorem adG {w:World}{u':Value}(hs:vs.size=2)(h:∀(i:Nat) (d:D),[D.one u,D.one u'][i]?=some d->V prog w ow d.fz [] (vs.getD i undef)):vs= #[u,u']:=by
 have h0:=DN (h 0 _ rfl);have h1:=DN (h 1 _ rfl);apply Array.ext
 ·simpa using hs
 ·intro i hi h2;have:i=0\/i=1:=by simp at h2;omega
  rcases this with rfl|rfl
  ·simpa[Array.getD_eq_getD_getElem?,hi]using h0
  ·simpa[Array.getD_eq_getD_getElem?,hi]using h1
theorem au5 {f:FuncId}{ds:List D}{us:List Value}(hu:∀u∈us,u.oneCell'=true)(h:∀(w:World) (ow:Own) (vs:Array Value),Laid w ow->vs.size=ds.length->(∀(i:Nat) (d:D),ds[i]?=some d->V prog w ow d.fz [] (vs.getD i undef))->Calls prog f vs w fun e w'=>e= .returned (.tuple us.toArray)/\Below w.heap.size w w'):
  bK prog f ds (fun r=>r= .tup (us.map fun u=> .val (.one u))):=by
 intro w ow vs t ht hL hnew hvs hargs;refine(h w ow vs hL hvs hargs).mono ?_;rintro e w' ⟨rfl,hB⟩;refine⟨_,fun b=>if b<w.heap.size then ow b else none,_,rfl,rfl,⟨hB.os,hB.tape,hB.output,hB.size,fun b hb=>⟨hB.block b hb,if_pos hb⟩,fun b hb=>if_neg (by have:=hB.size;omega)⟩,rfl,fun s a=> ?_⟩;refine⟨_,rfl,by simp,fun k x hx=> ?_⟩;rw[List.getElem?_map,Option.map_eq_some_iff]at hx;obtain⟨u,hu1,rfl⟩:=hx;have hv:us.toArray.getD k undef=u:=by simp[Array.getD_eq_getD_getElem?,hu1]
 rw[hv];simp only[D.fz,V,R];simpa using hu u (List.mem_of_getElem? hu1)
theorem below_grow {w:World}{os:Array Obj}:Below w.heap.size w (Go.Sort.grow (w.drewN k) os):=(show Below w.heap.size w (w.drewN k)from⟨rfl,rfl,rfl,Nat.le_refl _,fun _ _=>rfl⟩).trans ⟨rfl,rfl,rfl,by simp[Go.Sort.grow],fun b hb=>by simp[Go.Sort.grow,Array.getElem?_append,hb]⟩
theorem ax5 {w:World}{l:L1}(h:V prog w ow (D.fz (nInts l)) [] v):∃a cap,v= .slice a l.length cap/\l.length<=cap/\(l=[]\/∃b off,a=some ⟨b,off,none⟩/\b<w.heap.size/\∀(j:Nat) x,l[j]?=some x->w.cell? ⟨b,off+j,none⟩=some (.int .i64 x)):=by
 have hfz:D.fz (nInts l)=nInts l:=by simp[D.fz,D.IV]
 rw[hfz]at h;simp only[V,R]at h;obtain⟨a,cap,h1,h2,h3,h4⟩:=h;have h1:v= .slice a (l.map dI).length cap:=by simpa using h1
 rw[List.length_map]at h1 h2;refine⟨a,cap,h1,h2,?_⟩;rcases h4 with h4|h4|⟨b,off,s,C,e,fz,ha,hh,hn,hs,hr⟩
 ·exact .inl (by simpa using h4.2.1)
 ·exact .inl (by simpa using h4.2)
 ·refine .inr ⟨b,off,ha,lt_of_heap hh,fun j x hx=> ?_⟩;have:=(Rs.iff hh).1 hr j (dI x) (by rw[List.getElem?_map,hx];rfl);obtain⟨hw,C',e',fz',cs,g1,g2,g3⟩:=this;have hs1:s=1:=hw.symm;subst hs1;rw[hh]at g1;obtain⟨rfl,rfl,rfl⟩:C=C'/\e=e'/\fz=fz':=by simpa using g1
  simp only[R]at g3;obtain⟨rfl,_⟩:=g3;rw[cell_of_row w b (off+j) C e fz hh];have:=g2 0 (by simp[D.w]);simpa using this
theorem aBH (v:Int)(n:Nat)(hn:1<=n/\n<=8):bK prog 336 [nInts [v],dI n] (fun r=>r= .own (aF (List.replicate n v))):=by
 intro w ow vs t ht hL hnew hsz ha;have h0:=ha 0 _ rfl;have h1:=DN (ha 1 _ rfl);obtain⟨a,cap,hv,hcap,hc⟩:=ax5 h0
 obtain rfl:vs= #[.slice a 1 cap,.int .i64 n]:=by
  apply Array.ext
  ·simpa using hsz
  ·intro i hi h2;have:i=0\/i=1:=by simp at h2;omega
   rcases this with rfl|rfl
   ·simpa[Array.getD_eq_getD_getElem?,hi]using hv
   ·simpa[Array.getD_eq_getD_getElem?,hi]using h1
 rcases hc with hc|⟨b,off,rfl,hb,hcell⟩
 ·cases hc
 refine(akR v n b off cap w hn (hcell 0 v rfl) hb).mono ?_;rintro e w' ⟨g,rfl,hg,hrow,hB⟩;have hlt:g<w'.heap.size:=lt_of_heap hrow;refine⟨_,fun b=>if b=g then some [t]else if b<w.heap.size then ow b else none,_,rfl,rfl,⟨hB.os,hB.tape,hB.output,hB.size,fun b hb=>⟨?_,?_⟩,fun b hb=> ?_⟩,rfl,fun s' a=> ?_⟩
 ·exact hB.block b hb
 ·rw[if_neg (by omega),if_pos hb]
 ·have:=hB.size;rw[if_neg (by omega),if_neg (by omega)]
 ·simp only[SV,V,R];refine⟨some ⟨g,0,none⟩,n,by simp,by simp,by unfold maxLen;omega,.inr (.inr ⟨g,0,1,_,3,(0,0),rfl,hrow,(by intro h;cases h),fun t' ht'=> ?_,?_⟩)⟩
  ·obtain rfl:=Option.some.inj ht';obtain⟨_,i,zv,hi,hsz,_⟩:=(good 3).of (fun x h e=>by rw[e]at h;cases h);exact⟨by simp,rfl,unfz0 _,rfl,by simp,i,hi,hsz⟩
  ·rw[Rs.iff hrow];intro j x hx;rw[List.getElem?_map,Option.map_eq_some_iff]at hx;obtain⟨y,hy,rfl⟩:=hx
   obtain⟨hj,rfl⟩:j<n/\v=y:=by
    have h1:=(List.getElem?_eq_some_iff.1 hy).1;simp at h1;exact⟨h1,by simpa[List.getElem?_replicate,h1]using hy⟩
   refine⟨rfl,_,_,_,[.int .i64 v],hrow,fun k hk=> ?_,?_⟩
   ·obtain rfl:k=0:=by simpa[D.w]using hk
    simp[hj]
   ·simp[R,Value.oneCell']
theorem DZ (s:Str)(hs:s.length<=1048576)(ht:s.all qV=true):bK prog 196 [dS s,dS [124,59]] (fun r=>r= .val (dB (!s.all mX))):=
 vI (u:= .bool (!s.all mX)) rfl fun w ow vs hL hsz ha=>by
  obtain rfl:=adG hsz ha;rw[←FT];refine(Tryz.strings_ContainsAny_laid ⟨s.toArray⟩ ⟨[124,59].toArray⟩ w (by simp[ByteArray.size];omega) (by decide) (fun j b hb=> ?_) (fun j b hb=> ?_))
  ·have hb':s[j]?=some b:=hb;have:=List.all_eq_true.1 ht b (List.mem_of_getElem? hb');simp[qV]at this;omega
  ·have hb':[124,59][j]?=some b:=hb;have:=List.mem_of_getElem? hb';simp at this;rcases this with rfl|rfl<;>decide
theorem ZJ (s:Str)(hs:s.length<=1048576:=by first|assumption|omega|(simp;omega)|grind):Fk 195 [dS s] (.val (dB (isText s))):=by
 refine fE good [] func195 ntmps195 fun _ _=> ?_;simp[go_sem];refine wl good (fun(i:Nat)=>[(0,.val (dS s)),(5,.val (dI s.length)),(6,.val (dI i))]) (fun(i:Nat)=>(s).length-i) (fun(i:Nat)=>(i<=(s).length)/\(((s).take i).all qV=true)) (0) ⟨(by omega),rfl⟩ ?_;rintro i ⟨h1,h2⟩;simp[go_sem];apply gw<;>intro a
 ·obtain⟨c,hc⟩:=aC (l:=s) (i:=i) (by omega);simp[go_sem,hc];refine ck (aH c.toNat 32 126) ?_;simp[go_sem];apply gw<;>intro b
  ·simp at b;have hn:=bI hc (P:=qV) (by simp[qV];omega);simp[go_sem];grind[isText]
  ·simp at b;simp[go_sem];refine ai ?_;refine nx (i+1) ⟨(by omega),(aL hc h2 (by simp[qV];omega))⟩
 ·simp at a;have hf:=cO h2 a;simp[go_sem];grind[isText]
theorem ak5 {s:Str}(h:isText s=true):s.all qV=true:=by simp only[isText,Bool.and_eq_true]at h;exact h.1
theorem U4 (s:Str)(hs:s.length<=1048576:=by first|assumption|omega|(simp;omega)|grind):Fk 127 [dS s] (.val (dB (fF s))):=by
 refine fE good [] func127 ntmps127 fun _ _=> ?_;simp[go_sem];refine ck (ZJ _) ?_;simp[go_sem];apply gv<;>intro e
 ·have e':=e;simp[go_sem,e];refine ck (DZ s hs (ak5 e)) ?_;simp[go_sem];simp[fF,e]
 ·have e':=e;simp[go_sem,e];simp[fF,e]
theorem BS (s:Str)(hs:s.length<=1048576):Fk 126 [dS s] (.val (dB (!fF s))):=by
 refine fE good [] func126 ntmps126 fun _ _=> ?_;simp[go_sem];refine ck (U4 _) ?_;simp[go_sem]
theorem ai4 (l:List Str)(hl:l.length<=1048576)(hs:∀f∈l,ZC f):Fk 194 [bE l,.one (.func (.func 126) #[] #[])] (.val (dI (ix (fun f=> !fF f) l))):=by
 refine fE good [] func194 ntmps194 fun _ _=> ?_;simp[go_sem];refine wl good (fun(i:Nat)=>[(0,.val (bE l)),(1,.val (.one (.func (.func 126) #[] #[]))),(7,.val (dI l.length)),(8,.val (dI i))]) (fun(i:Nat)=>(l).length-i) (fun(i:Nat)=>(i<=(l).length)/\(((l).take i).any (fun f=> !fF f)=false)) (0) ⟨(by omega),rfl⟩ ?_;rintro i ⟨h1,h2⟩;simp[go_sem];apply gw<;>intro a
 ·obtain⟨c,hc⟩:=aC (l:=l) (i:=i) (by omega);simp[go_sem,hc];refine ck (BS c (hs c (List.mem_of_getElem? hc))) ?_;simp[go_sem];apply gw<;>intro b
  ·simp at b;have hn:=vH hc h2 (by simp[b]);simp[go_sem,hn]
  ·simp at b;simp[go_sem];refine ai ?_;refine nx (i+1) ⟨(by omega),(eF hc h2 (by simp[b]))⟩
 ·simp at a;have hf:=jU h2 a;have hx:=kV hf;simp[go_sem,hx]
theorem ap3 (l:List Str)(hl:l.length<=1048576)(hs:∀f∈l,ZC f):Fk 125 [bE l,.one (.func (.func 126) #[] #[])] (.val (dB (l.any fun f=> !fF f))):=by
 refine fE good [] func125 ntmps125 fun _ _=> ?_;have hq:decide (0<=ix (fun f=> !fF f) l)=l.any fun f=> !fF f:=by rw[Bool.eq_iff_iff,decide_eq_true_eq];exact dK
 simp[go_sem];refine ck (ai4 l hl hs) ?_;simp[go_sem,hq]
theorem sQ (r:Rec)(hs:vV r:=by first|assumption|omega|(simp;omega)|grind):Fk 60 [vG r] (.val (dB (aJ r))):=by
 refine fE good [] func60 ntmps60 fun _ _=> ?_;simp[go_sem];refine ck (aH _ _ _) ?_;simp[go_sem];apply gv<;>intro e
 ·have e':=e;simp at e';simp[go_sem,e];simp[aJ];omega
 ·have e':=e;simp at e';simp[go_sem,e];refine ck (aH _ _ _) ?_;simp[go_sem];apply gv<;>intro f
  ·have f':=f;simp at f';simp[go_sem,f];simp[aJ];omega
  ·have f':=f;simp at f';simp[go_sem,f];refine ck (aH _ _ _) ?_;simp[go_sem];apply gw<;>intro g
   ·simp at g;simp[go_sem];simp[aJ];omega
   ·simp at g;simp[go_sem];apply gv<;>intro k
    ·have k':=k;simp[go_sem,k];refine ck (ap3 r.fields hs.1 hs.2) ?_;simp[go_sem];have h4:r.fields.length=4:=by omega
     all_goals(simp[aJ,h4,e',f',g];rw[List.not_all_eq_any_not])
    ·have k':=k;simp[go_sem,k];have h4:¬r.fields.length=4:=by omega
     all_goals simp[aJ,h4]
theorem adB {r:Rec}(h:aJ r=true):inI .i64 (eH r)/\inI .i64 (100*r.source):=by
 simp only[aJ,inR,Bool.and_eq_true,decide_eq_true_eq]at h;simp only[inI,eH];omega
theorem G5 (r:Rec)(hs:vV r):Fk 221 [vG r] (.val (dB (!aJ r))):=by
 refine fE good [] func221 ntmps221 fun _ _=> ?_;simp[go_sem];refine ck (sQ _) ?_;simp[go_sem]
theorem alA (l:List Rec)(hl:l.length<=1048576)(hs:∀r∈l,vV r):Fk 291 [iL l,.one (.func (.func 221) #[] #[])] (.val (dI (ix (fun r=> !aJ r) l))):=by
 refine fE good [] func291 ntmps291 fun _ _=> ?_;simp[go_sem];refine wl good (fun(i:Nat)=>[(0,.val (iL l)),(1,.val (.one (.func (.func 221) #[] #[]))),(7,.val (dI l.length)),(8,.val (dI i))]) (fun(i:Nat)=>(l).length-i) (fun(i:Nat)=>(i<=(l).length)/\(((l).take i).any (fun r=> !aJ r)=false)) (0) ⟨(by omega),rfl⟩ ?_;rintro i ⟨h1,h2⟩;simp[go_sem];apply gw<;>intro a
 ·obtain⟨c,hc⟩:=aC (l:=l) (i:=i) (by omega);simp[go_sem,hc];refine ck (G5 c (hs c (List.mem_of_getElem? hc))) ?_;simp[go_sem];apply gw<;>intro b
  ·simp at b;have hn:=vH hc h2 (by simp[b]);simp[go_sem,hn]
  ·simp at b;simp[go_sem];refine ai ?_;refine nx (i+1) ⟨(by omega),(eF hc h2 (by simp[b]))⟩
 ·simp at a;have hf:=jU h2 a;have hx:=kV hf;simp[go_sem,hx]
theorem aoC (l:List Rec)(hl:l.length<=1048576)(hs:∀r∈l,vV r):Fk 220 [iL l,.one (.func (.func 221) #[] #[])] (.val (dB (l.any fun r=> !aJ r))):=by
 refine fE good [] func220 ntmps220 fun _ _=> ?_;have hq:decide (0<=ix (fun r=> !aJ r) l)=l.any fun r=> !aJ r:=by rw[Bool.eq_iff_iff,decide_eq_true_eq];exact dK
 simp[go_sem];refine ck (alA l hl hs) ?_;simp[go_sem,hq]
theorem LV (l:List Rec)(hl:l.length<=1048576)(hs:∀r∈l,vV r):Fk 148 [iL l] (.val (dB (l.all aJ))):=by
 refine fE good [] func148 ntmps148 fun _ _=> ?_;simp[go_sem];refine ck (aoC l hl hs) ?_;have hn:=aeK aJ l;simp[go_sem,hn]
theorem IU (s:Sto)(hs:s.recs.length<=1048576)(hr:∀r∈s.recs,vV r)(hv:s.vers.length<=1048576):Fk 22 [MM s] (.val (dB (dA s))):=by
 refine fE good [] func22 ntmps22 fun _ _=> ?_;simp[go_sem];refine wl good (fun(i:Nat)=>[(1,.own (.bx true (MM s))),(6,.val (iL s.recs)),(7,.val (dI s.recs.length)),(8,.val (dI i))]) (fun(i:Nat)=>(s.recs).length-i) (fun(i:Nat)=>(i<=(s.recs).length)/\((s.recs.take i).all aJ=true)/\(adj (fun a b=>decide (eH a<eH b)) (s.recs.take i)=true)) (0) ⟨(by omega),rfl,rfl⟩ ?_;rintro i ⟨h1,h2,h3⟩;simp[go_sem];apply gw<;>intro a
 ·obtain⟨c,hc⟩:=aC (l:=s.recs) (i:=i) (by omega);simp[go_sem,hc];refine wdr good ?_;simp[go_sem];refine cd (sQ c (hr c (List.mem_of_getElem? hc))) ?_;simp[go_sem];apply gv<;>intro e
  ·have e':=e;simp at e';have hn:=bI hc (P:=aJ) (by simpa using e);simp[go_sem,e];grind[dA]
  ·have e':=e;simp at e';simp[go_sem,e];apply gv<;>intro f
   ·have f':=f;obtain⟨p,hp⟩:=aC (l:=s.recs) (i:=i-1) (by omega);have hi1:i-1+1=i:=by omega
    have hvp:aJ p=true:=List.all_eq_true.1 h2 p (by apply List.mem_of_getElem? (i:=i-1);rw[List.getElem?_take,if_pos (by omega)];exact hp);have hk1:inR p.source 0 3=true/\inR p.key 1 99=true:=by simp only[aJ,Bool.and_eq_true]at hvp;exact⟨hvp.1.1.1.2,hvp.1.1.2⟩
    have hk2:inR c.source 0 3=true/\inR c.key 1 99=true:=by simp only[aJ,Bool.and_eq_true]at e';exact⟨e'.1.1.1.2,e'.1.1.2⟩
    simp[go_sem,f,hp];iterate 2 refine ai ?_
    refine cd (uD p (adB hvp).1 (adB hvp).2) ?_;simp[go_sem];refine cd (uD c (adB e').1 (adB e').2) ?_;simp[go_sem];apply gw<;>intro b
    ·have hn:=zW hp (by rw[hi1];exact hc) (R:=fun a b=>decide (eH a<eH b)) (by simp;omega);simp[go_sem];grind[dA]
    ·simp at b;simp[go_sem];refine ai ?_;refine nx (i+1) ⟨(by omega),(aL hc h2 (by simpa using e)),(by have:=pQ (i:=i-1) (by rw[hi1];exact h3) hp (by rw[hi1];exact hc) (by simp;omega);rwa [hi1]at this)⟩
   ·have f':=f;simp at f';simp[go_sem,f];refine ai ?_;refine nx (i+1) ⟨(by omega),(aL hc h2 (by simpa using e)),(by obtain rfl:i=0:=(by omega);exact mU)⟩
 ·simp at a;have hf:=cO h2 a;rw[aK a]at h3;simp[go_sem];refine ck (aH _ _ _) ?_;simp[go_sem];apply gv<;>intro g1
  ·have g1':=g1;simp at g1';simp[go_sem,g1];apply gv<;>intro g2
   ·have g2':=g2;simp[go_sem,g2];refine ck (vX _) ?_;simp[go_sem];grind[dA]
   ·have g2':=g2;simp at g2';simp[go_sem,g2];grind[dA]
  ·have g1':=g1;simp at g1';simp[go_sem,g1];grind[dA]
end Go.Proofs.YtemiopbofamgcaaGreatDoor
end
section
namespace Go.Proofs.YtemiopbofamgcaaGreatDoor
open Go.Dv Go.Pl Go.Proofs.Tryz
variable {o:L2}{k:Nat}
theorem WL (h:k<o.length):o[k]?=some (gat o k):=by
 obtain⟨r,hr⟩:=aC h;rw[sJ hr];exact hr
variable {l:L1}{i:Nat}
theorem al4 (h:Z8 l i o)(k:Nat):(gat o k).length<=i:=by
 by_cases hk:k<o.length
 ·rw[h.row k hk,List.length_map];exact Nat.le_trans (List.length_filter_le _ _) (by simp)
 ·simp[gat,hk]
theorem aa3 (h:Z8 l i o)(k:Nat):(gat (blkIn l i o) k).length<=i:=by
 unfold blkIn;split
 ·by_cases hk:k<o.length
  ·have:gat (o++[[]]) k=gat o k:=by simp[gat,List.getElem?_append,hk]
   rw[this];exact al4 h k
  ·have:gat (o++[[]]) k=[]:=by
    by_cases h2:k=o.length
    ·subst h2;simp[gat]
    ·have:(o++[[]]).length<=k:=by simp;omega
     simp[gat,List.getElem?_eq_none this]
   rw[this];simp
 ·exact al4 h k
theorem qR (l:L1)(hs:l.length<=1048576)(hp:l.length=0\/bM l=true):Fk 47 [nInts l] (.own (gN (blocksP l))):=by
 refine fE good [200001] func47 ntmps47 fun _ _=> ?_;have hrg:RG l:=by rcases hp with h|h;(intro k hk;omega);exact(isPart_iff.1 h).1
 have hl8:l.length<=8:=by rcases hp with h|h;omega;exact(isPart_len h).2
 simp[go_sem];refine wl good (fun((i,o):(Nat)×(L2))=>[(0,.val (nInts l)),(3,.own (gN o)),(4,.val (dI i))]) (fun(i,o)=>l.length-i) (fun(i,o)=>(i<=l.length)/\(o=loopN i [] (iV l))) ((0,[])) ⟨(by omega),rfl⟩ ?_;rintro⟨i,o⟩ ⟨h1,h2⟩;simp[go_sem];apply gv<;>intro a
 ·have a':=a;simp[go_sem,a];refine ck (fI l) ?_;have hpp:bM l=true:=hp.resolve_left (by omega);have hI:=blocksI hrg h1;rw[←h2]at hI;have hst:=(hI.step hrg a).1;have hle:=hI.le hrg a;have hol:=hI.len;have hlen:=aa3 hI (at1 l i).toNat;have hs:=aA i [] (iV l);rw[←h2]at hs;have hg:=aD a;simp[go_sem,hpp];refine GY good (fun(_:Unit)=>[(0,.val (nInts l)),(3,.own (gN (blkIn l i o))),(4,.val (dI i))]) (fun(_:Unit)=>True) ?_ ?_
  ·simp[go_sem,hg];apply gw<;>intro b
   ·have hb:blkIn l i o=o++[[]]:=if_pos b;simp[go_sem];refine ai ?_;refine jn (()) trivial (h3:=by simp[go_sem,hpp,hg,hb])
   ·have hb:blkIn l i o=o:=if_neg b;simp[go_sem];refine jn (()) trivial (h3:=by simp[go_sem,hpp,hg,hb])
  rintro⟨⟩ -
  have hbs:iV l i o=(blkIn l i o).set (at1 l i).toNat (gat (blkIn l i o) (at1 l i).toNat++[(i:Int)]):=rfl;have hr:=WL hst;have hr2:(blkIn l i o)[(at1 l i).toNat]=gat (blkIn l i o) (at1 l i).toNat:=by rw[List.getElem?_eq_getElem hst]at hr;exact Option.some.inj hr
  generalize blkIn l i o=q at hst hbs hr hr2 hlen|-
  have hset:(q.map aF).set (at1 l i).toNat (D.sl (some 3) ((gat q (at1 l i).toNat).map dI++[D.one (.int .i64 (i:Int))]))=(iV l i o).map aF:=by rw[hbs,List.map_set];simp[aF,dI]
  simp[go_sem];refine wdh good [0] [(13,[39,40]),(14,[38,40,41,3,27,32,37]),(16,[42,41,3,27,32,37,38])] [(0,.val (nInts l)),(3,.own (gN q)),(4,.val (dI i)),(27,.al 3 [])] [] ?_;simp[go_sem,hg,hst,hr2,hset];iterate 4 refine ai ?_
  refine nx (i+1,iV l i o) ⟨(by omega),(hs.symm)⟩
 ·have a':=a;simp at a';obtain rfl:i=l.length:=by omega
  have hbl:blocksP l=o:=h2.symm;simp[go_sem,a,hbl]
variable {n:Nat}{items:L1}
theorem ahZ (h:FL n items)(hi:i<items.length):0<=at1 items i/\at1 items i<n:=h.1 _ (List.mem_of_getElem? (aD hi))
theorem auL (h:FL n items)(hi:i<k)(hk:k<items.length):at1 items i<at1 items k:=by
 have h1:=aD (l:=items) (i:=i) (by omega);have h2:=aD hk;have:=List.pairwise_iff_getElem.1 h.2 i k (by omega) hk hi;rw[List.getElem?_eq_getElem (by omega)]at h1 h2;rw[Option.some.inj h1,Option.some.inj h2]at this;exact this
def WU (m:L2)(items:L1)(x:Int):L1:=items.map fun y=>at2 m x.toNat y.toNat
def wO (m:L2)(items:L1)(x:Int)(k:Nat):L1:=(items.take k).map fun y=>at2 m x.toNat y.toNat
theorem acU (m:L2)(items:L1)(x:Int):wO m items x 0=[]:=rfl
variable {m:L2}
theorem ad7 {x:Int}(h:k<items.length):wO m items x (k+1)=wO m items x k++[at2 m x.toNat (at1 items k).toNat]:=pU _ (aD h)
theorem afE (m:L2)(items:L1)(x:Int):wO m items x items.length=WU m items x:=by simp[wO,WU]
def sD (m:L2)(items:L1)(i:Nat):L2:=(items.take i).map (WU m items)
theorem ad4 (m:L2)(items:L1):sD m items 0=[]:=rfl
theorem ac1 (h:i<items.length):sD m items (i+1)=sD m items i++[WU m items (at1 items i)]:=pU _ (aD h)
theorem ahP (m:L2)(items:L1):sD m items items.length=dZ m items:=by simp[sD,dZ,WU]
theorem aiD (m:L2)(items:L1)(i:Nat):(sD m items i).length<=items.length:=by simp[sD];omega
theorem aiL (m:L2)(items:L1)(x:Int)(i:Nat):(wO m items x i).length<=items.length:=by simp[wO];omega
theorem PR (m:L2)(items:L1)(hm:aI m=true)(hi:FL m.length items)(hl:items.length<=8):Fk 105 [aM m,nInts items] (.own (gN (dZ m items))):=by
 refine fE good [200001] func105 ntmps105 fun _ _=> ?_;have hml:=aP hm;have hz:=ad4 m items;have hz2:=acU m items;have hall:=ahP m items;have hall2:=afE m items;simp[go_sem];refine ck (aY m) ?_;simp[go_sem,hm];refine wl good (fun(i:Nat)=>[(0,.val (aM m)),(1,.val (nInts items)),(5,.own (gN (sD m items i))),(6,.val (dI i))]) (fun(i:Nat)=>items.length-i) (fun(i:Nat)=>(i<=items.length)) (0) (by omega) ?_ (h0:=by simp[go_sem,hm,hz,hz2]);rintro i h1;simp[go_sem];apply gw<;>intro a
 ·have hx:=ahZ hi a;have hg:=aD a;have hms:=ac1 (m:=m) a;have hml2:=aiD m items i;obtain⟨r,hr,hrl⟩:=uA hm (a:=(at1 items i).toNat) (by omega);simp[go_sem];refine GY good (fun(_:Unit)=>[(0,.val (aM m)),(1,.val (nInts items)),(5,.own (gN (sD m items i))),(6,.val (dI i))]) (fun(_:Unit)=>True) ?_ ?_
  ·have hx1:=hx.1;have hx2:at1 items i<=(m.length:Int)-1:=by omega
   simp[go_sem];refine wdr good ?_;simp[go_sem,hg];refine ai ?_;refine cd (aG (at1 items i) _ _) ?_;simp[go_sem,hx1,hx2];apply gv<;>intro e
   ·have e':=e;have hlt:=auL hi (i:=i-1) (k:=i) (by omega) a;have hlt2:¬at1 items i<=at1 items (i-1):=by omega
    have hg1:=aD (l:=items) (i:=i-1) (by omega);have hi1:((i:Int)-1).toNat=i-1:=by omega
    simp[go_sem,hg,e,hg1,hlt2];iterate 2 refine ai ?_
    refine jn (()) trivial
   ·have e':=e;simp at e';simp[go_sem,e];refine jn (()) trivial
  rintro⟨⟩ -
  simp[go_sem];refine wl good (fun(k:Nat)=>[(0,.val (aM m)),(1,.val (nInts items)),(5,.own (gN (sD m items i))),(6,.val (dI i)),(7,.own (aF (wO m items (at1 items i) k))),(8,.val (dI k))]) (fun(k:Nat)=>items.length-k) (fun(k:Nat)=>(k<=items.length)) (0) (by omega) ?_ (h0:=by simp[go_sem,hz,hz2]);rintro k h2;simp[go_sem];apply gw<;>intro b
  ·have hy:=ahZ hi b;have hk:=aD b;have hks:=ad7 (m:=m) (x:=at1 items i) b;have hkl2:=aiL m items (at1 items i) k;have hy1:=hy.1;have hy2:at1 items k<=(m.length:Int)-1:=by omega
   obtain⟨q,hq,hqk⟩:=eP hm (i:=(at1 items i).toNat) (k:=(at1 items k).toNat) (by omega) (by omega);simp[go_sem,hk];refine ai ?_;refine ck (aG (at1 items k) _ _) ?_;simp[go_sem,hy1,hy2];refine wdf good [(14,[76,77]),(15,[63,77,78,7]),(16,[78,7])] [(0,.val (aM m)),(1,.val (nInts items)),(5,.own (gN (sD m items i))),(6,.val (dI i)),(7,.own (aF (wO m items (at1 items i) k))),(8,.val (dI k))] [] (by simp[go_sem]) ?_;simp[go_sem,hg,hk,hy1,hq,hqk];iterate 3 refine ai ?_
   refine nx (k+1) (by first|omega|(simp;omega)|grind) (h3:=by simp[go_sem,hz,hz2,hks,hks,hg,hk,hy1,hy2,hq,hqk])
  ·simp at b;obtain rfl:k=items.length:=by omega
   simp[go_sem,hall2];iterate 2 refine ai ?_
   refine nx (i+1) (by first|omega|(simp;omega)|grind) (h3:=by simp[go_sem,hz,hz2,hms,hall2])
 ·simp at a;obtain rfl:i=items.length:=by omega
  simp[go_sem,hall]
variable {α:Type}
theorem last_at (l:List α)(a:α)(h:l.length=k):(l++[a])[k]?=some a:=by subst h;simp
theorem ahS (l:List α)(a b:α)(h:l.length=k):(l++[a]).set k b=l++[b]:=by subst h;simp
theorem FM (l:L1)(hs:l.length<=1048576)(hp:l.length=0\/bM l=true):Fk 70 [nInts l] (.own (gN (blocksP l))):=by
 refine fE good [] func70 ntmps70 fun _ _=> ?_;have hrg:RG l:=by rcases hp with h|h;(intro k hk;omega);exact(isPart_iff.1 h).1
 have hl8:l.length<=8:=by rcases hp with h|h;omega;exact(isPart_len h).2
 simp[go_sem];refine wl good (fun((i,o):(Nat)×(L2))=>[(3,.own (gN o)),(6,.val (nInts l)),(7,.val (dI l.length)),(8,.val (dI i))]) (fun(i,o)=>l.length-i) (fun(i,o)=>(i<=l.length)/\(o=loopN i [] (iV l))) ((0,[])) ⟨(by omega),rfl⟩ ?_;rintro⟨i,o⟩ ⟨h1,h2⟩;simp[go_sem];apply gw<;>intro a
 ·have hI:=blocksI hrg h1;rw[←h2]at hI;have hst:=(hI.step hrg a).1;have hle:=hI.le hrg a;have hol:=hI.len;have hlen:=aa3 hI (at1 l i).toNat;have hs:=aA i [] (iV l);rw[←h2]at hs;have hg:=aD a;have hbs:iV l i o=(blkIn l i o).set (at1 l i).toNat (gat (blkIn l i o) (at1 l i).toNat++[(i:Int)]):=rfl;simp[go_sem,hg];apply gw<;>intro b
  ·have hb:blkIn l i o=o++[[]]:=if_pos b;rw[hb]at hbs;have hbn:(at1 l i).toNat=o.length:=by omega
   have hq:=last_at (o.map aF) (D.sl none []) (k:=o.length) (by simp);have hq2:=ahS (o.map aF) (D.sl none []) (D.any 1) (k:=o.length) (by simp);have hq3:=last_at (o.map aF) (D.any 1) (k:=o.length) (by simp);have hq4:=ahS (o.map aF) (D.any 1) (D.sl (some 3) [D.one (.int .i64 (i:Int))]) (k:=o.length) (by simp);have hgl:gat (o++[[]]) o.length=[]:=by simp[gat]
   have hnew:iV l i o=o++[[(i:Int)]]:=by rw[hbs,hbn,hgl];simp
   simp[go_sem,b];iterate 2 refine ai ?_
   refine nx (i+1,iV l i o) ⟨(by omega),(hs.symm)⟩ (h3:=by simp[go_sem,hg,b,hq,hq2,hq3,hq4,hnew])
  ·have hb:blkIn l i o=o:=if_neg b;rw[hb]at hbs hst hlen;have hr:=WL hst;have hr2:o[(at1 l i).toNat]=gat o (at1 l i).toNat:=by rw[List.getElem?_eq_getElem hst]at hr;exact Option.some.inj hr
   have hset:(o.map aF).set (at1 l i).toNat (D.sl (some 3) ((gat o (at1 l i).toNat).map dI++[D.one (.int .i64 (i:Int))]))=(iV l i o).map aF:=by rw[hbs,List.map_set];simp[aF,dI]
   have ha0:=hle.1;simp[go_sem,hst,hr2,ha0,hset];iterate 2 refine ai ?_
   refine nx (i+1,iV l i o) ⟨(by omega),(hs.symm)⟩
 ·simp at a;obtain rfl:i=l.length:=by omega
  have hbl:blocksP l=o:=h2.symm;simp[go_sem,hbl]
end Go.Proofs.YtemiopbofamgcaaGreatDoor
end
